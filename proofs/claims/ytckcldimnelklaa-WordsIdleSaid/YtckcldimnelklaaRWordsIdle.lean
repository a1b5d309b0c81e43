/- WordsIdle holds: the plain form of a plain form is it, has just so many rows and cells, each such as may be, and what is such already is not turned; for every input. -/
import Derived.Test.YtckcldimnelklaaHd
import Derived.Test.YtckcldimnelklaaW13aa
import Derived.Test.YtckcldimnelklaaW13c
import Derived.Test.YtckcldimnelklaaW13ba
import Derived.Test.YtckcldimnelklaaW13da
import Derived.Test.YtckcldimnelklaaQ13
import Derived.Test.YtckcldimnelklaaRE
import Derived.WalkKit
import Derived.ProofKit
import Derived.OpenShut
namespace Go.Proofs.Ytckcldimnelklaa.wordsIdle
open Go Go.ChangeShapes Go.WideShapes Go.ChangeAt Go.RowKit
set_option linter.unusedVariables false

theorem own : ownKnob Try.prog.godebug = none := by kernel_rfl

theorem row : ∀ t ∈ Try.f14.params.toList, (Try.prog.readableRec t && decide (t < Try.prog.types.size)) = true := by
  rw [Try.params14]
  intro t ht
  simp only [List.mem_cons, List.not_mem_nil, or_false] at ht
  rcases ht with rfl | rfl <;> kernel_rfl

set_option maxRecDepth 100000 in
theorem lifted (os : Os) (started : os.Started) (H : Type) (enc : TypeId × Value → H) :
    ReturnsInHanded {} Try.checked os 14 .any (Rows.wordsIdleSpec.pre6 enc Try.prog Try.f14 Rows.wordsIdleRow.domain false) (Rows.wordsIdleSpec.post enc Try.prog Try.f14 false true false false) := by
  refine returnsInHanded_of_change (C := Try.checked) own started (by kernel_rfl) Try.func14
    (ChangeSpec.witness6 (enc := enc) (C := Try.checked) false ⟨#[], #[.int .u8 0, Value.agg (List.toArray [Value.slice none 0 0])], []⟩ 8 (by kernel_rfl) (by kernel_rfl) (by kernel_rfl) (by kernel_rfl)) ?_
  intro W base args ds gs before hval0 hW hcnd _
  have hval : ∀ (j : Nat) t v, Try.f14.params[j]? = some t → args[j]? = some v → Value.okWide Try.prog W .any base t v := hval0
  have hW' := hW
  obtain ⟨p, q, hA0, hV, rfl, hfz, hnd⟩ := hW
  have hA : DataW.TrodAll enc Try.prog W 0 (fun _ => true) true Try.f14.params.toList args.toList ds p := hA0
  have hAk := hA
  rw [Try.params14] at hA hval
  obtain ⟨v0, vs0, d0, ds0, p0, q0, hargs, rfl, rfl, h0, r0⟩ := trodAll_cons hA
  obtain ⟨v1, vs1, d1, ds1, p1, q1, rfl, rfl, rfl, h1, r1⟩ := trodAll_cons r0
  obtain ⟨rfl, rfl, rfl⟩ := trodAll_nil r1
  obtain rfl : args = #[v0, v1] := by cases args; simp_all
  obtain ⟨rfl, rfl⟩ := trodVars_none hV
  obtain ⟨x0, rfl, hb0⟩ := open_int un5 (hval 0 5 v0 rfl rfl) h0
  obtain ⟨cs1, rfl, -⟩ := okWide_struct (fs := (match Try.prog.underlying 25 with | some (.struct fs) => fs | _ => #[])) (by kernel_rfl) (hval 1 25 v1 rfl rfl)
  obtain ⟨x1, ds_1, hv1, hrd1⟩ := open_agg (reads_struct (fs := [(22, 0)]) (by kernel_rfl) (by simp) ce25 (fs_one (reads_slice un22 ce62 (by decide) reads_T62) ce22)) ⟨_, rfl⟩ h1
  have hb1 := (Wf.slice Wf.row) _ _ _ _ hrd1
  have hw1 := (Wk.slice Wk.row).2 _ _ _ _ hrd1
  cases hv1
  obtain ⟨a1_0, c1_0, rfl, hl1_0, he1_0⟩ := hw1
  have hwk : Ret Try.prog 14 _ W (fun v w' => v = .bool true ∧ Ext W w') := Ret.mono (idle13_ok W (fun _ => True) x0 x1 _ _ he1_0 hl1_0 (idle13_eq _ _ (by have := hb0; exact this))) (fun v w h => ⟨h.1, h.2.kept⟩)
  clear hA0 hval0
  simp only [List.append_nil] at hW'
  refine Calls.mono hwk fun e W' ⟨v, he, hv, hx⟩ => ?_
  subst hv
  subst he
  have hlt : ∀ x ∈ (p0 ++ (p1 ++ [])), x.block < W.heap.size := fun x hx => by simpa using hW'.lt x (by simpa using hx)
  exact ⟨_, rfl, post_below (pa := p0 ++ (p1 ++ [])) (pv := []) hW' (fun _ _ _ => (trodAll_cons_mk (shut_bool un4 _) trodAll_mk0)) (fun sp hsp => args_below Head.laid (Ext.below hx) sp (List.all_eq_true.2 row) hAk hlt (fun x hx' => hsp x (by simpa using hx'))) (fun _ _ => rfl) (by simp)
    (Ext.below hx) (ok_one (by kernel_rfl) rfl (okWide_bool_mk un4 _))⟩

theorem closed : joinedFacts Try.prog 14 Try.f14 Rows.wordsIdleSpec Rows.wordsIdleRow = true := by
  simp only [joinedFacts, Bool.and_eq_true]
  exact ⟨⟨⟨⟨⟨⟨⟨⟨⟨⟨⟨⟨⟨⟨⟨⟨⟨⟨⟨⟨⟨⟨⟨⟨⟨⟨⟨⟨⟨⟨⟨(by kernel_rfl), Head.laid⟩, Head.mapsR⟩, (by kernel_rfl)⟩, (by kernel_rfl)⟩, (by kernel_rfl)⟩, Head.stops⟩, (by kernel_rfl)⟩, Head.stopKnobs⟩, (by kernel_rfl)⟩, (by kernel_rfl)⟩, (by kernel_rfl)⟩, (by kernel_rfl)⟩, (by kernel_rfl)⟩, (by kernel_rfl)⟩, (by kernel_rfl)⟩, (by kernel_rfl)⟩, (by kernel_rfl)⟩, (by kernel_rfl)⟩, (by kernel_rfl)⟩, (by kernel_rfl)⟩, (by kernel_rfl)⟩, (Head.plainK_of rfl)⟩, (by kernel_rfl)⟩, Head.heard⟩, Head.mayEnter⟩, (Head.lifted_of rfl)⟩, (Head.made_of rfl)⟩, (by kernel_rfl)⟩, (by kernel_rfl)⟩, (by kernel_rfl)⟩, (by kernel_rfl)⟩

theorem over : Rows.wordsIdleRow.holds Try.pinned (OpenSpec.ofChange Rows.wordsIdleSpec) :=
  OpenClaim.holds_of_wide 14 Try.f14 rfl rfl rfl rfl rfl rfl rfl ⟨rfl, rfl, rfl, rfl, rfl⟩ rfl rfl rfl rfl rfl (by kernel_rfl) Try.func14 closed
    (of_decide_eq_true (by kernel_rfl)) (by unfold Func.isWrapper; first | (rw [if_pos (by decide +kernel)]; kernel_rfl) | (rw [if_neg (by decide +kernel)]; exact ⟨rfl, rfl⟩))
    (fun os started H enc _ => lifted os started H enc)

theorem proved : Rows.WordsIdleSaid := over
#print axioms proved
end Go.Proofs.Ytckcldimnelklaa.wordsIdle
