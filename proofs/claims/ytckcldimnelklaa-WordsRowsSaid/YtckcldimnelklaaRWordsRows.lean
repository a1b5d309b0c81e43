/- WordsRows holds: of every two rows the plain forms, whether they are the same, and a copy are the reference answer, they stay, and nothing is shared; for every input. -/
import Derived.Test.YtckcldimnelklaaHd
import Derived.Test.YtckcldimnelklaaW13aa
import Derived.Test.YtckcldimnelklaaW13c
import Derived.Test.YtckcldimnelklaaW13ba
import Derived.Test.YtckcldimnelklaaW13e
import Derived.Test.YtckcldimnelklaaW13ta
import Derived.Test.YtckcldimnelklaaW13u
import Derived.Test.YtckcldimnelklaaW13o
import Derived.Test.YtckcldimnelklaaW13ra
import Derived.Test.YtckcldimnelklaaW13rb
import Derived.Test.YtckcldimnelklaaQ13r
import Derived.Test.YtckcldimnelklaaRE
import Derived.WalkKit
import Derived.ProofKit
import Derived.OpenShut
namespace Go.Proofs.Ytckcldimnelklaa.wordsRows
open Go Go.ChangeShapes Go.WideShapes Go.ChangeAt Go.RowKit
set_option linter.unusedVariables false

theorem own : ownKnob Try.prog.godebug = none := by kernel_rfl

theorem row : ∀ t ∈ Try.f15.params.toList, (Try.prog.readableRec t && decide (t < Try.prog.types.size)) = true := by
  rw [Try.params15]
  intro t ht
  simp only [List.mem_cons, List.not_mem_nil, or_false] at ht
  rcases ht with rfl | rfl | rfl <;> kernel_rfl

set_option maxRecDepth 100000 in
theorem lifted (os : Os) (started : os.Started) (H : Type) (enc : TypeId × Value → H) :
    ReturnsInHanded {} Try.checked os 15 .any (Rows.wordsRowsSpec.pre6 enc Try.prog Try.f15 Rows.wordsRowsRow.domain false) (Rows.wordsRowsSpec.post enc Try.prog Try.f15 false true false false) := by
  refine returnsInHanded_of_change (C := Try.checked) own started (by kernel_rfl) Try.func15
    (ChangeSpec.witness6 (enc := enc) (C := Try.checked) false ⟨#[], #[.int .i64 0, Value.agg (List.toArray (encR Rw.none (Value.slice none 0 0))), Value.agg (List.toArray (encR Rw.none (Value.slice none 0 0)))], []⟩ 8 (by kernel_rfl) (by kernel_rfl) (by kernel_rfl) (by kernel_rfl)) ?_
  intro W base args ds gs before hval0 hW hcnd _
  have hval : ∀ (j : Nat) t v, Try.f15.params[j]? = some t → args[j]? = some v → Value.okWide Try.prog W .any base t v := hval0
  have hW' := hW
  obtain ⟨p, q, hA0, hV, rfl, hfz, hnd⟩ := hW
  have hA : DataW.TrodAll enc Try.prog W 0 (fun _ => true) true Try.f15.params.toList args.toList ds p := hA0
  have hAk := hA
  rw [Try.params15] at hA hval
  obtain ⟨v0, vs0, d0, ds0, p0, q0, hargs, rfl, rfl, h0, r0⟩ := trodAll_cons hA
  obtain ⟨v1, vs1, d1, ds1, p1, q1, rfl, rfl, rfl, h1, r1⟩ := trodAll_cons r0
  obtain ⟨v2, vs2, d2, ds2, p2, q2, rfl, rfl, rfl, h2, r2⟩ := trodAll_cons r1
  obtain ⟨rfl, rfl, rfl⟩ := trodAll_nil r2
  obtain rfl : args = #[v0, v1, v2] := by cases args; simp_all
  obtain ⟨rfl, rfl⟩ := trodVars_none hV
  obtain ⟨x0, rfl, hb0⟩ := open_int un3 (hval 0 3 v0 rfl rfl) h0
  obtain ⟨cs1, rfl, -⟩ := okWide_struct (fs := (match Try.prog.underlying 62 with | some (.struct fs) => fs | _ => #[])) (by kernel_rfl) (hval 1 62 v1 rfl rfl)
  obtain ⟨x1, ds_1, hv1, hrd1⟩ := open_agg reads_T62 ⟨_, rfl⟩ h1
  have hb1 := Wf.row _ _ _ _ hrd1
  have hw1 := Wk.row.2 _ _ _ _ hrd1
  cases hv1
  obtain ⟨t1_0, rfl, a1_0, c1_0, ht1_0, hl1_0, he1_0⟩ := hw1
  cases ht1_0
  obtain ⟨cs2, rfl, -⟩ := okWide_struct (fs := (match Try.prog.underlying 62 with | some (.struct fs) => fs | _ => #[])) (by kernel_rfl) (hval 2 62 v2 rfl rfl)
  obtain ⟨x2, ds_2, hv2, hrd2⟩ := open_agg reads_T62 ⟨_, rfl⟩ h2
  have hb2 := Wf.row _ _ _ _ hrd2
  have hw2 := Wk.row.2 _ _ _ _ hrd2
  cases hv2
  obtain ⟨t2_0, rfl, a2_0, c2_0, ht2_0, hl2_0, he2_0⟩ := hw2
  cases ht2_0
  have hwk : Ret Try.prog 15 _ W (fun v w' => v = .bool true ∧ Ext W w') := Ret.mono (rows13_ok W (fun _ => True) x0 x1 x2 _ _ he1_0 hl1_0 _ _ he2_0 hl2_0 (rows13_eq _ _ _)) (fun v w h => ⟨h.1, h.2.kept⟩)
  clear hA0 hval0
  simp only [List.append_nil] at hW'
  refine Calls.mono hwk fun e W' ⟨v, he, hv, hx⟩ => ?_
  subst hv
  subst he
  have hlt : ∀ x ∈ (p0 ++ (p1 ++ (p2 ++ []))), x.block < W.heap.size := fun x hx => by simpa using hW'.lt x (by simpa using hx)
  exact ⟨_, rfl, post_below (pa := p0 ++ (p1 ++ (p2 ++ []))) (pv := []) hW' (fun _ _ _ => (trodAll_cons_mk (shut_bool un4 _) trodAll_mk0)) (fun sp hsp => args_below Head.laid (Ext.below hx) sp (List.all_eq_true.2 row) hAk hlt (fun x hx' => hsp x (by simpa using hx'))) (fun _ _ => rfl) (by simp)
    (Ext.below hx) (ok_one (by kernel_rfl) rfl (okWide_bool_mk un4 _))⟩

theorem closed : joinedFacts Try.prog 15 Try.f15 Rows.wordsRowsSpec Rows.wordsRowsRow = true := by
  simp only [joinedFacts, Bool.and_eq_true]
  exact ⟨⟨⟨⟨⟨⟨⟨⟨⟨⟨⟨⟨⟨⟨⟨⟨⟨⟨⟨⟨⟨⟨⟨⟨⟨⟨⟨⟨⟨⟨⟨(by kernel_rfl), Head.laid⟩, Head.mapsR⟩, (by kernel_rfl)⟩, (by kernel_rfl)⟩, (by kernel_rfl)⟩, Head.stops⟩, (by kernel_rfl)⟩, Head.stopKnobs⟩, (by kernel_rfl)⟩, (by kernel_rfl)⟩, (by kernel_rfl)⟩, (by kernel_rfl)⟩, (by kernel_rfl)⟩, (by kernel_rfl)⟩, (by kernel_rfl)⟩, (by kernel_rfl)⟩, (by kernel_rfl)⟩, (by kernel_rfl)⟩, (by kernel_rfl)⟩, (by kernel_rfl)⟩, (by kernel_rfl)⟩, (Head.plainK_of rfl)⟩, (by kernel_rfl)⟩, Head.heard⟩, Head.mayEnter⟩, (Head.lifted_of rfl)⟩, (Head.made_of rfl)⟩, (by kernel_rfl)⟩, (by kernel_rfl)⟩, (by kernel_rfl)⟩, (by kernel_rfl)⟩

theorem over : Rows.wordsRowsRow.holds Try.pinned (OpenSpec.ofChange Rows.wordsRowsSpec) :=
  OpenClaim.holds_of_wide 15 Try.f15 rfl rfl rfl rfl rfl rfl rfl ⟨rfl, rfl, rfl, rfl, rfl⟩ rfl rfl rfl rfl rfl (by kernel_rfl) Try.func15 closed
    (of_decide_eq_true (by kernel_rfl)) (by unfold Func.isWrapper; first | (rw [if_pos (by decide +kernel)]; kernel_rfl) | (rw [if_neg (by decide +kernel)]; exact ⟨rfl, rfl⟩))
    (fun os started H enc _ => lifted os started H enc)

theorem proved : Rows.WordsRowsSaid := over
#print axioms proved
end Go.Proofs.Ytckcldimnelklaa.wordsRows
