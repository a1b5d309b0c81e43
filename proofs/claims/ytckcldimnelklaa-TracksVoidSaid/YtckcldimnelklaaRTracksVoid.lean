/- TracksVoid holds: a lane that is not there, or that no call made, says nothing, and holds nothing; for every input. -/
import Derived.Test.YtckcldimnelklaaHd
import Derived.Test.YtckcldimnelklaaW14ya
import Derived.Test.YtckcldimnelklaaQ14x
import Derived.Test.YtckcldimnelklaaRE
import Derived.WalkKit
import Derived.ProofKit
import Derived.OpenShut
import Derived.SizedLaws
namespace Go.Proofs.Ytckcldimnelklaa.tracksVoid
open Go Go.ChangeShapes Go.WideShapes Go.ChangeAt Go.RowKit
set_option linter.unusedVariables false

theorem own : ownKnob Try.prog.godebug = none := by kernel_rfl

theorem row : ∀ t ∈ Try.f18.params.toList, (Try.prog.readableRec t && decide (t < Try.prog.types.size)) = true := by
  rw [Try.params18]
  intro t ht
  simp only [List.mem_cons, List.not_mem_nil, or_false] at ht
  rcases ht with rfl <;> kernel_rfl

set_option maxRecDepth 100000 in
theorem lifted (os : Os) (started : os.Started) (H : Type) (enc : TypeId × Value → H) :
    ReturnsInHanded {} Try.checked os 18 .any (Rows.tracksVoidSpec.pre6 enc Try.prog Try.f18 Rows.tracksVoidRow.domain false) (Rows.tracksVoidSpec.post enc Try.prog Try.f18 false true false false) := by
  refine returnsInHanded_of_change_sized (C := Try.checked) own started (by kernel_rfl) Try.func18
    (ChangeSpec.witness6 (enc := enc) (C := Try.checked) false ⟨#[], #[Value.agg (List.toArray ([Value.slice none 0 0, Value.slice none 0 0, Value.slice none 0 0, Value.slice none 0 0] ++ ((encR Rw.none (Value.slice none 0 0)) ++ ((Value.int .u8 0) :: []))))], []⟩ 8 (by kernel_rfl) (by kernel_rfl) (by kernel_rfl) (by kernel_rfl)) ?_
  intro W base args ds gs before hval0 hW hcnd hsz0 _
  have hval : ∀ (j : Nat) t v, Try.f18.params[j]? = some t → args[j]? = some v → Value.okWide Try.prog W .any base t v := hval0
  have hW' := hW
  obtain ⟨p, q, hA0, hV, rfl, hfz, hnd⟩ := hW
  have hA : DataW.TrodAll enc Try.prog W 0 (fun _ => true) true Try.f18.params.toList args.toList ds p := hA0
  have hAk := hA
  rw [Try.params18] at hA hval
  obtain ⟨v0, vs0, d0, ds0, p0, q0, hargs, rfl, rfl, h0, r0⟩ := trodAll_cons hA
  obtain ⟨rfl, rfl, rfl⟩ := trodAll_nil r0
  obtain rfl : args = #[v0] := by cases args; simp_all
  obtain ⟨rfl, rfl⟩ := trodVars_none hV
  have hz0 : ∀ n ∈ d0.weights Try.prog 160, n ≤ reachBytes := fun n hn => by simpa using List.all_eq_true.1 hsz0 n (DataW.weights_mem_each (j := 0) (t := 160) (d := d0) rfl rfl n hn)
  obtain ⟨cs0, rfl, -⟩ := okWide_struct (fs := (match Try.prog.underlying 160 with | some (.struct fs) => fs | _ => #[])) (by kernel_rfl) (hval 0 160 v0 rfl rfl)
  obtain ⟨x0, ds_0, hv0, hrd0⟩ := open_agg (reads_struct (fs := [(158, 0), (62, 4), (5, 61)]) (by kernel_rfl) (by simp) ce160 (fs_cons (reads_struct (fs := [(25, 0), (25, 1), (25, 2), (25, 3)]) (by kernel_rfl) (by simp) ce158 (fs_cons (reads_struct (fs := [(22, 0)]) (by kernel_rfl) (by simp) ce25 (fs_one (reads_slice un22 ce62 (by decide) reads_T62) ce22)) ce25 (by decide) (fs_cons (reads_struct (fs := [(22, 0)]) (by kernel_rfl) (by simp) ce25 (fs_one (reads_slice un22 ce62 (by decide) reads_T62) ce22)) ce25 (by decide) (fs_cons (reads_struct (fs := [(22, 0)]) (by kernel_rfl) (by simp) ce25 (fs_one (reads_slice un22 ce62 (by decide) reads_T62) ce22)) ce25 (by decide) (fs_one (reads_struct (fs := [(22, 0)]) (by kernel_rfl) (by simp) ce25 (fs_one (reads_slice un22 ce62 (by decide) reads_T62) ce22)) ce25))))) ce158 (by decide) (fs_cons reads_T62 ce62 (by decide) (fs_one (reads_int un5) ce5)))) ⟨_, rfl⟩ h0 hz0
  have hy0 := (Wf.pair (Wf.pair (Wf.sliceL Wf.rowL) (Wf.pair (Wf.sliceL Wf.rowL) (Wf.pair (Wf.sliceL Wf.rowL) (Wf.sliceL Wf.rowL)))) (Wf.pair Wf.rowL Wf.any)) _ _ _ _ hrd0
  have hb0 := (Wf.pair (Wf.pair (Wf.slice Wf.row) (Wf.pair (Wf.slice Wf.row) (Wf.pair (Wf.slice Wf.row) (Wf.slice Wf.row)))) (Wf.pair Wf.row Wf.int)) _ _ _ _ hrd0
  have hw0 := (Wk.pair (Wk.pair (Wk.slice Wk.row) (Wk.pair (Wk.slice Wk.row) (Wk.pair (Wk.slice Wk.row) (Wk.slice Wk.row)))) (Wk.pair Wk.row Wk.int)).2 _ _ _ _ hrd0
  cases hv0
  obtain ⟨cA0_0hw0, cB0_0hw0, rfl, hA0_0hw0, hB0_0hw0⟩ := hw0
  obtain ⟨cA0_1hw0, cB0_1hw0, rfl, hA0_1hw0, hB0_1hw0⟩ := hB0_0hw0
  obtain ⟨cA0_0hA0_0hw0, cB0_0hA0_0hw0, rfl, hA0_0hA0_0hw0, hB0_0hA0_0hw0⟩ := hA0_0hw0
  obtain ⟨cA0_1hA0_0hw0, cB0_1hA0_0hw0, rfl, hA0_1hA0_0hw0, hB0_1hA0_0hw0⟩ := hB0_0hA0_0hw0
  obtain ⟨cA0_2hA0_0hw0, cB0_2hA0_0hw0, rfl, hA0_2hA0_0hw0, hB0_2hA0_0hw0⟩ := hB0_1hA0_0hw0
  obtain ⟨a0_0, c0_0, rfl, hl0_0, he0_0⟩ := hA0_0hA0_0hw0
  obtain ⟨a0_1, c0_1, rfl, hl0_1, he0_1⟩ := hA0_1hA0_0hw0
  obtain ⟨a0_2, c0_2, rfl, hl0_2, he0_2⟩ := hA0_2hA0_0hw0
  obtain ⟨a0_3, c0_3, rfl, hl0_3, he0_3⟩ := hB0_2hA0_0hw0
  obtain ⟨t0_4, rfl, a0_4, c0_4, ht0_4, hl0_4, he0_4⟩ := hA0_1hw0
  cases ht0_4
  obtain ⟨-, rfl⟩ := hB0_1hw0
  have hwk : Ret Try.prog 18 _ W (fun v w' => v = .bool true ∧ Ext W w') := Ret.mono (void14_ok W (fun _ => True) x0 _ _ he0_0 hl0_0 _ _ he0_1 hl0_1 _ _ he0_2 hl0_2 _ _ he0_3 hl0_3 _ _ he0_4 hl0_4 (void14_eq x0 (by have h := hy0; intro l hl; simp only [List.mem_cons, List.not_mem_nil, or_false] at hl; rcases hl with rfl | rfl | rfl | rfl | rfl; exact h.1.1; exact h.1.2.1; exact h.1.2.2.1; exact h.1.2.2.2; exact ⟨by simp, by intro r hr; cases List.mem_singleton.1 hr; exact h.2.1⟩))) (fun v w h => ⟨h.1, h.2.kept⟩)
  clear hA0 hval0
  simp only [List.append_nil] at hW'
  refine Calls.mono hwk fun e W' ⟨v, he, hv, hx⟩ => ?_
  subst hv
  subst he
  have hlt : ∀ x ∈ (p0 ++ []), x.block < W.heap.size := fun x hx => by simpa using hW'.lt x (by simpa using hx)
  exact ⟨_, rfl, post_below (pa := p0 ++ []) (pv := []) hW' (fun _ _ _ => (trodAll_cons_mk (shut_bool un4 _) trodAll_mk0)) (fun sp hsp => args_below Head.laid (Ext.below hx) sp (List.all_eq_true.2 row) hAk hlt (fun x hx' => hsp x (by simpa using hx'))) (fun _ _ => rfl) (by simp)
    (Ext.below hx) (ok_one (by kernel_rfl) rfl (okWide_bool_mk un4 _))⟩

theorem closed : joinedFacts Try.prog 18 Try.f18 Rows.tracksVoidSpec Rows.tracksVoidRow = true := by
  simp only [joinedFacts, Bool.and_eq_true]
  exact ⟨⟨⟨⟨⟨⟨⟨⟨⟨⟨⟨⟨⟨⟨⟨⟨⟨⟨⟨⟨⟨⟨⟨⟨⟨⟨⟨⟨⟨⟨⟨(by kernel_rfl), Head.laid⟩, Head.mapsR⟩, (by kernel_rfl)⟩, (by kernel_rfl)⟩, (by kernel_rfl)⟩, Head.stops⟩, (by kernel_rfl)⟩, Head.stopKnobs⟩, (by kernel_rfl)⟩, (by kernel_rfl)⟩, (by kernel_rfl)⟩, (by kernel_rfl)⟩, (by kernel_rfl)⟩, (by kernel_rfl)⟩, (by kernel_rfl)⟩, (by kernel_rfl)⟩, (by kernel_rfl)⟩, (by kernel_rfl)⟩, (by kernel_rfl)⟩, (by kernel_rfl)⟩, (by kernel_rfl)⟩, (Head.plainK_of rfl)⟩, (by kernel_rfl)⟩, Head.heard⟩, Head.mayEnter⟩, (Head.lifted_of rfl)⟩, (Head.made_of rfl)⟩, (by kernel_rfl)⟩, (by kernel_rfl)⟩, (by kernel_rfl)⟩, (by kernel_rfl)⟩

theorem over : Rows.tracksVoidRow.holds Try.pinned (OpenSpec.ofChange Rows.tracksVoidSpec) :=
  OpenClaim.holds_of_wide 18 Try.f18 rfl rfl rfl rfl rfl rfl rfl ⟨rfl, rfl, rfl, rfl, rfl⟩ rfl rfl rfl rfl rfl (by kernel_rfl) Try.func18 closed
    (of_decide_eq_true (by kernel_rfl)) (by unfold Func.isWrapper; first | (rw [if_pos (by decide +kernel)]; kernel_rfl) | (rw [if_neg (by decide +kernel)]; exact ⟨rfl, rfl⟩))
    (fun os started H enc _ => lifted os started H enc)

theorem proved : Rows.TracksVoidSaid := over
#print axioms proved
end Go.Proofs.Ytckcldimnelklaa.tracksVoid
