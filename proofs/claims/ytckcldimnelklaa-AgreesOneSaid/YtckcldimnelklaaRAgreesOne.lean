/- AgreesOne holds: where all but one hold the same of each that is not it, all but it agree on one vector, that has of each that is not it what it said; for every input. -/
import Derived.Test.YtckcldimnelklaaHd
import Derived.Test.YtckcldimnelklaaW15a
import Derived.Test.YtckcldimnelklaaW15oa
import Derived.Test.YtckcldimnelklaaW15ob
import Derived.Test.YtckcldimnelklaaQ15o
import Derived.Test.YtckcldimnelklaaRE
import Derived.WalkKit
import Derived.ProofKit
import Derived.OpenShut
namespace Go.Proofs.Ytckcldimnelklaa.agreesOne
open Go Go.ChangeShapes Go.WideShapes Go.ChangeAt Go.RowKit
set_option linter.unusedVariables false

theorem own : ownKnob Try.prog.godebug = none := by kernel_rfl

theorem row : ∀ t ∈ Try.f4.params.toList, (Try.prog.readableRec t && decide (t < Try.prog.types.size)) = true := by
  rw [Try.params4]
  intro t ht
  simp only [List.mem_cons, List.not_mem_nil, or_false] at ht
  rcases ht with rfl | rfl | rfl <;> kernel_rfl

set_option maxRecDepth 100000 in
theorem lifted (os : Os) (started : os.Started) (H : Type) (enc : TypeId × Value → H) :
    ReturnsInHanded {} Try.checked os 4 .any (Rows.agreesOneSpec.pre6 enc Try.prog Try.f4 Rows.agreesOneRow.domain false) (Rows.agreesOneSpec.post enc Try.prog Try.f4 false true false false) := by
  refine returnsInHanded_of_change (C := Try.checked) own started (by kernel_rfl) Try.func4
    (ChangeSpec.witness6 (enc := enc) (C := Try.checked) false ⟨#[], #[Value.agg (List.toArray [Value.int .u8 0, Value.int .u8 0]), .slice none 0 0, Value.agg (List.toArray [Value.slice none 0 0, Value.slice none 0 0])], []⟩ 8 (by kernel_rfl) (by kernel_rfl) (by kernel_rfl) (by kernel_rfl)) ?_
  intro W base args ds gs before hval0 hW hcnd _
  have hval : ∀ (j : Nat) t v, Try.f4.params[j]? = some t → args[j]? = some v → Value.okWide Try.prog W .any base t v := hval0
  have hW' := hW
  obtain ⟨p, q, hA0, hV, rfl, hfz, hnd⟩ := hW
  have hA : DataW.TrodAll enc Try.prog W 0 (fun _ => true) true Try.f4.params.toList args.toList ds p := hA0
  have hAk := hA
  rw [Try.params4] at hA hval
  obtain ⟨v0, vs0, d0, ds0, p0, q0, hargs, rfl, rfl, h0, r0⟩ := trodAll_cons hA
  obtain ⟨v1, vs1, d1, ds1, p1, q1, rfl, rfl, rfl, h1, r1⟩ := trodAll_cons r0
  obtain ⟨v2, vs2, d2, ds2, p2, q2, rfl, rfl, rfl, h2, r2⟩ := trodAll_cons r1
  obtain ⟨rfl, rfl, rfl⟩ := trodAll_nil r2
  obtain rfl : args = #[v0, v1, v2] := by cases args; simp_all
  obtain ⟨rfl, rfl⟩ := trodVars_none hV
  obtain ⟨cs0, rfl, -⟩ := okWide_array un40 (hval 0 40 v0 rfl rfl)
  obtain ⟨x0, ds_0, hv0, hrd0⟩ := open_agg (reads_array (m := 2) (e := 5) (fs := [(5, 0), (5, 1)]) un40 (by kernel_rfl) ce40 (fs_cons (reads_int un5) ce5 (by decide) (fs_one (reads_int un5) ce5))) ⟨_, rfl⟩ h0
  have hb0 := (Wf.pair Wf.int Wf.int) _ _ _ _ hrd0
  have hw0 := (Wk.pair Wk.int Wk.int).2 _ _ _ _ hrd0
  cases hv0
  obtain ⟨cA0_0hw0, cB0_0hw0, rfl, hA0_0hw0, hB0_0hw0⟩ := hw0
  obtain ⟨-, rfl⟩ := hA0_0hw0
  obtain ⟨-, rfl⟩ := hB0_0hw0
  obtain ⟨a1, x1, c1, rfl, hcp1, hl1, hel1⟩ := open_slice (reads_slice un41 ce58 (by decide) reads_T58) (okWide_slice un41 (hval 1 41 v1 rfl rfl)) h1
  have hb1 := Wf.elems Wf.cell hel1
  obtain ⟨cs2, rfl, -⟩ := okWide_struct (fs := (match Try.prog.underlying 43 with | some (.struct fs) => fs | _ => #[])) (by kernel_rfl) (hval 2 43 v2 rfl rfl)
  obtain ⟨x2, ds_2, hv2, hrd2⟩ := open_agg (reads_struct (fs := [(22, 0), (28, 1)]) (by kernel_rfl) (by simp) ce43 (fs_cons (reads_slice un22 ce62 (by decide) reads_T62) ce22 (by decide) (fs_one (reads_slice un28 ce60 (by decide) reads_T60) ce28))) ⟨_, rfl⟩ h2
  have hb2 := (Wf.pair (Wf.slice Wf.row) (Wf.slice Wf.held)) _ _ _ _ hrd2
  have hw2 := (Wk.pair (Wk.slice Wk.row) (Wk.slice Wk.held)).2 _ _ _ _ hrd2
  cases hv2
  obtain ⟨cA2_0hw2, cB2_0hw2, rfl, hA2_0hw2, hB2_0hw2⟩ := hw2
  obtain ⟨a2_0, c2_0, rfl, hl2_0, he2_0⟩ := hA2_0hw2
  obtain ⟨a2_1, c2_1, rfl, hl2_1, he2_1⟩ := hB2_0hw2
  have hwk : Ret Try.prog 4 _ W (fun v w' => v = .bool true ∧ Ext W w') := Ret.mono (one15_ok W (fun _ => True) x0 x1 x2 _ _ (Wk.elems Wk.cell hel1) hcp1 _ _ he2_0 hl2_0 _ _ he2_1 hl2_1 (one15_eq _ _ _ (by have h := hb0; exact ⟨h.1.1, h.1.2, h.2.1, h.2.2⟩))) (fun v w h => ⟨h.1, h.2.kept⟩)
  clear hA0 hval0
  simp only [List.append_nil] at hW'
  refine Calls.mono hwk fun e W' ⟨v, he, hv, hx⟩ => ?_
  subst hv
  subst he
  have hlt : ∀ x ∈ (p0 ++ (p1 ++ (p2 ++ []))), x.block < W.heap.size := fun x hx => by simpa using hW'.lt x (by simpa using hx)
  exact ⟨_, rfl, post_below (pa := p0 ++ (p1 ++ (p2 ++ []))) (pv := []) hW' (fun _ _ _ => (trodAll_cons_mk (shut_bool un4 _) trodAll_mk0)) (fun sp hsp => args_below Head.laid (Ext.below hx) sp (List.all_eq_true.2 row) hAk hlt (fun x hx' => hsp x (by simpa using hx'))) (fun _ _ => rfl) (by simp)
    (Ext.below hx) (ok_one (by kernel_rfl) rfl (okWide_bool_mk un4 _))⟩

theorem closed : joinedFacts Try.prog 4 Try.f4 Rows.agreesOneSpec Rows.agreesOneRow = true := by
  simp only [joinedFacts, Bool.and_eq_true]
  exact ⟨⟨⟨⟨⟨⟨⟨⟨⟨⟨⟨⟨⟨⟨⟨⟨⟨⟨⟨⟨⟨⟨⟨⟨⟨⟨⟨⟨⟨⟨⟨(by kernel_rfl), Head.laid⟩, Head.mapsR⟩, (by kernel_rfl)⟩, (by kernel_rfl)⟩, (by kernel_rfl)⟩, Head.stops⟩, (by kernel_rfl)⟩, Head.stopKnobs⟩, (by kernel_rfl)⟩, (by kernel_rfl)⟩, (by kernel_rfl)⟩, (by kernel_rfl)⟩, (by kernel_rfl)⟩, (by kernel_rfl)⟩, (by kernel_rfl)⟩, (by kernel_rfl)⟩, (by kernel_rfl)⟩, (by kernel_rfl)⟩, (by kernel_rfl)⟩, (by kernel_rfl)⟩, (by kernel_rfl)⟩, (Head.plainK_of rfl)⟩, (by kernel_rfl)⟩, Head.heard⟩, Head.mayEnter⟩, (Head.lifted_of rfl)⟩, (Head.made_of rfl)⟩, (by kernel_rfl)⟩, (by kernel_rfl)⟩, (by kernel_rfl)⟩, (by kernel_rfl)⟩

theorem over : Rows.agreesOneRow.holds Try.pinned (OpenSpec.ofChange Rows.agreesOneSpec) :=
  OpenClaim.holds_of_wide 4 Try.f4 rfl rfl rfl rfl rfl rfl rfl ⟨rfl, rfl, rfl, rfl, rfl⟩ rfl rfl rfl rfl rfl (by kernel_rfl) Try.func4 closed
    (of_decide_eq_true (by kernel_rfl)) (by unfold Func.isWrapper; first | (rw [if_pos (by decide +kernel)]; kernel_rfl) | (rw [if_neg (by decide +kernel)]; exact ⟨rfl, rfl⟩))
    (fun os started H enc _ => lifted os started H enc)

theorem proved : Rows.AgreesOneSaid := over
#print axioms proved
end Go.Proofs.Ytckcldimnelklaa.agreesOne
