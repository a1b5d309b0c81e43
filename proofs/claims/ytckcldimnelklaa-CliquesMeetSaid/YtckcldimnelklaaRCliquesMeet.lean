/- CliquesMeet holds: two vectors that differ at one node alone, and where what is not heard of is not there, are never even for two ages, and what is even is the common age; for every input. -/
import Derived.Test.YtckcldimnelklaaHd
import Derived.Test.YtckcldimnelklaaW17a
import Derived.Test.YtckcldimnelklaaW16a
import Derived.Test.YtckcldimnelklaaW17ma
import Derived.Test.YtckcldimnelklaaQ17m
import Derived.Test.YtckcldimnelklaaRE
import Derived.WalkKit
import Derived.ProofKit
import Derived.OpenShut
namespace Go.Proofs.Ytckcldimnelklaa.cliquesMeet
open Go Go.ChangeShapes Go.WideShapes Go.ChangeAt Go.RowKit
set_option linter.unusedVariables false

theorem own : ownKnob Try.prog.godebug = none := by kernel_rfl

theorem row : ∀ t ∈ Try.f24.params.toList, (Try.prog.readableRec t && decide (t < Try.prog.types.size)) = true := by
  rw [Try.params24]
  intro t ht
  simp only [List.mem_cons, List.not_mem_nil, or_false] at ht
  rcases ht with rfl | rfl | rfl <;> kernel_rfl

set_option maxRecDepth 100000 in
theorem lifted (os : Os) (started : os.Started) (H : Type) (enc : TypeId × Value → H) :
    ReturnsInHanded {} Try.checked os 24 .any (Rows.cliquesMeetSpec.pre6 enc Try.prog Try.f24 Rows.cliquesMeetRow.domain false) (Rows.cliquesMeetSpec.post enc Try.prog Try.f24 false true false false) := by
  refine returnsInHanded_of_change (C := Try.checked) own started (by kernel_rfl) Try.func24
    (ChangeSpec.witness6 (enc := enc) (C := Try.checked) false ⟨#[], #[Value.agg (List.toArray [Value.int .u8 0, Value.int .u8 0]), .slice none 0 0, Value.agg (List.toArray ([Value.slice none 0 0, Value.int .i64 0] ++ [Value.slice none 0 0, Value.int .i64 0]))], []⟩ 8 (by kernel_rfl) (by kernel_rfl) (by kernel_rfl) (by kernel_rfl)) ?_
  intro W base args ds gs before hval0 hW hcnd _
  have hval : ∀ (j : Nat) t v, Try.f24.params[j]? = some t → args[j]? = some v → Value.okWide Try.prog W .any base t v := hval0
  have hW' := hW
  obtain ⟨p, q, hA0, hV, rfl, hfz, hnd⟩ := hW
  have hA : DataW.TrodAll enc Try.prog W 0 (fun _ => true) true Try.f24.params.toList args.toList ds p := hA0
  have hAk := hA
  rw [Try.params24] at hA hval
  obtain ⟨v0, vs0, d0, ds0, p0, q0, hargs, rfl, rfl, h0, r0⟩ := trodAll_cons hA
  obtain ⟨v1, vs1, d1, ds1, p1, q1, rfl, rfl, rfl, h1, r1⟩ := trodAll_cons r0
  obtain ⟨v2, vs2, d2, ds2, p2, q2, rfl, rfl, rfl, h2, r2⟩ := trodAll_cons r1
  obtain ⟨rfl, rfl, rfl⟩ := trodAll_nil r2
  obtain rfl : args = #[v0, v1, v2] := by cases args; simp_all
  obtain ⟨rfl, rfl⟩ := trodVars_none hV
  obtain ⟨cs0, rfl, -⟩ := okWide_array un40 (hval 0 40 v0 rfl rfl)
  obtain ⟨x0, ds_0, hv0, hrd0⟩ := open_agg (reads_array (m := 2) (e := 5) (fs := [(5, 0), (5, 1)]) un40 (by kernel_rfl) ce40 (fs_cons (reads_int un5) ce5 (by decide) (fs_one (reads_int un5) ce5))) ⟨_, rfl⟩ h0
  have hb0 := (Wf.pair Wf.int Wf.int) _ _ _ _ hrd0
  have hw0 := (Wk.pair Wk.int Wk.int).2 _ _ _ _ hrd0
  cases hv0
  obtain ⟨cA0_0hw0, cB0_0hw0, rfl, hA0_0hw0, hB0_0hw0⟩ := hw0
  obtain ⟨-, rfl⟩ := hA0_0hw0
  obtain ⟨-, rfl⟩ := hB0_0hw0
  obtain ⟨a1, x1, c1, rfl, hcp1, hl1, hel1⟩ := open_slice (reads_slice un196 ce2 (by decide) (reads_int un2)) (okWide_slice un196 (hval 1 196 v1 rfl rfl)) h1
  have hb1 := Wf.elems Wf.int hel1
  obtain ⟨cs2, rfl, -⟩ := okWide_array un197 (hval 2 197 v2 rfl rfl)
  obtain ⟨x2, ds_2, hv2, hrd2⟩ := open_agg (reads_array (m := 2) (e := 73) (fs := [(73, 0), (73, 2)]) un197 (by kernel_rfl) ce197 (fs_cons (reads_struct (fs := [(28, 0), (2, 1)]) (by kernel_rfl) (by simp) ce73 (fs_cons (reads_slice un28 ce60 (by decide) reads_T60) ce28 (by decide) (fs_one (reads_int un2) ce2))) ce73 (by decide) (fs_one (reads_struct (fs := [(28, 0), (2, 1)]) (by kernel_rfl) (by simp) ce73 (fs_cons (reads_slice un28 ce60 (by decide) reads_T60) ce28 (by decide) (fs_one (reads_int un2) ce2))) ce73))) ⟨_, rfl⟩ h2
  have hb2 := (Wf.pair (Wf.pair (Wf.slice Wf.held) Wf.int) (Wf.pair (Wf.slice Wf.held) Wf.int)) _ _ _ _ hrd2
  have hw2 := (Wk.pair (Wk.pair (Wk.slice Wk.held) Wk.int) (Wk.pair (Wk.slice Wk.held) Wk.int)).2 _ _ _ _ hrd2
  cases hv2
  obtain ⟨cA2_0hw2, cB2_0hw2, rfl, hA2_0hw2, hB2_0hw2⟩ := hw2
  obtain ⟨cA2_0hA2_0hw2, cB2_0hA2_0hw2, rfl, hA2_0hA2_0hw2, hB2_0hA2_0hw2⟩ := hA2_0hw2
  obtain ⟨a2_0, c2_0, rfl, hl2_0, he2_0⟩ := hA2_0hA2_0hw2
  obtain ⟨-, rfl⟩ := hB2_0hA2_0hw2
  obtain ⟨cA2_0hB2_0hw2, cB2_0hB2_0hw2, rfl, hA2_0hB2_0hw2, hB2_0hB2_0hw2⟩ := hB2_0hw2
  obtain ⟨a2_1, c2_1, rfl, hl2_1, he2_1⟩ := hA2_0hB2_0hw2
  obtain ⟨-, rfl⟩ := hB2_0hB2_0hw2
  have hwk : Ret Try.prog 24 _ W (fun v w' => v = .bool true ∧ Ext W w') := Ret.mono (meet17_ok W (fun _ => True) x0 x1 x2 _ _ (Wk.elems Wk.int hel1) hcp1 _ _ he2_0 hl2_0 _ _ he2_1 hl2_1 (meet17_eq _ _ _ (by have := hb0; exact this))) (fun v w h => ⟨h.1, h.2.kept⟩)
  clear hA0 hval0
  simp only [List.append_nil] at hW'
  refine Calls.mono hwk fun e W' ⟨v, he, hv, hx⟩ => ?_
  subst hv
  subst he
  have hlt : ∀ x ∈ (p0 ++ (p1 ++ (p2 ++ []))), x.block < W.heap.size := fun x hx => by simpa using hW'.lt x (by simpa using hx)
  exact ⟨_, rfl, post_below (pa := p0 ++ (p1 ++ (p2 ++ []))) (pv := []) hW' (fun _ _ _ => (trodAll_cons_mk (shut_bool un4 _) trodAll_mk0)) (fun sp hsp => args_below Head.laid (Ext.below hx) sp (List.all_eq_true.2 row) hAk hlt (fun x hx' => hsp x (by simpa using hx'))) (fun _ _ => rfl) (by simp)
    (Ext.below hx) (ok_one (by kernel_rfl) rfl (okWide_bool_mk un4 _))⟩

theorem closed : joinedFacts Try.prog 24 Try.f24 Rows.cliquesMeetSpec Rows.cliquesMeetRow = true := by
  simp only [joinedFacts, Bool.and_eq_true]
  exact ⟨⟨⟨⟨⟨⟨⟨⟨⟨⟨⟨⟨⟨⟨⟨⟨⟨⟨⟨⟨⟨⟨⟨⟨⟨⟨⟨⟨⟨⟨⟨(by kernel_rfl), Head.laid⟩, Head.mapsR⟩, (by kernel_rfl)⟩, (by kernel_rfl)⟩, (by kernel_rfl)⟩, Head.stops⟩, (by kernel_rfl)⟩, Head.stopKnobs⟩, (by kernel_rfl)⟩, (by kernel_rfl)⟩, (by kernel_rfl)⟩, (by kernel_rfl)⟩, (by kernel_rfl)⟩, (by kernel_rfl)⟩, (by kernel_rfl)⟩, (by kernel_rfl)⟩, (by kernel_rfl)⟩, (by kernel_rfl)⟩, (by kernel_rfl)⟩, (by kernel_rfl)⟩, (by kernel_rfl)⟩, (Head.plainK_of rfl)⟩, (by kernel_rfl)⟩, Head.heard⟩, Head.mayEnter⟩, (Head.lifted_of rfl)⟩, (Head.made_of rfl)⟩, (by kernel_rfl)⟩, (by kernel_rfl)⟩, (by kernel_rfl)⟩, (by kernel_rfl)⟩

theorem over : Rows.cliquesMeetRow.holds Try.pinned (OpenSpec.ofChange Rows.cliquesMeetSpec) :=
  OpenClaim.holds_of_wide 24 Try.f24 rfl rfl rfl rfl rfl rfl rfl ⟨rfl, rfl, rfl, rfl, rfl⟩ rfl rfl rfl rfl rfl (by kernel_rfl) Try.func24 closed
    (of_decide_eq_true (by kernel_rfl)) (by unfold Func.isWrapper; first | (rw [if_pos (by decide +kernel)]; kernel_rfl) | (rw [if_neg (by decide +kernel)]; exact ⟨rfl, rfl⟩))
    (fun os started H enc _ => lifted os started H enc)

theorem proved : Rows.CliquesMeetSaid := over
#print axioms proved
end Go.Proofs.Ytckcldimnelklaa.cliquesMeet
