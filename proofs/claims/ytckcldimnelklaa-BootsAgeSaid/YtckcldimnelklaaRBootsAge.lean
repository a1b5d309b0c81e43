/- BootsAge holds: a Power answers off, starting and on with the ticks counted, through rows of ticks; for every input. -/
import Derived.Test.YtckcldimnelklaaHd
import Derived.Test.YtckcldimnelklaaL18
import Derived.Test.YtckcldimnelklaaRd
import Derived.WalkKit
import Derived.ProofKit
import Derived.OpenShut
namespace Go.Proofs.Ytckcldimnelklaa.bootsAge
open Go Go.ChangeShapes Go.WideShapes Go.ChangeAt Go.RowKit
set_option linter.unusedVariables false

theorem own : ownKnob Try.prog.godebug = none := by kernel_rfl

theorem row : ∀ t ∈ Try.f11.params.toList, (Try.prog.readableRec t && decide (t < Try.prog.types.size)) = true := by
  rw [Try.params11]
  intro t ht
  simp only [List.mem_cons, List.not_mem_nil, or_false] at ht
  rcases ht with rfl | rfl <;> kernel_rfl

set_option maxRecDepth 100000 in
theorem lifted (os : Os) (started : os.Started) (H : Type) (enc : TypeId × Value → H) :
    ReturnsInHanded {} Try.checked os 11 .any (Rows.bootsAgeSpec.pre6 enc Try.prog Try.f11 Rows.bootsAgeRow.domain false) (Rows.bootsAgeSpec.post enc Try.prog Try.f11 false true false false) := by
  refine returnsInHanded_of_change (C := Try.checked) own started (by kernel_rfl) Try.func11
    (ChangeSpec.witness6 (enc := enc) (C := Try.checked) false ⟨#[], #[.int .u8 0, .slice none 0 0], []⟩ 8 (by kernel_rfl) (by kernel_rfl) (by kernel_rfl) (by kernel_rfl)) ?_
  intro W base args ds gs before hval0 hW hcnd _
  have hval : ∀ (j : Nat) t v, Try.f11.params[j]? = some t → args[j]? = some v → Value.okWide Try.prog W .any base t v := hval0
  have hW' := hW
  obtain ⟨p, q, hA0, hV, rfl, hfz, hnd⟩ := hW
  have hA : DataW.TrodAll enc Try.prog W 0 (fun _ => true) true Try.f11.params.toList args.toList ds p := hA0
  have hAk := hA
  rw [Try.params11] at hA hval
  obtain ⟨v0, vs0, d0, ds0, p0, q0, hargs, rfl, rfl, h0, r0⟩ := trodAll_cons hA
  obtain ⟨v1, vs1, d1, ds1, p1, q1, rfl, rfl, rfl, h1, r1⟩ := trodAll_cons r0
  obtain ⟨rfl, rfl, rfl⟩ := trodAll_nil r1
  obtain rfl : args = #[v0, v1] := by cases args; simp_all
  obtain ⟨rfl, rfl⟩ := trodVars_none hV
  obtain ⟨n0, rfl, lo0, hi0⟩ := open_int un5 (hval 0 5 v0 rfl rfl) h0
  have hb0 : (0 : Int) ≤ n0 ∧ n0 ≤ 255 := ⟨lo0, hi0⟩
  obtain ⟨a1, xs1, c1, rfl, hl1, hel1⟩ := open_slice (reads_slice un126 (by kernel_rfl) (by decide) (reads_int un52)) (okWide_slice un126 (hval 1 126 v1 rfl rfl)) h1
  clear hA0 hval0
  simp only [List.append_nil] at hW'
  refine Calls.mono (age18 W n0 (by omega) (by omega) _ a1 c1 xs1 hel1 hl1) fun e W' ⟨v, he, hv, hx⟩ => ?_
  subst hv
  subst he
  have hlt : ∀ x ∈ (p0 ++ (p1 ++ [])), x.block < W.heap.size := fun x hx => by simpa using hW'.lt x (by simpa using hx)
  exact ⟨_, rfl, post_below (pa := p0 ++ (p1 ++ [])) (pv := []) hW' (fun _ _ _ => (trodAll_cons_mk (shut_bool un4 _) trodAll_mk0)) (fun sp hsp => args_below Head.laid hx.below sp (List.all_eq_true.2 row) hAk hlt (fun x hx' => hsp x (by simpa using hx'))) (fun _ _ => rfl) (by simp)
    hx.below (ok_one (by kernel_rfl) rfl (okWide_bool_mk un4 _))⟩

theorem closed : joinedFacts Try.prog 11 Try.f11 Rows.bootsAgeSpec Rows.bootsAgeRow = true := by
  simp only [joinedFacts, Bool.and_eq_true]
  exact ⟨⟨⟨⟨⟨⟨⟨⟨⟨⟨⟨⟨⟨⟨⟨⟨⟨⟨⟨⟨⟨⟨⟨⟨⟨⟨⟨⟨⟨⟨⟨(by kernel_rfl), Head.laid⟩, Head.mapsR⟩, (by kernel_rfl)⟩, (by kernel_rfl)⟩, (by kernel_rfl)⟩, Head.stops⟩, (by kernel_rfl)⟩, Head.stopKnobs⟩, (by kernel_rfl)⟩, (by kernel_rfl)⟩, (by kernel_rfl)⟩, (by kernel_rfl)⟩, (by kernel_rfl)⟩, (by kernel_rfl)⟩, (by kernel_rfl)⟩, (by kernel_rfl)⟩, (by kernel_rfl)⟩, (by kernel_rfl)⟩, (by kernel_rfl)⟩, (by kernel_rfl)⟩, (by kernel_rfl)⟩, (Head.plainK_of rfl)⟩, (by kernel_rfl)⟩, Head.heard⟩, Head.mayEnter⟩, (Head.lifted_of rfl)⟩, (Head.made_of rfl)⟩, (by kernel_rfl)⟩, (by kernel_rfl)⟩, (by kernel_rfl)⟩, (by kernel_rfl)⟩

theorem over : Rows.bootsAgeRow.holds Try.pinned (OpenSpec.ofChange Rows.bootsAgeSpec) :=
  OpenClaim.holds_of_wide 11 Try.f11 rfl rfl rfl rfl rfl rfl rfl ⟨rfl, rfl, rfl, rfl, rfl⟩ rfl rfl rfl rfl rfl (by kernel_rfl) Try.func11 closed
    (of_decide_eq_true (by kernel_rfl)) (by unfold Func.isWrapper; first | (rw [if_pos (by decide +kernel)]; kernel_rfl) | (rw [if_neg (by decide +kernel)]; exact ⟨rfl, rfl⟩))
    (fun os started H enc _ => lifted os started H enc)

theorem proved : Rows.BootsAgeSaid := over
#print axioms proved
end Go.Proofs.Ytckcldimnelklaa.bootsAge
