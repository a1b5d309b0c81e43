/- Several things of one's own as one. -/
import Derived.Test.YtckcldimnelklaaTN
namespace Go.Proofs.Ytckcldimnelklaa
open Go
set_option linter.unusedVariables false
def bundle (X : List Ent) : Ent where
  F := fun b => ∃ E ∈ X, E.F b
  h := fun w => (∀ E ∈ X, E.h w) ∧ X.Pairwise (fun (E E' : Ent) => ∀ b : Nat, E.F b → ¬ E'.F b)
  st := fun hs h => ⟨fun E hE => E.st (fun b hb => hs b ⟨E, hE, hb⟩) (h.1 E hE), h.2⟩

section
variable {L0 X N : List Ent} {w0 w w' : World}
theorem St.openB (h : St L0 w0 w (bundle X :: N)) : St L0 w0 w (X ++ N) := by
  have hb := h.holds (bundle X) (List.mem_cons_self ..)
  have hd := List.pairwise_cons.1 h.disj
  refine ⟨h.kept, fun E hE => ?_, fun E hE b hF => ?_, List.pairwise_append.2 ⟨hb.2, hd.2, fun E hE D hD b hF => hd.1 D hD b ⟨E, hE, hF⟩⟩, fun E hE b hF hlt => ?_⟩
  · rcases List.mem_append.1 hE with hE | hE
    · exact hb.1 E hE
    · exact h.holds E (List.mem_cons_of_mem _ hE)
  · rcases List.mem_append.1 hE with hE | hE
    · exact h.inr (bundle X) (List.mem_cons_self ..) b ⟨E, hE, hF⟩
    · exact h.inr E (List.mem_cons_of_mem _ hE) b hF
  · rcases List.mem_append.1 hE with hE | hE
    · exact h.sub (bundle X) (List.mem_cons_self ..) b ⟨E, hE, hF⟩ hlt
    · exact h.sub E (List.mem_cons_of_mem _ hE) b hF hlt
theorem St.closeB (h : St L0 w0 w (X ++ N)) : St L0 w0 w (bundle X :: N) := by
  have hd := List.pairwise_append.1 h.disj
  refine ⟨h.kept, fun E hE => ?_, fun E hE b hF => ?_, List.pairwise_cons.2 ⟨fun D hD b ⟨E, hE, hF⟩ => hd.2.2 E hE D hD b hF, hd.2.1⟩, fun E hE b hF hlt => ?_⟩
  · rcases List.mem_cons.1 hE with rfl | hE
    · exact ⟨fun E hE => h.holds E (List.mem_append_left _ hE), hd.1⟩
    · exact h.holds E (List.mem_append_right _ hE)
  · rcases List.mem_cons.1 hE with rfl | hE
    · obtain ⟨D, hD, hF⟩ := hF
      exact h.inr D (List.mem_append_left _ hD) b hF
    · exact h.inr E (List.mem_append_right _ hE) b hF
  · rcases List.mem_cons.1 hE with rfl | hE
    · obtain ⟨D, hD, hF⟩ := hF
      exact h.sub D (List.mem_append_left _ hD) b hF hlt
    · exact h.sub E (List.mem_append_right _ hE) b hF hlt
/-- What lies apart from all of them. -/
theorem out_bundle {b : Nat} : out (bundle X :: N) b ↔ out (X ++ N) b := by
  constructor
  · intro h E hE hF
    rcases List.mem_append.1 hE with hE | hE
    · exact h (bundle X) (List.mem_cons_self ..) ⟨E, hE, hF⟩
    · exact h E (List.mem_cons_of_mem _ hE) hF
  · intro h E hE hF
    rcases List.mem_cons.1 hE with rfl | hE
    · obtain ⟨D, hD, hF⟩ := hF
      exact h D (List.mem_append_left _ hD) hF
    · exact h E (List.mem_append_right _ hE) hF
theorem In_bundle {ok : Nat → Prop} {X' N' : List Ent} {b : Nat} : In ok w0 (bundle X :: N) (bundle X' :: N') b ↔ In ok w0 (X ++ N) (X' ++ N') b := by
  unfold In; rw [out_bundle, out_bundle]
theorem Kept.openB (h : Kept (bundle X :: N) w w') : Kept (X ++ N) w w' := ⟨h.os, h.tape, h.output, h.size, fun b hb ho => h.block b hb (out_bundle.2 ho)⟩
theorem Kept.closeB (h : Kept (X ++ N) w w') : Kept (bundle X :: N) w w' := ⟨h.os, h.tape, h.output, h.size, fun b hb ho => h.block b hb (out_bundle.1 ho)⟩
theorem St.openL (h : St (bundle X :: N) w0 w L0) : St (X ++ N) w0 w L0 := ⟨h.kept.openB, h.holds, h.inr, h.disj, fun E hE b hF hlt ho => h.sub E hE b hF hlt (out_bundle.2 ho)⟩
theorem St.closeL (h : St (X ++ N) w0 w L0) : St (bundle X :: N) w0 w L0 := ⟨h.kept.closeB, h.holds, h.inr, h.disj, fun E hE b hF hlt ho => h.sub E hE b hF hlt (out_bundle.1 ho)⟩

theorem perm_at {α : Type} {X : List α} {i : Nat} {E : α} (hi : X[i]? = some E) : X.Perm (E :: (X.take i ++ X.drop (i + 1))) := by
  have hlt := (List.getElem?_eq_some_iff.1 hi).1
  have hget := (List.getElem?_eq_some_iff.1 hi).2
  have h : X = X.take i ++ E :: X.drop (i + 1) := by rw [← hget, ← List.drop_eq_getElem_cons hlt, List.take_append_drop]
  conv => lhs; rw [h]
  exact List.perm_middle
theorem perm_set {α : Type} {X : List α} {i : Nat} {E E' : α} (hi : X[i]? = some E) : (X.set i E').Perm (E' :: (X.take i ++ X.drop (i + 1))) := by
  have hlt := (List.getElem?_eq_some_iff.1 hi).1
  have h := perm_at (X := X.set i E') (i := i) (E := E') (by simp [hlt])
  rwa [List.take_set_of_le (Nat.le_refl i), List.drop_set_of_lt (by omega)] at h
/-- One of them has turned. -/
theorem bundle_call {i : Nat} {E E' : Ent} (h : St L0 w0 w (bundle X :: N)) (hi : X[i]? = some E) (c : St [E] w w' [E']) : St (bundle X :: N) w w' (bundle (X.set i E') :: N) := by
  have h1 : St (X ++ N) w w (X ++ N) := h.openB.here
  have hp : (X ++ N).Perm ([E] ++ ((X.take i ++ X.drop (i + 1)) ++ N)) := (perm_at hi).append_right N
  have h2 := h1.call hp c
  have hp2 : ([E'] ++ ((X.take i ++ X.drop (i + 1)) ++ N)).Perm ((X.set i E' ++ N) ++ []) := by
    rw [List.append_nil]
    exact ((perm_set (E' := E') hi).append_right N).symm
  exact (h2.perm hp2).closeB.closeL
end
end Go.Proofs.Ytckcldimnelklaa
