/- A slice made with room, and nothing in it; a block that may be written over. -/
import Derived.Test.YtckcldimnelklaaTC
namespace Go.Proofs.Ytckcldimnelklaa
open Go
set_option linter.unusedVariables false
set_option linter.unusedSimpArgs false
section
variable {P : Program} {σ : Nat → Value} {w : World} {d : Option Tmp} {ty : TypeId} {pos : String} {af : Array Edge} {g : Option (Nat × Bool)}
theorem X.makeSlice0 {L0 L : List Ent} {w0 : World} (h : St L0 w0 w L) {α : Type} {T E n bytes : Nat} {zc : List Value} (hT : SlT P T E n bytes zc) {e : Enc α} (hn : e.n = n)
    {x y : Operand} {k k' : IntKind} {a : Int} (hx : ev σ x = .int k 0) (hy : ev σ y = .int k' a) (ha : 0 ≤ a ∧ a < 1000000) (hb : bytes * 1000000 ≤ 281474976710656)
    {L' : Nat → List Ent} (hL : ∀ b, L' b = L ++ [gsl E e (.slice (some ⟨b, 0, none⟩) (([] : List α).length) a.toNat) ([] : List α)]) :
    ∃ b w', Runs P σ ⟨d, .makeSlice T x y, ty, pos, af, g⟩ w (.slice (some ⟨b, 0, none⟩) (([] : List α).length) a.toNat) w' ∧ St L0 w0 w' (L' b) ∧ Ext w w' ∧ w.heap.size ≤ b := by
  obtain ⟨i, zv, h1, h2, h3, h4, h5⟩ := hT.el
  have hm : a = ((a.toNat : Nat) : Int) := (Int.toNat_of_nonneg ha.1).symm
  have hmb : i.bytes * a.toNat ≤ 281474976710656 := by rw [h4]; exact Nat.le_trans (Nat.mul_le_mul_left bytes (show a.toNat ≤ 1000000 by omega)) hb
  have hb' : (i.bytes : Int) * a ≤ 281474976710656 := by
    have h : ((i.bytes * a.toNat : Nat) : Int) ≤ 281474976710656 := by omega
    rw [Int.natCast_mul] at h; rw [hm]; exact h
  have hr := run_make (P := P) w T E i zv hT.und h1 h2 k k' 0 a (by omega) ha.1 hb' (by omega)
  have hown : ∀ w' : World, w'.ownsRow 0 E i.size (.slice (some ⟨w.heap.size, 0, none⟩) a.toNat a.toNat) a.toNat (madeCells zv.cells (a.toNat * i.size)).toList → (gsl E e (.slice (some ⟨w.heap.size, 0, none⟩) (([] : List α).length) a.toNat) ([] : List α)).h w' := fun w' ho => by
    rcases ho.2 with ⟨q, -⟩ | ⟨g', cap, cur, hv, hb0, hh, k1, k2, k3, k4⟩
    · cases q
    · injection hv with e1 e2 e3
      injection e1 with e1
      injection e1 with e1
      subst e1; subst e3
      exact ⟨by simp [flat], .inr ⟨_, _, cur, rfl, Nat.zero_le _, hh, Nat.zero_le _, k2, by rw [k3, h3, hn], by simp [flat]⟩⟩
  have hlit := World.ownsRow_lit (base := 0) (e := E) (size := i.size) w (madeCells zv.cells (a.toNat * i.size)) a.toNat (Nat.zero_le _) (by unfold maxLen; omega) (size_madeCells _ _)
  have hgb := World.grownBy_alloc w (.cells (madeCells zv.cells (a.toNat * i.size)) E) none
  have hext : Ext w _ := ⟨hgb.os, hgb.tape, hgb.output, hgb.size, fun b hb _ => hgb.block b hb (by simp)⟩
  refine ⟨w.heap.size, _, ?_, ?_, hext, Nat.le_refl _⟩
  · simp only [Runs, execOp, hx, hy, Sem.run_bind, hr, Result.andThen, Sem.run_pure]; rfl
  · have hgl := hown _ hlit
    exact h.add hext hgl (fun b hb => by
      have hb' := gsl_lt hgl b hb
      have : w.heap.size = b := Option.some.inj hb
      omega) (hL _)
end
end Go.Proofs.Ytckcldimnelklaa
