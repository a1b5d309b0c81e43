/- Clipped slices of one's own: made so; given up. -/
import Derived.Test.YtckcldimnelklaaTC
import Derived.Test.YtckcldimnelklaaWT
namespace Go.Proofs.Ytckcldimnelklaa
open Go
theorem gslC_mk {α : Type} {E : TypeId} {e : Enc α} {a : Option Addr} {m : Nat} {xs : List α} {w : World} (hm : xs.length = m) (h : (gsl E e (.slice a xs.length m) xs).h w) : (gslC E e (.slice a xs.length m) xs).h w :=
  ⟨a, m, by rw [hm], h⟩
theorem gslC_c {α : Type} {E : TypeId} {e : Enc α} {a : Option Addr} {n m : Nat} {xs : List α} {w : World} (h : (gslC E e (.slice a n m) xs).h w) : n = xs.length ∧ m = xs.length := by
  obtain ⟨a', c, hv, _⟩ := h
  injection hv with _ h1 h2
  exact ⟨h1, h2⟩
end Go.Proofs.Ytckcldimnelklaa
