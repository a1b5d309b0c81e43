/- sennitlaw15.spoil, of a clipped slice. -/
import Derived.Test.YtckcldimnelklaaPAgreesAnyW3
namespace Go.Proofs.Ytckcldimnelklaa
open Go
theorem spoil15_C (w : World) (a : Option Addr) (n c0 : Nat) (xs : List Hd) {r : Unit} (h : spoil15 xs = some r) (hL : St [gslC 60 heldE (Value.slice a n c0) xs] w w [gslC 60 heldE (Value.slice a n c0) xs]) :
    Ret Try.prog 40 [Value.slice a n c0] w (fun v w' => v = Value.tuple #[] ∧ St [gslC 60 heldE (Value.slice a n c0) xs] w w' []) := by
  obtain ⟨h1, h2⟩ := gslC_c (hL.get (i := 0) rfl)
  subst h1; subst h2
  exact spoil15_ok w (fun _ => False) xs a (fun _ h => h.elim) hL h
end Go.Proofs.Ytckcldimnelklaa
