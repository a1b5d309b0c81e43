/- The marks that a twin has behind its table. -/
import Derived.Test.YtckcldimnelklaaTA
namespace Go.Proofs.Ytckcldimnelklaa
open Go
/-- The mark. -/
def mkH : Hd := ⟨Hd.none.is, ⟨-77, Cl.zero.offer, Cl.zero.report, Cl.zero.view⟩⟩
theorem twin_e (xs : List Hd) : (((([] : List Hd) ++ xs) ++ [mkH, mkH]).take (((xs.length : Nat) : Int)).toNat ++ [mkH, mkH]) = ((([] : List Hd) ++ xs) ++ [mkH, mkH]) := by simp
theorem twin_tail {k : Kd Hd} {w : World} {ok : Nat → Prop} {a : Option Addr} {xs : List Hd} (h : elems k w ok a ((([] : List Hd) ++ xs) ++ [mkH, mkH])) : elems k w ok a (((([] : List Hd) ++ xs) ++ [mkH, mkH]).take (((xs.length : Nat) : Int)).toNat ++ [mkH, mkH]) := by
  rw [twin_e]; exact h
theorem twin_tailL {c : Nat} {xs : List Hd} (h : ((([] : List Hd) ++ xs) ++ [mkH, mkH]).length ≤ c) : (((([] : List Hd) ++ xs) ++ [mkH, mkH]).take (((xs.length : Nat) : Int)).toNat ++ [mkH, mkH]).length ≤ c := by
  rw [twin_e]; exact h
end Go.Proofs.Ytckcldimnelklaa
