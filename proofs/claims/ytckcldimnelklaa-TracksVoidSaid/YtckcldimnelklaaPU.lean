/- Plain Lean: how the twins' steps are reckoned. -/
import Derived.Test.YtckcldimnelklaaTA
namespace Go.Proofs.Ytckcldimnelklaa
open Go
set_option linter.unusedVariables false

theorem rd_get {α : Type} {xs : List α} {i : Nat} (h : i < xs.length) : rd xs ((i : Nat) : Int) = some xs[i] := by rw [rd_nat, List.getElem?_eq_getElem h]
theorem rd_getI {α : Type} {xs : List α} {i : Int} (h0 : 0 ≤ i) (h : i.toNat < xs.length) : rd xs i = some xs[i.toNat] := by rw [rd, if_pos h0, List.getElem?_eq_getElem h]
theorem ob_some {α β : Type} {x : α} {f : α → Option β} : Option.bind (some x) f = f x := rfl
theorem bsome {α : Type} (o : Option α) : (Option.bind o fun y => some y) = o := by cases o <;> rfl
theorem succI (i : Nat) : ((i : Nat) : Int) + 1 = ((i + 1 : Nat) : Int) := rfl
theorem oc_none {D R : Type} {n : Option R} {s : D → Option R} : oc none n s = n := rfl
theorem oc_some {D R : Type} {d : D} {n : Option R} {s : D → Option R} : oc (some d) n s = s d := rfl
end Go.Proofs.Ytckcldimnelklaa
