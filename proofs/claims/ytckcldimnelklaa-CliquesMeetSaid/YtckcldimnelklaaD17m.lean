/- What the functions answer: group 17m. -/
import Derived.Test.YtckcldimnelklaaD17
import Derived.Test.YtckcldimnelklaaD16
namespace Go.Proofs.Ytckcldimnelklaa
open Go
set_option linter.unusedVariables false
set_option linter.unusedSimpArgs false
set_option maxRecDepth 100000
set_option maxHeartbeats 4000000

def view17_l1 (p0 : Int) (p1 : Int) (p3 : Int) (p2 : List Int) (K230 : (List Hd) → Option (List Hd)) : Nat → Int → (List Hd) → Option (List Hd)
  | 0, _, _ => none
  | k236 + 1, i223, l224 => if i223 < p0 then (if i223 = p1 then (if -9223372036854775808 ≤ i223 + 1 ∧ i223 + 1 ≤ 9223372036854775807 then (view17_l1 p0 p1 p3 p2 K230 k236 (i223 + 1) l224) else none) else (if 0 ≤ i223 then (if (andI .u16 (shrI .u16 p3 i223) 1) = 0 then (if 0 ≤ i223 ∧ 0 < (((p2.length : Nat) : Int) : Int) ∧ (((p2.length : Nat) : Int) : Int) ≤ 9223372036854775807 then (Option.bind (rd p2 (i223 % ((p2.length : Nat) : Int))) fun (x263 : Int) => (Option.bind (rd l224 i223) fun (x279 : Hd) => (if -9223372036854775808 ≤ i223 + 1 ∧ i223 + 1 ≤ 9223372036854775807 then (view17_l1 p0 p1 p3 p2 K230 k236 (i223 + 1) ((l224).set (i223).toNat (⟨true, (⟨x263, Cl.zero.offer, Cl.zero.report, Cl.zero.view⟩ : Cl)⟩ : Hd))) else none))) else none) else (if -9223372036854775808 ≤ i223 + 1 ∧ i223 + 1 ≤ 9223372036854775807 then (view17_l1 p0 p1 p3 p2 K230 k236 (i223 + 1) l224) else none)) else none)) else (K230 l224)

def view17 (p0 : Int) (p1 : Int) (p2 : List Int) (p3 : Int) (p4 : Hd) : Option (List Hd) := if 0 ≤ p0 ∧ p0 < 1000000 then (view17_l1 p0 p1 p3 p2 (fun (l227 : List Hd) => (Option.bind (rd l227 p1) fun (x305 : Hd) => (some ((l227).set (p1).toNat p4)))) 1000000 0 (List.replicate (p0).toNat Hd.none)) else none

def meet17_l1 (p2 : ((List Hd) × Int) × ((List Hd) × Int)) (p0 : Int × Int) (p1 : List Int) (K567 : (List Hd) → (List Hd) → Option Bool) : Nat → Int → (List Hd) → (List Hd) → Option Bool
  | 0, _, _, _ => none
  | k573 + 1, i554, l555, l558 => if i554 < 2 then (if i554 = 0 then (if 0 < ((p2.1.1.length : Nat) : Int) then (Option.bind (rd p2.1.1 0) fun (x620 : Hd) => (Option.bind (view17 (4 + (p0.1 % 13)) (p0.2 % (4 + (p0.1 % 13))) p1 (IntKind.wrap .u16 x620.cell.offer.value) x620) fun (y639 : (List Hd)) => (if -9223372036854775808 ≤ i554 + 1 ∧ i554 + 1 ≤ 9223372036854775807 then (meet17_l1 p2 p0 p1 K567 k573 (i554 + 1) y639 l558) else none))) else (Option.bind (view17 (4 + (p0.1 % 13)) (p0.2 % (4 + (p0.1 % 13))) p1 0 Hd.none) fun (y667 : (List Hd)) => (if -9223372036854775808 ≤ i554 + 1 ∧ i554 + 1 ≤ 9223372036854775807 then (meet17_l1 p2 p0 p1 K567 k573 (i554 + 1) y667 l558) else none))) else (if i554 = 1 then (if 0 < ((p2.2.1.length : Nat) : Int) then (Option.bind (rd p2.2.1 0) fun (x699 : Hd) => (Option.bind (view17 (4 + (p0.1 % 13)) (p0.2 % (4 + (p0.1 % 13))) p1 (IntKind.wrap .u16 x699.cell.offer.value) x699) fun (y718 : (List Hd)) => (if -9223372036854775808 ≤ i554 + 1 ∧ i554 + 1 ≤ 9223372036854775807 then (meet17_l1 p2 p0 p1 K567 k573 (i554 + 1) l555 y718) else none))) else (Option.bind (view17 (4 + (p0.1 % 13)) (p0.2 % (4 + (p0.1 % 13))) p1 0 Hd.none) fun (y746 : (List Hd)) => (if -9223372036854775808 ≤ i554 + 1 ∧ i554 + 1 ≤ 9223372036854775807 then (meet17_l1 p2 p0 p1 K567 k573 (i554 + 1) l555 y746) else none))) else none)) else (K567 l555 l558)

def meet17_l3 (p0 : Int × Int) (l561 : List Hd) (i1489 : Int) (l564 : List Hd) (p2 : ((List Hd) × Int) × ((List Hd) × Int)) (K1727 : Unit → Option Bool) : Nat → Int → Option Bool
  | 0, _ => none
  | k1733 + 1, i1726 => if i1726 < (4 + (p0.1 % 13)) then (Option.bind (rd l561 i1489) fun (x1753 : Hd) => (Option.bind (rd l564 i1726) fun (x1767 : Hd) => (jn (fun (i1787 : Int) (i1788 : Int) => (Option.bind (even17 (4 + (p0.1 % 13)) l561 i1787) fun (y1813 : Bool) => (if y1813 = true then (Option.bind (common16 (4 + (p0.1 % 13)) l561) fun (y1823 : Int) => (if y1823 = i1787 then (Option.bind (even17 (4 + (p0.1 % 13)) l564 i1788) fun (y1834 : Bool) => (if y1834 = true then (if i1787 = i1788 then (if -9223372036854775808 ≤ i1726 + 1 ∧ i1726 + 1 ≤ 9223372036854775807 then (meet17_l3 p0 l561 i1489 l564 p2 K1727 k1733 (i1726 + 1)) else none) else (some false)) else (if -9223372036854775808 ≤ i1726 + 1 ∧ i1726 + 1 ≤ 9223372036854775807 then (meet17_l3 p0 l561 i1489 l564 p2 K1727 k1733 (i1726 + 1)) else none))) else (some false))) else (if -9223372036854775808 ≤ i1726 + 1 ∧ i1726 + 1 ≤ 9223372036854775807 then (meet17_l3 p0 l561 i1489 l564 p2 K1727 k1733 (i1726 + 1)) else none)))) fun J1789 => (if i1489 = 0 then (if i1726 = 0 then (J1789 p2.1.2 p2.2.2) else (J1789 x1753.cell.age x1767.cell.age)) else (J1789 x1753.cell.age x1767.cell.age))))) else (K1727 ())

def meet17_l2 (p0 : Int × Int) (l561 : List Hd) (l564 : List Hd) (p2 : ((List Hd) × Int) × ((List Hd) × Int)) (K1490 : Unit → Option Bool) : Nat → Int → Option Bool
  | 0, _ => none
  | k1496 + 1, i1489 => if i1489 < (4 + (p0.1 % 13)) then (meet17_l3 p0 l561 i1489 l564 p2 (fun (_ : Unit) => (if -9223372036854775808 ≤ i1489 + 1 ∧ i1489 + 1 ≤ 9223372036854775807 then (meet17_l2 p0 l561 l564 p2 K1490 k1496 (i1489 + 1)) else none)) 1000000 0) else (K1490 ())

def meet17 (p0 : Int × Int) (p1 : List Int) (p2 : ((List Hd) × Int) × ((List Hd) × Int)) : Option Bool := if ((p1.length : Nat) : Int) = 0 then (Option.bind lives17 fun (y122 : Bool) => (some y122)) else (if 40 < ((p1.length : Nat) : Int) then (Option.bind lives17 fun (y135 : Bool) => (some y135)) else (if -9223372036854775808 ≤ p0.1 ∧ p0.1 ≤ 9223372036854775807 then (if 0 ≤ p0.1 ∧ 0 < (13 : Int) ∧ (13 : Int) ≤ 9223372036854775807 then (if -9223372036854775808 ≤ 4 + (p0.1 % 13) ∧ 4 + (p0.1 % 13) ≤ 9223372036854775807 then (if -9223372036854775808 ≤ p0.2 ∧ p0.2 ≤ 9223372036854775807 then (if 0 ≤ p0.2 ∧ 0 < (4 + (p0.1 % 13) : Int) ∧ (4 + (p0.1 % 13) : Int) ≤ 9223372036854775807 then (meet17_l1 p2 p0 p1 (fun (l561 : List Hd) (l564 : List Hd) => (meet17_l2 p0 l561 l564 p2 (fun (_ : Unit) => (Option.bind lives17 fun (y1885 : Bool) => (some y1885))) 1000000 0)) 1000000 0 [] []) else none) else none) else none) else none) else none))

end Go.Proofs.Ytckcldimnelklaa
