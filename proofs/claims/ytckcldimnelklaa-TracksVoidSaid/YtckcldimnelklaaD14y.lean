/- What the functions answer: group 14y. -/
import Derived.Test.YtckcldimnelklaaD14x
import Derived.Test.YtckcldimnelklaaD14v
import Derived.Test.YtckcldimnelklaaD14w
namespace Go.Proofs.Ytckcldimnelklaa
open Go
set_option linter.unusedVariables false
set_option linter.unusedSimpArgs false
set_option maxRecDepth 100000
set_option maxHeartbeats 4000000

def void14_l1 (p0 : ((List Rw) × (List Rw) × (List Rw) × (List Rw)) × Rw × Int) (K1969 : Unit → Option Bool) : Nat → Int → Option Bool
  | 0, _ => none
  | k1975 + 1, i1968 => if i1968 < 2 then (if i1968 = 0 then (Option.bind (hearN14 p0.1) fun (y2001 : (List Rw)) => (jn (fun (l2256 : List Rw) (l2259 : List Rw) => (if -9223372036854775808 ≤ ((l2256.length : Nat) : Int) + ((l2259.length : Nat) : Int) ∧ ((l2256.length : Nat) : Int) + ((l2259.length : Nat) : Int) ≤ 9223372036854775807 then (if -9223372036854775808 ≤ (((l2256.length : Nat) : Int) + ((l2259.length : Nat) : Int)) + ((y2001.length : Nat) : Int) ∧ (((l2256.length : Nat) : Int) + ((l2259.length : Nat) : Int)) + ((y2001.length : Nat) : Int) ≤ 9223372036854775807 then (if ((((l2256.length : Nat) : Int) + ((l2259.length : Nat) : Int)) + ((y2001.length : Nat) : Int)) = 0 then (if -9223372036854775808 ≤ i1968 + 1 ∧ i1968 + 1 ≤ 9223372036854775807 then (void14_l1 p0 K1969 k1975 (i1968 + 1)) else none) else (some false)) else none) else none)) fun J2262 => (Option.bind (sayN14 p0.2.1) fun (y2280 : (List Rw) × (List Rw)) => (J2262 y2280.1 y2280.2)))) else (if i1968 = 1 then (Option.bind (hearR14 (0, 0, 0, false, []) p0.1) fun (y2601 : (List Rw)) => (jn (fun (l2856 : List Rw) (l2859 : List Rw) => (if -9223372036854775808 ≤ ((l2856.length : Nat) : Int) + ((l2859.length : Nat) : Int) ∧ ((l2856.length : Nat) : Int) + ((l2859.length : Nat) : Int) ≤ 9223372036854775807 then (if -9223372036854775808 ≤ (((l2856.length : Nat) : Int) + ((l2859.length : Nat) : Int)) + ((y2601.length : Nat) : Int) ∧ (((l2856.length : Nat) : Int) + ((l2859.length : Nat) : Int)) + ((y2601.length : Nat) : Int) ≤ 9223372036854775807 then (if ((((l2856.length : Nat) : Int) + ((l2859.length : Nat) : Int)) + ((y2601.length : Nat) : Int)) = 0 then (if -9223372036854775808 ≤ i1968 + 1 ∧ i1968 + 1 ≤ 9223372036854775807 then (void14_l1 p0 K1969 k1975 (i1968 + 1)) else none) else (some false)) else none) else none)) fun J2862 => (Option.bind (sayR14 (0, 0, 0, false, []) p0.2.1) fun (y2880 : (List Rw) × (List Rw)) => (J2862 y2880.1 y2880.2)))) else none)) else (K1969 ())

def void14 (p0 : ((List Rw) × (List Rw) × (List Rw) × (List Rw)) × Rw × Int) : Option Bool := Option.bind (great14 [p0]) fun (y141 : Bool) => (if y141 = true then (Option.bind lives14 fun (y151 : Bool) => (some y151)) else (void14_l1 p0 (fun (_ : Unit) => (Option.bind lives14 fun (y3202 : Bool) => (some y3202))) 1000000 0))

end Go.Proofs.Ytckcldimnelklaa
