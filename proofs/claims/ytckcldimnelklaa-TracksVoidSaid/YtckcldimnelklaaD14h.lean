/- What the functions answer: group 14h. -/
import Derived.Test.YtckcldimnelklaaD14l
namespace Go.Proofs.Ytckcldimnelklaa
open Go
set_option linter.unusedVariables false
set_option linter.unusedSimpArgs false
set_option maxRecDepth 100000
set_option maxHeartbeats 4000000

def hear14_l1 (q0 : Int × Int × Int × Bool × (List (((List Rw) × (List Rw)) × ((List Rw) × (List Rw))))) (y155 : ((List Rw) × (List Rw))) (y182 : ((List Rw) × (List Rw))) (K490 : (List Rw) → Option ((List Rw) × (Int × Int × Int × Bool × (List (((List Rw) × (List Rw)) × ((List Rw) × (List Rw))))) × (List Rw) × (List Rw))) : Nat → Int → (List Rw) → Option ((List Rw) × (Int × Int × Int × Bool × (List (((List Rw) × (List Rw)) × ((List Rw) × (List Rw))))) × (List Rw) × (List Rw))
  | 0, _, _ => none
  | k496 + 1, i481, l482 => if i481 < (((List.replicate (q0.1).toNat Rw.none).length : Nat) : Int) then (if q0.1 ≤ q0.2.2.1 then (Option.bind (of14 (q0.1, q0.2.1, q0.2.2.1 + 1, true, (q0.2.2.2.2).set (q0.2.2.1 % (q0.1 + 1)).toNat ((([] : List Rw), y155.2), (([] : List Rw), y182.2))) i481 q0.2.2.1) fun (y527 : Rw) => (Option.bind (copy13 y527) fun (y544 : Rw) => (Option.bind (rd l482 i481) fun (x555 : Rw) => (if -9223372036854775808 ≤ i481 + 1 ∧ i481 + 1 ≤ 9223372036854775807 then (hear14_l1 q0 y155 y182 K490 k496 (i481 + 1) ((l482).set (i481).toNat (⟨y544.is, y544.cell, y544.table⟩ : Rw))) else none)))) else (if -9223372036854775808 ≤ i481 + 1 ∧ i481 + 1 ≤ 9223372036854775807 then (hear14_l1 q0 y155 y182 K490 k496 (i481 + 1) l482) else none)) else (K490 l482)

def hear14 (q0 : Int × Int × Int × Bool × (List (((List Rw) × (List Rw)) × ((List Rw) × (List Rw))))) (p1 : (List Rw) × (List Rw) × (List Rw) × (List Rw)) : Option ((List Rw) × (Int × Int × Int × Bool × (List (((List Rw) × (List Rw)) × ((List Rw) × (List Rw))))) × (List Rw) × (List Rw)) := if q0.1 = 0 then (none) else (if -9223372036854775808 ≤ q0.2.2.1 + 1 ∧ q0.2.2.1 + 1 ≤ 9223372036854775807 then (if -9223372036854775808 ≤ q0.1 + 1 ∧ q0.1 + 1 ≤ 9223372036854775807 then (if 0 ≤ q0.2.2.1 ∧ 0 < (q0.1 + 1 : Int) ∧ (q0.1 + 1 : Int) ≤ 9223372036854775807 then (Option.bind (side14 (q0.1, q0.2.1, q0.2.2.1 + 1, true, q0.2.2.2.2) 0 p1.1 p1.2.1) fun (y155 : ((List Rw) × (List Rw))) => (Option.bind (side14 (q0.1, q0.2.1, q0.2.2.1 + 1, true, q0.2.2.2.2) 1 p1.2.2.1 p1.2.2.2) fun (y182 : ((List Rw) × (List Rw))) => (Option.bind (rd q0.2.2.2.2 (q0.2.2.1 % (q0.1 + 1))) fun (x210 : ((List Rw) × (List Rw)) × ((List Rw) × (List Rw))) => (if 0 ≤ q0.1 ∧ q0.1 < 1000000 then (hear14_l1 q0 y155 y182 (fun (l486 : List Rw) => (some (l486, (q0.1, q0.2.1, q0.2.2.1 + 1, true, (q0.2.2.2.2).set (q0.2.2.1 % (q0.1 + 1)).toNat ((([] : List Rw), y155.2), (([] : List Rw), y182.2))), y155.1, y182.1))) 1000000 0 (List.replicate (q0.1).toNat Rw.none)) else none)))) else none) else none) else none)

end Go.Proofs.Ytckcldimnelklaa
