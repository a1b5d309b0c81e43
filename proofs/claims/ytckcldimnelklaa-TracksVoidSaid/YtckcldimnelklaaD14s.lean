/- What the functions answer: group 14s. -/
import Derived.Test.YtckcldimnelklaaD14l
namespace Go.Proofs.Ytckcldimnelklaa
open Go
set_option linter.unusedVariables false
set_option linter.unusedSimpArgs false
set_option maxRecDepth 100000
set_option maxHeartbeats 4000000

def say14_l1 (q0 : Int × Int × Int × Bool × (List (((List Rw) × (List Rw)) × ((List Rw) × (List Rw))))) (p1 : Rw) (K500 : (List Rw) → (List Rw) → Option ((List Rw) × (List Rw) × (Int × Int × Int × Bool × (List (((List Rw) × (List Rw)) × ((List Rw) × (List Rw))))))) : Nat → Int → (List Rw) → (List Rw) → Option ((List Rw) × (List Rw) × (Int × Int × Int × Bool × (List (((List Rw) × (List Rw)) × ((List Rw) × (List Rw))))))
  | 0, _, _, _ => none
  | k506 + 1, i491, l492, l494 => if i491 < 2 then (if i491 = 0 then (Option.bind (plainn14 q0.1 p1) fun (y533 : Rw) => (Option.bind (rd l492 q0.2.1) fun (x548 : Rw) => (if -9223372036854775808 ≤ i491 + 1 ∧ i491 + 1 ≤ 9223372036854775807 then (say14_l1 q0 p1 K500 k506 (i491 + 1) ((l492).set (q0.2.1).toNat y533) l494) else none))) else (if i491 = 1 then (Option.bind (plainn14 q0.1 p1) fun (y588 : Rw) => (Option.bind (rd l494 q0.2.1) fun (x603 : Rw) => (if -9223372036854775808 ≤ i491 + 1 ∧ i491 + 1 ≤ 9223372036854775807 then (say14_l1 q0 p1 K500 k506 (i491 + 1) l492 ((l494).set (q0.2.1).toNat y588)) else none))) else none)) else (K500 l492 l494)

def say14 (q0 : Int × Int × Int × Bool × (List (((List Rw) × (List Rw)) × ((List Rw) × (List Rw))))) (p1 : Rw) (t0 : List Rw) (t1 : List Rw) : Option ((List Rw) × (List Rw) × (Int × Int × Int × Bool × (List (((List Rw) × (List Rw)) × ((List Rw) × (List Rw)))))) := if q0.2.2.2.1 = true then (if -9223372036854775808 ≤ q0.2.2.1 - 1 ∧ q0.2.2.1 - 1 ≤ 9223372036854775807 then (if -9223372036854775808 ≤ q0.1 + 1 ∧ q0.1 + 1 ≤ 9223372036854775807 then (if 0 ≤ q0.2.2.1 - 1 ∧ 0 < (q0.1 + 1 : Int) ∧ (q0.1 + 1 : Int) ≤ 9223372036854775807 then (Option.bind (rd q0.2.2.2.2 ((q0.2.2.1 - 1) % (q0.1 + 1))) fun (x146 : ((List Rw) × (List Rw)) × ((List Rw) × (List Rw))) => (say14_l1 q0 p1 (fun (l496 : List Rw) (l498 : List Rw) => (Option.bind (copies14 l496) fun (y664 : (List Rw)) => (Option.bind (copies14 l498) fun (y689 : (List Rw)) => (some (y664, y689, (q0.1, q0.2.1, q0.2.2.1, false, (q0.2.2.2.2).set ((q0.2.2.1 - 1) % (q0.1 + 1)).toNat ((l496, x146.1.2), (l498, x146.2.2)))))))) 1000000 0 t0 t1)) else none) else none) else none) else (none)

end Go.Proofs.Ytckcldimnelklaa
