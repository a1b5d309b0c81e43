/- What the functions answer: group 14l. -/
import Derived.Test.YtckcldimnelklaaD14n
import Derived.Test.YtckcldimnelklaaD13e
namespace Go.Proofs.Ytckcldimnelklaa
open Go
set_option linter.unusedVariables false
set_option linter.unusedSimpArgs false
set_option maxRecDepth 100000
set_option maxHeartbeats 4000000

def lnew14 (p0 : Int) (p1 : Int) : Option ((Option (Int × Int × Int × Bool × (List (((List Rw) × (List Rw)) × ((List Rw) × (List Rw)))))) × Int) := if p0 < 4 then (some (none, 1)) else (if 16 < p0 then (some (none, 1)) else (if p1 < 0 then (some (none, 1)) else (if p0 ≤ p1 then (some (none, 1)) else (if -9223372036854775808 ≤ p0 + 1 ∧ p0 + 1 ≤ 9223372036854775807 then (if 0 ≤ p0 + 1 ∧ p0 + 1 < 1000000 then (some ((some (p0, p1, 0, false, List.replicate (p0 + 1).toNat ((([], []), ([], [])) : ((List Rw) × (List Rw)) × ((List Rw) × (List Rw))))), 0)) else none) else none))))

def dist14 (q0 : Int × Int × Int × Bool × (List (((List Rw) × (List Rw)) × ((List Rw) × (List Rw))))) (p1 : Int) (p2 : Int) : Option Int := if p1 = 0 then (if -9223372036854775808 ≤ q0.2.1 - p2 ∧ q0.2.1 - p2 ≤ 9223372036854775807 then (if -9223372036854775808 ≤ (q0.2.1 - p2) + q0.1 ∧ (q0.2.1 - p2) + q0.1 ≤ 9223372036854775807 then (if 0 ≤ (q0.2.1 - p2) + q0.1 ∧ 0 < (q0.1 : Int) ∧ (q0.1 : Int) ≤ 9223372036854775807 then (some (((q0.2.1 - p2) + q0.1) % q0.1)) else none) else none) else none) else (if -9223372036854775808 ≤ p2 - q0.2.1 ∧ p2 - q0.2.1 ≤ 9223372036854775807 then (if -9223372036854775808 ≤ (p2 - q0.2.1) + q0.1 ∧ (p2 - q0.2.1) + q0.1 ≤ 9223372036854775807 then (if 0 ≤ (p2 - q0.2.1) + q0.1 ∧ 0 < (q0.1 : Int) ∧ (q0.1 : Int) ≤ 9223372036854775807 then (some (((p2 - q0.2.1) + q0.1) % q0.1)) else none) else none) else none)

def side14_l1 (q0 : Int × Int × Int × Bool × (List (((List Rw) × (List Rw)) × ((List Rw) × (List Rw))))) (p1 : Int) (K594 : (List Rw) → (List Rw) → Option ((List Rw) × (List Rw))) : Nat → Int → (List Rw) → (List Rw) → Option ((List Rw) × (List Rw))
  | 0, _, _, _ => none
  | k600 + 1, i577, l578, l582 => if i577 < q0.1 then (Option.bind (dist14 q0 p1 i577) fun (y624 : Int) => (if y624 = 0 then (Option.bind (rd l578 i577) fun (x640 : Rw) => (Option.bind (rd l582 i577) fun (x674 : Rw) => (if -9223372036854775808 ≤ i577 + 1 ∧ i577 + 1 ≤ 9223372036854775807 then (side14_l1 q0 p1 K594 k600 (i577 + 1) ((l578).set (i577).toNat Rw.none) ((l582).set (i577).toNat Rw.none)) else none))) else (if y624 = 1 then (Option.bind (rd l582 i577) fun (x722 : Rw) => (Option.bind (rd l578 i577) fun (x747 : Rw) => (Option.bind (rd l582 i577) fun (x781 : Rw) => (if -9223372036854775808 ≤ i577 + 1 ∧ i577 + 1 ≤ 9223372036854775807 then (side14_l1 q0 p1 K594 k600 (i577 + 1) ((l578).set (i577).toNat x722) ((l582).set (i577).toNat Rw.none)) else none)))) else (if -9223372036854775808 ≤ i577 + 1 ∧ i577 + 1 ≤ 9223372036854775807 then (side14_l1 q0 p1 K594 k600 (i577 + 1) l578 l582) else none)))) else (K594 l578 l582)

def side14 (q0 : Int × Int × Int × Bool × (List (((List Rw) × (List Rw)) × ((List Rw) × (List Rw))))) (p1 : Int) (p2 : (List Rw)) (p3 : (List Rw)) : Option ((List Rw) × (List Rw)) := Option.bind (normn14 q0.1 p2) fun (y134 : (List Rw)) => (Option.bind (normn14 q0.1 p3) fun (y157 : (List Rw)) => (side14_l1 q0 p1 (fun (l586 : List Rw) (l590 : List Rw) => (some (l586, l590))) 1000000 0 y157 y134))

def cert14_l2 (p0 : List Rw) (i915 : Int) (x946 : Rw) (K1186 : Rw → Option Rw) : Nat → Int → Rw → Option Rw
  | 0, _, _ => none
  | k1192 + 1, i1179, d1180 => if i1179 < (((p0.take (i915).toNat).length : Nat) : Int) then (Option.bind (rd (p0.take (i915).toNat) i1179) fun (x1218 : Rw) => (if x946.is = true then (Option.bind (samen14 x946 x1218) fun (y1254 : Bool) => (if y1254 = true then (if d1180.is = true then (Option.bind (samen14 d1180 x946) fun (y1269 : Bool) => (if y1269 = true then (if -9223372036854775808 ≤ i1179 + 1 ∧ i1179 + 1 ≤ 9223372036854775807 then (cert14_l2 p0 i915 x946 K1186 k1192 (i1179 + 1) x946) else none) else (some Rw.none))) else (if -9223372036854775808 ≤ i1179 + 1 ∧ i1179 + 1 ≤ 9223372036854775807 then (cert14_l2 p0 i915 x946 K1186 k1192 (i1179 + 1) x946) else none)) else (if -9223372036854775808 ≤ i1179 + 1 ∧ i1179 + 1 ≤ 9223372036854775807 then (cert14_l2 p0 i915 x946 K1186 k1192 (i1179 + 1) d1180) else none))) else (if -9223372036854775808 ≤ i1179 + 1 ∧ i1179 + 1 ≤ 9223372036854775807 then (cert14_l2 p0 i915 x946 K1186 k1192 (i1179 + 1) d1180) else none))) else (K1186 d1180)

def cert14_l1 (p0 : List Rw) (K922 : Rw → Option Rw) : Nat → Int → Rw → Option Rw
  | 0, _, _ => none
  | k928 + 1, i915, d916 => if i915 < ((p0.length : Nat) : Int) then (Option.bind (rd p0 i915) fun (x946 : Rw) => (if 0 ≤ i915 ∧ i915 ≤ ((p0.length : Nat) : Int) then (cert14_l2 p0 i915 x946 (fun (d1183 : Rw) => (if -9223372036854775808 ≤ i915 + 1 ∧ i915 + 1 ≤ 9223372036854775807 then (cert14_l1 p0 K922 k928 (i915 + 1) d1183) else none)) 1000000 0 d916) else none)) else (K922 d916)

def cert14 (p0 : List Rw) : Option Rw := cert14_l1 p0 (fun (d919 : Rw) => (some d919)) 1000000 0 Rw.none

def was14 (p0 : Int) (q1 : Int × Int × Int × Bool × (List (((List Rw) × (List Rw)) × ((List Rw) × (List Rw))))) (q2 : Int) : Option (((List Rw) × (List Rw)) × ((List Rw) × (List Rw))) := if -9223372036854775808 ≤ q2 - p0 ∧ q2 - p0 ≤ 9223372036854775807 then (if -9223372036854775808 ≤ q1.1 + 1 ∧ q1.1 + 1 ≤ 9223372036854775807 then (if 0 ≤ q2 - p0 ∧ 0 < (q1.1 + 1 : Int) ∧ (q1.1 + 1 : Int) ≤ 9223372036854775807 then (Option.bind (rd q1.2.2.2.2 ((q2 - p0) % (q1.1 + 1))) fun (x128 : ((List Rw) × (List Rw)) × ((List Rw) × (List Rw))) => (some x128)) else none) else none) else none

def of14_l1 (p1 : Int) (q0 : Int × Int × Int × Bool × (List (((List Rw) × (List Rw)) × ((List Rw) × (List Rw))))) (q41 : Int) (K1747 : (List Rw) → Option Rw) : Nat → Int → (List Rw) → Option Rw
  | 0, _, _ => none
  | k1753 + 1, i1738, l1739 => if i1738 < 2 then (jn (fun (l1984 : List Rw) (l1988 : List Rw) => (Option.bind (rd l1984 p1) fun (x2265 : Rw) => (Option.bind (rd l1988 p1) fun (x2288 : Rw) => (if l1739.length < 1000000 then (if -9223372036854775808 ≤ i1738 + 1 ∧ i1738 + 1 ≤ 9223372036854775807 then (of14_l1 p1 q0 q41 K1747 k1753 (i1738 + 1) (l1739 ++ [x2265, x2288])) else none) else none)))) fun J1991 => (Option.bind (dist14 q0 i1738 p1) fun (y2009 : Int) => (if -9223372036854775808 ≤ q0.1 - y2009 ∧ q0.1 - y2009 ≤ 9223372036854775807 then (Option.bind (was14 (q0.1 - y2009) q0 q41) fun (y2020 : (((List Rw) × (List Rw)) × ((List Rw) × (List Rw)))) => (if i1738 = 0 then (J1991 y2020.1.1 y2020.1.2) else (if i1738 = 1 then (J1991 y2020.2.1 y2020.2.2) else none))) else none))) else (K1747 l1739)

def of14 (q0 : Int × Int × Int × Bool × (List (((List Rw) × (List Rw)) × ((List Rw) × (List Rw))))) (p1 : Int) (q41 : Int) : Option Rw := if p1 = q0.2.1 then (Option.bind (was14 q0.1 q0 q41) fun (y120 : (((List Rw) × (List Rw)) × ((List Rw) × (List Rw)))) => (Option.bind (rd y120.1.1 p1) fun (x159 : Rw) => (some x159))) else (of14_l1 p1 q0 q41 (fun (l1743 : List Rw) => (Option.bind (cert14 l1743) fun (y2361 : Rw) => (some y2361))) 1000000 0 ([] : List Rw))

def copies14_l1 (p0 : List Rw) (K321 : (List Rw) → Option (List Rw)) : Nat → Int → (List Rw) → Option (List Rw)
  | 0, _, _ => none
  | k327 + 1, i312, l313 => if i312 < ((p0.length : Nat) : Int) then (Option.bind (rd p0 i312) fun (x342 : Rw) => (Option.bind (copy13 x342) fun (y375 : Rw) => (Option.bind (rd l313 i312) fun (x387 : Rw) => (if -9223372036854775808 ≤ i312 + 1 ∧ i312 + 1 ≤ 9223372036854775807 then (copies14_l1 p0 K321 k327 (i312 + 1) ((l313).set (i312).toNat (⟨y375.is, y375.cell, y375.table⟩ : Rw))) else none)))) else (K321 l313)

def copies14 (p0 : List Rw) : Option (List Rw) := if p0.length < 1000000 then (copies14_l1 p0 (fun (l317 : List Rw) => (some l317)) 1000000 0 (List.replicate (((p0.length : Nat) : Int)).toNat Rw.none)) else none

end Go.Proofs.Ytckcldimnelklaa
