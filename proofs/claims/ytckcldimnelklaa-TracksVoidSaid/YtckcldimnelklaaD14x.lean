/- What the functions answer: group 14x. -/
import Derived.Test.YtckcldimnelklaaDLa
import Derived.Test.YtckcldimnelklaaD14n
namespace Go.Proofs.Ytckcldimnelklaa
open Go
set_option linter.unusedVariables false
set_option linter.unusedSimpArgs false
set_option maxRecDepth 100000
set_option maxHeartbeats 4000000

def lives14 : Option Bool := Option.bind (lnew14 4 1) fun (y101 : (Option (Int × Int × Int × Bool × (List (((List Rw) × (List Rw)) × ((List Rw) × (List Rw)))))) × Int) => (oc y101.1 (none) (fun (q112 : Int × Int × Int × Bool × (List (((List Rw) × (List Rw)) × ((List Rw) × (List Rw))))) => if q112.2.2.2.1 = false then (if (0 : Int) ≤ 4 ∧ (4 : Int) < 1000000 then (Option.bind (hearU q112 ([], [], [], [])) fun (y179 : (List Rw) × LaneD) => (Option.bind (hearU y179.2 ([(⟨true, (⟨7, Cl.zero.offer, Cl.zero.report, Cl.zero.view⟩ : Cl), List.replicate (4 : Int).toNat Hd.none⟩ : Rw)], [], [], [])) fun (y221 : (List Rw) × LaneD) => (Option.bind (sayU y221.2 Rw.none) fun (y242 : (List Rw) × (List Rw) × LaneD) => (Option.bind (sayU y242.2.2 Rw.none) fun (y290 : (List Rw) × (List Rw) × LaneD) => (if y101.2 = 0 then (if ((y242.1.length : Nat) : Int) = 4 then (Option.bind (rd y242.1 0) fun (x344 : Rw) => (Option.bind (samen14 x344 (⟨true, (⟨7, Cl.zero.offer, Cl.zero.report, Cl.zero.view⟩ : Cl), List.replicate (4 : Int).toNat Hd.none⟩ : Rw)) fun (y367 : Bool) => (if y367 = true then (if ((y242.2.1.length : Nat) : Int) = 4 then (Option.bind (rd y242.2.1 0) fun (x381 : Rw) => (if x381.is = true then (some false) else (if ((y290.1.length : Nat) : Int) = 0 then (Option.bind (hearU y290.2.2 ([], [], [], [])) fun (y412 : (List Rw) × LaneD) => (Option.bind (hearU y412.2 ([], [], [], [(⟨true, (⟨7, Cl.zero.offer, Cl.zero.report, Cl.zero.view⟩ : Cl), List.replicate (4 : Int).toNat Hd.none⟩ : Rw)])) fun (y433 : (List Rw) × LaneD) => (Option.bind (hearU y433.2 ([], [], [], [])) fun (y454 : (List Rw) × LaneD) => (Option.bind (hearU y454.2 ([], [], [], [])) fun (y474 : (List Rw) × LaneD) => (if ((y454.1.length : Nat) : Int) = 4 then (Option.bind (rd y454.1 0) fun (x497 : Rw) => (Option.bind (samen14 x497 (⟨true, (⟨7, Cl.zero.offer, Cl.zero.report, Cl.zero.view⟩ : Cl), List.replicate (4 : Int).toNat Hd.none⟩ : Rw)) fun (y520 : Bool) => (if y520 = true then (Option.bind (rd y454.1 2) fun (x531 : Rw) => (if x531.is = true then (some false) else (if ((y474.1.length : Nat) : Int) = 4 then (Option.bind (rd y474.1 0) fun (x563 : Rw) => (some (!x563.is))) else (some false)))) else (some false)))) else (some false)))))) else (some false)))) else (some false)) else (some false)))) else (some false)) else (some false)))))) else none) else none))

def great14_l3 (x2232 : ((List Rw) × (List Rw) × (List Rw) × (List Rw)) × Rw × Int) (i2944 : Int) (K3175 : Int → Option Bool) : Nat → Int → Int → Option Bool
  | 0, _, _ => none
  | k3181 + 1, i3172, i3173 => Option.bind (rd [x2232.1.1, x2232.1.2.1, x2232.1.2.2.1, x2232.1.2.2.2, [x2232.2.1]] i2944) fun (x3197 : (List Rw)) => (if i3173 < ((x3197.length : Nat) : Int) then (Option.bind (rd [x2232.1.1, x2232.1.2.1, x2232.1.2.2.1, x2232.1.2.2.2, [x2232.2.1]] i2944) fun (x3219 : (List Rw)) => (Option.bind (rd x3219 i3173) fun (x3239 : Rw) => (if -9223372036854775808 ≤ i3173 + 1 ∧ i3173 + 1 ≤ 9223372036854775807 then (great14_l3 x2232 i2944 K3175 k3181 (IntKind.wrap .i64 (i3172 + ((x3239.table.length : Nat) : Int))) (i3173 + 1)) else none))) else (K3175 i3172))

def great14_l2 (x2232 : ((List Rw) × (List Rw) × (List Rw) × (List Rw)) × Rw × Int) (K2948 : Int → Option Bool) : Nat → Int → Int → Option Bool
  | 0, _, _ => none
  | k2954 + 1, i2943, i2944 => if i2944 < 5 then (Option.bind (rd [x2232.1.1, x2232.1.2.1, x2232.1.2.2.1, x2232.1.2.2.2, [x2232.2.1]] i2944) fun (x2971 : (List Rw)) => (Option.bind (greatn14 x2971) fun (y2991 : Bool) => (if y2991 = true then (some true) else (if 6000 < i2943 then (some true) else (Option.bind (rd [x2232.1.1, x2232.1.2.1, x2232.1.2.2.1, x2232.1.2.2.2, [x2232.2.1]] i2944) fun (x3009 : (List Rw)) => (great14_l3 x2232 i2944 (fun (i3174 : Int) => (if -9223372036854775808 ≤ i2944 + 1 ∧ i2944 + 1 ≤ 9223372036854775807 then (great14_l2 x2232 K2948 k2954 i3174 (i2944 + 1)) else none)) 1000000 (IntKind.wrap .i64 (i2943 + ((x3009.length : Nat) : Int))) 0)))))) else (K2948 i2943)

def great14_l1 (p0 : List (((List Rw) × (List Rw) × (List Rw) × (List Rw)) × Rw × Int)) (K2213 : Int → Option Bool) : Nat → Int → Int → Option Bool
  | 0, _, _ => none
  | k2219 + 1, i2210, i2211 => if i2211 < ((p0.length : Nat) : Int) then (Option.bind (rd p0 i2211) fun (x2232 : ((List Rw) × (List Rw) × (List Rw) × (List Rw)) × Rw × Int) => (great14_l2 x2232 (fun (i2947 : Int) => (if -9223372036854775808 ≤ i2211 + 1 ∧ i2211 + 1 ≤ 9223372036854775807 then (great14_l1 p0 K2213 k2219 i2947 (i2211 + 1)) else none)) 1000000 i2210 0)) else (K2213 i2210)

def great14 (p0 : List (((List Rw) × (List Rw) × (List Rw) × (List Rw)) × Rw × Int)) : Option Bool := if 40 < ((p0.length : Nat) : Int) then (some true) else (great14_l1 p0 (fun (i2212 : Int) => (if 6000 < i2212 then (some true) else (some false))) 1000000 0 0)

end Go.Proofs.Ytckcldimnelklaa
