/- What the functions answer: group 13b. -/
import Derived.Test.YtckcldimnelklaaD13c
namespace Go.Proofs.Ytckcldimnelklaa
open Go
set_option linter.unusedVariables false
set_option linter.unusedSimpArgs false
set_option maxRecDepth 100000
set_option maxHeartbeats 4000000

def held13 (p0 : Hd) : Option Hd := if p0.is = true then (Option.bind (cell13 p0.cell) fun (y120 : Cl) => (some (⟨true, y120⟩ : Hd))) else (some Hd.none)

def filledH13_l1 (p0 : Int) (p1 : List Hd) (K210 : (List Hd) → Option (List Hd)) : Nat → Int → (List Hd) → Option (List Hd)
  | 0, _, _ => none
  | k216 + 1, i203, l204 => if i203 < (min p0 ((p1.length : Nat) : Int)) then (Option.bind (rd p1 i203) fun (x230 : Hd) => (Option.bind (held13 x230) fun (y244 : Hd) => (Option.bind (rd l204 i203) fun (x252 : Hd) => (if -9223372036854775808 ≤ i203 + 1 ∧ i203 + 1 ≤ 9223372036854775807 then (filledH13_l1 p0 p1 K210 k216 (i203 + 1) ((l204).set (i203).toNat y244)) else none)))) else (K210 l204)

def filledH13 (p0 : Int) (p1 : List Hd) : Option (List Hd) := if 0 ≤ p0 ∧ p0 < 1000000 then (filledH13_l1 p0 p1 (fun (l207 : List Hd) => (some l207)) 1000000 0 (List.replicate (p0).toNat Hd.none)) else none

def plain13 (p0 : Int) (p1 : Rw) : Option Rw := if p1.is = true then (Option.bind (may13 p0) fun (y121 : Bool) => (if y121 = true then (Option.bind (cell13 p1.cell) fun (y134 : Cl) => (Option.bind (filledH13 p0 p1.table) fun (y142 : (List Hd)) => (some (⟨true, y134, y142⟩ : Rw)))) else (some Rw.none))) else (some Rw.none)

def norm1_13 (p0 : Rw) (q1 : Int) : Option Rw := Option.bind (plain13 q1 p0) fun (y118 : Rw) => (some y118)

def filledR13_l1 (p0 : Int) (p1 : List Rw) (q40 : Int) (K281 : (List Rw) → Option (List Rw)) : Nat → Int → (List Rw) → Option (List Rw)
  | 0, _, _ => none
  | k287 + 1, i272, l273 => if i272 < (min p0 ((p1.length : Nat) : Int)) then (Option.bind (rd p1 i272) fun (x303 : Rw) => (Option.bind (norm1_13 x303 q40) fun (y325 : Rw) => (Option.bind (rd l273 i272) fun (x339 : Rw) => (if -9223372036854775808 ≤ i272 + 1 ∧ i272 + 1 ≤ 9223372036854775807 then (filledR13_l1 p0 p1 q40 K281 k287 (i272 + 1) ((l273).set (i272).toNat y325)) else none)))) else (K281 l273)

def filledR13 (p0 : Int) (p1 : List Rw) (q40 : Int) : Option (List Rw) := if 0 ≤ p0 ∧ p0 < 1000000 then (filledR13_l1 p0 p1 q40 (fun (l277 : List Rw) => (some l277)) 1000000 0 (List.replicate (p0).toNat Rw.none)) else none

def norm13 (p0 : Int) (p1 : (List Rw)) : Option (List Rw) := Option.bind (may13 p0) fun (y126 : Bool) => (if y126 = true then (Option.bind (filledR13 p0 p1 p0) fun (y137 : (List Rw)) => (some y137)) else (some []))

def equal13_l1 (p0 : List Hd) (p1 : List Hd) (K193 : Unit → Option Bool) : Nat → Int → Option Bool
  | 0, _ => none
  | k199 + 1, i192 => if i192 < ((p0.length : Nat) : Int) then (Option.bind (rd p0 i192) fun (x214 : Hd) => (Option.bind (rd p1 i192) fun (x229 : Hd) => (if ¬ (x214 = x229) then (some false) else (if -9223372036854775808 ≤ i192 + 1 ∧ i192 + 1 ≤ 9223372036854775807 then (equal13_l1 p0 p1 K193 k199 (i192 + 1)) else none)))) else (K193 ())

def equal13 (p0 : List Hd) (p1 : List Hd) : Option Bool := if ((p0.length : Nat) : Int) = ((p1.length : Nat) : Int) then (equal13_l1 p0 p1 (fun (_ : Unit) => (some true)) 1000000 0) else (some false)

def same13 (p0 : Rw) (p1 : Rw) : Option Bool := if p0.is = true then (if p1.is = true then (if p0.cell = p1.cell then (Option.bind (equal13 p0.table p1.table) fun (y125 : Bool) => (some y125)) else (some false)) else (some false)) else (if p1.is = true then (some false) else (if p0.cell = p1.cell then (Option.bind (equal13 p0.table p1.table) fun (y151 : Bool) => (some y151)) else (some false)))

def fine13_l1 (p0 : Cl) (K207 : Unit → Option Bool) : Nat → Int → Option Bool
  | 0, _ => none
  | k213 + 1, i206 => if i206 < 2 then (if i206 = 0 then (if p0.offer.at_ < 0 then (some false) else (if 1099511627776 < p0.offer.at_ then (some false) else (if p0.offer.is = true then (if p0.offer.kind = 1 then (if -9223372036854775808 ≤ i206 + 1 ∧ i206 + 1 ≤ 9223372036854775807 then (fine13_l1 p0 K207 k213 (i206 + 1)) else none) else (if p0.offer.kind = 2 then (if -9223372036854775808 ≤ i206 + 1 ∧ i206 + 1 ≤ 9223372036854775807 then (fine13_l1 p0 K207 k213 (i206 + 1)) else none) else (some false))) else (if ¬ (p0.offer = Sd.none) then (some false) else (if -9223372036854775808 ≤ i206 + 1 ∧ i206 + 1 ≤ 9223372036854775807 then (fine13_l1 p0 K207 k213 (i206 + 1)) else none))))) else (if i206 = 1 then (if p0.report.at_ < 0 then (some false) else (if 1099511627776 < p0.report.at_ then (some false) else (if p0.report.is = true then (if p0.report.kind = 1 then (if -9223372036854775808 ≤ i206 + 1 ∧ i206 + 1 ≤ 9223372036854775807 then (fine13_l1 p0 K207 k213 (i206 + 1)) else none) else (if p0.report.kind = 2 then (if -9223372036854775808 ≤ i206 + 1 ∧ i206 + 1 ≤ 9223372036854775807 then (fine13_l1 p0 K207 k213 (i206 + 1)) else none) else (some false))) else (if ¬ (p0.report = Sd.none) then (some false) else (if -9223372036854775808 ≤ i206 + 1 ∧ i206 + 1 ≤ 9223372036854775807 then (fine13_l1 p0 K207 k213 (i206 + 1)) else none))))) else none)) else (K207 ())

def fine13 (p0 : Cl) : Option Bool := fine13_l1 p0 (fun (_ : Unit) => (if (-1) ≤ p0.age then (if p0.age ≤ 1099511627776 then (if (-1) ≤ p0.view.command then (if p0.view.command < 8 then (if p0.view.mode < 8 then (some true) else (some false)) else (some false)) else (some false)) else (some false)) else (some false))) 1000000 0

def great13_l1 (p0 : (List Rw)) (K179 : Int → Option Bool) : Nat → Int → Int → Option Bool
  | 0, _, _ => none
  | k185 + 1, i176, i177 => if i177 < ((p0.length : Nat) : Int) then (if i176 < 900 then (Option.bind (rd p0 i177) fun (x199 : Rw) => (if -9223372036854775808 ≤ i177 + 1 ∧ i177 + 1 ≤ 9223372036854775807 then (great13_l1 p0 K179 k185 (IntKind.wrap .i64 (i176 + ((x199.table.length : Nat) : Int))) (i177 + 1)) else none)) else (K179 i176)) else (K179 i176)

def great13 (p0 : (List Rw)) : Option Bool := great13_l1 p0 (fun (i178 : Int) => (if 800 < i178 then (some true) else (some false))) 1000000 ((p0.length : Nat) : Int) 0

def lives13 : Option Bool := Option.bind (cell13 (⟨-5, (⟨true, Sd.none.at_, 9, 0, 0, 0⟩ : Sd), Cl.zero.report, (⟨Vw.zero.i0, Vw.zero.i1, Vw.zero.i2, Vw.zero.i3, Vw.zero.i4, Vw.zero.i5, Vw.zero.i6, Vw.zero.i7, Vw.zero.m0, Vw.zero.m1, Vw.zero.m2, Vw.zero.m3, Vw.zero.m4, Vw.zero.m5, Vw.zero.m6, Vw.zero.m7, Vw.zero.g0, Vw.zero.g1, Vw.zero.g2, Vw.zero.g3, Vw.zero.g4, Vw.zero.g5, Vw.zero.g6, Vw.zero.g7, Vw.zero.s0, Vw.zero.s1, Vw.zero.s2, Vw.zero.s3, Vw.zero.s4, Vw.zero.s5, Vw.zero.s6, Vw.zero.s7, Vw.zero.t0, Vw.zero.t1, Vw.zero.t2, Vw.zero.t3, Vw.zero.t4, Vw.zero.t5, Vw.zero.t6, Vw.zero.t7, 99, Vw.zero.mode⟩ : Vw)⟩ : Cl)) fun (y105 : Cl) => (Option.bind (norm13 2 [(⟨Rw.none.is, (⟨5, Cl.zero.offer, Cl.zero.report, Cl.zero.view⟩ : Cl), []⟩ : Rw)]) fun (y149 : (List Rw)) => (Option.bind (plain13 1 (⟨true, (⟨7, Cl.zero.offer, Cl.zero.report, Cl.zero.view⟩ : Cl), []⟩ : Rw)) fun (y176 : Rw) => (if y105 = (⟨-1, Cl.zero.offer, Cl.zero.report, (⟨Vw.zero.i0, Vw.zero.i1, Vw.zero.i2, Vw.zero.i3, Vw.zero.i4, Vw.zero.i5, Vw.zero.i6, Vw.zero.i7, Vw.zero.m0, Vw.zero.m1, Vw.zero.m2, Vw.zero.m3, Vw.zero.m4, Vw.zero.m5, Vw.zero.m6, Vw.zero.m7, Vw.zero.g0, Vw.zero.g1, Vw.zero.g2, Vw.zero.g3, Vw.zero.g4, Vw.zero.g5, Vw.zero.g6, Vw.zero.g7, Vw.zero.s0, Vw.zero.s1, Vw.zero.s2, Vw.zero.s3, Vw.zero.s4, Vw.zero.s5, Vw.zero.s6, Vw.zero.s7, Vw.zero.t0, Vw.zero.t1, Vw.zero.t2, Vw.zero.t3, Vw.zero.t4, Vw.zero.t5, Vw.zero.t6, Vw.zero.t7, -1, Vw.zero.mode⟩ : Vw)⟩ : Cl) then (if ((y149.length : Nat) : Int) = 2 then (Option.bind (rd y149 0) fun (x207 : Rw) => (if x207.is = true then (some false) else (if x207.cell = Cl.zero then (if y176.is = true then (if y176.cell.age = 7 then (if ((y176.table.length : Nat) : Int) = 1 then (some true) else (some false)) else (some false)) else (some false)) else (some false)))) else (some false)) else (some false))))

end Go.Proofs.Ytckcldimnelklaa
