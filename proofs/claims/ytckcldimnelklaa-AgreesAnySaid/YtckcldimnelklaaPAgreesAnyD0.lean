/- Parts of the proof, put together: D13a, D13c, D13b, D13e, D13t, D13u, D13y, D15, D15p, D15s, D15o, D15y, D13d, D13g, D13o, D13r. -/
import Derived.Test.YtckcldimnelklaaTA
import Derived.Test.YtckcldimnelklaaTSd
import Derived.Test.YtckcldimnelklaaTT
import Derived.Test.YtckcldimnelklaaTP
/- What the functions answer: group 13a. -/
namespace Go.Proofs.Ytckcldimnelklaa
open Go
set_option linter.unusedVariables false
set_option linter.unusedSimpArgs false
set_option maxRecDepth 100000
set_option maxHeartbeats 4000000

def said13 (p0 : Sd) : Option Sd := if p0.is = true then (if p0.at_ < 0 then (some Sd.none) else (if 1099511627776 < p0.at_ then (some Sd.none) else (if p0.kind = 1 then (some p0) else (if p0.kind = 2 then (some p0) else (some Sd.none))))) else (some Sd.none)

def c1_13 (q0 : Cl) : Option Cl := if q0.age < 0 then (some (⟨-1, q0.offer, q0.report, q0.view⟩ : Cl)) else (if 1099511627776 < q0.age then (some (⟨-1, q0.offer, q0.report, q0.view⟩ : Cl)) else (some q0))

def c2_13 (q0 : Cl) : Option Cl := Option.bind (said13 q0.offer) fun (y103 : Sd) => (Option.bind (said13 q0.report) fun (y111 : Sd) => (some (⟨q0.age, y103, y111, q0.view⟩ : Cl)))

def c3_13 (q0 : Cl) : Option Cl := if q0.view.command < 0 then (some (⟨q0.age, q0.offer, q0.report, (⟨q0.view.i0, q0.view.i1, q0.view.i2, q0.view.i3, q0.view.i4, q0.view.i5, q0.view.i6, q0.view.i7, q0.view.m0, q0.view.m1, q0.view.m2, q0.view.m3, q0.view.m4, q0.view.m5, q0.view.m6, q0.view.m7, q0.view.g0, q0.view.g1, q0.view.g2, q0.view.g3, q0.view.g4, q0.view.g5, q0.view.g6, q0.view.g7, q0.view.s0, q0.view.s1, q0.view.s2, q0.view.s3, q0.view.s4, q0.view.s5, q0.view.s6, q0.view.s7, q0.view.t0, q0.view.t1, q0.view.t2, q0.view.t3, q0.view.t4, q0.view.t5, q0.view.t6, q0.view.t7, -1, q0.view.mode⟩ : Vw)⟩ : Cl)) else (if 8 ≤ q0.view.command then (some (⟨q0.age, q0.offer, q0.report, (⟨q0.view.i0, q0.view.i1, q0.view.i2, q0.view.i3, q0.view.i4, q0.view.i5, q0.view.i6, q0.view.i7, q0.view.m0, q0.view.m1, q0.view.m2, q0.view.m3, q0.view.m4, q0.view.m5, q0.view.m6, q0.view.m7, q0.view.g0, q0.view.g1, q0.view.g2, q0.view.g3, q0.view.g4, q0.view.g5, q0.view.g6, q0.view.g7, q0.view.s0, q0.view.s1, q0.view.s2, q0.view.s3, q0.view.s4, q0.view.s5, q0.view.s6, q0.view.s7, q0.view.t0, q0.view.t1, q0.view.t2, q0.view.t3, q0.view.t4, q0.view.t5, q0.view.t6, q0.view.t7, -1, q0.view.mode⟩ : Vw)⟩ : Cl)) else (some q0))

def c4_13 (q0 : Cl) : Option Cl := if 7 < q0.view.mode then (some (⟨q0.age, q0.offer, q0.report, (⟨q0.view.i0, q0.view.i1, q0.view.i2, q0.view.i3, q0.view.i4, q0.view.i5, q0.view.i6, q0.view.i7, q0.view.m0, q0.view.m1, q0.view.m2, q0.view.m3, q0.view.m4, q0.view.m5, q0.view.m6, q0.view.m7, q0.view.g0, q0.view.g1, q0.view.g2, q0.view.g3, q0.view.g4, q0.view.g5, q0.view.g6, q0.view.g7, q0.view.s0, q0.view.s1, q0.view.s2, q0.view.s3, q0.view.s4, q0.view.s5, q0.view.s6, q0.view.s7, q0.view.t0, q0.view.t1, q0.view.t2, q0.view.t3, q0.view.t4, q0.view.t5, q0.view.t6, q0.view.t7, q0.view.command, 0⟩ : Vw)⟩ : Cl)) else (some q0)

def may13 (p0 : Int) : Option Bool := if 0 ≤ p0 then (if p0 ≤ 16 then (some true) else (some false)) else (some false)

end Go.Proofs.Ytckcldimnelklaa

/- What words.Cell answers. -/
namespace Go.Proofs.Ytckcldimnelklaa
open Go

/-- What is left to do from the i-th step on. -/
def cellT13 : Nat → Cl → Option Cl
  | 0, c => Option.bind (c1_13 c) fun c => Option.bind (c2_13 c) fun c => Option.bind (c3_13 c) fun c => Option.bind (c4_13 c) some
  | 1, c => Option.bind (c2_13 c) fun c => Option.bind (c3_13 c) fun c => Option.bind (c4_13 c) some
  | 2, c => Option.bind (c3_13 c) fun c => Option.bind (c4_13 c) some
  | 3, c => Option.bind (c4_13 c) some
  | _, c => some c
def cell13 (p0 : Cl) : Option Cl := cellT13 0 p0
end Go.Proofs.Ytckcldimnelklaa

/- What the functions answer: group 13b. -/
namespace Go.Proofs.Ytckcldimnelklaa
open Go
set_option linter.unusedVariables false
set_option linter.unusedSimpArgs false
set_option maxRecDepth 100000
set_option maxHeartbeats 4000000

def held13 (p0 : Hd) : Option Hd := if p0.is = true then (Option.bind (cell13 p0.cell) fun (y120 : Cl) => (some (⟨true, y120⟩ : Hd))) else (some Hd.none)

def filledH13_l1 (p0 : Int) (p1 : List Hd) (K210 : (List Hd) → Option (List Hd)) : Nat → Int → (List Hd) → Option (List Hd)
  | 0, _, _ => none
  | k216 + 1, i203, l204 => if i203 < (min p0 ((p1.length : Nat) : Int)) then (Option.bind (rd p1 i203) fun (x230 : Hd) => (Option.bind (held13 x230) fun (y244 : Hd) => (Option.bind (rd l204 i203) fun (x252 : Hd) => (if -9223372036854775808 ≤ i203 + 1 ∧ i203 + 1 ≤ 9223372036854775807 then (filledH13_l1 p0 p1 K210 k216 (i203 + 1) ((l204).set (i203).toNat y244)) else none)))) else (K210 l204)

def filledH13 (p0 : Int) (p1 : List Hd) : Option (List Hd) := if 0 ≤ p0 ∧ p0 < 1000000 then (filledH13_l1 p0 p1 (fun (l207 : List Hd) => (some l207)) 1000000 0 (List.replicate (p0).toNat Hd.none)) else none

def plain13 (p0 : Int) (p1 : Rw) : Option Rw := if p1.is = true then (Option.bind (may13 p0) fun (y121 : Bool) => (if y121 = true then (Option.bind (cell13 p1.cell) fun (y134 : Cl) => (Option.bind (filledH13 p0 p1.table) fun (y142 : (List Hd)) => (some (⟨true, y134, y142⟩ : Rw)))) else (some Rw.none))) else (some Rw.none)

def norm1_13 (p0 : Rw) (q1 : Int) : Option Rw := Option.bind (plain13 q1 p0) fun (y118 : Rw) => (some y118)

def filledR13_l1 (p0 : Int) (p1 : List Rw) (q40 : Int) (K281 : (List Rw) → Option (List Rw)) : Nat → Int → (List Rw) → Option (List Rw)
  | 0, _, _ => none
  | k287 + 1, i272, l273 => if i272 < (min p0 ((p1.length : Nat) : Int)) then (Option.bind (rd p1 i272) fun (x303 : Rw) => (Option.bind (norm1_13 x303 q40) fun (y325 : Rw) => (Option.bind (rd l273 i272) fun (x339 : Rw) => (if -9223372036854775808 ≤ i272 + 1 ∧ i272 + 1 ≤ 9223372036854775807 then (filledR13_l1 p0 p1 q40 K281 k287 (i272 + 1) ((l273).set (i272).toNat y325)) else none)))) else (K281 l273)

def filledR13 (p0 : Int) (p1 : List Rw) (q40 : Int) : Option (List Rw) := if 0 ≤ p0 ∧ p0 < 1000000 then (filledR13_l1 p0 p1 q40 (fun (l277 : List Rw) => (some l277)) 1000000 0 (List.replicate (p0).toNat Rw.none)) else none

def norm13 (p0 : Int) (p1 : (List Rw)) : Option (List Rw) := Option.bind (may13 p0) fun (y126 : Bool) => (if y126 = true then (Option.bind (filledR13 p0 p1 p0) fun (y137 : (List Rw)) => (some y137)) else (some []))

def equal13_l1 (p0 : List Hd) (p1 : List Hd) (K193 : Unit → Option Bool) : Nat → Int → Option Bool
  | 0, _ => none
  | k199 + 1, i192 => if i192 < ((p0.length : Nat) : Int) then (Option.bind (rd p0 i192) fun (x214 : Hd) => (Option.bind (rd p1 i192) fun (x229 : Hd) => (if ¬ (x214 = x229) then (some false) else (if -9223372036854775808 ≤ i192 + 1 ∧ i192 + 1 ≤ 9223372036854775807 then (equal13_l1 p0 p1 K193 k199 (i192 + 1)) else none)))) else (K193 ())

def equal13 (p0 : List Hd) (p1 : List Hd) : Option Bool := if ((p0.length : Nat) : Int) = ((p1.length : Nat) : Int) then (equal13_l1 p0 p1 (fun (_ : Unit) => (some true)) 1000000 0) else (some false)

def same13 (p0 : Rw) (p1 : Rw) : Option Bool := if p0.is = true then (if p1.is = true then (if p0.cell = p1.cell then (Option.bind (equal13 p0.table p1.table) fun (y125 : Bool) => (some y125)) else (some false)) else (some false)) else (if p1.is = true then (some false) else (if p0.cell = p1.cell then (Option.bind (equal13 p0.table p1.table) fun (y151 : Bool) => (some y151)) else (some false)))

def fine13_l1 (p0 : Cl) (K207 : Unit → Option Bool) : Nat → Int → Option Bool
  | 0, _ => none
  | k213 + 1, i206 => if i206 < 2 then (if i206 = 0 then (if p0.offer.at_ < 0 then (some false) else (if 1099511627776 < p0.offer.at_ then (some false) else (if p0.offer.is = true then (if p0.offer.kind = 1 then (if -9223372036854775808 ≤ i206 + 1 ∧ i206 + 1 ≤ 9223372036854775807 then (fine13_l1 p0 K207 k213 (i206 + 1)) else none) else (if p0.offer.kind = 2 then (if -9223372036854775808 ≤ i206 + 1 ∧ i206 + 1 ≤ 9223372036854775807 then (fine13_l1 p0 K207 k213 (i206 + 1)) else none) else (some false))) else (if ¬ (p0.offer = Sd.none) then (some false) else (if -9223372036854775808 ≤ i206 + 1 ∧ i206 + 1 ≤ 9223372036854775807 then (fine13_l1 p0 K207 k213 (i206 + 1)) else none))))) else (if i206 = 1 then (if p0.report.at_ < 0 then (some false) else (if 1099511627776 < p0.report.at_ then (some false) else (if p0.report.is = true then (if p0.report.kind = 1 then (if -9223372036854775808 ≤ i206 + 1 ∧ i206 + 1 ≤ 9223372036854775807 then (fine13_l1 p0 K207 k213 (i206 + 1)) else none) else (if p0.report.kind = 2 then (if -9223372036854775808 ≤ i206 + 1 ∧ i206 + 1 ≤ 9223372036854775807 then (fine13_l1 p0 K207 k213 (i206 + 1)) else none) else (some false))) else (if ¬ (p0.report = Sd.none) then (some false) else (if -9223372036854775808 ≤ i206 + 1 ∧ i206 + 1 ≤ 9223372036854775807 then (fine13_l1 p0 K207 k213 (i206 + 1)) else none))))) else none)) else (K207 ())

def fine13 (p0 : Cl) : Option Bool := fine13_l1 p0 (fun (_ : Unit) => (if (-1) ≤ p0.age then (if p0.age ≤ 1099511627776 then (if (-1) ≤ p0.view.command then (if p0.view.command < 8 then (if p0.view.mode < 8 then (some true) else (some false)) else (some false)) else (some false)) else (some false)) else (some false))) 1000000 0

def great13_l1 (p0 : (List Rw)) (K179 : Int → Option Bool) : Nat → Int → Int → Option Bool
  | 0, _, _ => none
  | k185 + 1, i176, i177 => if i177 < ((p0.length : Nat) : Int) then (if i176 < 900 then (Option.bind (rd p0 i177) fun (x199 : Rw) => (if -9223372036854775808 ≤ i177 + 1 ∧ i177 + 1 ≤ 9223372036854775807 then (great13_l1 p0 K179 k185 (IntKind.wrap .i64 (i176 + ((x199.table.length : Nat) : Int))) (i177 + 1)) else none)) else (K179 i176)) else (K179 i176)

def great13 (p0 : (List Rw)) : Option Bool := great13_l1 p0 (fun (i178 : Int) => (if 800 < i178 then (some true) else (some false))) 1000000 ((p0.length : Nat) : Int) 0

def lives13 : Option Bool := Option.bind (cell13 (⟨-5, (⟨true, Sd.none.at_, 9, 0, 0, 0⟩ : Sd), Cl.zero.report, (⟨Vw.zero.i0, Vw.zero.i1, Vw.zero.i2, Vw.zero.i3, Vw.zero.i4, Vw.zero.i5, Vw.zero.i6, Vw.zero.i7, Vw.zero.m0, Vw.zero.m1, Vw.zero.m2, Vw.zero.m3, Vw.zero.m4, Vw.zero.m5, Vw.zero.m6, Vw.zero.m7, Vw.zero.g0, Vw.zero.g1, Vw.zero.g2, Vw.zero.g3, Vw.zero.g4, Vw.zero.g5, Vw.zero.g6, Vw.zero.g7, Vw.zero.s0, Vw.zero.s1, Vw.zero.s2, Vw.zero.s3, Vw.zero.s4, Vw.zero.s5, Vw.zero.s6, Vw.zero.s7, Vw.zero.t0, Vw.zero.t1, Vw.zero.t2, Vw.zero.t3, Vw.zero.t4, Vw.zero.t5, Vw.zero.t6, Vw.zero.t7, 99, Vw.zero.mode⟩ : Vw)⟩ : Cl)) fun (y105 : Cl) => (Option.bind (norm13 2 [(⟨Rw.none.is, (⟨5, Cl.zero.offer, Cl.zero.report, Cl.zero.view⟩ : Cl), []⟩ : Rw)]) fun (y149 : (List Rw)) => (Option.bind (plain13 1 (⟨true, (⟨7, Cl.zero.offer, Cl.zero.report, Cl.zero.view⟩ : Cl), []⟩ : Rw)) fun (y176 : Rw) => (if y105 = (⟨-1, Cl.zero.offer, Cl.zero.report, (⟨Vw.zero.i0, Vw.zero.i1, Vw.zero.i2, Vw.zero.i3, Vw.zero.i4, Vw.zero.i5, Vw.zero.i6, Vw.zero.i7, Vw.zero.m0, Vw.zero.m1, Vw.zero.m2, Vw.zero.m3, Vw.zero.m4, Vw.zero.m5, Vw.zero.m6, Vw.zero.m7, Vw.zero.g0, Vw.zero.g1, Vw.zero.g2, Vw.zero.g3, Vw.zero.g4, Vw.zero.g5, Vw.zero.g6, Vw.zero.g7, Vw.zero.s0, Vw.zero.s1, Vw.zero.s2, Vw.zero.s3, Vw.zero.s4, Vw.zero.s5, Vw.zero.s6, Vw.zero.s7, Vw.zero.t0, Vw.zero.t1, Vw.zero.t2, Vw.zero.t3, Vw.zero.t4, Vw.zero.t5, Vw.zero.t6, Vw.zero.t7, -1, Vw.zero.mode⟩ : Vw)⟩ : Cl) then (if ((y149.length : Nat) : Int) = 2 then (Option.bind (rd y149 0) fun (x207 : Rw) => (if x207.is = true then (some false) else (if x207.cell = Cl.zero then (if y176.is = true then (if y176.cell.age = 7 then (if ((y176.table.length : Nat) : Int) = 1 then (some true) else (some false)) else (some false)) else (some false)) else (some false)))) else (some false)) else (some false))))

end Go.Proofs.Ytckcldimnelklaa

/- What words.Copy answers. -/
namespace Go.Proofs.Ytckcldimnelklaa
open Go
set_option linter.unusedVariables false
set_option linter.unusedSimpArgs false
set_option maxRecDepth 100000
set_option maxHeartbeats 4000000

def clone13t (p0 : List Hd) : Option (List Hd) := some ([] : List Hd)

def clone13 (p0 : List Hd) : Option (List Hd) := if ([] : List Hd).length + p0.length < 1000000 then (some (([] : List Hd) ++ p0)) else none

def copy13 (p0 : Rw) : Option Rw := Option.bind (clone13 p0.table) fun (y118 : (List Hd)) => (some (⟨p0.is, p0.cell, y118⟩ : Rw))

end Go.Proofs.Ytckcldimnelklaa

/- What the functions answer: group 13t. -/
namespace Go.Proofs.Ytckcldimnelklaa
open Go
set_option linter.unusedVariables false
set_option linter.unusedSimpArgs false
set_option maxRecDepth 100000
set_option maxHeartbeats 4000000

def other13_l1 (p0 : Rw) (K285 : (List Hd) → Option Rw) : Nat → Int → (List Hd) → Option Rw
  | 0, _, _ => none
  | k291 + 1, i278, l279 => if i278 < ((p0.table.length : Nat) : Int) then (Option.bind (rd p0.table i278) fun (x306 : Hd) => (if l279.length < 1000000 then (if -9223372036854775808 ≤ i278 + 1 ∧ i278 + 1 ≤ 9223372036854775807 then (other13_l1 p0 K285 k291 (i278 + 1) (l279 ++ [(⟨x306.is, x306.cell⟩ : Hd)])) else none) else none)) else (K285 l279)

def other13 (p0 : Rw) : Option Rw := other13_l1 p0 (fun (l282 : List Hd) => (some (⟨p0.is, p0.cell, l282⟩ : Rw))) 1000000 0 ([] : List Hd)

def rsame13_l1 (p0 : Rw) (p1 : Rw) (K218 : Unit → Option Bool) : Nat → Int → Option Bool
  | 0, _ => none
  | k224 + 1, i217 => if i217 < ((p0.table.length : Nat) : Int) then (Option.bind (rd p0.table i217) fun (x240 : Hd) => (Option.bind (rd p1.table i217) fun (x255 : Hd) => (if ¬ (x240 = x255) then (some false) else (if -9223372036854775808 ≤ i217 + 1 ∧ i217 + 1 ≤ 9223372036854775807 then (rsame13_l1 p0 p1 K218 k224 (i217 + 1)) else none)))) else (K218 ())

def rsame13_l2 (p0 : Rw) (p1 : Rw) (K388 : Unit → Option Bool) : Nat → Int → Option Bool
  | 0, _ => none
  | k394 + 1, i387 => if i387 < ((p0.table.length : Nat) : Int) then (Option.bind (rd p0.table i387) fun (x410 : Hd) => (Option.bind (rd p1.table i387) fun (x425 : Hd) => (if ¬ (x410 = x425) then (some false) else (if -9223372036854775808 ≤ i387 + 1 ∧ i387 + 1 ≤ 9223372036854775807 then (rsame13_l2 p0 p1 K388 k394 (i387 + 1)) else none)))) else (K388 ())

def rsame13 (p0 : Rw) (p1 : Rw) : Option Bool := if p0.is = true then (if p1.is = true then (if ¬ (p0.cell = p1.cell) then (some false) else (if ((p0.table.length : Nat) : Int) = ((p1.table.length : Nat) : Int) then (rsame13_l1 p0 p1 (fun (_ : Unit) => (some true)) 1000000 0) else (some false))) else (some false)) else (if p1.is = true then (some false) else (if ¬ (p0.cell = p1.cell) then (some false) else (if ((p0.table.length : Nat) : Int) = ((p1.table.length : Nat) : Int) then (rsame13_l2 p0 p1 (fun (_ : Unit) => (some true)) 1000000 0) else (some false))))

def left13_l1 (p0 : Rw) (K226 : Unit → Option Bool) : Nat → Int → Option Bool
  | 0, _ => none
  | k232 + 1, i225 => if p0.table.length < 1000000 then (if i225 < (((p0.table.length : Nat) : Int) + 2) then (Option.bind (rd (p0.table ++ [mkH, mkH]) i225) fun (x251 : Hd) => (if ¬ (x251 = (⟨Hd.none.is, (⟨-77, Cl.zero.offer, Cl.zero.report, Cl.zero.view⟩ : Cl)⟩ : Hd)) then (some false) else (if -9223372036854775808 ≤ i225 + 1 ∧ i225 + 1 ≤ 9223372036854775807 then (left13_l1 p0 K226 k232 (i225 + 1)) else none))) else (K226 ())) else none

def left13 (p0 : Rw) (p1 : Rw) : Option Bool := Option.bind (other13 p0) fun (y122 : Rw) => (Option.bind (other13 p1) fun (y137 : Rw) => (Option.bind (rsame13 y122 y137) fun (y152 : Bool) => (if y152 = true then (left13_l1 p0 (fun (_ : Unit) => (some true)) 1000000 ((p0.table.length : Nat) : Int)) else (some false))))

end Go.Proofs.Ytckcldimnelklaa

/- What Twin answers. -/
namespace Go.Proofs.Ytckcldimnelklaa
open Go
set_option linter.unusedVariables false
set_option linter.unusedSimpArgs false
set_option maxRecDepth 100000
set_option maxHeartbeats 4000000

def twin13 (p0 : Rw) : Option Rw := if p0.table.length < 1000000 then (if p0.table.length + 2 < 1000000 then (if ([] : List Hd).length + p0.table.length < 1000000 then (if (([] : List Hd) ++ p0.table).length < 1000000 then (if 0 ≤ ((p0.table.length : Nat) : Int) ∧ ((p0.table.length : Nat) : Int) ≤ ((((([] : List Hd) ++ p0.table) ++ [(⟨Hd.none.is, (⟨-77, Cl.zero.offer, Cl.zero.report, Cl.zero.view⟩ : Cl)⟩ : Hd), (⟨Hd.none.is, (⟨-77, Cl.zero.offer, Cl.zero.report, Cl.zero.view⟩ : Cl)⟩ : Hd)]).length : Nat) : Int) then (some (⟨p0.is, p0.cell, ((([] : List Hd) ++ p0.table) ++ [(⟨Hd.none.is, (⟨-77, Cl.zero.offer, Cl.zero.report, Cl.zero.view⟩ : Cl)⟩ : Hd), (⟨Hd.none.is, (⟨-77, Cl.zero.offer, Cl.zero.report, Cl.zero.view⟩ : Cl)⟩ : Hd)]).take (((p0.table.length : Nat) : Int)).toNat⟩ : Rw)) else none) else none) else none) else none) else none

end Go.Proofs.Ytckcldimnelklaa

/- What the functions answer: group 13y. -/
namespace Go.Proofs.Ytckcldimnelklaa
open Go
set_option linter.unusedVariables false
set_option linter.unusedSimpArgs false
set_option maxRecDepth 100000
set_option maxHeartbeats 4000000

def others13_l1 (p0 : List Rw) (K327 : (List Rw) → Option (List Rw)) : Nat → Int → (List Rw) → Option (List Rw)
  | 0, _, _ => none
  | k333 + 1, i318, l319 => if i318 < ((p0.length : Nat) : Int) then (Option.bind (rd p0 i318) fun (x347 : Rw) => (Option.bind (other13 x347) fun (y369 : Rw) => (if l319.length < 1000000 then (if -9223372036854775808 ≤ i318 + 1 ∧ i318 + 1 ≤ 9223372036854775807 then (others13_l1 p0 K327 k333 (i318 + 1) (l319 ++ [y369])) else none) else none))) else (K327 l319)

def others13 (p0 : List Rw) : Option (List Rw) := others13_l1 p0 (fun (l323 : List Rw) => (some l323)) 1000000 0 ([] : List Rw)

def twinword13_l1 (p0 : (List Rw)) (K382 : (List Rw) → Option (List Rw)) : Nat → Int → (List Rw) → Option (List Rw)
  | 0, _, _ => none
  | k388 + 1, i373, l374 => if i373 < ((p0.length : Nat) : Int) then (Option.bind (rd p0 i373) fun (x405 : Rw) => (Option.bind (twin13 x405) fun (y428 : Rw) => (if l374.length < 1000000 then (if -9223372036854775808 ≤ i373 + 1 ∧ i373 + 1 ≤ 9223372036854775807 then (twinword13_l1 p0 K382 k388 (i373 + 1) (l374 ++ [y428])) else none) else none))) else (K382 l374)

def twinword13 (p0 : (List Rw)) : Option (List Rw) := twinword13_l1 p0 (fun (l378 : List Rw) => (some l378)) 1000000 0 ([] : List Rw)

def leftword13_l1 (p0 : (List Rw)) (p1 : (List Rw)) (K263 : Unit → Option Bool) : Nat → Int → Option Bool
  | 0, _ => none
  | k269 + 1, i262 => if i262 < ((p0.length : Nat) : Int) then (Option.bind (rd p0 i262) fun (x285 : Rw) => (Option.bind (rd p1 i262) fun (x309 : Rw) => (Option.bind (left13 x285 x309) fun (y332 : Bool) => (if y332 = true then (if -9223372036854775808 ≤ i262 + 1 ∧ i262 + 1 ≤ 9223372036854775807 then (leftword13_l1 p0 p1 K263 k269 (i262 + 1)) else none) else (some false))))) else (K263 ())

def leftword13 (p0 : (List Rw)) (p1 : (List Rw)) : Option Bool := if ((p0.length : Nat) : Int) = ((p1.length : Nat) : Int) then (leftword13_l1 p0 p1 (fun (_ : Unit) => (some true)) 1000000 0) else (some false)

end Go.Proofs.Ytckcldimnelklaa

/- What the functions answer: group 15. -/
namespace Go.Proofs.Ytckcldimnelklaa
open Go
set_option linter.unusedVariables false
set_option linter.unusedSimpArgs false
set_option maxRecDepth 100000
set_option maxHeartbeats 4000000

def table15_l1 (p0 : List Rw) (K234 : (List Hd) → Option (List Hd)) : Nat → Int → (List Hd) → Option (List Hd)
  | 0, _, _ => none
  | k240 + 1, i227, l228 => if i227 < ((p0.length : Nat) : Int) then (Option.bind (rd p0 i227) fun (x253 : Rw) => (Option.bind (rd l228 i227) fun (x287 : Hd) => (if -9223372036854775808 ≤ i227 + 1 ∧ i227 + 1 ≤ 9223372036854775807 then (table15_l1 p0 K234 k240 (i227 + 1) ((l228).set (i227).toNat (⟨x253.is, x253.cell⟩ : Hd))) else none))) else (K234 l228)

def table15 (p0 : List Rw) : Option (List Hd) := if p0.length < 1000000 then (table15_l1 p0 (fun (l231 : List Hd) => (some l231)) 1000000 0 (List.replicate (((p0.length : Nat) : Int)).toNat Hd.none)) else none

def most15_l1 (p2 : List Rw) (p0 : Int) (p1 : Int) (K346 : Unit → Option Hd) : Nat → Int → (List (Cl × Int)) → Option Hd
  | 0, _, _ => none
  | k352 + 1, i344, m345 => if i344 < (((p2.take (min p0 ((p2.length : Nat) : Int)).toNat).length : Nat) : Int) then (Option.bind (rd (p2.take (min p0 ((p2.length : Nat) : Int)).toNat) i344) fun (x367 : Rw) => (if i344 = p1 then (if -9223372036854775808 ≤ i344 + 1 ∧ i344 + 1 ≤ 9223372036854775807 then (most15_l1 p2 p0 p1 K346 k352 (i344 + 1) m345) else none) else (if x367.is = true then (if ((x367.table.length : Nat) : Int) ≤ p1 then (if -9223372036854775808 ≤ i344 + 1 ∧ i344 + 1 ≤ 9223372036854775807 then (most15_l1 p2 p0 p1 K346 k352 (i344 + 1) m345) else none) else (Option.bind (rd x367.table p1) fun (x419 : Hd) => (if x419.is = true then (if -9223372036854775808 ≤ (mget m345 x419.cell) + 1 ∧ (mget m345 x419.cell) + 1 ≤ 9223372036854775807 then (if -9223372036854775808 ≤ 2 * (mget (mput m345 x419.cell ((mget m345 x419.cell) + 1)) x419.cell) ∧ 2 * (mget (mput m345 x419.cell ((mget m345 x419.cell) + 1)) x419.cell) ≤ 9223372036854775807 then (if -9223372036854775808 ≤ p0 - 1 ∧ p0 - 1 ≤ 9223372036854775807 then (if (p0 - 1) < (2 * (mget (mput m345 x419.cell ((mget m345 x419.cell) + 1)) x419.cell)) then (some (⟨true, x419.cell⟩ : Hd)) else (if -9223372036854775808 ≤ i344 + 1 ∧ i344 + 1 ≤ 9223372036854775807 then (most15_l1 p2 p0 p1 K346 k352 (i344 + 1) (mput m345 x419.cell ((mget m345 x419.cell) + 1))) else none)) else none) else none) else none) else (if -9223372036854775808 ≤ i344 + 1 ∧ i344 + 1 ≤ 9223372036854775807 then (most15_l1 p2 p0 p1 K346 k352 (i344 + 1) m345) else none)))) else (if -9223372036854775808 ≤ i344 + 1 ∧ i344 + 1 ≤ 9223372036854775807 then (most15_l1 p2 p0 p1 K346 k352 (i344 + 1) m345) else none)))) else (K346 ())

def most15 (p0 : Int) (p1 : Int) (p2 : List Rw) : Option Hd := if 0 ≤ min p0 ((p2.length : Nat) : Int) ∧ min p0 ((p2.length : Nat) : Int) ≤ ((p2.length : Nat) : Int) then (most15_l1 p2 p0 p1 (fun (_ : Unit) => (some Hd.none)) 1000000 0 []) else none

def agree15_l1 (p0 : Int) (p1 : List Rw) (K188 : (List Hd) → Option (List Hd)) : Nat → Int → (List Hd) → Option (List Hd)
  | 0, _, _ => none
  | k194 + 1, i181, l182 => if i181 < (((List.replicate (p0).toNat Hd.none).length : Nat) : Int) then (Option.bind (most15 p0 i181 p1) fun (y208 : Hd) => (Option.bind (rd l182 i181) fun (x216 : Hd) => (if -9223372036854775808 ≤ i181 + 1 ∧ i181 + 1 ≤ 9223372036854775807 then (agree15_l1 p0 p1 K188 k194 (i181 + 1) ((l182).set (i181).toNat y208)) else none))) else (K188 l182)

def agree15 (p0 : Int) (p1 : List Rw) : Option (List Hd) := if p0 < 4 then (some []) else (if 16 < p0 then (some []) else (if 0 ≤ p0 ∧ p0 < 1000000 then (agree15_l1 p0 p1 (fun (l185 : List Hd) => (some l185)) 1000000 0 (List.replicate (p0).toNat Hd.none)) else none))

end Go.Proofs.Ytckcldimnelklaa

/- What the functions answer: group 15p. -/
namespace Go.Proofs.Ytckcldimnelklaa
open Go
set_option linter.unusedVariables false
set_option linter.unusedSimpArgs false
set_option maxRecDepth 100000
set_option maxHeartbeats 4000000

def tableo15_l1 (p0 : List Rw) (K236 : (List Hd) → Option (List Hd)) : Nat → Int → (List Hd) → Option (List Hd)
  | 0, _, _ => none
  | k242 + 1, i229, l230 => if i229 < ((p0.length : Nat) : Int) then (Option.bind (rd p0 i229) fun (x255 : Rw) => (Option.bind (rd l230 i229) fun (x289 : Hd) => (if -9223372036854775808 ≤ i229 + 1 ∧ i229 + 1 ≤ 9223372036854775807 then (tableo15_l1 p0 K236 k242 (i229 + 1) ((l230).set (i229).toNat (⟨x255.is, x255.cell⟩ : Hd))) else none))) else (K236 l230)

def tableo15 (p0 : List Rw) : Option (List Hd) := if p0.length < 1000000 then (tableo15_l1 p0 (fun (l233 : List Hd) => (some l233)) 1000000 0 (List.replicate (((p0.length : Nat) : Int)).toNat Hd.none)) else none

def agreeo15_l1 (p0 : Int) (p1 : List Rw) (K200 : (List Hd) → Option (List Hd)) : Nat → Int → (List Hd) → Option (List Hd)
  | 0, _, _ => none
  | k206 + 1, i193, l194 => if i193 < (((List.replicate (p0).toNat Hd.none).length : Nat) : Int) then (Option.bind (most15 p0 i193 p1) fun (y220 : Hd) => (Option.bind (rd l194 i193) fun (x228 : Hd) => (if -9223372036854775808 ≤ i193 + 1 ∧ i193 + 1 ≤ 9223372036854775807 then (agreeo15_l1 p0 p1 K200 k206 (i193 + 1) ((l194).set (i193).toNat y220)) else none))) else (K200 l194)

def agreeo15 (p0 : Int) (p1 : List Rw) : Option (List Hd) := if p0 < 4 then (some ([] : List Hd)) else (if 16 < p0 then (some ([] : List Hd)) else (if 0 ≤ p0 ∧ p0 < 1000000 then (agreeo15_l1 p0 p1 (fun (l197 : List Hd) => (some l197)) 1000000 0 (List.replicate (p0).toNat Hd.none)) else none))

end Go.Proofs.Ytckcldimnelklaa

/- What the functions answer: group 15s. -/
namespace Go.Proofs.Ytckcldimnelklaa
open Go
set_option linter.unusedVariables false
set_option linter.unusedSimpArgs false
set_option maxRecDepth 100000
set_option maxHeartbeats 4000000

def spoil15_l1 (K201 : Unit → Option Unit) : Nat → Int → (List Hd) → Option Unit
  | 0, _, _ => none
  | k207 + 1, i197, l198 => if i197 < ((l198.length : Nat) : Int) then (Option.bind (rd l198 i197) fun (x216 : Hd) => (Option.bind (rd ((l198).set (i197).toNat (⟨x216.is, (⟨-99, x216.cell.offer, x216.cell.report, x216.cell.view⟩ : Cl)⟩ : Hd)) i197) fun (x231 : Hd) => (Option.bind (rd ((l198).set (i197).toNat (⟨x216.is, (⟨-99, x216.cell.offer, x216.cell.report, x216.cell.view⟩ : Cl)⟩ : Hd)) i197) fun (x241 : Hd) => (if -9223372036854775808 ≤ i197 + 1 ∧ i197 + 1 ≤ 9223372036854775807 then (spoil15_l1 K201 k207 (i197 + 1) (((l198).set (i197).toNat (⟨x216.is, (⟨-99, x216.cell.offer, x216.cell.report, x216.cell.view⟩ : Cl)⟩ : Hd)).set (i197).toNat (⟨!x231.is, x241.cell⟩ : Hd))) else none)))) else (K201 ())

def spoil15 (p0 : List Hd) : Option Unit := spoil15_l1 (fun (_ : Unit) => (some ())) 1000000 0 p0

end Go.Proofs.Ytckcldimnelklaa

/- What the functions answer: group 15o. -/
namespace Go.Proofs.Ytckcldimnelklaa
open Go
set_option linter.unusedVariables false
set_option linter.unusedSimpArgs false
set_option maxRecDepth 100000
set_option maxHeartbeats 4000000

def said15 (p0 : Int) (p1 : Int) (p2 : Int) : Option Rw := if 0 ≤ p0 ∧ p0 < 1000000 then (Option.bind (rd (List.replicate (p0).toNat Hd.none) p1) fun (x132 : Hd) => (some (⟨true, Rw.none.cell, (List.replicate (p0).toNat Hd.none).set (p1).toNat (⟨true, (⟨p2, Cl.zero.offer, Cl.zero.report, Cl.zero.view⟩ : Cl)⟩ : Hd)⟩ : Rw))) else none

def lives15 : Option Bool := Option.bind (said15 4 0 9) fun (y101 : Rw) => (Option.bind (said15 4 0 5) fun (y115 : Rw) => (Option.bind (said15 4 0 5) fun (y129 : Rw) => (Option.bind (said15 4 0 5) fun (y143 : Rw) => (Option.bind (agree15 4 [y101, y115, y129, y143]) fun (y183 : (List Hd)) => (Option.bind (said15 4 0 9) fun (y197 : Rw) => (Option.bind (said15 4 0 5) fun (y211 : Rw) => (Option.bind (said15 4 0 6) fun (y225 : Rw) => (Option.bind (said15 4 0 5) fun (y239 : Rw) => (Option.bind (agree15 4 [y197, y211, y225, y239]) fun (y279 : (List Hd)) => (Option.bind (said15 4 0 9) fun (y293 : Rw) => (Option.bind (said15 4 0 5) fun (y307 : Rw) => (Option.bind (said15 4 0 6) fun (y321 : Rw) => (Option.bind (said15 4 0 7) fun (y335 : Rw) => (Option.bind (agree15 4 [y293, y307, y321, y335]) fun (y375 : (List Hd)) => (Option.bind (table15 [(⟨true, (⟨3, Cl.zero.offer, Cl.zero.report, Cl.zero.view⟩ : Cl), []⟩ : Rw), Rw.none]) fun (y414 : (List Hd)) => (if ((y183.length : Nat) : Int) = 4 then (Option.bind (rd y183 0) fun (x445 : Hd) => (if x445 = (⟨true, (⟨5, Cl.zero.offer, Cl.zero.report, Cl.zero.view⟩ : Cl)⟩ : Hd) then (Option.bind (rd y183 1) fun (x462 : Hd) => (if x462.is = true then (some false) else (if ((y279.length : Nat) : Int) = 4 then (Option.bind (rd y279 0) fun (x485 : Hd) => (if x485 = (⟨true, (⟨5, Cl.zero.offer, Cl.zero.report, Cl.zero.view⟩ : Cl)⟩ : Hd) then (if ((y375.length : Nat) : Int) = 4 then (Option.bind (rd y375 0) fun (x504 : Hd) => (if x504.is = true then (some false) else (if ((y414.length : Nat) : Int) = 2 then (Option.bind (rd y414 0) fun (x528 : Hd) => (if x528 = (⟨true, (⟨3, Cl.zero.offer, Cl.zero.report, Cl.zero.view⟩ : Cl)⟩ : Hd) then (Option.bind (rd y414 1) fun (x547 : Hd) => (some (!x547.is))) else (some false))) else (some false)))) else (some false)) else (some false))) else (some false)))) else (some false))) else (some false)))))))))))))))))

def one15_l1 (p0 : Int × Int) (p1 : List Cl) (K277 : (List Hd) → Option Bool) : Nat → Int → (List Hd) → Option Bool
  | 0, _, _ => none
  | k283 + 1, i270, l271 => if i270 < (4 + (p0.1 % 13)) then (if 0 < ((p1.length : Nat) : Int) then (if 0 ≤ i270 ∧ 0 < (((p1.length : Nat) : Int) : Int) ∧ (((p1.length : Nat) : Int) : Int) ≤ 9223372036854775807 then (Option.bind (rd p1 (i270 % ((p1.length : Nat) : Int))) fun (x310 : Cl) => (Option.bind (rd l271 i270) fun (x325 : Hd) => (if -9223372036854775808 ≤ i270 + 1 ∧ i270 + 1 ≤ 9223372036854775807 then (one15_l1 p0 p1 K277 k283 (i270 + 1) ((l271).set (i270).toNat (⟨true, x310⟩ : Hd))) else none))) else none) else (K277 l271)) else (K277 l271)

def one15_l2 (p0 : Int × Int) (p2 : (List Rw) × (List Hd)) (K1230 : (List Hd) → (List Rw) → Option Bool) : Nat → (List Hd) → Int → (List Rw) → Option Bool
  | 0, _, _, _ => none
  | k1236 + 1, l1215, i1218, l1219 => if i1218 < (4 + (p0.1 % 13)) then (jn (fun (d1329 : Cl) => (Option.bind (rd l1215 (p0.2 % (4 + (p0.1 % 13)))) fun (x1421 : Hd) => (if 0 < ((p2.2.length : Nat) : Int) then (if 0 ≤ i1218 ∧ 0 < (((p2.2.length : Nat) : Int) : Int) ∧ (((p2.2.length : Nat) : Int) : Int) ≤ 9223372036854775807 then (Option.bind (rd p2.2 (i1218 % ((p2.2.length : Nat) : Int))) fun (x1442 : Hd) => (Option.bind (rd ((l1215).set (p0.2 % (4 + (p0.1 % 13))).toNat Hd.none) (p0.2 % (4 + (p0.1 % 13)))) fun (x1457 : Hd) => (if l1219.length < 1000000 then (if -9223372036854775808 ≤ i1218 + 1 ∧ i1218 + 1 ≤ 9223372036854775807 then (one15_l2 p0 p2 K1230 k1236 l1215 (i1218 + 1) (l1219 ++ [(⟨true, d1329, ((l1215).set (p0.2 % (4 + (p0.1 % 13))).toNat Hd.none).set (p0.2 % (4 + (p0.1 % 13))).toNat x1442⟩ : Rw)])) else none) else none))) else none) else (if l1219.length < 1000000 then (if -9223372036854775808 ≤ i1218 + 1 ∧ i1218 + 1 ≤ 9223372036854775807 then (one15_l2 p0 p2 K1230 k1236 l1215 (i1218 + 1) (l1219 ++ [(⟨true, d1329, (l1215).set (p0.2 % (4 + (p0.1 % 13))).toNat Hd.none⟩ : Rw)])) else none) else none)))) fun J1332 => (Option.bind (rd l1215 i1218) fun (x1344 : Hd) => (if l1215.length < 1000000 then (J1332 x1344.cell) else none))) else (K1230 l1215 l1219)

def one15_l4 (p0 : Int × Int) (y2858 : (List Hd)) (l2878 : List Hd) (l1223 : List Hd) (K3056 : Unit → Option Bool) : Nat → Int → Option Bool
  | 0, _ => none
  | k3062 + 1, i3055 => if i3055 < (4 + (p0.1 % 13)) then (Option.bind (rd y2858 i3055) fun (x3091 : Hd) => (Option.bind (rd l2878 i3055) fun (x3106 : Hd) => (if ¬ (x3091 = x3106) then (some false) else (if i3055 = (p0.2 % (4 + (p0.1 % 13))) then (if -9223372036854775808 ≤ i3055 + 1 ∧ i3055 + 1 ≤ 9223372036854775807 then (one15_l4 p0 y2858 l2878 l1223 K3056 k3062 (i3055 + 1)) else none) else (Option.bind (rd l1223 i3055) fun (x3135 : Hd) => (if ¬ (x3091 = x3135) then (some false) else (if -9223372036854775808 ≤ i3055 + 1 ∧ i3055 + 1 ≤ 9223372036854775807 then (one15_l4 p0 y2858 l2878 l1223 K3056 k3062 (i3055 + 1)) else none))))))) else (K3056 ())

def one15_l3 (p0 : Int × Int) (l1223 : List Hd) (p2 : (List Rw) × (List Hd)) (K2589 : Unit → Option Bool) : Nat → (List Rw) → (List Hd) → Int → Option Bool
  | 0, _, _, _ => none
  | k2595 + 1, l2582, l2585, i2588 => if i2588 < (4 + (p0.1 % 13)) then (if i2588 = (p0.2 % (4 + (p0.1 % 13))) then (if -9223372036854775808 ≤ i2588 + 1 ∧ i2588 + 1 ≤ 9223372036854775807 then (one15_l3 p0 l1223 p2 K2589 k2595 l2582 l2585 (i2588 + 1)) else none) else (if ([] : List Rw).length + l2582.length < 1000000 then (Option.bind (rd (([] : List Rw) ++ l2582) (p0.2 % (4 + (p0.1 % 13)))) fun (x2654 : Rw) => (jn (fun (l2750 : List Rw) => (Option.bind (agree15 (4 + (p0.1 % 13)) l2750) fun (y2858 : (List Hd)) => (if ((y2858.length : Nat) : Int) = (4 + (p0.1 % 13)) then (jn (fun (l2878 : List Hd) => (one15_l4 p0 y2858 l2878 l1223 (fun (_ : Unit) => (if -9223372036854775808 ≤ i2588 + 1 ∧ i2588 + 1 ≤ 9223372036854775807 then (one15_l3 p0 l1223 p2 K2589 k2595 l2582 l2878 (i2588 + 1)) else none)) 1000000 0)) fun J2881 => (if l2585 = [] then (J2881 y2858) else (J2881 l2585))) else (some false)))) fun J2754 => (if 0 < ((p2.1.length : Nat) : Int) then (if 0 ≤ i2588 ∧ 0 < (((p2.1.length : Nat) : Int) : Int) ∧ (((p2.1.length : Nat) : Int) : Int) ≤ 9223372036854775807 then (Option.bind (rd p2.1 (i2588 % ((p2.1.length : Nat) : Int))) fun (x2772 : Rw) => (Option.bind (rd ((([] : List Rw) ++ l2582).set (p0.2 % (4 + (p0.1 % 13))).toNat Rw.none) (p0.2 % (4 + (p0.1 % 13)))) fun (x2795 : Rw) => (J2754 (((([] : List Rw) ++ l2582).set (p0.2 % (4 + (p0.1 % 13))).toNat Rw.none).set (p0.2 % (4 + (p0.1 % 13))).toNat x2772)))) else none) else (J2754 ((([] : List Rw) ++ l2582).set (p0.2 % (4 + (p0.1 % 13))).toNat Rw.none))))) else none)) else (K2589 ())

def one15 (p0 : Int × Int) (p1 : List Cl) (p2 : (List Rw) × (List Hd)) : Option Bool := if 40 < ((p1.length : Nat) : Int) then (Option.bind lives15 fun (y122 : Bool) => (some y122)) else (if 40 < ((p2.1.length : Nat) : Int) then (Option.bind lives15 fun (y135 : Bool) => (some y135)) else (if 40 < ((p2.2.length : Nat) : Int) then (Option.bind lives15 fun (y148 : Bool) => (some y148)) else (if -9223372036854775808 ≤ p0.1 ∧ p0.1 ≤ 9223372036854775807 then (if 0 ≤ p0.1 ∧ 0 < (13 : Int) ∧ (13 : Int) ≤ 9223372036854775807 then (if -9223372036854775808 ≤ 4 + (p0.1 % 13) ∧ 4 + (p0.1 % 13) ≤ 9223372036854775807 then (if -9223372036854775808 ≤ p0.2 ∧ p0.2 ≤ 9223372036854775807 then (if 0 ≤ p0.2 ∧ 0 < (4 + (p0.1 % 13) : Int) ∧ (4 + (p0.1 % 13) : Int) ≤ 9223372036854775807 then (if 0 ≤ 4 + (p0.1 % 13) ∧ 4 + (p0.1 % 13) < 1000000 then (one15_l1 p0 p1 (fun (l274 : List Hd) => (one15_l2 p0 p2 (fun (l1223 : List Hd) (l1226 : List Rw) => (one15_l3 p0 l1223 p2 (fun (_ : Unit) => (Option.bind lives15 fun (y3178 : Bool) => (some y3178))) 1000000 l1226 [] 0)) 1000000 l274 0 ([] : List Rw))) 1000000 0 (List.replicate (4 + (p0.1 % 13)).toNat Hd.none)) else none) else none) else none) else none) else none) else none)))

end Go.Proofs.Ytckcldimnelklaa

/- What the functions answer: group 15y. -/
namespace Go.Proofs.Ytckcldimnelklaa
open Go
set_option linter.unusedVariables false
set_option linter.unusedSimpArgs false
set_option maxRecDepth 100000
set_option maxHeartbeats 4000000

def rtable15_l1 (p0 : List Rw) (K271 : (List Hd) → Option (List Hd)) : Nat → Int → (List Hd) → Option (List Hd)
  | 0, _, _ => none
  | k277 + 1, i264, l265 => if i264 < ((p0.length : Nat) : Int) then (Option.bind (rd p0 i264) fun (x291 : Rw) => (if l265.length < 1000000 then (if -9223372036854775808 ≤ i264 + 1 ∧ i264 + 1 ≤ 9223372036854775807 then (rtable15_l1 p0 K271 k277 (i264 + 1) (l265 ++ [(⟨x291.is, x291.cell⟩ : Hd)])) else none) else none)) else (K271 l265)

def rtable15 (p0 : List Rw) : Option (List Hd) := rtable15_l1 p0 (fun (l268 : List Hd) => (some l268)) 1000000 0 ([] : List Hd)

def rhas15 (p0 : List Rw) (p1 : Int) (p2 : Int) : Option Hd := if ((p0.length : Nat) : Int) ≤ p1 then (some Hd.none) else (Option.bind (rd p0 p1) fun (x120 : Rw) => (if x120.is = true then (if ((x120.table.length : Nat) : Int) ≤ p2 then (some Hd.none) else (Option.bind (rd x120.table p2) fun (x156 : Hd) => (some x156))) else (some Hd.none)))

def ragree15_l3 (p0 : Int) (i2039 : Int) (p1 : List Rw) (y2442 : Hd) (K2531 : Int → Option (List Hd)) : Nat → Int → Int → Option (List Hd)
  | 0, _, _ => none
  | k2537 + 1, i2528, i2529 => if i2529 < p0 then (if i2529 = i2039 then (if -9223372036854775808 ≤ i2529 + 1 ∧ i2529 + 1 ≤ 9223372036854775807 then (ragree15_l3 p0 i2039 p1 y2442 K2531 k2537 i2528 (i2529 + 1)) else none) else (Option.bind (rhas15 p1 i2529 i2039) fun (y2564 : Hd) => (if y2564 = y2442 then (if -9223372036854775808 ≤ i2528 + 1 ∧ i2528 + 1 ≤ 9223372036854775807 then (if -9223372036854775808 ≤ i2529 + 1 ∧ i2529 + 1 ≤ 9223372036854775807 then (ragree15_l3 p0 i2039 p1 y2442 K2531 k2537 (i2528 + 1) (i2529 + 1)) else none) else none) else (if -9223372036854775808 ≤ i2529 + 1 ∧ i2529 + 1 ≤ 9223372036854775807 then (ragree15_l3 p0 i2039 p1 y2442 K2531 k2537 i2528 (i2529 + 1)) else none)))) else (K2531 i2528)

def ragree15_l2 (p0 : Int) (p1 : List Rw) (i2039 : Int) (K2420 : Hd → Option (List Hd)) : Nat → Int → Hd → Option (List Hd)
  | 0, _, _ => none
  | k2426 + 1, i2417, d2418 => if i2417 < p0 then (Option.bind (rhas15 p1 i2417 i2039) fun (y2442 : Hd) => (if i2417 = i2039 then (if -9223372036854775808 ≤ i2417 + 1 ∧ i2417 + 1 ≤ 9223372036854775807 then (ragree15_l2 p0 p1 i2039 K2420 k2426 (i2417 + 1) d2418) else none) else (if y2442.is = true then (ragree15_l3 p0 i2039 p1 y2442 (fun (i2530 : Int) => (if -9223372036854775808 ≤ 2 * i2530 ∧ 2 * i2530 ≤ 9223372036854775807 then (if -9223372036854775808 ≤ p0 - 1 ∧ p0 - 1 ≤ 9223372036854775807 then (if (p0 - 1) < (2 * i2530) then (if -9223372036854775808 ≤ i2417 + 1 ∧ i2417 + 1 ≤ 9223372036854775807 then (ragree15_l2 p0 p1 i2039 K2420 k2426 (i2417 + 1) y2442) else none) else (if -9223372036854775808 ≤ i2417 + 1 ∧ i2417 + 1 ≤ 9223372036854775807 then (ragree15_l2 p0 p1 i2039 K2420 k2426 (i2417 + 1) d2418) else none)) else none) else none)) 1000000 0 0) else (if -9223372036854775808 ≤ i2417 + 1 ∧ i2417 + 1 ≤ 9223372036854775807 then (ragree15_l2 p0 p1 i2039 K2420 k2426 (i2417 + 1) d2418) else none)))) else (K2420 d2418)

def ragree15_l1 (p0 : Int) (p1 : List Rw) (K2046 : (List Hd) → Option (List Hd)) : Nat → Int → (List Hd) → Option (List Hd)
  | 0, _, _ => none
  | k2052 + 1, i2039, l2040 => if i2039 < p0 then (ragree15_l2 p0 p1 i2039 (fun (d2419 : Hd) => (if l2040.length < 1000000 then (if -9223372036854775808 ≤ i2039 + 1 ∧ i2039 + 1 ≤ 9223372036854775807 then (ragree15_l1 p0 p1 K2046 k2052 (i2039 + 1) (l2040 ++ [d2419])) else none) else none)) 1000000 0 Hd.none) else (K2046 l2040)

def ragree15 (p0 : Int) (p1 : List Rw) : Option (List Hd) := if p0 < 4 then (some []) else (if 16 < p0 then (some []) else (ragree15_l1 p0 p1 (fun (l2043 : List Hd) => (some l2043)) 1000000 0 ([] : List Hd)))

def same15_l1 (p0 : List Hd) (p1 : List Hd) (K219 : Unit → Option Bool) : Nat → Int → Option Bool
  | 0, _ => none
  | k225 + 1, i218 => if i218 < ((p0.length : Nat) : Int) then (Option.bind (rd p0 i218) fun (x239 : Hd) => (Option.bind (rd p1 i218) fun (x254 : Hd) => (if x239.is = true then (if x254.is = true then (if ¬ (x239.cell = x254.cell) then (some false) else (if -9223372036854775808 ≤ i218 + 1 ∧ i218 + 1 ≤ 9223372036854775807 then (same15_l1 p0 p1 K219 k225 (i218 + 1)) else none)) else (some false)) else (if x254.is = true then (some false) else (if ¬ (x239.cell = x254.cell) then (some false) else (if -9223372036854775808 ≤ i218 + 1 ∧ i218 + 1 ≤ 9223372036854775807 then (same15_l1 p0 p1 K219 k225 (i218 + 1)) else none)))))) else (K219 ())

def same15 (p0 : List Hd) (p1 : List Hd) : Option Bool := if ((p0.length : Nat) : Int) = ((p1.length : Nat) : Int) then (same15_l1 p0 p1 (fun (_ : Unit) => (some true)) 1000000 0) else (some false)

def any15 (p0 : Int) (p1 : List Rw) : Option Bool := Option.bind (great13 p1) fun (y103 : Bool) => (if y103 = true then (Option.bind lives15 fun (y113 : Bool) => (some y113)) else (Option.bind (twinword13 p1) fun (y123 : (List Rw)) => (Option.bind (tableo15 y123) fun (y139 : (List Hd)) => (Option.bind (agreeo15 p0 y123) fun (y150 : (List Hd)) => (Option.bind (others13 p1) fun (y162 : (List Rw)) => (Option.bind (rtable15 y162) fun (y177 : (List Hd)) => (Option.bind (others13 p1) fun (y191 : (List Rw)) => (Option.bind (ragree15 p0 y191) fun (y206 : (List Hd)) => (Option.bind (same15 y139 y177) fun (y220 : Bool) => (if y220 = true then (Option.bind (same15 y150 y206) fun (y234 : Bool) => (if y234 = true then (Option.bind (leftword13 y123 p1) fun (y250 : Bool) => (if y250 = true then (Option.bind (spoil15 y139) fun (y263 : Unit) => (Option.bind (spoil15 y150) fun (y271 : Unit) => (Option.bind (tableo15 y123) fun (y279 : (List Hd)) => (Option.bind (same15 y279 y177) fun (y291 : Bool) => (if y291 = true then (Option.bind (agreeo15 p0 y123) fun (y304 : (List Hd)) => (Option.bind (same15 y304 y206) fun (y316 : Bool) => (if y316 = true then (Option.bind (leftword13 y123 p1) fun (y331 : Bool) => (if y331 = true then (Option.bind lives15 fun (y343 : Bool) => (some y343)) else (some false))) else (some false)))) else (some false)))))) else (some false))) else (some false))) else (some false)))))))))))

end Go.Proofs.Ytckcldimnelklaa

/- What the functions answer: group 13d. -/
namespace Go.Proofs.Ytckcldimnelklaa
open Go
set_option linter.unusedVariables false
set_option linter.unusedSimpArgs false
set_option maxRecDepth 100000
set_option maxHeartbeats 4000000

def idle13_l2 (p0 : Int) (x3252 : Rw) (p1 : (List Rw)) (i3227 : Int) (K3796 : Unit → Option Bool) : Nat → Int → Option Bool
  | 0, _ => none
  | k3802 + 1, i3795 => if i3795 < (p0 % 17) then (Option.bind (rd x3252.table i3795) fun (x3827 : Hd) => (jn (fun (d3907 : Hd) => (if x3827.is = true then (if d3907.is = true then (Option.bind (fine13 x3827.cell) fun (y3982 : Bool) => (if y3982 = true then (Option.bind (fine13 d3907.cell) fun (y3994 : Bool) => (if y3994 = true then (if ¬ (x3827 = d3907) then (some false) else (if -9223372036854775808 ≤ i3795 + 1 ∧ i3795 + 1 ≤ 9223372036854775807 then (idle13_l2 p0 x3252 p1 i3227 K3796 k3802 (i3795 + 1)) else none)) else (if -9223372036854775808 ≤ i3795 + 1 ∧ i3795 + 1 ≤ 9223372036854775807 then (idle13_l2 p0 x3252 p1 i3227 K3796 k3802 (i3795 + 1)) else none))) else (some false))) else (some false)) else (if d3907.is = true then (some false) else (if ¬ (x3827.cell = Cl.zero) then (some false) else (if -9223372036854775808 ≤ i3795 + 1 ∧ i3795 + 1 ≤ 9223372036854775807 then (idle13_l2 p0 x3252 p1 i3227 K3796 k3802 (i3795 + 1)) else none))))) fun J3908 => (Option.bind (rd p1 i3227) fun (x3918 : Rw) => (if i3795 < ((x3918.table.length : Nat) : Int) then (Option.bind (rd x3918.table i3795) fun (x3943 : Hd) => (J3908 x3943)) else (J3908 Hd.none))))) else (K3796 ())

def idle13_l3 (p0 : Int) (x3252 : Rw) (p1 : (List Rw)) (i3227 : Int) (K4481 : Unit → Option Bool) : Nat → Int → Option Bool
  | 0, _ => none
  | k4487 + 1, i4480 => if i4480 < (p0 % 17) then (Option.bind (rd x3252.table i4480) fun (x4512 : Hd) => (jn (fun (d4592 : Hd) => (if x4512.is = true then (if d4592.is = true then (Option.bind (fine13 x4512.cell) fun (y4667 : Bool) => (if y4667 = true then (Option.bind (fine13 d4592.cell) fun (y4679 : Bool) => (if y4679 = true then (if ¬ (x4512 = d4592) then (some false) else (if -9223372036854775808 ≤ i4480 + 1 ∧ i4480 + 1 ≤ 9223372036854775807 then (idle13_l3 p0 x3252 p1 i3227 K4481 k4487 (i4480 + 1)) else none)) else (if -9223372036854775808 ≤ i4480 + 1 ∧ i4480 + 1 ≤ 9223372036854775807 then (idle13_l3 p0 x3252 p1 i3227 K4481 k4487 (i4480 + 1)) else none))) else (some false))) else (some false)) else (if d4592.is = true then (some false) else (if ¬ (x4512.cell = Cl.zero) then (some false) else (if -9223372036854775808 ≤ i4480 + 1 ∧ i4480 + 1 ≤ 9223372036854775807 then (idle13_l3 p0 x3252 p1 i3227 K4481 k4487 (i4480 + 1)) else none))))) fun J4593 => (Option.bind (rd p1 i3227) fun (x4603 : Rw) => (if i4480 < ((x4603.table.length : Nat) : Int) then (Option.bind (rd x4603.table i4480) fun (x4628 : Hd) => (J4593 x4628)) else (J4593 Hd.none))))) else (K4481 ())

def idle13_l1 (p0 : Int) (y136 : (List Rw)) (y162 : (List Rw)) (p1 : (List Rw)) (K3228 : Unit → Option Bool) : Nat → Int → Option Bool
  | 0, _ => none
  | k3234 + 1, i3227 => if i3227 < (p0 % 17) then (Option.bind (rd y136 i3227) fun (x3252 : Rw) => (Option.bind (rd y162 i3227) fun (x3287 : Rw) => (Option.bind (same13 x3252 x3287) fun (y3310 : Bool) => (if y3310 = true then (if i3227 < ((p1.length : Nat) : Int) then (Option.bind (rd p1 i3227) fun (x3324 : Rw) => (if x3252.is = true then (if x3324.is = true then (if ((x3252.table.length : Nat) : Int) = (p0 % 17) then (Option.bind (fine13 x3252.cell) fun (y3356 : Bool) => (if y3356 = true then (Option.bind (fine13 x3324.cell) fun (y3368 : Bool) => (if y3368 = true then (if ¬ (x3252.cell = x3324.cell) then (some false) else (idle13_l2 p0 x3252 p1 i3227 (fun (_ : Unit) => (if -9223372036854775808 ≤ i3227 + 1 ∧ i3227 + 1 ≤ 9223372036854775807 then (idle13_l1 p0 y136 y162 p1 K3228 k3234 (i3227 + 1)) else none)) 1000000 0)) else (idle13_l3 p0 x3252 p1 i3227 (fun (_ : Unit) => (if -9223372036854775808 ≤ i3227 + 1 ∧ i3227 + 1 ≤ 9223372036854775807 then (idle13_l1 p0 y136 y162 p1 K3228 k3234 (i3227 + 1)) else none)) 1000000 0))) else (some false))) else (some false)) else (some false)) else (if x3324.is = true then (some false) else (if ((x3252.table.length : Nat) : Int) = 0 then (if ¬ (x3252.cell = Cl.zero) then (some false) else (if -9223372036854775808 ≤ i3227 + 1 ∧ i3227 + 1 ≤ 9223372036854775807 then (idle13_l1 p0 y136 y162 p1 K3228 k3234 (i3227 + 1)) else none)) else (some false))))) else (if x3252.is = true then (some false) else (if ((x3252.table.length : Nat) : Int) = 0 then (if ¬ (x3252.cell = Cl.zero) then (some false) else (if -9223372036854775808 ≤ i3227 + 1 ∧ i3227 + 1 ≤ 9223372036854775807 then (idle13_l1 p0 y136 y162 p1 K3228 k3234 (i3227 + 1)) else none)) else (some false)))) else (some false))))) else (K3228 ())

def idle13 (p0 : Int) (p1 : (List Rw)) : Option Bool := Option.bind (great13 p1) fun (y110 : Bool) => (if y110 = true then (Option.bind lives13 fun (y121 : Bool) => (some y121)) else (if -9223372036854775808 ≤ p0 ∧ p0 ≤ 9223372036854775807 then (if 0 ≤ p0 ∧ 0 < (17 : Int) ∧ (17 : Int) ≤ 9223372036854775807 then (Option.bind (norm13 (p0 % 17) p1) fun (y136 : (List Rw)) => (Option.bind (norm13 (p0 % 17) y136) fun (y162 : (List Rw)) => (if ((y136.length : Nat) : Int) = (p0 % 17) then (if ((y162.length : Nat) : Int) = (p0 % 17) then (idle13_l1 p0 y136 y162 p1 (fun (_ : Unit) => (Option.bind lives13 fun (y4821 : Bool) => (some y4821))) 1000000 0) else (some false)) else (some false)))) else none) else none))

end Go.Proofs.Ytckcldimnelklaa

/- What the functions answer: group 13g. -/
namespace Go.Proofs.Ytckcldimnelklaa
open Go
set_option linter.unusedVariables false
set_option linter.unusedSimpArgs false
set_option maxRecDepth 100000
set_option maxHeartbeats 4000000

def change13 (p0 : Rw) (p1 : Int) (p2 : Int) : Option Bool := if 40 < ((p0.table.length : Nat) : Int) then (Option.bind lives13 fun (y112 : Bool) => (some y112)) else (Option.bind (copy13 p0) fun (y123 : Rw) => (Option.bind (same13 p0 y123) fun (y146 : Bool) => (if y146 = true then (Option.bind (same13 y123 p0) fun (y160 : Bool) => (if y160 = true then (jn (fun (b451 : Bool) (i452 : Int) (i453 : Int) (i454 : Int) (i455 : Int) (i456 : Int) (i457 : Int) (i458 : Int) (i459 : Int) (i460 : Int) (i461 : Int) (i462 : Int) (l463 : List Hd) => (Option.bind (same13 p0 (⟨b451, (⟨i452, (⟨y123.cell.offer.is, y123.cell.offer.at_, y123.cell.offer.kind, y123.cell.offer.station, y123.cell.offer.seq, i453⟩ : Sd), (⟨y123.cell.report.is, y123.cell.report.at_, y123.cell.report.kind, y123.cell.report.station, i454, y123.cell.report.value⟩ : Sd), (⟨y123.cell.view.i0, y123.cell.view.i1, y123.cell.view.i2, y123.cell.view.i3, y123.cell.view.i4, y123.cell.view.i5, y123.cell.view.i6, y123.cell.view.i7, i455, i456, i457, i458, i459, i460, i461, i462, y123.cell.view.g0, y123.cell.view.g1, y123.cell.view.g2, y123.cell.view.g3, y123.cell.view.g4, y123.cell.view.g5, y123.cell.view.g6, y123.cell.view.g7, y123.cell.view.s0, y123.cell.view.s1, y123.cell.view.s2, y123.cell.view.s3, y123.cell.view.s4, y123.cell.view.s5, y123.cell.view.s6, y123.cell.view.s7, y123.cell.view.t0, y123.cell.view.t1, y123.cell.view.t2, y123.cell.view.t3, y123.cell.view.t4, y123.cell.view.t5, y123.cell.view.t6, y123.cell.view.t7, y123.cell.view.command, y123.cell.view.mode⟩ : Vw)⟩ : Cl), l463⟩ : Rw)) fun (y860 : Bool) => (if y860 = true then (some false) else (Option.bind (same13 (⟨b451, (⟨i452, (⟨y123.cell.offer.is, y123.cell.offer.at_, y123.cell.offer.kind, y123.cell.offer.station, y123.cell.offer.seq, i453⟩ : Sd), (⟨y123.cell.report.is, y123.cell.report.at_, y123.cell.report.kind, y123.cell.report.station, i454, y123.cell.report.value⟩ : Sd), (⟨y123.cell.view.i0, y123.cell.view.i1, y123.cell.view.i2, y123.cell.view.i3, y123.cell.view.i4, y123.cell.view.i5, y123.cell.view.i6, y123.cell.view.i7, i455, i456, i457, i458, i459, i460, i461, i462, y123.cell.view.g0, y123.cell.view.g1, y123.cell.view.g2, y123.cell.view.g3, y123.cell.view.g4, y123.cell.view.g5, y123.cell.view.g6, y123.cell.view.g7, y123.cell.view.s0, y123.cell.view.s1, y123.cell.view.s2, y123.cell.view.s3, y123.cell.view.s4, y123.cell.view.s5, y123.cell.view.s6, y123.cell.view.s7, y123.cell.view.t0, y123.cell.view.t1, y123.cell.view.t2, y123.cell.view.t3, y123.cell.view.t4, y123.cell.view.t5, y123.cell.view.t6, y123.cell.view.t7, y123.cell.view.command, y123.cell.view.mode⟩ : Vw)⟩ : Cl), l463⟩ : Rw) p0) fun (y877 : Bool) => (if y877 = true then (some false) else (Option.bind lives13 fun (y895 : Bool) => (some y895))))))) fun J466 => (if 0 ≤ p1 ∧ 0 < (7 : Int) ∧ (7 : Int) ≤ 255 then (if (p1 % 7) = 0 then (J466 y123.is (IntKind.wrap .i64 (y123.cell.age + 1)) y123.cell.offer.value y123.cell.report.seq y123.cell.view.m0 y123.cell.view.m1 y123.cell.view.m2 y123.cell.view.m3 y123.cell.view.m4 y123.cell.view.m5 y123.cell.view.m6 y123.cell.view.m7 y123.table) else (if (p1 % 7) = 1 then (J466 y123.is y123.cell.age (IntKind.wrap .u32 (y123.cell.offer.value + 1)) y123.cell.report.seq y123.cell.view.m0 y123.cell.view.m1 y123.cell.view.m2 y123.cell.view.m3 y123.cell.view.m4 y123.cell.view.m5 y123.cell.view.m6 y123.cell.view.m7 y123.table) else (if (p1 % 7) = 2 then (J466 y123.is y123.cell.age y123.cell.offer.value (IntKind.wrap .u32 (y123.cell.report.seq + 1)) y123.cell.view.m0 y123.cell.view.m1 y123.cell.view.m2 y123.cell.view.m3 y123.cell.view.m4 y123.cell.view.m5 y123.cell.view.m6 y123.cell.view.m7 y123.table) else (if (p1 % 7) = 3 then (if 0 ≤ p2 ∧ 0 < (8 : Int) ∧ (8 : Int) ≤ 255 then (if (p2 % 8) = 0 then (J466 y123.is y123.cell.age y123.cell.offer.value y123.cell.report.seq (IntKind.wrap .u8 (y123.cell.view.m0 + 1)) y123.cell.view.m1 y123.cell.view.m2 y123.cell.view.m3 y123.cell.view.m4 y123.cell.view.m5 y123.cell.view.m6 y123.cell.view.m7 y123.table) else (if (p2 % 8) = 1 then (J466 y123.is y123.cell.age y123.cell.offer.value y123.cell.report.seq y123.cell.view.m0 (IntKind.wrap .u8 (y123.cell.view.m1 + 1)) y123.cell.view.m2 y123.cell.view.m3 y123.cell.view.m4 y123.cell.view.m5 y123.cell.view.m6 y123.cell.view.m7 y123.table) else (if (p2 % 8) = 2 then (J466 y123.is y123.cell.age y123.cell.offer.value y123.cell.report.seq y123.cell.view.m0 y123.cell.view.m1 (IntKind.wrap .u8 (y123.cell.view.m2 + 1)) y123.cell.view.m3 y123.cell.view.m4 y123.cell.view.m5 y123.cell.view.m6 y123.cell.view.m7 y123.table) else (if (p2 % 8) = 3 then (J466 y123.is y123.cell.age y123.cell.offer.value y123.cell.report.seq y123.cell.view.m0 y123.cell.view.m1 y123.cell.view.m2 (IntKind.wrap .u8 (y123.cell.view.m3 + 1)) y123.cell.view.m4 y123.cell.view.m5 y123.cell.view.m6 y123.cell.view.m7 y123.table) else (if (p2 % 8) = 4 then (J466 y123.is y123.cell.age y123.cell.offer.value y123.cell.report.seq y123.cell.view.m0 y123.cell.view.m1 y123.cell.view.m2 y123.cell.view.m3 (IntKind.wrap .u8 (y123.cell.view.m4 + 1)) y123.cell.view.m5 y123.cell.view.m6 y123.cell.view.m7 y123.table) else (if (p2 % 8) = 5 then (J466 y123.is y123.cell.age y123.cell.offer.value y123.cell.report.seq y123.cell.view.m0 y123.cell.view.m1 y123.cell.view.m2 y123.cell.view.m3 y123.cell.view.m4 (IntKind.wrap .u8 (y123.cell.view.m5 + 1)) y123.cell.view.m6 y123.cell.view.m7 y123.table) else (if (p2 % 8) = 6 then (J466 y123.is y123.cell.age y123.cell.offer.value y123.cell.report.seq y123.cell.view.m0 y123.cell.view.m1 y123.cell.view.m2 y123.cell.view.m3 y123.cell.view.m4 y123.cell.view.m5 (IntKind.wrap .u8 (y123.cell.view.m6 + 1)) y123.cell.view.m7 y123.table) else (if (p2 % 8) = 7 then (J466 y123.is y123.cell.age y123.cell.offer.value y123.cell.report.seq y123.cell.view.m0 y123.cell.view.m1 y123.cell.view.m2 y123.cell.view.m3 y123.cell.view.m4 y123.cell.view.m5 y123.cell.view.m6 (IntKind.wrap .u8 (y123.cell.view.m7 + 1)) y123.table) else none)))))))) else none) else (if (p1 % 7) = 4 then (J466 (!y123.is) y123.cell.age y123.cell.offer.value y123.cell.report.seq y123.cell.view.m0 y123.cell.view.m1 y123.cell.view.m2 y123.cell.view.m3 y123.cell.view.m4 y123.cell.view.m5 y123.cell.view.m6 y123.cell.view.m7 y123.table) else (if (p1 % 7) = 5 then (if y123.table.length < 1000000 then (J466 y123.is y123.cell.age y123.cell.offer.value y123.cell.report.seq y123.cell.view.m0 y123.cell.view.m1 y123.cell.view.m2 y123.cell.view.m3 y123.cell.view.m4 y123.cell.view.m5 y123.cell.view.m6 y123.cell.view.m7 (y123.table ++ [Hd.none])) else none) else (if ((y123.table.length : Nat) : Int) = 0 then (Option.bind lives13 fun (y645 : Bool) => (some y645)) else (if -9223372036854775808 ≤ p2 ∧ p2 ≤ 9223372036854775807 then (if 0 ≤ p2 ∧ 0 < (((y123.table.length : Nat) : Int) : Int) ∧ (((y123.table.length : Nat) : Int) : Int) ≤ 9223372036854775807 then (if 0 ≤ p2 ∧ 0 < (8 : Int) ∧ (8 : Int) ≤ 255 then (Option.bind (rd y123.table (p2 % ((y123.table.length : Nat) : Int))) fun (x664 : Hd) => (if (p2 % 8) = 0 then (Option.bind (rd y123.table (p2 % ((y123.table.length : Nat) : Int))) fun (x676 : Hd) => (J466 y123.is y123.cell.age y123.cell.offer.value y123.cell.report.seq y123.cell.view.m0 y123.cell.view.m1 y123.cell.view.m2 y123.cell.view.m3 y123.cell.view.m4 y123.cell.view.m5 y123.cell.view.m6 y123.cell.view.m7 ((y123.table).set (p2 % ((y123.table.length : Nat) : Int)).toNat (⟨x676.is, (⟨x676.cell.age, x676.cell.offer, x676.cell.report, (⟨x676.cell.view.i0, x676.cell.view.i1, x676.cell.view.i2, x676.cell.view.i3, x676.cell.view.i4, x676.cell.view.i5, x676.cell.view.i6, x676.cell.view.i7, x676.cell.view.m0, x676.cell.view.m1, x676.cell.view.m2, x676.cell.view.m3, x676.cell.view.m4, x676.cell.view.m5, x676.cell.view.m6, x676.cell.view.m7, x676.cell.view.g0, x676.cell.view.g1, x676.cell.view.g2, x676.cell.view.g3, x676.cell.view.g4, x676.cell.view.g5, x676.cell.view.g6, x676.cell.view.g7, IntKind.wrap .u16 (x664.cell.view.s0 + 1), x676.cell.view.s1, x676.cell.view.s2, x676.cell.view.s3, x676.cell.view.s4, x676.cell.view.s5, x676.cell.view.s6, x676.cell.view.s7, x676.cell.view.t0, x676.cell.view.t1, x676.cell.view.t2, x676.cell.view.t3, x676.cell.view.t4, x676.cell.view.t5, x676.cell.view.t6, x676.cell.view.t7, x676.cell.view.command, x676.cell.view.mode⟩ : Vw)⟩ : Cl)⟩ : Hd)))) else (if (p2 % 8) = 1 then (Option.bind (rd y123.table (p2 % ((y123.table.length : Nat) : Int))) fun (x699 : Hd) => (J466 y123.is y123.cell.age y123.cell.offer.value y123.cell.report.seq y123.cell.view.m0 y123.cell.view.m1 y123.cell.view.m2 y123.cell.view.m3 y123.cell.view.m4 y123.cell.view.m5 y123.cell.view.m6 y123.cell.view.m7 ((y123.table).set (p2 % ((y123.table.length : Nat) : Int)).toNat (⟨x699.is, (⟨x699.cell.age, x699.cell.offer, x699.cell.report, (⟨x699.cell.view.i0, x699.cell.view.i1, x699.cell.view.i2, x699.cell.view.i3, x699.cell.view.i4, x699.cell.view.i5, x699.cell.view.i6, x699.cell.view.i7, x699.cell.view.m0, x699.cell.view.m1, x699.cell.view.m2, x699.cell.view.m3, x699.cell.view.m4, x699.cell.view.m5, x699.cell.view.m6, x699.cell.view.m7, x699.cell.view.g0, x699.cell.view.g1, x699.cell.view.g2, x699.cell.view.g3, x699.cell.view.g4, x699.cell.view.g5, x699.cell.view.g6, x699.cell.view.g7, x699.cell.view.s0, IntKind.wrap .u16 (x664.cell.view.s1 + 1), x699.cell.view.s2, x699.cell.view.s3, x699.cell.view.s4, x699.cell.view.s5, x699.cell.view.s6, x699.cell.view.s7, x699.cell.view.t0, x699.cell.view.t1, x699.cell.view.t2, x699.cell.view.t3, x699.cell.view.t4, x699.cell.view.t5, x699.cell.view.t6, x699.cell.view.t7, x699.cell.view.command, x699.cell.view.mode⟩ : Vw)⟩ : Cl)⟩ : Hd)))) else (if (p2 % 8) = 2 then (Option.bind (rd y123.table (p2 % ((y123.table.length : Nat) : Int))) fun (x722 : Hd) => (J466 y123.is y123.cell.age y123.cell.offer.value y123.cell.report.seq y123.cell.view.m0 y123.cell.view.m1 y123.cell.view.m2 y123.cell.view.m3 y123.cell.view.m4 y123.cell.view.m5 y123.cell.view.m6 y123.cell.view.m7 ((y123.table).set (p2 % ((y123.table.length : Nat) : Int)).toNat (⟨x722.is, (⟨x722.cell.age, x722.cell.offer, x722.cell.report, (⟨x722.cell.view.i0, x722.cell.view.i1, x722.cell.view.i2, x722.cell.view.i3, x722.cell.view.i4, x722.cell.view.i5, x722.cell.view.i6, x722.cell.view.i7, x722.cell.view.m0, x722.cell.view.m1, x722.cell.view.m2, x722.cell.view.m3, x722.cell.view.m4, x722.cell.view.m5, x722.cell.view.m6, x722.cell.view.m7, x722.cell.view.g0, x722.cell.view.g1, x722.cell.view.g2, x722.cell.view.g3, x722.cell.view.g4, x722.cell.view.g5, x722.cell.view.g6, x722.cell.view.g7, x722.cell.view.s0, x722.cell.view.s1, IntKind.wrap .u16 (x664.cell.view.s2 + 1), x722.cell.view.s3, x722.cell.view.s4, x722.cell.view.s5, x722.cell.view.s6, x722.cell.view.s7, x722.cell.view.t0, x722.cell.view.t1, x722.cell.view.t2, x722.cell.view.t3, x722.cell.view.t4, x722.cell.view.t5, x722.cell.view.t6, x722.cell.view.t7, x722.cell.view.command, x722.cell.view.mode⟩ : Vw)⟩ : Cl)⟩ : Hd)))) else (if (p2 % 8) = 3 then (Option.bind (rd y123.table (p2 % ((y123.table.length : Nat) : Int))) fun (x745 : Hd) => (J466 y123.is y123.cell.age y123.cell.offer.value y123.cell.report.seq y123.cell.view.m0 y123.cell.view.m1 y123.cell.view.m2 y123.cell.view.m3 y123.cell.view.m4 y123.cell.view.m5 y123.cell.view.m6 y123.cell.view.m7 ((y123.table).set (p2 % ((y123.table.length : Nat) : Int)).toNat (⟨x745.is, (⟨x745.cell.age, x745.cell.offer, x745.cell.report, (⟨x745.cell.view.i0, x745.cell.view.i1, x745.cell.view.i2, x745.cell.view.i3, x745.cell.view.i4, x745.cell.view.i5, x745.cell.view.i6, x745.cell.view.i7, x745.cell.view.m0, x745.cell.view.m1, x745.cell.view.m2, x745.cell.view.m3, x745.cell.view.m4, x745.cell.view.m5, x745.cell.view.m6, x745.cell.view.m7, x745.cell.view.g0, x745.cell.view.g1, x745.cell.view.g2, x745.cell.view.g3, x745.cell.view.g4, x745.cell.view.g5, x745.cell.view.g6, x745.cell.view.g7, x745.cell.view.s0, x745.cell.view.s1, x745.cell.view.s2, IntKind.wrap .u16 (x664.cell.view.s3 + 1), x745.cell.view.s4, x745.cell.view.s5, x745.cell.view.s6, x745.cell.view.s7, x745.cell.view.t0, x745.cell.view.t1, x745.cell.view.t2, x745.cell.view.t3, x745.cell.view.t4, x745.cell.view.t5, x745.cell.view.t6, x745.cell.view.t7, x745.cell.view.command, x745.cell.view.mode⟩ : Vw)⟩ : Cl)⟩ : Hd)))) else (if (p2 % 8) = 4 then (Option.bind (rd y123.table (p2 % ((y123.table.length : Nat) : Int))) fun (x768 : Hd) => (J466 y123.is y123.cell.age y123.cell.offer.value y123.cell.report.seq y123.cell.view.m0 y123.cell.view.m1 y123.cell.view.m2 y123.cell.view.m3 y123.cell.view.m4 y123.cell.view.m5 y123.cell.view.m6 y123.cell.view.m7 ((y123.table).set (p2 % ((y123.table.length : Nat) : Int)).toNat (⟨x768.is, (⟨x768.cell.age, x768.cell.offer, x768.cell.report, (⟨x768.cell.view.i0, x768.cell.view.i1, x768.cell.view.i2, x768.cell.view.i3, x768.cell.view.i4, x768.cell.view.i5, x768.cell.view.i6, x768.cell.view.i7, x768.cell.view.m0, x768.cell.view.m1, x768.cell.view.m2, x768.cell.view.m3, x768.cell.view.m4, x768.cell.view.m5, x768.cell.view.m6, x768.cell.view.m7, x768.cell.view.g0, x768.cell.view.g1, x768.cell.view.g2, x768.cell.view.g3, x768.cell.view.g4, x768.cell.view.g5, x768.cell.view.g6, x768.cell.view.g7, x768.cell.view.s0, x768.cell.view.s1, x768.cell.view.s2, x768.cell.view.s3, IntKind.wrap .u16 (x664.cell.view.s4 + 1), x768.cell.view.s5, x768.cell.view.s6, x768.cell.view.s7, x768.cell.view.t0, x768.cell.view.t1, x768.cell.view.t2, x768.cell.view.t3, x768.cell.view.t4, x768.cell.view.t5, x768.cell.view.t6, x768.cell.view.t7, x768.cell.view.command, x768.cell.view.mode⟩ : Vw)⟩ : Cl)⟩ : Hd)))) else (if (p2 % 8) = 5 then (Option.bind (rd y123.table (p2 % ((y123.table.length : Nat) : Int))) fun (x791 : Hd) => (J466 y123.is y123.cell.age y123.cell.offer.value y123.cell.report.seq y123.cell.view.m0 y123.cell.view.m1 y123.cell.view.m2 y123.cell.view.m3 y123.cell.view.m4 y123.cell.view.m5 y123.cell.view.m6 y123.cell.view.m7 ((y123.table).set (p2 % ((y123.table.length : Nat) : Int)).toNat (⟨x791.is, (⟨x791.cell.age, x791.cell.offer, x791.cell.report, (⟨x791.cell.view.i0, x791.cell.view.i1, x791.cell.view.i2, x791.cell.view.i3, x791.cell.view.i4, x791.cell.view.i5, x791.cell.view.i6, x791.cell.view.i7, x791.cell.view.m0, x791.cell.view.m1, x791.cell.view.m2, x791.cell.view.m3, x791.cell.view.m4, x791.cell.view.m5, x791.cell.view.m6, x791.cell.view.m7, x791.cell.view.g0, x791.cell.view.g1, x791.cell.view.g2, x791.cell.view.g3, x791.cell.view.g4, x791.cell.view.g5, x791.cell.view.g6, x791.cell.view.g7, x791.cell.view.s0, x791.cell.view.s1, x791.cell.view.s2, x791.cell.view.s3, x791.cell.view.s4, IntKind.wrap .u16 (x664.cell.view.s5 + 1), x791.cell.view.s6, x791.cell.view.s7, x791.cell.view.t0, x791.cell.view.t1, x791.cell.view.t2, x791.cell.view.t3, x791.cell.view.t4, x791.cell.view.t5, x791.cell.view.t6, x791.cell.view.t7, x791.cell.view.command, x791.cell.view.mode⟩ : Vw)⟩ : Cl)⟩ : Hd)))) else (if (p2 % 8) = 6 then (Option.bind (rd y123.table (p2 % ((y123.table.length : Nat) : Int))) fun (x814 : Hd) => (J466 y123.is y123.cell.age y123.cell.offer.value y123.cell.report.seq y123.cell.view.m0 y123.cell.view.m1 y123.cell.view.m2 y123.cell.view.m3 y123.cell.view.m4 y123.cell.view.m5 y123.cell.view.m6 y123.cell.view.m7 ((y123.table).set (p2 % ((y123.table.length : Nat) : Int)).toNat (⟨x814.is, (⟨x814.cell.age, x814.cell.offer, x814.cell.report, (⟨x814.cell.view.i0, x814.cell.view.i1, x814.cell.view.i2, x814.cell.view.i3, x814.cell.view.i4, x814.cell.view.i5, x814.cell.view.i6, x814.cell.view.i7, x814.cell.view.m0, x814.cell.view.m1, x814.cell.view.m2, x814.cell.view.m3, x814.cell.view.m4, x814.cell.view.m5, x814.cell.view.m6, x814.cell.view.m7, x814.cell.view.g0, x814.cell.view.g1, x814.cell.view.g2, x814.cell.view.g3, x814.cell.view.g4, x814.cell.view.g5, x814.cell.view.g6, x814.cell.view.g7, x814.cell.view.s0, x814.cell.view.s1, x814.cell.view.s2, x814.cell.view.s3, x814.cell.view.s4, x814.cell.view.s5, IntKind.wrap .u16 (x664.cell.view.s6 + 1), x814.cell.view.s7, x814.cell.view.t0, x814.cell.view.t1, x814.cell.view.t2, x814.cell.view.t3, x814.cell.view.t4, x814.cell.view.t5, x814.cell.view.t6, x814.cell.view.t7, x814.cell.view.command, x814.cell.view.mode⟩ : Vw)⟩ : Cl)⟩ : Hd)))) else (if (p2 % 8) = 7 then (Option.bind (rd y123.table (p2 % ((y123.table.length : Nat) : Int))) fun (x837 : Hd) => (J466 y123.is y123.cell.age y123.cell.offer.value y123.cell.report.seq y123.cell.view.m0 y123.cell.view.m1 y123.cell.view.m2 y123.cell.view.m3 y123.cell.view.m4 y123.cell.view.m5 y123.cell.view.m6 y123.cell.view.m7 ((y123.table).set (p2 % ((y123.table.length : Nat) : Int)).toNat (⟨x837.is, (⟨x837.cell.age, x837.cell.offer, x837.cell.report, (⟨x837.cell.view.i0, x837.cell.view.i1, x837.cell.view.i2, x837.cell.view.i3, x837.cell.view.i4, x837.cell.view.i5, x837.cell.view.i6, x837.cell.view.i7, x837.cell.view.m0, x837.cell.view.m1, x837.cell.view.m2, x837.cell.view.m3, x837.cell.view.m4, x837.cell.view.m5, x837.cell.view.m6, x837.cell.view.m7, x837.cell.view.g0, x837.cell.view.g1, x837.cell.view.g2, x837.cell.view.g3, x837.cell.view.g4, x837.cell.view.g5, x837.cell.view.g6, x837.cell.view.g7, x837.cell.view.s0, x837.cell.view.s1, x837.cell.view.s2, x837.cell.view.s3, x837.cell.view.s4, x837.cell.view.s5, x837.cell.view.s6, IntKind.wrap .u16 (x664.cell.view.s7 + 1), x837.cell.view.t0, x837.cell.view.t1, x837.cell.view.t2, x837.cell.view.t3, x837.cell.view.t4, x837.cell.view.t5, x837.cell.view.t6, x837.cell.view.t7, x837.cell.view.command, x837.cell.view.mode⟩ : Vw)⟩ : Cl)⟩ : Hd)))) else none))))))))) else none) else none) else none)))))))) else none)) else (some false))) else (some false))))

end Go.Proofs.Ytckcldimnelklaa

/- Plain, whose table is one's own. -/
namespace Go.Proofs.Ytckcldimnelklaa
open Go
set_option linter.unusedVariables false
set_option linter.unusedSimpArgs false
set_option maxRecDepth 100000
set_option maxHeartbeats 4000000

def filledHo13_l1 (p0 : Int) (p1 : List Hd) (K210 : (List Hd) → Option (List Hd)) : Nat → Int → (List Hd) → Option (List Hd)
  | 0, _, _ => none
  | k216 + 1, i203, l204 => if i203 < (min p0 ((p1.length : Nat) : Int)) then (Option.bind (rd p1 i203) fun (x230 : Hd) => (Option.bind (held13 x230) fun (y244 : Hd) => (Option.bind (rd l204 i203) fun (x252 : Hd) => (if -9223372036854775808 ≤ i203 + 1 ∧ i203 + 1 ≤ 9223372036854775807 then (filledHo13_l1 p0 p1 K210 k216 (i203 + 1) ((l204).set (i203).toNat y244)) else none)))) else (K210 l204)

def filledHo13 (p0 : Int) (p1 : List Hd) : Option (List Hd) := if 0 ≤ p0 ∧ p0 < 1000000 then (filledHo13_l1 p0 p1 (fun (l207 : List Hd) => (some l207)) 1000000 0 (List.replicate (p0).toNat Hd.none)) else none

def plaino13 (p0 : Int) (p1 : Rw) : Option Rw := if p1.is = true then (Option.bind (may13 p0) fun (y121 : Bool) => (if y121 = true then (Option.bind (cell13 p1.cell) fun (y134 : Cl) => (Option.bind (filledHo13 p0 p1.table) fun (y142 : (List Hd)) => (some (⟨true, y134, y142⟩ : Rw)))) else (some (⟨Rw.none.is, Rw.none.cell, ([] : List Hd)⟩ : Rw)))) else (some (⟨Rw.none.is, Rw.none.cell, ([] : List Hd)⟩ : Rw))

end Go.Proofs.Ytckcldimnelklaa

/- What the functions answer: group 13r. -/
namespace Go.Proofs.Ytckcldimnelklaa
open Go
set_option linter.unusedVariables false
set_option linter.unusedSimpArgs false
set_option maxRecDepth 100000
set_option maxHeartbeats 4000000

def rsaid13 (p0 : Sd) : Option Sd := if p0.is = true then (if 0 ≤ p0.at_ then (if p0.at_ ≤ 1099511627776 then (if p0.kind = 1 then (some p0) else (if p0.kind = 2 then (some p0) else (some Sd.none))) else (some Sd.none)) else (some Sd.none)) else (some Sd.none)

def rcell13 (p0 : Cl) : Option Cl := jn (fun (i129 : Int) => (Option.bind (rsaid13 p0.offer) fun (y151 : Sd) => (Option.bind (rsaid13 p0.report) fun (y162 : Sd) => (if p0.view.command < 0 then (if 7 < p0.view.mode then (some (⟨i129, y151, y162, (⟨p0.view.i0, p0.view.i1, p0.view.i2, p0.view.i3, p0.view.i4, p0.view.i5, p0.view.i6, p0.view.i7, p0.view.m0, p0.view.m1, p0.view.m2, p0.view.m3, p0.view.m4, p0.view.m5, p0.view.m6, p0.view.m7, p0.view.g0, p0.view.g1, p0.view.g2, p0.view.g3, p0.view.g4, p0.view.g5, p0.view.g6, p0.view.g7, p0.view.s0, p0.view.s1, p0.view.s2, p0.view.s3, p0.view.s4, p0.view.s5, p0.view.s6, p0.view.s7, p0.view.t0, p0.view.t1, p0.view.t2, p0.view.t3, p0.view.t4, p0.view.t5, p0.view.t6, p0.view.t7, -1, 0⟩ : Vw)⟩ : Cl)) else (some (⟨i129, y151, y162, (⟨p0.view.i0, p0.view.i1, p0.view.i2, p0.view.i3, p0.view.i4, p0.view.i5, p0.view.i6, p0.view.i7, p0.view.m0, p0.view.m1, p0.view.m2, p0.view.m3, p0.view.m4, p0.view.m5, p0.view.m6, p0.view.m7, p0.view.g0, p0.view.g1, p0.view.g2, p0.view.g3, p0.view.g4, p0.view.g5, p0.view.g6, p0.view.g7, p0.view.s0, p0.view.s1, p0.view.s2, p0.view.s3, p0.view.s4, p0.view.s5, p0.view.s6, p0.view.s7, p0.view.t0, p0.view.t1, p0.view.t2, p0.view.t3, p0.view.t4, p0.view.t5, p0.view.t6, p0.view.t7, -1, p0.view.mode⟩ : Vw)⟩ : Cl))) else (if 7 < p0.view.command then (if 7 < p0.view.mode then (some (⟨i129, y151, y162, (⟨p0.view.i0, p0.view.i1, p0.view.i2, p0.view.i3, p0.view.i4, p0.view.i5, p0.view.i6, p0.view.i7, p0.view.m0, p0.view.m1, p0.view.m2, p0.view.m3, p0.view.m4, p0.view.m5, p0.view.m6, p0.view.m7, p0.view.g0, p0.view.g1, p0.view.g2, p0.view.g3, p0.view.g4, p0.view.g5, p0.view.g6, p0.view.g7, p0.view.s0, p0.view.s1, p0.view.s2, p0.view.s3, p0.view.s4, p0.view.s5, p0.view.s6, p0.view.s7, p0.view.t0, p0.view.t1, p0.view.t2, p0.view.t3, p0.view.t4, p0.view.t5, p0.view.t6, p0.view.t7, -1, 0⟩ : Vw)⟩ : Cl)) else (some (⟨i129, y151, y162, (⟨p0.view.i0, p0.view.i1, p0.view.i2, p0.view.i3, p0.view.i4, p0.view.i5, p0.view.i6, p0.view.i7, p0.view.m0, p0.view.m1, p0.view.m2, p0.view.m3, p0.view.m4, p0.view.m5, p0.view.m6, p0.view.m7, p0.view.g0, p0.view.g1, p0.view.g2, p0.view.g3, p0.view.g4, p0.view.g5, p0.view.g6, p0.view.g7, p0.view.s0, p0.view.s1, p0.view.s2, p0.view.s3, p0.view.s4, p0.view.s5, p0.view.s6, p0.view.s7, p0.view.t0, p0.view.t1, p0.view.t2, p0.view.t3, p0.view.t4, p0.view.t5, p0.view.t6, p0.view.t7, -1, p0.view.mode⟩ : Vw)⟩ : Cl))) else (if 7 < p0.view.mode then (some (⟨i129, y151, y162, (⟨p0.view.i0, p0.view.i1, p0.view.i2, p0.view.i3, p0.view.i4, p0.view.i5, p0.view.i6, p0.view.i7, p0.view.m0, p0.view.m1, p0.view.m2, p0.view.m3, p0.view.m4, p0.view.m5, p0.view.m6, p0.view.m7, p0.view.g0, p0.view.g1, p0.view.g2, p0.view.g3, p0.view.g4, p0.view.g5, p0.view.g6, p0.view.g7, p0.view.s0, p0.view.s1, p0.view.s2, p0.view.s3, p0.view.s4, p0.view.s5, p0.view.s6, p0.view.s7, p0.view.t0, p0.view.t1, p0.view.t2, p0.view.t3, p0.view.t4, p0.view.t5, p0.view.t6, p0.view.t7, p0.view.command, 0⟩ : Vw)⟩ : Cl)) else (some (⟨i129, y151, y162, p0.view⟩ : Cl)))))))) fun J130 => (if p0.age < 0 then (J130 (-1)) else (if 1099511627776 < p0.age then (J130 (-1)) else (J130 p0.age)))

def rplaino13_l1 (p0 : Int) (p1 : Rw) (K552 : (List Hd) → Option Rw) : Nat → Int → (List Hd) → Option Rw
  | 0, _, _ => none
  | k558 + 1, i545, l546 => if i545 < p0 then (if i545 < ((p1.table.length : Nat) : Int) then (Option.bind (rd p1.table i545) fun (x586 : Hd) => (if x586.is = true then (Option.bind (rcell13 x586.cell) fun (y607 : Cl) => (if l546.length < 1000000 then (if -9223372036854775808 ≤ i545 + 1 ∧ i545 + 1 ≤ 9223372036854775807 then (rplaino13_l1 p0 p1 K552 k558 (i545 + 1) (l546 ++ [(⟨true, y607⟩ : Hd)])) else none) else none)) else (if l546.length < 1000000 then (if -9223372036854775808 ≤ i545 + 1 ∧ i545 + 1 ≤ 9223372036854775807 then (rplaino13_l1 p0 p1 K552 k558 (i545 + 1) (l546 ++ [Hd.none])) else none) else none))) else (if l546.length < 1000000 then (if -9223372036854775808 ≤ i545 + 1 ∧ i545 + 1 ≤ 9223372036854775807 then (rplaino13_l1 p0 p1 K552 k558 (i545 + 1) (l546 ++ [Hd.none])) else none) else none)) else (K552 l546)

def rplaino13 (p0 : Int) (p1 : Rw) : Option Rw := if p0 < 0 then (some (⟨Rw.none.is, Rw.none.cell, ([] : List Hd)⟩ : Rw)) else (if 16 < p0 then (some (⟨Rw.none.is, Rw.none.cell, ([] : List Hd)⟩ : Rw)) else (if p1.is = true then (Option.bind (rcell13 p1.cell) fun (y160 : Cl) => (rplaino13_l1 p0 p1 (fun (l549 : List Hd) => (some (⟨true, y160, l549⟩ : Rw))) 1000000 0 ([] : List Hd))) else (some (⟨Rw.none.is, Rw.none.cell, ([] : List Hd)⟩ : Rw))))

def othero13_l1 (p0 : Rw) (K285 : (List Hd) → Option Rw) : Nat → Int → (List Hd) → Option Rw
  | 0, _, _ => none
  | k291 + 1, i278, l279 => if i278 < ((p0.table.length : Nat) : Int) then (Option.bind (rd p0.table i278) fun (x306 : Hd) => (if l279.length < 1000000 then (if -9223372036854775808 ≤ i278 + 1 ∧ i278 + 1 ≤ 9223372036854775807 then (othero13_l1 p0 K285 k291 (i278 + 1) (l279 ++ [(⟨x306.is, x306.cell⟩ : Hd)])) else none) else none)) else (K285 l279)

def othero13 (p0 : Rw) : Option Rw := othero13_l1 p0 (fun (l282 : List Hd) => (some (⟨p0.is, p0.cell, l282⟩ : Rw))) 1000000 0 ([] : List Hd)

def rows13 (p0 : Int) (p1 : Rw) (p2 : Rw) : Option Bool := if 400 < ((p1.table.length : Nat) : Int) then (Option.bind lives13 fun (y121 : Bool) => (some y121)) else (if 400 < ((p2.table.length : Nat) : Int) then (Option.bind lives13 fun (y134 : Bool) => (some y134)) else (Option.bind (twin13 p1) fun (y145 : Rw) => (Option.bind (twin13 p2) fun (y175 : Rw) => (Option.bind (copy13 y145) fun (y205 : Rw) => (Option.bind (plaino13 p0 y145) fun (y228 : Rw) => (Option.bind (othero13 y205) fun (y253 : Rw) => (Option.bind (othero13 p1) fun (y266 : Rw) => (Option.bind (rsame13 y253 y266) fun (y278 : Bool) => (if y278 = true then (Option.bind (othero13 y228) fun (y293 : Rw) => (Option.bind (othero13 p1) fun (y306 : Rw) => (Option.bind (rplaino13 p0 y306) fun (y318 : Rw) => (Option.bind (rsame13 y293 y318) fun (y331 : Bool) => (if y331 = true then (Option.bind (same13 y145 y175) fun (y346 : Bool) => (Option.bind (othero13 p1) fun (y356 : Rw) => (Option.bind (othero13 p2) fun (y368 : Rw) => (Option.bind (rsame13 y356 y368) fun (y380 : Bool) => (if y346 = true then (if y380 = true then (Option.bind (same13 y145 y205) fun (y396 : Bool) => (if y396 = true then (Option.bind (cell13 p1.cell) fun (y410 : Cl) => (Option.bind (rcell13 p1.cell) fun (y418 : Cl) => (if ¬ (y410 = y418) then (some false) else (Option.bind (left13 y145 p1) fun (y441 : Bool) => (if y441 = true then (Option.bind (left13 y175 p2) fun (y454 : Bool) => (if y454 = true then (Option.bind lives13 fun (y467 : Bool) => (some y467)) else (some false))) else (some false)))))) else (some false))) else (some false)) else (if y380 = true then (some false) else (Option.bind (same13 y145 y205) fun (y496 : Bool) => (if y496 = true then (Option.bind (cell13 p1.cell) fun (y510 : Cl) => (Option.bind (rcell13 p1.cell) fun (y518 : Cl) => (if ¬ (y510 = y518) then (some false) else (Option.bind (left13 y145 p1) fun (y541 : Bool) => (if y541 = true then (Option.bind (left13 y175 p2) fun (y554 : Bool) => (if y554 = true then (Option.bind lives13 fun (y567 : Bool) => (some y567)) else (some false))) else (some false)))))) else (some false))))))))) else (some false)))))) else (some false))))))))))

end Go.Proofs.Ytckcldimnelklaa
