/- What the functions answer: group 14n. -/
import Derived.Test.YtckcldimnelklaaD13c
namespace Go.Proofs.Ytckcldimnelklaa
open Go
set_option linter.unusedVariables false
set_option linter.unusedSimpArgs false
set_option maxRecDepth 100000
set_option maxHeartbeats 4000000

def heldn14 (p0 : Hd) : Option Hd := if p0.is = true then (Option.bind (cell13 p0.cell) fun (y120 : Cl) => (some (⟨true, y120⟩ : Hd))) else (some Hd.none)

def filledHn14_l1 (p0 : Int) (p1 : List Hd) (K210 : (List Hd) → Option (List Hd)) : Nat → Int → (List Hd) → Option (List Hd)
  | 0, _, _ => none
  | k216 + 1, i203, l204 => if i203 < (min p0 ((p1.length : Nat) : Int)) then (Option.bind (rd p1 i203) fun (x230 : Hd) => (Option.bind (heldn14 x230) fun (y244 : Hd) => (Option.bind (rd l204 i203) fun (x252 : Hd) => (if -9223372036854775808 ≤ i203 + 1 ∧ i203 + 1 ≤ 9223372036854775807 then (filledHn14_l1 p0 p1 K210 k216 (i203 + 1) ((l204).set (i203).toNat y244)) else none)))) else (K210 l204)

def filledHn14 (p0 : Int) (p1 : List Hd) : Option (List Hd) := if 0 ≤ p0 ∧ p0 < 1000000 then (filledHn14_l1 p0 p1 (fun (l207 : List Hd) => (some l207)) 1000000 0 (List.replicate (p0).toNat Hd.none)) else none

def mayn14 (p0 : Int) : Option Bool := if 0 ≤ p0 then (if p0 ≤ 16 then (some true) else (some false)) else (some false)

def plainn14 (p0 : Int) (p1 : Rw) : Option Rw := if p1.is = true then (Option.bind (may13 p0) fun (y121 : Bool) => (if y121 = true then (Option.bind (cell13 p1.cell) fun (y134 : Cl) => (Option.bind (filledHn14 p0 p1.table) fun (y142 : (List Hd)) => (some (⟨true, y134, y142⟩ : Rw)))) else (some Rw.none))) else (some Rw.none)

def norm1n14 (p0 : Rw) (q1 : Int) : Option Rw := Option.bind (plainn14 q1 p0) fun (y118 : Rw) => (some y118)

def filledRn14_l1 (p0 : Int) (p1 : List Rw) (q40 : Int) (K281 : (List Rw) → Option (List Rw)) : Nat → Int → (List Rw) → Option (List Rw)
  | 0, _, _ => none
  | k287 + 1, i272, l273 => if i272 < (min p0 ((p1.length : Nat) : Int)) then (Option.bind (rd p1 i272) fun (x303 : Rw) => (Option.bind (norm1n14 x303 q40) fun (y325 : Rw) => (Option.bind (rd l273 i272) fun (x339 : Rw) => (if -9223372036854775808 ≤ i272 + 1 ∧ i272 + 1 ≤ 9223372036854775807 then (filledRn14_l1 p0 p1 q40 K281 k287 (i272 + 1) ((l273).set (i272).toNat y325)) else none)))) else (K281 l273)

def filledRn14 (p0 : Int) (p1 : List Rw) (q40 : Int) : Option (List Rw) := if 0 ≤ p0 ∧ p0 < 1000000 then (filledRn14_l1 p0 p1 q40 (fun (l277 : List Rw) => (some l277)) 1000000 0 (List.replicate (p0).toNat Rw.none)) else none

def normn14 (p0 : Int) (p1 : (List Rw)) : Option (List Rw) := Option.bind (may13 p0) fun (y126 : Bool) => (if y126 = true then (Option.bind (filledRn14 p0 p1 p0) fun (y137 : (List Rw)) => (some y137)) else (some ([] : List Rw)))

def equaln14_l1 (p0 : List Hd) (p1 : List Hd) (K193 : Unit → Option Bool) : Nat → Int → Option Bool
  | 0, _ => none
  | k199 + 1, i192 => if i192 < ((p0.length : Nat) : Int) then (Option.bind (rd p0 i192) fun (x214 : Hd) => (Option.bind (rd p1 i192) fun (x229 : Hd) => (if ¬ (x214 = x229) then (some false) else (if -9223372036854775808 ≤ i192 + 1 ∧ i192 + 1 ≤ 9223372036854775807 then (equaln14_l1 p0 p1 K193 k199 (i192 + 1)) else none)))) else (K193 ())

def equaln14 (p0 : List Hd) (p1 : List Hd) : Option Bool := if ((p0.length : Nat) : Int) = ((p1.length : Nat) : Int) then (equaln14_l1 p0 p1 (fun (_ : Unit) => (some true)) 1000000 0) else (some false)

def samen14 (p0 : Rw) (p1 : Rw) : Option Bool := if p0.is = true then (if p1.is = true then (if p0.cell = p1.cell then (Option.bind (equaln14 p0.table p1.table) fun (y125 : Bool) => (some y125)) else (some false)) else (some false)) else (if p1.is = true then (some false) else (if p0.cell = p1.cell then (Option.bind (equaln14 p0.table p1.table) fun (y151 : Bool) => (some y151)) else (some false)))

def greatn14_l1 (p0 : (List Rw)) (K179 : Int → Option Bool) : Nat → Int → Int → Option Bool
  | 0, _, _ => none
  | k185 + 1, i176, i177 => if i177 < ((p0.length : Nat) : Int) then (if i176 < 900 then (Option.bind (rd p0 i177) fun (x199 : Rw) => (if -9223372036854775808 ≤ i177 + 1 ∧ i177 + 1 ≤ 9223372036854775807 then (greatn14_l1 p0 K179 k185 (IntKind.wrap .i64 (i176 + ((x199.table.length : Nat) : Int))) (i177 + 1)) else none)) else (K179 i176)) else (K179 i176)

def greatn14 (p0 : (List Rw)) : Option Bool := greatn14_l1 p0 (fun (i178 : Int) => (if 800 < i178 then (some true) else (some false))) 1000000 ((p0.length : Nat) : Int) 0

end Go.Proofs.Ytckcldimnelklaa
