/- What the functions answer: group 13t. -/
import Derived.Test.YtckcldimnelklaaD13e
import Derived.Test.YtckcldimnelklaaTT
namespace Go.Proofs.Ytckcldimnelklaa
open Go
set_option linter.unusedVariables false
set_option linter.unusedSimpArgs false
set_option maxRecDepth 100000
set_option maxHeartbeats 4000000

def other13_l1 (p0 : Rw) (K285 : (List Hd) → Option Rw) : Nat → Int → (List Hd) → Option Rw
  | 0, _, _ => none
  | k291 + 1, i278, l279 => if i278 < ((p0.table.length : Nat) : Int) then (Option.bind (rd p0.table i278) fun (x306 : Hd) => (if l279.length < 1000000 then (if -9223372036854775808 ≤ i278 + 1 ∧ i278 + 1 ≤ 9223372036854775807 then (other13_l1 p0 K285 k291 (i278 + 1) (l279 ++ [(⟨x306.is, x306.cell⟩ : Hd)])) else none) else none)) else (K285 l279)

def other13 (p0 : Rw) : Option Rw := other13_l1 p0 (fun (l282 : List Hd) => (some (⟨p0.is, p0.cell, l282⟩ : Rw))) 1000000 0 ([] : List Hd)

def rsame13_l1 (p0 : Rw) (p1 : Rw) (K218 : Unit → Option Bool) : Nat → Int → Option Bool
  | 0, _ => none
  | k224 + 1, i217 => if i217 < ((p0.table.length : Nat) : Int) then (Option.bind (rd p0.table i217) fun (x240 : Hd) => (Option.bind (rd p1.table i217) fun (x255 : Hd) => (if ¬ (x240 = x255) then (some false) else (if -9223372036854775808 ≤ i217 + 1 ∧ i217 + 1 ≤ 9223372036854775807 then (rsame13_l1 p0 p1 K218 k224 (i217 + 1)) else none)))) else (K218 ())

def rsame13_l2 (p0 : Rw) (p1 : Rw) (K388 : Unit → Option Bool) : Nat → Int → Option Bool
  | 0, _ => none
  | k394 + 1, i387 => if i387 < ((p0.table.length : Nat) : Int) then (Option.bind (rd p0.table i387) fun (x410 : Hd) => (Option.bind (rd p1.table i387) fun (x425 : Hd) => (if ¬ (x410 = x425) then (some false) else (if -9223372036854775808 ≤ i387 + 1 ∧ i387 + 1 ≤ 9223372036854775807 then (rsame13_l2 p0 p1 K388 k394 (i387 + 1)) else none)))) else (K388 ())

def rsame13 (p0 : Rw) (p1 : Rw) : Option Bool := if p0.is = true then (if p1.is = true then (if ¬ (p0.cell = p1.cell) then (some false) else (if ((p0.table.length : Nat) : Int) = ((p1.table.length : Nat) : Int) then (rsame13_l1 p0 p1 (fun (_ : Unit) => (some true)) 1000000 0) else (some false))) else (some false)) else (if p1.is = true then (some false) else (if ¬ (p0.cell = p1.cell) then (some false) else (if ((p0.table.length : Nat) : Int) = ((p1.table.length : Nat) : Int) then (rsame13_l2 p0 p1 (fun (_ : Unit) => (some true)) 1000000 0) else (some false))))

def left13_l1 (p0 : Rw) (K226 : Unit → Option Bool) : Nat → Int → Option Bool
  | 0, _ => none
  | k232 + 1, i225 => if p0.table.length < 1000000 then (if i225 < (((p0.table.length : Nat) : Int) + 2) then (Option.bind (rd (p0.table ++ [mkH, mkH]) i225) fun (x251 : Hd) => (if ¬ (x251 = (⟨Hd.none.is, (⟨-77, Cl.zero.offer, Cl.zero.report, Cl.zero.view⟩ : Cl)⟩ : Hd)) then (some false) else (if -9223372036854775808 ≤ i225 + 1 ∧ i225 + 1 ≤ 9223372036854775807 then (left13_l1 p0 K226 k232 (i225 + 1)) else none))) else (K226 ())) else none

def left13 (p0 : Rw) (p1 : Rw) : Option Bool := Option.bind (other13 p0) fun (y122 : Rw) => (Option.bind (other13 p1) fun (y137 : Rw) => (Option.bind (rsame13 y122 y137) fun (y152 : Bool) => (if y152 = true then (left13_l1 p0 (fun (_ : Unit) => (some true)) 1000000 ((p0.table.length : Nat) : Int)) else (some false))))

end Go.Proofs.Ytckcldimnelklaa
