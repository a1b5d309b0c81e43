/- What the functions answer: group 15. -/
import Derived.Test.YtckcldimnelklaaTA
import Derived.Test.YtckcldimnelklaaTP
namespace Go.Proofs.Ytckcldimnelklaa
open Go
set_option linter.unusedVariables false
set_option linter.unusedSimpArgs false
set_option maxRecDepth 100000
set_option maxHeartbeats 4000000

def table15_l1 (p0 : List Rw) (K234 : (List Hd) → Option (List Hd)) : Nat → Int → (List Hd) → Option (List Hd)
  | 0, _, _ => none
  | k240 + 1, i227, l228 => if i227 < ((p0.length : Nat) : Int) then (Option.bind (rd p0 i227) fun (x253 : Rw) => (Option.bind (rd l228 i227) fun (x287 : Hd) => (if -9223372036854775808 ≤ i227 + 1 ∧ i227 + 1 ≤ 9223372036854775807 then (table15_l1 p0 K234 k240 (i227 + 1) ((l228).set (i227).toNat (⟨x253.is, x253.cell⟩ : Hd))) else none))) else (K234 l228)

def table15 (p0 : List Rw) : Option (List Hd) := if p0.length < 1000000 then (table15_l1 p0 (fun (l231 : List Hd) => (some l231)) 1000000 0 (List.replicate (((p0.length : Nat) : Int)).toNat Hd.none)) else none

def most15_l1 (p2 : List Rw) (p0 : Int) (p1 : Int) (K346 : Unit → Option Hd) : Nat → Int → (List (Cl × Int)) → Option Hd
  | 0, _, _ => none
  | k352 + 1, i344, m345 => if i344 < (((p2.take (min p0 ((p2.length : Nat) : Int)).toNat).length : Nat) : Int) then (Option.bind (rd (p2.take (min p0 ((p2.length : Nat) : Int)).toNat) i344) fun (x367 : Rw) => (if i344 = p1 then (if -9223372036854775808 ≤ i344 + 1 ∧ i344 + 1 ≤ 9223372036854775807 then (most15_l1 p2 p0 p1 K346 k352 (i344 + 1) m345) else none) else (if x367.is = true then (if ((x367.table.length : Nat) : Int) ≤ p1 then (if -9223372036854775808 ≤ i344 + 1 ∧ i344 + 1 ≤ 9223372036854775807 then (most15_l1 p2 p0 p1 K346 k352 (i344 + 1) m345) else none) else (Option.bind (rd x367.table p1) fun (x419 : Hd) => (if x419.is = true then (if -9223372036854775808 ≤ (mget m345 x419.cell) + 1 ∧ (mget m345 x419.cell) + 1 ≤ 9223372036854775807 then (if -9223372036854775808 ≤ 2 * (mget (mput m345 x419.cell ((mget m345 x419.cell) + 1)) x419.cell) ∧ 2 * (mget (mput m345 x419.cell ((mget m345 x419.cell) + 1)) x419.cell) ≤ 9223372036854775807 then (if -9223372036854775808 ≤ p0 - 1 ∧ p0 - 1 ≤ 9223372036854775807 then (if (p0 - 1) < (2 * (mget (mput m345 x419.cell ((mget m345 x419.cell) + 1)) x419.cell)) then (some (⟨true, x419.cell⟩ : Hd)) else (if -9223372036854775808 ≤ i344 + 1 ∧ i344 + 1 ≤ 9223372036854775807 then (most15_l1 p2 p0 p1 K346 k352 (i344 + 1) (mput m345 x419.cell ((mget m345 x419.cell) + 1))) else none)) else none) else none) else none) else (if -9223372036854775808 ≤ i344 + 1 ∧ i344 + 1 ≤ 9223372036854775807 then (most15_l1 p2 p0 p1 K346 k352 (i344 + 1) m345) else none)))) else (if -9223372036854775808 ≤ i344 + 1 ∧ i344 + 1 ≤ 9223372036854775807 then (most15_l1 p2 p0 p1 K346 k352 (i344 + 1) m345) else none)))) else (K346 ())

def most15 (p0 : Int) (p1 : Int) (p2 : List Rw) : Option Hd := if 0 ≤ min p0 ((p2.length : Nat) : Int) ∧ min p0 ((p2.length : Nat) : Int) ≤ ((p2.length : Nat) : Int) then (most15_l1 p2 p0 p1 (fun (_ : Unit) => (some Hd.none)) 1000000 0 []) else none

def agree15_l1 (p0 : Int) (p1 : List Rw) (K188 : (List Hd) → Option (List Hd)) : Nat → Int → (List Hd) → Option (List Hd)
  | 0, _, _ => none
  | k194 + 1, i181, l182 => if i181 < (((List.replicate (p0).toNat Hd.none).length : Nat) : Int) then (Option.bind (most15 p0 i181 p1) fun (y208 : Hd) => (Option.bind (rd l182 i181) fun (x216 : Hd) => (if -9223372036854775808 ≤ i181 + 1 ∧ i181 + 1 ≤ 9223372036854775807 then (agree15_l1 p0 p1 K188 k194 (i181 + 1) ((l182).set (i181).toNat y208)) else none))) else (K188 l182)

def agree15 (p0 : Int) (p1 : List Rw) : Option (List Hd) := if p0 < 4 then (some []) else (if 16 < p0 then (some []) else (if 0 ≤ p0 ∧ p0 < 1000000 then (agree15_l1 p0 p1 (fun (l185 : List Hd) => (some l185)) 1000000 0 (List.replicate (p0).toNat Hd.none)) else none))

end Go.Proofs.Ytckcldimnelklaa
