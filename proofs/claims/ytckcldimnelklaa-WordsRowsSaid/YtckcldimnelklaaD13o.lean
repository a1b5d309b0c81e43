/- Plain, whose table is one's own. -/
import Derived.Test.YtckcldimnelklaaD13c
import Derived.Test.YtckcldimnelklaaD13b
namespace Go.Proofs.Ytckcldimnelklaa
open Go
set_option linter.unusedVariables false
set_option linter.unusedSimpArgs false
set_option maxRecDepth 100000
set_option maxHeartbeats 4000000

def filledHo13_l1 (p0 : Int) (p1 : List Hd) (K210 : (List Hd) → Option (List Hd)) : Nat → Int → (List Hd) → Option (List Hd)
  | 0, _, _ => none
  | k216 + 1, i203, l204 => if i203 < (min p0 ((p1.length : Nat) : Int)) then (Option.bind (rd p1 i203) fun (x230 : Hd) => (Option.bind (held13 x230) fun (y244 : Hd) => (Option.bind (rd l204 i203) fun (x252 : Hd) => (if -9223372036854775808 ≤ i203 + 1 ∧ i203 + 1 ≤ 9223372036854775807 then (filledHo13_l1 p0 p1 K210 k216 (i203 + 1) ((l204).set (i203).toNat y244)) else none)))) else (K210 l204)

def filledHo13 (p0 : Int) (p1 : List Hd) : Option (List Hd) := if 0 ≤ p0 ∧ p0 < 1000000 then (filledHo13_l1 p0 p1 (fun (l207 : List Hd) => (some l207)) 1000000 0 (List.replicate (p0).toNat Hd.none)) else none

def plaino13 (p0 : Int) (p1 : Rw) : Option Rw := if p1.is = true then (Option.bind (may13 p0) fun (y121 : Bool) => (if y121 = true then (Option.bind (cell13 p1.cell) fun (y134 : Cl) => (Option.bind (filledHo13 p0 p1.table) fun (y142 : (List Hd)) => (some (⟨true, y134, y142⟩ : Rw)))) else (some (⟨Rw.none.is, Rw.none.cell, ([] : List Hd)⟩ : Rw)))) else (some (⟨Rw.none.is, Rw.none.cell, ([] : List Hd)⟩ : Rw))

end Go.Proofs.Ytckcldimnelklaa
