/- What Twin answers. -/
import Derived.Test.YtckcldimnelklaaD13t
namespace Go.Proofs.Ytckcldimnelklaa
open Go
set_option linter.unusedVariables false
set_option linter.unusedSimpArgs false
set_option maxRecDepth 100000
set_option maxHeartbeats 4000000

def twin13 (p0 : Rw) : Option Rw := if p0.table.length < 1000000 then (if p0.table.length + 2 < 1000000 then (if ([] : List Hd).length + p0.table.length < 1000000 then (if (([] : List Hd) ++ p0.table).length < 1000000 then (if 0 ≤ ((p0.table.length : Nat) : Int) ∧ ((p0.table.length : Nat) : Int) ≤ ((((([] : List Hd) ++ p0.table) ++ [(⟨Hd.none.is, (⟨-77, Cl.zero.offer, Cl.zero.report, Cl.zero.view⟩ : Cl)⟩ : Hd), (⟨Hd.none.is, (⟨-77, Cl.zero.offer, Cl.zero.report, Cl.zero.view⟩ : Cl)⟩ : Hd)]).length : Nat) : Int) then (some (⟨p0.is, p0.cell, ((([] : List Hd) ++ p0.table) ++ [(⟨Hd.none.is, (⟨-77, Cl.zero.offer, Cl.zero.report, Cl.zero.view⟩ : Cl)⟩ : Hd), (⟨Hd.none.is, (⟨-77, Cl.zero.offer, Cl.zero.report, Cl.zero.view⟩ : Cl)⟩ : Hd)]).take (((p0.table.length : Nat) : Int)).toNat⟩ : Rw)) else none) else none) else none) else none) else none

end Go.Proofs.Ytckcldimnelklaa
