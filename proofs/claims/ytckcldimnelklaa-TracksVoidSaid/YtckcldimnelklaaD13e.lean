/- What words.Copy answers. -/
import Derived.Test.YtckcldimnelklaaD13c
namespace Go.Proofs.Ytckcldimnelklaa
open Go
set_option linter.unusedVariables false
set_option linter.unusedSimpArgs false
set_option maxRecDepth 100000
set_option maxHeartbeats 4000000

def clone13t (p0 : List Hd) : Option (List Hd) := some ([] : List Hd)

def clone13 (p0 : List Hd) : Option (List Hd) := if ([] : List Hd).length + p0.length < 1000000 then (some (([] : List Hd) ++ p0)) else none

def copy13 (p0 : Rw) : Option Rw := Option.bind (clone13 p0.table) fun (y118 : (List Hd)) => (some (⟨p0.is, p0.cell, y118⟩ : Rw))

end Go.Proofs.Ytckcldimnelklaa
