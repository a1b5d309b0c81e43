/- What the functions answer: group 14v. -/
import Derived.Test.YtckcldimnelklaaD14l
namespace Go.Proofs.Ytckcldimnelklaa
open Go
set_option linter.unusedVariables false
set_option linter.unusedSimpArgs false
set_option maxRecDepth 100000
set_option maxHeartbeats 4000000

def sayC14 (q0 : Int × Int × Int × Bool × (List (((List Rw) × (List Rw)) × ((List Rw) × (List Rw))))) (p1 : Rw) : Option ((List Rw) × (List Rw) × (Int × Int × Int × Bool × (List (((List Rw) × (List Rw)) × ((List Rw) × (List Rw)))))) := if q0.2.2.2.1 = true then (none) else (some ([], [], (q0.1, q0.2.1, q0.2.2.1, q0.2.2.2.1, q0.2.2.2.2)))

def sayN14 (p1 : Rw) : Option ((List Rw) × (List Rw)) := some ([], [])

def hearN14 (p1 : (List Rw) × (List Rw) × (List Rw) × (List Rw)) : Option (List Rw) := some []

def hearV14 (q0 : Int × Int × Int × Bool × (List (((List Rw) × (List Rw)) × ((List Rw) × (List Rw))))) (p1 : (List Rw) × (List Rw) × (List Rw) × (List Rw)) : Option ((List Rw) × (Int × Int × Int × Bool × (List (((List Rw) × (List Rw)) × ((List Rw) × (List Rw)))))) := if q0.1 = 0 then (some ([], (q0.1, q0.2.1, q0.2.2.1, q0.2.2.2.1, q0.2.2.2.2))) else (none)

end Go.Proofs.Ytckcldimnelklaa
