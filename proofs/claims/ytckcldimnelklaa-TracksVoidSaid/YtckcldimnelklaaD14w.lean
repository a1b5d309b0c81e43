/- What the functions answer: group 14w. -/
import Derived.Test.YtckcldimnelklaaD14l
namespace Go.Proofs.Ytckcldimnelklaa
open Go
set_option linter.unusedVariables false
set_option linter.unusedSimpArgs false
set_option maxRecDepth 100000
set_option maxHeartbeats 4000000

def sayR14 (q0 : Int × Int × Int × Bool × (List (((List Rw) × (List Rw)) × ((List Rw) × (List Rw))))) (p1 : Rw) : Option ((List Rw) × (List Rw)) := if q0.2.2.2.1 = true then (none) else (some ([], []))

def hearR14 (q0 : Int × Int × Int × Bool × (List (((List Rw) × (List Rw)) × ((List Rw) × (List Rw))))) (p1 : (List Rw) × (List Rw) × (List Rw) × (List Rw)) : Option (List Rw) := if q0.1 = 0 then (some []) else (none)

end Go.Proofs.Ytckcldimnelklaa
