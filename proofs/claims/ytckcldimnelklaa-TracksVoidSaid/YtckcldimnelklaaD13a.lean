/- What the functions answer: group 13a. -/
import Derived.Test.YtckcldimnelklaaTA
import Derived.Test.YtckcldimnelklaaTSd
namespace Go.Proofs.Ytckcldimnelklaa
open Go
set_option linter.unusedVariables false
set_option linter.unusedSimpArgs false
set_option maxRecDepth 100000
set_option maxHeartbeats 4000000

def said13 (p0 : Sd) : Option Sd := if p0.is = true then (if p0.at_ < 0 then (some Sd.none) else (if 1099511627776 < p0.at_ then (some Sd.none) else (if p0.kind = 1 then (some p0) else (if p0.kind = 2 then (some p0) else (some Sd.none))))) else (some Sd.none)

def c1_13 (q0 : Cl) : Option Cl := if q0.age < 0 then (some (⟨-1, q0.offer, q0.report, q0.view⟩ : Cl)) else (if 1099511627776 < q0.age then (some (⟨-1, q0.offer, q0.report, q0.view⟩ : Cl)) else (some q0))

def c2_13 (q0 : Cl) : Option Cl := Option.bind (said13 q0.offer) fun (y103 : Sd) => (Option.bind (said13 q0.report) fun (y111 : Sd) => (some (⟨q0.age, y103, y111, q0.view⟩ : Cl)))

def c3_13 (q0 : Cl) : Option Cl := if q0.view.command < 0 then (some (⟨q0.age, q0.offer, q0.report, (⟨q0.view.i0, q0.view.i1, q0.view.i2, q0.view.i3, q0.view.i4, q0.view.i5, q0.view.i6, q0.view.i7, q0.view.m0, q0.view.m1, q0.view.m2, q0.view.m3, q0.view.m4, q0.view.m5, q0.view.m6, q0.view.m7, q0.view.g0, q0.view.g1, q0.view.g2, q0.view.g3, q0.view.g4, q0.view.g5, q0.view.g6, q0.view.g7, q0.view.s0, q0.view.s1, q0.view.s2, q0.view.s3, q0.view.s4, q0.view.s5, q0.view.s6, q0.view.s7, q0.view.t0, q0.view.t1, q0.view.t2, q0.view.t3, q0.view.t4, q0.view.t5, q0.view.t6, q0.view.t7, -1, q0.view.mode⟩ : Vw)⟩ : Cl)) else (if 8 ≤ q0.view.command then (some (⟨q0.age, q0.offer, q0.report, (⟨q0.view.i0, q0.view.i1, q0.view.i2, q0.view.i3, q0.view.i4, q0.view.i5, q0.view.i6, q0.view.i7, q0.view.m0, q0.view.m1, q0.view.m2, q0.view.m3, q0.view.m4, q0.view.m5, q0.view.m6, q0.view.m7, q0.view.g0, q0.view.g1, q0.view.g2, q0.view.g3, q0.view.g4, q0.view.g5, q0.view.g6, q0.view.g7, q0.view.s0, q0.view.s1, q0.view.s2, q0.view.s3, q0.view.s4, q0.view.s5, q0.view.s6, q0.view.s7, q0.view.t0, q0.view.t1, q0.view.t2, q0.view.t3, q0.view.t4, q0.view.t5, q0.view.t6, q0.view.t7, -1, q0.view.mode⟩ : Vw)⟩ : Cl)) else (some q0))

def c4_13 (q0 : Cl) : Option Cl := if 7 < q0.view.mode then (some (⟨q0.age, q0.offer, q0.report, (⟨q0.view.i0, q0.view.i1, q0.view.i2, q0.view.i3, q0.view.i4, q0.view.i5, q0.view.i6, q0.view.i7, q0.view.m0, q0.view.m1, q0.view.m2, q0.view.m3, q0.view.m4, q0.view.m5, q0.view.m6, q0.view.m7, q0.view.g0, q0.view.g1, q0.view.g2, q0.view.g3, q0.view.g4, q0.view.g5, q0.view.g6, q0.view.g7, q0.view.s0, q0.view.s1, q0.view.s2, q0.view.s3, q0.view.s4, q0.view.s5, q0.view.s6, q0.view.s7, q0.view.t0, q0.view.t1, q0.view.t2, q0.view.t3, q0.view.t4, q0.view.t5, q0.view.t6, q0.view.t7, q0.view.command, 0⟩ : Vw)⟩ : Cl)) else (some q0)

def may13 (p0 : Int) : Option Bool := if 0 ≤ p0 then (if p0 ≤ 16 then (some true) else (some false)) else (some false)

end Go.Proofs.Ytckcldimnelklaa
