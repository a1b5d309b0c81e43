/- What words.Cell answers. -/
import Derived.Test.YtckcldimnelklaaD13a
namespace Go.Proofs.Ytckcldimnelklaa
open Go

/-- What is left to do from the i-th step on. -/
def cellT13 : Nat → Cl → Option Cl
  | 0, c => Option.bind (c1_13 c) fun c => Option.bind (c2_13 c) fun c => Option.bind (c3_13 c) fun c => Option.bind (c4_13 c) some
  | 1, c => Option.bind (c2_13 c) fun c => Option.bind (c3_13 c) fun c => Option.bind (c4_13 c) some
  | 2, c => Option.bind (c3_13 c) fun c => Option.bind (c4_13 c) some
  | 3, c => Option.bind (c4_13 c) some
  | _, c => some c
def cell13 (p0 : Cl) : Option Cl := cellT13 0 p0
end Go.Proofs.Ytckcldimnelklaa
