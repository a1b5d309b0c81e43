/-
  No cell of these rows narrows 'for every input' (looked for: loops, veiled, ifaces, maps, wideKeys, modest, calm, conditions, laid).
  DERIVED. THE GIVEN ROWS OF THIS SEAT. 27 by the template 'for every input the law returns true; each argument reads behind the call as it read before'; 0 by the template 'total and deterministic' (their statements: YtckcldimnelklaaTotals.lean).
  GIVEN WITH THE SEED: the statements are not yours to turn. If you find one false, say at which input.
  Laid BY PROGRAM, IN A SANDBOX (cutbox-rows.mjs): the forced cells as the released guide's own fill.sh prints them over the translation 30b4ffbfbed00853… (all of the seat's roots in one cut). By AI agents, Wed Nov 11 2026. No macro, syntax, notation, axiom, sorry.
-/
import Derived.Test.YtckcldimnelklaaChecked
import GoSem.Claim
import GoSem.ClaimJoined
import GoSem.ClaimMapViews
import Derived.JoinedTies
import Derived.KernelRfl
namespace Go.Proofs.Ytckcldimnelklaa
/- THE CELL 'sum', in the pinned program and in every row, IS THE sha256 OF THE DUMP (.gsa) THAT YtckcldimnelklaaProg.lean LOADS. Nothing in Lean hashes anything: it is a label: what it is worth is what the hold of that sum in a sandbox is worth. -/
noncomputable def Try.pinned : Pinned := { name := "ytckcldimnelklaa", sum := "30b4ffbfbed00853e29fb33a9f1313c30582bd632ed10c0d03f2507dc4457b03", checked := Try.checked }
namespace Rows
def none {H : Type} : Left H := { results := [], args := [] }

/-- 'sennitlaw15.AgreesAny': WHATEVER THE INPUT: true; the input reads as it did. -/
def agreesAnySpec : ChangeSpec := { name := "agreesAny", fn := fun _ => fun
  | [d1, d2] => { results := [.lit (.bool true)], args := [d1, d2] }
  | _ => none }
def agreesAnyRow : OpenClaim := { program := "ytckcldimnelklaa", sum := "30b4ffbfbed00853e29fb33a9f1313c30582bd632ed10c0d03f2507dc4457b03", func := "sennit/sennitlaw15.AgreesAny", spec := "agreesAny", plainKeys := false, apart := false }
def AgreesAnySaid : Prop := agreesAnyRow.holds Try.pinned (OpenSpec.ofChange agreesAnySpec)

/-- ITS FALSE NEIGHBOUR: 'it returns false'. Refute it at one input. -/
def agreesAnyWrong : ChangeSpec := { name := "agreesAny", fn := fun _ => fun
  | [d1, d2] => { results := [.lit (.bool false)], args := [d1, d2] }
  | _ => none }
def AgreesAnyWrongFalsely : Prop := agreesAnyRow.holds Try.pinned (OpenSpec.ofChange agreesAnyWrong)

/-- 'sennitlaw15.AgreesOne': WHATEVER THE INPUT: true; the input reads as it did. -/
def agreesOneSpec : ChangeSpec := { name := "agreesOne", fn := fun _ => fun
  | [d1, d2, d3] => { results := [.lit (.bool true)], args := [d1, d2, d3] }
  | _ => none }
def agreesOneRow : OpenClaim := { program := "ytckcldimnelklaa", sum := "30b4ffbfbed00853e29fb33a9f1313c30582bd632ed10c0d03f2507dc4457b03", func := "sennit/sennitlaw15.AgreesOne", spec := "agreesOne", plainKeys := false, apart := false }
def AgreesOneSaid : Prop := agreesOneRow.holds Try.pinned (OpenSpec.ofChange agreesOneSpec)

/-- ITS FALSE NEIGHBOUR: 'it returns false'. Refute it at one input. -/
def agreesOneWrong : ChangeSpec := { name := "agreesOne", fn := fun _ => fun
  | [d1, d2, d3] => { results := [.lit (.bool false)], args := [d1, d2, d3] }
  | _ => none }
def AgreesOneWrongFalsely : Prop := agreesOneRow.holds Try.pinned (OpenSpec.ofChange agreesOneWrong)

/-- 'sennitlaw17.CliquesPlay': WHATEVER THE INPUT: true; the input reads as it did. -/
def cliquesPlaySpec : ChangeSpec := { name := "cliquesPlay", fn := fun _ => fun
  | [d1, d2] => { results := [.lit (.bool true)], args := [d1, d2] }
  | _ => none }
def cliquesPlayRow : OpenClaim := { program := "ytckcldimnelklaa", sum := "30b4ffbfbed00853e29fb33a9f1313c30582bd632ed10c0d03f2507dc4457b03", func := "sennit/sennitlaw17.CliquesPlay", spec := "cliquesPlay", plainKeys := false, apart := false }
def CliquesPlaySaid : Prop := cliquesPlayRow.holds Try.pinned (OpenSpec.ofChange cliquesPlaySpec)

/-- ITS FALSE NEIGHBOUR: 'it returns false'. Refute it at one input. -/
def cliquesPlayWrong : ChangeSpec := { name := "cliquesPlay", fn := fun _ => fun
  | [d1, d2] => { results := [.lit (.bool false)], args := [d1, d2] }
  | _ => none }
def CliquesPlayWrongFalsely : Prop := cliquesPlayRow.holds Try.pinned (OpenSpec.ofChange cliquesPlayWrong)

/-- 'sennitlaw17.CliquesVoid': WHATEVER THE INPUT: true; the input reads as it did. -/
def cliquesVoidSpec : ChangeSpec := { name := "cliquesVoid", fn := fun _ => fun
  | [d] => { results := [.lit (.bool true)], args := [d] }
  | _ => none }
def cliquesVoidRow : OpenClaim := { program := "ytckcldimnelklaa", sum := "30b4ffbfbed00853e29fb33a9f1313c30582bd632ed10c0d03f2507dc4457b03", func := "sennit/sennitlaw17.CliquesVoid", spec := "cliquesVoid", plainKeys := false, apart := false }
def CliquesVoidSaid : Prop := cliquesVoidRow.holds Try.pinned (OpenSpec.ofChange cliquesVoidSpec)

/-- ITS FALSE NEIGHBOUR: 'it returns false'. Refute it at one input. -/
def cliquesVoidWrong : ChangeSpec := { name := "cliquesVoid", fn := fun _ => fun
  | [d] => { results := [.lit (.bool false)], args := [d] }
  | _ => none }
def CliquesVoidWrongFalsely : Prop := cliquesVoidRow.holds Try.pinned (OpenSpec.ofChange cliquesVoidWrong)

/-- 'sennitlaw17.CliquesRun': WHATEVER THE INPUT: true; the input reads as it did. -/
def cliquesRunSpec : ChangeSpec := { name := "cliquesRun", fn := fun _ => fun
  | [d1, d2] => { results := [.lit (.bool true)], args := [d1, d2] }
  | _ => none }
def cliquesRunRow : OpenClaim := { program := "ytckcldimnelklaa", sum := "30b4ffbfbed00853e29fb33a9f1313c30582bd632ed10c0d03f2507dc4457b03", func := "sennit/sennitlaw17.CliquesRun", spec := "cliquesRun", plainKeys := false, apart := false }
def CliquesRunSaid : Prop := cliquesRunRow.holds Try.pinned (OpenSpec.ofChange cliquesRunSpec)

/-- ITS FALSE NEIGHBOUR: 'it returns false'. Refute it at one input. -/
def cliquesRunWrong : ChangeSpec := { name := "cliquesRun", fn := fun _ => fun
  | [d1, d2] => { results := [.lit (.bool false)], args := [d1, d2] }
  | _ => none }
def CliquesRunWrongFalsely : Prop := cliquesRunRow.holds Try.pinned (OpenSpec.ofChange cliquesRunWrong)

/-- 'sennitlaw18.BootsPlay': WHATEVER THE INPUT: true; the input reads as it did. -/
def bootsPlaySpec : ChangeSpec := { name := "bootsPlay", fn := fun _ => fun
  | [d1, d2] => { results := [.lit (.bool true)], args := [d1, d2] }
  | _ => none }
def bootsPlayRow : OpenClaim := { program := "ytckcldimnelklaa", sum := "30b4ffbfbed00853e29fb33a9f1313c30582bd632ed10c0d03f2507dc4457b03", func := "sennit/sennitlaw18.BootsPlay", spec := "bootsPlay", plainKeys := false, apart := false }
def BootsPlaySaid : Prop := bootsPlayRow.holds Try.pinned (OpenSpec.ofChange bootsPlaySpec)

/-- ITS FALSE NEIGHBOUR: 'it returns false'. Refute it at one input. -/
def bootsPlayWrong : ChangeSpec := { name := "bootsPlay", fn := fun _ => fun
  | [d1, d2] => { results := [.lit (.bool false)], args := [d1, d2] }
  | _ => none }
def BootsPlayWrongFalsely : Prop := bootsPlayRow.holds Try.pinned (OpenSpec.ofChange bootsPlayWrong)

/-- 'sennitlaw18.BootsStart': WHATEVER THE INPUT: true; the input reads as it did. -/
def bootsStartSpec : ChangeSpec := { name := "bootsStart", fn := fun _ => fun
  | [d1, d2, d3] => { results := [.lit (.bool true)], args := [d1, d2, d3] }
  | _ => none }
def bootsStartRow : OpenClaim := { program := "ytckcldimnelklaa", sum := "30b4ffbfbed00853e29fb33a9f1313c30582bd632ed10c0d03f2507dc4457b03", func := "sennit/sennitlaw18.BootsStart", spec := "bootsStart", unfollowed := true, recurses := true, plainKeys := false, apart := false }
def BootsStartSaid : Prop := bootsStartRow.holds Try.pinned (OpenSpec.ofChange bootsStartSpec)

/-- ITS FALSE NEIGHBOUR: 'it returns false'. Refute it at one input. -/
def bootsStartWrong : ChangeSpec := { name := "bootsStart", fn := fun _ => fun
  | [d1, d2, d3] => { results := [.lit (.bool false)], args := [d1, d2, d3] }
  | _ => none }
def BootsStartWrongFalsely : Prop := bootsStartRow.holds Try.pinned (OpenSpec.ofChange bootsStartWrong)

/-- 'sennitlaw18.BootsVoid': WHATEVER THE INPUT: true; the input reads as it did. -/
def bootsVoidSpec : ChangeSpec := { name := "bootsVoid", fn := fun _ => fun
  | [d] => { results := [.lit (.bool true)], args := [d] }
  | _ => none }
def bootsVoidRow : OpenClaim := { program := "ytckcldimnelklaa", sum := "30b4ffbfbed00853e29fb33a9f1313c30582bd632ed10c0d03f2507dc4457b03", func := "sennit/sennitlaw18.BootsVoid", spec := "bootsVoid", plainKeys := false, apart := false }
def BootsVoidSaid : Prop := bootsVoidRow.holds Try.pinned (OpenSpec.ofChange bootsVoidSpec)

/-- ITS FALSE NEIGHBOUR: 'it returns false'. Refute it at one input. -/
def bootsVoidWrong : ChangeSpec := { name := "bootsVoid", fn := fun _ => fun
  | [d] => { results := [.lit (.bool false)], args := [d] }
  | _ => none }
def BootsVoidWrongFalsely : Prop := bootsVoidRow.holds Try.pinned (OpenSpec.ofChange bootsVoidWrong)

/-- 'sennitlaw18.BootsAge': WHATEVER THE INPUT: true; the input reads as it did. -/
def bootsAgeSpec : ChangeSpec := { name := "bootsAge", fn := fun _ => fun
  | [d1, d2] => { results := [.lit (.bool true)], args := [d1, d2] }
  | _ => none }
def bootsAgeRow : OpenClaim := { program := "ytckcldimnelklaa", sum := "30b4ffbfbed00853e29fb33a9f1313c30582bd632ed10c0d03f2507dc4457b03", func := "sennit/sennitlaw18.BootsAge", spec := "bootsAge", plainKeys := false, apart := false }
def BootsAgeSaid : Prop := bootsAgeRow.holds Try.pinned (OpenSpec.ofChange bootsAgeSpec)

/-- ITS FALSE NEIGHBOUR: 'it returns false'. Refute it at one input. -/
def bootsAgeWrong : ChangeSpec := { name := "bootsAge", fn := fun _ => fun
  | [d1, d2] => { results := [.lit (.bool false)], args := [d1, d2] }
  | _ => none }
def BootsAgeWrongFalsely : Prop := bootsAgeRow.holds Try.pinned (OpenSpec.ofChange bootsAgeWrong)

/-- 'sennitlaw18.BootsOne': WHATEVER THE INPUT: true; the input reads as it did. -/
def bootsOneSpec : ChangeSpec := { name := "bootsOne", fn := fun _ => fun
  | [d1, d2, d3] => { results := [.lit (.bool true)], args := [d1, d2, d3] }
  | _ => none }
def bootsOneRow : OpenClaim := { program := "ytckcldimnelklaa", sum := "30b4ffbfbed00853e29fb33a9f1313c30582bd632ed10c0d03f2507dc4457b03", func := "sennit/sennitlaw18.BootsOne", spec := "bootsOne", unfollowed := true, recurses := true, plainKeys := false, apart := false }
def BootsOneSaid : Prop := bootsOneRow.holds Try.pinned (OpenSpec.ofChange bootsOneSpec)

/-- ITS FALSE NEIGHBOUR: 'it returns false'. Refute it at one input. -/
def bootsOneWrong : ChangeSpec := { name := "bootsOne", fn := fun _ => fun
  | [d1, d2, d3] => { results := [.lit (.bool false)], args := [d1, d2, d3] }
  | _ => none }
def BootsOneWrongFalsely : Prop := bootsOneRow.holds Try.pinned (OpenSpec.ofChange bootsOneWrong)

/-- 'sennitlaw13.WordsNorm': WHATEVER THE INPUT: true; the input reads as it did. -/
def wordsNormSpec : ChangeSpec := { name := "wordsNorm", fn := fun _ => fun
  | [d1, d2] => { results := [.lit (.bool true)], args := [d1, d2] }
  | _ => none }
def wordsNormRow : OpenClaim := { program := "ytckcldimnelklaa", sum := "30b4ffbfbed00853e29fb33a9f1313c30582bd632ed10c0d03f2507dc4457b03", func := "sennit/sennitlaw13.WordsNorm", spec := "wordsNorm", unfollowed := true, recurses := true, plainKeys := false, apart := false }
def WordsNormSaid : Prop := wordsNormRow.holds Try.pinned (OpenSpec.ofChange wordsNormSpec)

/-- ITS FALSE NEIGHBOUR: 'it returns false'. Refute it at one input. -/
def wordsNormWrong : ChangeSpec := { name := "wordsNorm", fn := fun _ => fun
  | [d1, d2] => { results := [.lit (.bool false)], args := [d1, d2] }
  | _ => none }
def WordsNormWrongFalsely : Prop := wordsNormRow.holds Try.pinned (OpenSpec.ofChange wordsNormWrong)

/-- 'sennitlaw13.WordsIdle': WHATEVER THE INPUT: true; the input reads as it did. -/
def wordsIdleSpec : ChangeSpec := { name := "wordsIdle", fn := fun _ => fun
  | [d1, d2] => { results := [.lit (.bool true)], args := [d1, d2] }
  | _ => none }
def wordsIdleRow : OpenClaim := { program := "ytckcldimnelklaa", sum := "30b4ffbfbed00853e29fb33a9f1313c30582bd632ed10c0d03f2507dc4457b03", func := "sennit/sennitlaw13.WordsIdle", spec := "wordsIdle", unfollowed := true, recurses := true, plainKeys := false, apart := false }
def WordsIdleSaid : Prop := wordsIdleRow.holds Try.pinned (OpenSpec.ofChange wordsIdleSpec)

/-- ITS FALSE NEIGHBOUR: 'it returns false'. Refute it at one input. -/
def wordsIdleWrong : ChangeSpec := { name := "wordsIdle", fn := fun _ => fun
  | [d1, d2] => { results := [.lit (.bool false)], args := [d1, d2] }
  | _ => none }
def WordsIdleWrongFalsely : Prop := wordsIdleRow.holds Try.pinned (OpenSpec.ofChange wordsIdleWrong)

/-- 'sennitlaw13.WordsRows': WHATEVER THE INPUT: true; the input reads as it did. -/
def wordsRowsSpec : ChangeSpec := { name := "wordsRows", fn := fun _ => fun
  | [d1, d2, d3] => { results := [.lit (.bool true)], args := [d1, d2, d3] }
  | _ => none }
def wordsRowsRow : OpenClaim := { program := "ytckcldimnelklaa", sum := "30b4ffbfbed00853e29fb33a9f1313c30582bd632ed10c0d03f2507dc4457b03", func := "sennit/sennitlaw13.WordsRows", spec := "wordsRows", unfollowed := true, recurses := true, plainKeys := false, apart := false }
def WordsRowsSaid : Prop := wordsRowsRow.holds Try.pinned (OpenSpec.ofChange wordsRowsSpec)

/-- ITS FALSE NEIGHBOUR: 'it returns false'. Refute it at one input. -/
def wordsRowsWrong : ChangeSpec := { name := "wordsRows", fn := fun _ => fun
  | [d1, d2, d3] => { results := [.lit (.bool false)], args := [d1, d2, d3] }
  | _ => none }
def WordsRowsWrongFalsely : Prop := wordsRowsRow.holds Try.pinned (OpenSpec.ofChange wordsRowsWrong)

/-- 'sennitlaw13.WordsChange': WHATEVER THE INPUT: true; the input reads as it did. -/
def wordsChangeSpec : ChangeSpec := { name := "wordsChange", fn := fun _ => fun
  | [d1, d2, d3] => { results := [.lit (.bool true)], args := [d1, d2, d3] }
  | _ => none }
def wordsChangeRow : OpenClaim := { program := "ytckcldimnelklaa", sum := "30b4ffbfbed00853e29fb33a9f1313c30582bd632ed10c0d03f2507dc4457b03", func := "sennit/sennitlaw13.WordsChange", spec := "wordsChange", unfollowed := true, recurses := true, plainKeys := false, apart := false }
def WordsChangeSaid : Prop := wordsChangeRow.holds Try.pinned (OpenSpec.ofChange wordsChangeSpec)

/-- ITS FALSE NEIGHBOUR: 'it returns false'. Refute it at one input. -/
def wordsChangeWrong : ChangeSpec := { name := "wordsChange", fn := fun _ => fun
  | [d1, d2, d3] => { results := [.lit (.bool false)], args := [d1, d2, d3] }
  | _ => none }
def WordsChangeWrongFalsely : Prop := wordsChangeRow.holds Try.pinned (OpenSpec.ofChange wordsChangeWrong)

/-- 'sennitlaw14.TracksPlay': WHATEVER THE INPUT: true; the input reads as it did. -/
def tracksPlaySpec : ChangeSpec := { name := "tracksPlay", fn := fun _ => fun
  | [d1, d2, d3] => { results := [.lit (.bool true)], args := [d1, d2, d3] }
  | _ => none }
def tracksPlayRow : OpenClaim := { program := "ytckcldimnelklaa", sum := "30b4ffbfbed00853e29fb33a9f1313c30582bd632ed10c0d03f2507dc4457b03", func := "sennit/sennitlaw14.TracksPlay", spec := "tracksPlay", unfollowed := true, recurses := true, plainKeys := false, apart := false }
def TracksPlaySaid : Prop := tracksPlayRow.holds Try.pinned (OpenSpec.ofChange tracksPlaySpec)

/-- ITS FALSE NEIGHBOUR: 'it returns false'. Refute it at one input. -/
def tracksPlayWrong : ChangeSpec := { name := "tracksPlay", fn := fun _ => fun
  | [d1, d2, d3] => { results := [.lit (.bool false)], args := [d1, d2, d3] }
  | _ => none }
def TracksPlayWrongFalsely : Prop := tracksPlayRow.holds Try.pinned (OpenSpec.ofChange tracksPlayWrong)

/-- 'sennitlaw14.TracksVoid': WHATEVER THE INPUT: true; the input reads as it did. -/
def tracksVoidSpec : ChangeSpec := { name := "tracksVoid", fn := fun _ => fun
  | [d] => { results := [.lit (.bool true)], args := [d] }
  | _ => none }
def tracksVoidRow : OpenClaim := { program := "ytckcldimnelklaa", sum := "30b4ffbfbed00853e29fb33a9f1313c30582bd632ed10c0d03f2507dc4457b03", func := "sennit/sennitlaw14.TracksVoid", spec := "tracksVoid", unfollowed := true, recurses := true, plainKeys := false, apart := false }
def TracksVoidSaid : Prop := tracksVoidRow.holds Try.pinned (OpenSpec.ofChange tracksVoidSpec)

/-- ITS FALSE NEIGHBOUR: 'it returns false'. Refute it at one input. -/
def tracksVoidWrong : ChangeSpec := { name := "tracksVoid", fn := fun _ => fun
  | [d] => { results := [.lit (.bool false)], args := [d] }
  | _ => none }
def TracksVoidWrongFalsely : Prop := tracksVoidRow.holds Try.pinned (OpenSpec.ofChange tracksVoidWrong)

/-- 'sennitlaw14.TracksTruth': WHATEVER THE INPUT: true; the input reads as it did. -/
def tracksTruthSpec : ChangeSpec := { name := "tracksTruth", fn := fun _ => fun
  | [d1, d2, d3] => { results := [.lit (.bool true)], args := [d1, d2, d3] }
  | _ => none }
def tracksTruthRow : OpenClaim := { program := "ytckcldimnelklaa", sum := "30b4ffbfbed00853e29fb33a9f1313c30582bd632ed10c0d03f2507dc4457b03", func := "sennit/sennitlaw14.TracksTruth", spec := "tracksTruth", unfollowed := true, recurses := true, plainKeys := false, apart := false }
def TracksTruthSaid : Prop := tracksTruthRow.holds Try.pinned (OpenSpec.ofChange tracksTruthSpec)

/-- ITS FALSE NEIGHBOUR: 'it returns false'. Refute it at one input. -/
def tracksTruthWrong : ChangeSpec := { name := "tracksTruth", fn := fun _ => fun
  | [d1, d2, d3] => { results := [.lit (.bool false)], args := [d1, d2, d3] }
  | _ => none }
def TracksTruthWrongFalsely : Prop := tracksTruthRow.holds Try.pinned (OpenSpec.ofChange tracksTruthWrong)

/-- 'sennitlaw14.TracksOff': WHATEVER THE INPUT: true; the input reads as it did. -/
def tracksOffSpec : ChangeSpec := { name := "tracksOff", fn := fun _ => fun
  | [d1, d2, d3] => { results := [.lit (.bool true)], args := [d1, d2, d3] }
  | _ => none }
def tracksOffRow : OpenClaim := { program := "ytckcldimnelklaa", sum := "30b4ffbfbed00853e29fb33a9f1313c30582bd632ed10c0d03f2507dc4457b03", func := "sennit/sennitlaw14.TracksOff", spec := "tracksOff", unfollowed := true, recurses := true, plainKeys := false, apart := false }
def TracksOffSaid : Prop := tracksOffRow.holds Try.pinned (OpenSpec.ofChange tracksOffSpec)

/-- ITS FALSE NEIGHBOUR: 'it returns false'. Refute it at one input. -/
def tracksOffWrong : ChangeSpec := { name := "tracksOff", fn := fun _ => fun
  | [d1, d2, d3] => { results := [.lit (.bool false)], args := [d1, d2, d3] }
  | _ => none }
def TracksOffWrongFalsely : Prop := tracksOffRow.holds Try.pinned (OpenSpec.ofChange tracksOffWrong)

/-- 'sennitlaw14.TracksRound': WHATEVER THE INPUT: true; the input reads as it did. -/
def tracksRoundSpec : ChangeSpec := { name := "tracksRound", fn := fun _ => fun
  | [d1, d2] => { results := [.lit (.bool true)], args := [d1, d2] }
  | _ => none }
def tracksRoundRow : OpenClaim := { program := "ytckcldimnelklaa", sum := "30b4ffbfbed00853e29fb33a9f1313c30582bd632ed10c0d03f2507dc4457b03", func := "sennit/sennitlaw14.TracksRound", spec := "tracksRound", unfollowed := true, recurses := true, plainKeys := false, apart := false }
def TracksRoundSaid : Prop := tracksRoundRow.holds Try.pinned (OpenSpec.ofChange tracksRoundSpec)

/-- ITS FALSE NEIGHBOUR: 'it returns false'. Refute it at one input. -/
def tracksRoundWrong : ChangeSpec := { name := "tracksRound", fn := fun _ => fun
  | [d1, d2] => { results := [.lit (.bool false)], args := [d1, d2] }
  | _ => none }
def TracksRoundWrongFalsely : Prop := tracksRoundRow.holds Try.pinned (OpenSpec.ofChange tracksRoundWrong)

/-- 'sennitlaw15.AgreesRing': WHATEVER THE INPUT: true; the input reads as it did. -/
def agreesRingSpec : ChangeSpec := { name := "agreesRing", fn := fun _ => fun
  | [d1, d2, d3] => { results := [.lit (.bool true)], args := [d1, d2, d3] }
  | _ => none }
def agreesRingRow : OpenClaim := { program := "ytckcldimnelklaa", sum := "30b4ffbfbed00853e29fb33a9f1313c30582bd632ed10c0d03f2507dc4457b03", func := "sennit/sennitlaw15.AgreesRing", spec := "agreesRing", unfollowed := true, recurses := true, plainKeys := false, apart := false }
def AgreesRingSaid : Prop := agreesRingRow.holds Try.pinned (OpenSpec.ofChange agreesRingSpec)

/-- ITS FALSE NEIGHBOUR: 'it returns false'. Refute it at one input. -/
def agreesRingWrong : ChangeSpec := { name := "agreesRing", fn := fun _ => fun
  | [d1, d2, d3] => { results := [.lit (.bool false)], args := [d1, d2, d3] }
  | _ => none }
def AgreesRingWrongFalsely : Prop := agreesRingRow.holds Try.pinned (OpenSpec.ofChange agreesRingWrong)

/-- 'sennitlaw15.AgreesOff': WHATEVER THE INPUT: true; the input reads as it did. -/
def agreesOffSpec : ChangeSpec := { name := "agreesOff", fn := fun _ => fun
  | [d1, d2, d3] => { results := [.lit (.bool true)], args := [d1, d2, d3] }
  | _ => none }
def agreesOffRow : OpenClaim := { program := "ytckcldimnelklaa", sum := "30b4ffbfbed00853e29fb33a9f1313c30582bd632ed10c0d03f2507dc4457b03", func := "sennit/sennitlaw15.AgreesOff", spec := "agreesOff", unfollowed := true, recurses := true, plainKeys := false, apart := false }
def AgreesOffSaid : Prop := agreesOffRow.holds Try.pinned (OpenSpec.ofChange agreesOffSpec)

/-- ITS FALSE NEIGHBOUR: 'it returns false'. Refute it at one input. -/
def agreesOffWrong : ChangeSpec := { name := "agreesOff", fn := fun _ => fun
  | [d1, d2, d3] => { results := [.lit (.bool false)], args := [d1, d2, d3] }
  | _ => none }
def AgreesOffWrongFalsely : Prop := agreesOffRow.holds Try.pinned (OpenSpec.ofChange agreesOffWrong)

/-- 'sennitlaw17.CliquesMeet': WHATEVER THE INPUT: true; the input reads as it did. -/
def cliquesMeetSpec : ChangeSpec := { name := "cliquesMeet", fn := fun _ => fun
  | [d1, d2, d3] => { results := [.lit (.bool true)], args := [d1, d2, d3] }
  | _ => none }
def cliquesMeetRow : OpenClaim := { program := "ytckcldimnelklaa", sum := "30b4ffbfbed00853e29fb33a9f1313c30582bd632ed10c0d03f2507dc4457b03", func := "sennit/sennitlaw17.CliquesMeet", spec := "cliquesMeet", unfollowed := true, recurses := true, plainKeys := false, apart := false }
def CliquesMeetSaid : Prop := cliquesMeetRow.holds Try.pinned (OpenSpec.ofChange cliquesMeetSpec)

/-- ITS FALSE NEIGHBOUR: 'it returns false'. Refute it at one input. -/
def cliquesMeetWrong : ChangeSpec := { name := "cliquesMeet", fn := fun _ => fun
  | [d1, d2, d3] => { results := [.lit (.bool false)], args := [d1, d2, d3] }
  | _ => none }
def CliquesMeetWrongFalsely : Prop := cliquesMeetRow.holds Try.pinned (OpenSpec.ofChange cliquesMeetWrong)

/-- 'sennitlaw16.AgesCommon': WHATEVER THE INPUT: true; the input reads as it did. -/
def agesCommonSpec : ChangeSpec := { name := "agesCommon", fn := fun _ => fun
  | [d1, d2] => { results := [.lit (.bool true)], args := [d1, d2] }
  | _ => none }
def agesCommonRow : OpenClaim := { program := "ytckcldimnelklaa", sum := "30b4ffbfbed00853e29fb33a9f1313c30582bd632ed10c0d03f2507dc4457b03", func := "sennit/sennitlaw16.AgesCommon", spec := "agesCommon", unfollowed := true, recurses := true, plainKeys := false, apart := false }
def AgesCommonSaid : Prop := agesCommonRow.holds Try.pinned (OpenSpec.ofChange agesCommonSpec)

/-- ITS FALSE NEIGHBOUR: 'it returns false'. Refute it at one input. -/
def agesCommonWrong : ChangeSpec := { name := "agesCommon", fn := fun _ => fun
  | [d1, d2] => { results := [.lit (.bool false)], args := [d1, d2] }
  | _ => none }
def AgesCommonWrongFalsely : Prop := agesCommonRow.holds Try.pinned (OpenSpec.ofChange agesCommonWrong)

/-- 'sennitlaw16.AgesPlay': WHATEVER THE INPUT: true; the input reads as it did. -/
def agesPlaySpec : ChangeSpec := { name := "agesPlay", fn := fun _ => fun
  | [d1, d2] => { results := [.lit (.bool true)], args := [d1, d2] }
  | _ => none }
def agesPlayRow : OpenClaim := { program := "ytckcldimnelklaa", sum := "30b4ffbfbed00853e29fb33a9f1313c30582bd632ed10c0d03f2507dc4457b03", func := "sennit/sennitlaw16.AgesPlay", spec := "agesPlay", unfollowed := true, recurses := true, plainKeys := false, apart := false }
def AgesPlaySaid : Prop := agesPlayRow.holds Try.pinned (OpenSpec.ofChange agesPlaySpec)

/-- ITS FALSE NEIGHBOUR: 'it returns false'. Refute it at one input. -/
def agesPlayWrong : ChangeSpec := { name := "agesPlay", fn := fun _ => fun
  | [d1, d2] => { results := [.lit (.bool false)], args := [d1, d2] }
  | _ => none }
def AgesPlayWrongFalsely : Prop := agesPlayRow.holds Try.pinned (OpenSpec.ofChange agesPlayWrong)

/-- 'sennitlaw16.AgesVoid': WHATEVER THE INPUT: true; the input reads as it did. -/
def agesVoidSpec : ChangeSpec := { name := "agesVoid", fn := fun _ => fun
  | [d] => { results := [.lit (.bool true)], args := [d] }
  | _ => none }
def agesVoidRow : OpenClaim := { program := "ytckcldimnelklaa", sum := "30b4ffbfbed00853e29fb33a9f1313c30582bd632ed10c0d03f2507dc4457b03", func := "sennit/sennitlaw16.AgesVoid", spec := "agesVoid", unfollowed := true, recurses := true, plainKeys := false, apart := false }
def AgesVoidSaid : Prop := agesVoidRow.holds Try.pinned (OpenSpec.ofChange agesVoidSpec)

/-- ITS FALSE NEIGHBOUR: 'it returns false'. Refute it at one input. -/
def agesVoidWrong : ChangeSpec := { name := "agesVoid", fn := fun _ => fun
  | [d] => { results := [.lit (.bool false)], args := [d] }
  | _ => none }
def AgesVoidWrongFalsely : Prop := agesVoidRow.holds Try.pinned (OpenSpec.ofChange agesVoidWrong)

/-- 'sennitlaw16.AgesMiddle': WHATEVER THE INPUT: true; the input reads as it did. -/
def agesMiddleSpec : ChangeSpec := { name := "agesMiddle", fn := fun _ => fun
  | [d1, d2] => { results := [.lit (.bool true)], args := [d1, d2] }
  | _ => none }
def agesMiddleRow : OpenClaim := { program := "ytckcldimnelklaa", sum := "30b4ffbfbed00853e29fb33a9f1313c30582bd632ed10c0d03f2507dc4457b03", func := "sennit/sennitlaw16.AgesMiddle", spec := "agesMiddle", unfollowed := true, recurses := true, plainKeys := false, apart := false }
def AgesMiddleSaid : Prop := agesMiddleRow.holds Try.pinned (OpenSpec.ofChange agesMiddleSpec)

/-- ITS FALSE NEIGHBOUR: 'it returns false'. Refute it at one input. -/
def agesMiddleWrong : ChangeSpec := { name := "agesMiddle", fn := fun _ => fun
  | [d1, d2] => { results := [.lit (.bool false)], args := [d1, d2] }
  | _ => none }
def AgesMiddleWrongFalsely : Prop := agesMiddleRow.holds Try.pinned (OpenSpec.ofChange agesMiddleWrong)

/-- 'sennitlaw16.AgesRun': WHATEVER THE INPUT: true; the input reads as it did. -/
def agesRunSpec : ChangeSpec := { name := "agesRun", fn := fun _ => fun
  | [d1, d2] => { results := [.lit (.bool true)], args := [d1, d2] }
  | _ => none }
def agesRunRow : OpenClaim := { program := "ytckcldimnelklaa", sum := "30b4ffbfbed00853e29fb33a9f1313c30582bd632ed10c0d03f2507dc4457b03", func := "sennit/sennitlaw16.AgesRun", spec := "agesRun", unfollowed := true, recurses := true, plainKeys := false, apart := false }
def AgesRunSaid : Prop := agesRunRow.holds Try.pinned (OpenSpec.ofChange agesRunSpec)

/-- ITS FALSE NEIGHBOUR: 'it returns false'. Refute it at one input. -/
def agesRunWrong : ChangeSpec := { name := "agesRun", fn := fun _ => fun
  | [d1, d2] => { results := [.lit (.bool false)], args := [d1, d2] }
  | _ => none }
def AgesRunWrongFalsely : Prop := agesRunRow.holds Try.pinned (OpenSpec.ofChange agesRunWrong)

/- THE SECOND FORM. 'bulk': how many values and letters a reading holds, each counted each time it is reached (what is shared counts as often as it is met; a slice's spare places count too). A statement '..UptoSaid' is the law's where the arguments, and the package variables that the reading takes, are together of bulk at most 1048576: NARROWER than '..Said'. Prove '..Said' where nothing that the law and all that it calls make is longer than what came in: it says more and counts as full. Else prove '..UptoSaid'. A law counts once. -/
mutual
def uptoBulk {H : Type} : DataW H → Nat
  | .lit (.string bytes) => bytes.length + 1
  | .lit _ => 1
  | .nil => 1
  | .ptr d => uptoBulk d + 1
  | .slice elems spare => uptoBulkAll elems + uptoBulkAll spare + 1
  | .agg parts => uptoBulkAll parts + 1
  | .iface _ d => uptoBulk d + 1
  | .map entries => uptoBulkEntries entries + 1
  | .held _ => 1
def uptoBulkAll {H : Type} : List (DataW H) → Nat
  | [] => 0
  | d :: r => uptoBulk d + uptoBulkAll r
def uptoBulkEntries {H : Type} : List (Lit × DataW H) → Nat
  | [] => 0
  | x :: r => uptoBulkEntry x + uptoBulkEntries r
def uptoBulkEntry {H : Type} : Lit × DataW H → Nat
  | (.string bytes, d) => bytes.length + uptoBulk d + 1
  | (_, d) => uptoBulk d + 1
 end
def uptoSmall : (H : Type) → List (DataW H) → Bool := fun _ ds => decide (uptoBulkAll ds ≤ 1048576)
def OpenSpec.upto (s : _root_.Go.ChangeSpec) : _root_.Go.OpenSpec := { _root_.Go.OpenSpec.ofChange s with cond := some uptoSmall }

/-- 'sennitlaw15.AgreesAny', WHERE WHAT IT READS IS OF BULK AT MOST 1048576: true; the input reads as it did. -/
def agreesAnyUptoRow : OpenClaim := { program := "ytckcldimnelklaa", sum := "30b4ffbfbed00853e29fb33a9f1313c30582bd632ed10c0d03f2507dc4457b03", func := "sennit/sennitlaw15.AgreesAny", spec := "agreesAny", plainKeys := false, apart := false, narrowed := true }
def AgreesAnyUptoSaid : Prop := agreesAnyUptoRow.holds Try.pinned (OpenSpec.upto agreesAnySpec)

/-- 'sennitlaw15.AgreesOne', WHERE WHAT IT READS IS OF BULK AT MOST 1048576: true; the input reads as it did. -/
def agreesOneUptoRow : OpenClaim := { program := "ytckcldimnelklaa", sum := "30b4ffbfbed00853e29fb33a9f1313c30582bd632ed10c0d03f2507dc4457b03", func := "sennit/sennitlaw15.AgreesOne", spec := "agreesOne", plainKeys := false, apart := false, narrowed := true }
def AgreesOneUptoSaid : Prop := agreesOneUptoRow.holds Try.pinned (OpenSpec.upto agreesOneSpec)

/-- 'sennitlaw17.CliquesPlay', WHERE WHAT IT READS IS OF BULK AT MOST 1048576: true; the input reads as it did. -/
def cliquesPlayUptoRow : OpenClaim := { program := "ytckcldimnelklaa", sum := "30b4ffbfbed00853e29fb33a9f1313c30582bd632ed10c0d03f2507dc4457b03", func := "sennit/sennitlaw17.CliquesPlay", spec := "cliquesPlay", plainKeys := false, apart := false, narrowed := true }
def CliquesPlayUptoSaid : Prop := cliquesPlayUptoRow.holds Try.pinned (OpenSpec.upto cliquesPlaySpec)

/-- 'sennitlaw17.CliquesVoid', WHERE WHAT IT READS IS OF BULK AT MOST 1048576: true; the input reads as it did. -/
def cliquesVoidUptoRow : OpenClaim := { program := "ytckcldimnelklaa", sum := "30b4ffbfbed00853e29fb33a9f1313c30582bd632ed10c0d03f2507dc4457b03", func := "sennit/sennitlaw17.CliquesVoid", spec := "cliquesVoid", plainKeys := false, apart := false, narrowed := true }
def CliquesVoidUptoSaid : Prop := cliquesVoidUptoRow.holds Try.pinned (OpenSpec.upto cliquesVoidSpec)

/-- 'sennitlaw17.CliquesRun', WHERE WHAT IT READS IS OF BULK AT MOST 1048576: true; the input reads as it did. -/
def cliquesRunUptoRow : OpenClaim := { program := "ytckcldimnelklaa", sum := "30b4ffbfbed00853e29fb33a9f1313c30582bd632ed10c0d03f2507dc4457b03", func := "sennit/sennitlaw17.CliquesRun", spec := "cliquesRun", plainKeys := false, apart := false, narrowed := true }
def CliquesRunUptoSaid : Prop := cliquesRunUptoRow.holds Try.pinned (OpenSpec.upto cliquesRunSpec)

/-- 'sennitlaw18.BootsPlay', WHERE WHAT IT READS IS OF BULK AT MOST 1048576: true; the input reads as it did. -/
def bootsPlayUptoRow : OpenClaim := { program := "ytckcldimnelklaa", sum := "30b4ffbfbed00853e29fb33a9f1313c30582bd632ed10c0d03f2507dc4457b03", func := "sennit/sennitlaw18.BootsPlay", spec := "bootsPlay", plainKeys := false, apart := false, narrowed := true }
def BootsPlayUptoSaid : Prop := bootsPlayUptoRow.holds Try.pinned (OpenSpec.upto bootsPlaySpec)

/-- 'sennitlaw18.BootsStart', WHERE WHAT IT READS IS OF BULK AT MOST 1048576: true; the input reads as it did. -/
def bootsStartUptoRow : OpenClaim := { program := "ytckcldimnelklaa", sum := "30b4ffbfbed00853e29fb33a9f1313c30582bd632ed10c0d03f2507dc4457b03", func := "sennit/sennitlaw18.BootsStart", spec := "bootsStart", unfollowed := true, recurses := true, plainKeys := false, apart := false, narrowed := true }
def BootsStartUptoSaid : Prop := bootsStartUptoRow.holds Try.pinned (OpenSpec.upto bootsStartSpec)

/-- 'sennitlaw18.BootsVoid', WHERE WHAT IT READS IS OF BULK AT MOST 1048576: true; the input reads as it did. -/
def bootsVoidUptoRow : OpenClaim := { program := "ytckcldimnelklaa", sum := "30b4ffbfbed00853e29fb33a9f1313c30582bd632ed10c0d03f2507dc4457b03", func := "sennit/sennitlaw18.BootsVoid", spec := "bootsVoid", plainKeys := false, apart := false, narrowed := true }
def BootsVoidUptoSaid : Prop := bootsVoidUptoRow.holds Try.pinned (OpenSpec.upto bootsVoidSpec)

/-- 'sennitlaw18.BootsAge', WHERE WHAT IT READS IS OF BULK AT MOST 1048576: true; the input reads as it did. -/
def bootsAgeUptoRow : OpenClaim := { program := "ytckcldimnelklaa", sum := "30b4ffbfbed00853e29fb33a9f1313c30582bd632ed10c0d03f2507dc4457b03", func := "sennit/sennitlaw18.BootsAge", spec := "bootsAge", plainKeys := false, apart := false, narrowed := true }
def BootsAgeUptoSaid : Prop := bootsAgeUptoRow.holds Try.pinned (OpenSpec.upto bootsAgeSpec)

/-- 'sennitlaw18.BootsOne', WHERE WHAT IT READS IS OF BULK AT MOST 1048576: true; the input reads as it did. -/
def bootsOneUptoRow : OpenClaim := { program := "ytckcldimnelklaa", sum := "30b4ffbfbed00853e29fb33a9f1313c30582bd632ed10c0d03f2507dc4457b03", func := "sennit/sennitlaw18.BootsOne", spec := "bootsOne", unfollowed := true, recurses := true, plainKeys := false, apart := false, narrowed := true }
def BootsOneUptoSaid : Prop := bootsOneUptoRow.holds Try.pinned (OpenSpec.upto bootsOneSpec)

/-- 'sennitlaw13.WordsNorm', WHERE WHAT IT READS IS OF BULK AT MOST 1048576: true; the input reads as it did. -/
def wordsNormUptoRow : OpenClaim := { program := "ytckcldimnelklaa", sum := "30b4ffbfbed00853e29fb33a9f1313c30582bd632ed10c0d03f2507dc4457b03", func := "sennit/sennitlaw13.WordsNorm", spec := "wordsNorm", unfollowed := true, recurses := true, plainKeys := false, apart := false, narrowed := true }
def WordsNormUptoSaid : Prop := wordsNormUptoRow.holds Try.pinned (OpenSpec.upto wordsNormSpec)

/-- 'sennitlaw13.WordsIdle', WHERE WHAT IT READS IS OF BULK AT MOST 1048576: true; the input reads as it did. -/
def wordsIdleUptoRow : OpenClaim := { program := "ytckcldimnelklaa", sum := "30b4ffbfbed00853e29fb33a9f1313c30582bd632ed10c0d03f2507dc4457b03", func := "sennit/sennitlaw13.WordsIdle", spec := "wordsIdle", unfollowed := true, recurses := true, plainKeys := false, apart := false, narrowed := true }
def WordsIdleUptoSaid : Prop := wordsIdleUptoRow.holds Try.pinned (OpenSpec.upto wordsIdleSpec)

/-- 'sennitlaw13.WordsRows', WHERE WHAT IT READS IS OF BULK AT MOST 1048576: true; the input reads as it did. -/
def wordsRowsUptoRow : OpenClaim := { program := "ytckcldimnelklaa", sum := "30b4ffbfbed00853e29fb33a9f1313c30582bd632ed10c0d03f2507dc4457b03", func := "sennit/sennitlaw13.WordsRows", spec := "wordsRows", unfollowed := true, recurses := true, plainKeys := false, apart := false, narrowed := true }
def WordsRowsUptoSaid : Prop := wordsRowsUptoRow.holds Try.pinned (OpenSpec.upto wordsRowsSpec)

/-- 'sennitlaw13.WordsChange', WHERE WHAT IT READS IS OF BULK AT MOST 1048576: true; the input reads as it did. -/
def wordsChangeUptoRow : OpenClaim := { program := "ytckcldimnelklaa", sum := "30b4ffbfbed00853e29fb33a9f1313c30582bd632ed10c0d03f2507dc4457b03", func := "sennit/sennitlaw13.WordsChange", spec := "wordsChange", unfollowed := true, recurses := true, plainKeys := false, apart := false, narrowed := true }
def WordsChangeUptoSaid : Prop := wordsChangeUptoRow.holds Try.pinned (OpenSpec.upto wordsChangeSpec)

/-- 'sennitlaw14.TracksPlay', WHERE WHAT IT READS IS OF BULK AT MOST 1048576: true; the input reads as it did. -/
def tracksPlayUptoRow : OpenClaim := { program := "ytckcldimnelklaa", sum := "30b4ffbfbed00853e29fb33a9f1313c30582bd632ed10c0d03f2507dc4457b03", func := "sennit/sennitlaw14.TracksPlay", spec := "tracksPlay", unfollowed := true, recurses := true, plainKeys := false, apart := false, narrowed := true }
def TracksPlayUptoSaid : Prop := tracksPlayUptoRow.holds Try.pinned (OpenSpec.upto tracksPlaySpec)

/-- 'sennitlaw14.TracksVoid', WHERE WHAT IT READS IS OF BULK AT MOST 1048576: true; the input reads as it did. -/
def tracksVoidUptoRow : OpenClaim := { program := "ytckcldimnelklaa", sum := "30b4ffbfbed00853e29fb33a9f1313c30582bd632ed10c0d03f2507dc4457b03", func := "sennit/sennitlaw14.TracksVoid", spec := "tracksVoid", unfollowed := true, recurses := true, plainKeys := false, apart := false, narrowed := true }
def TracksVoidUptoSaid : Prop := tracksVoidUptoRow.holds Try.pinned (OpenSpec.upto tracksVoidSpec)

/-- 'sennitlaw14.TracksTruth', WHERE WHAT IT READS IS OF BULK AT MOST 1048576: true; the input reads as it did. -/
def tracksTruthUptoRow : OpenClaim := { program := "ytckcldimnelklaa", sum := "30b4ffbfbed00853e29fb33a9f1313c30582bd632ed10c0d03f2507dc4457b03", func := "sennit/sennitlaw14.TracksTruth", spec := "tracksTruth", unfollowed := true, recurses := true, plainKeys := false, apart := false, narrowed := true }
def TracksTruthUptoSaid : Prop := tracksTruthUptoRow.holds Try.pinned (OpenSpec.upto tracksTruthSpec)

/-- 'sennitlaw14.TracksOff', WHERE WHAT IT READS IS OF BULK AT MOST 1048576: true; the input reads as it did. -/
def tracksOffUptoRow : OpenClaim := { program := "ytckcldimnelklaa", sum := "30b4ffbfbed00853e29fb33a9f1313c30582bd632ed10c0d03f2507dc4457b03", func := "sennit/sennitlaw14.TracksOff", spec := "tracksOff", unfollowed := true, recurses := true, plainKeys := false, apart := false, narrowed := true }
def TracksOffUptoSaid : Prop := tracksOffUptoRow.holds Try.pinned (OpenSpec.upto tracksOffSpec)

/-- 'sennitlaw14.TracksRound', WHERE WHAT IT READS IS OF BULK AT MOST 1048576: true; the input reads as it did. -/
def tracksRoundUptoRow : OpenClaim := { program := "ytckcldimnelklaa", sum := "30b4ffbfbed00853e29fb33a9f1313c30582bd632ed10c0d03f2507dc4457b03", func := "sennit/sennitlaw14.TracksRound", spec := "tracksRound", unfollowed := true, recurses := true, plainKeys := false, apart := false, narrowed := true }
def TracksRoundUptoSaid : Prop := tracksRoundUptoRow.holds Try.pinned (OpenSpec.upto tracksRoundSpec)

/-- 'sennitlaw15.AgreesRing', WHERE WHAT IT READS IS OF BULK AT MOST 1048576: true; the input reads as it did. -/
def agreesRingUptoRow : OpenClaim := { program := "ytckcldimnelklaa", sum := "30b4ffbfbed00853e29fb33a9f1313c30582bd632ed10c0d03f2507dc4457b03", func := "sennit/sennitlaw15.AgreesRing", spec := "agreesRing", unfollowed := true, recurses := true, plainKeys := false, apart := false, narrowed := true }
def AgreesRingUptoSaid : Prop := agreesRingUptoRow.holds Try.pinned (OpenSpec.upto agreesRingSpec)

/-- 'sennitlaw15.AgreesOff', WHERE WHAT IT READS IS OF BULK AT MOST 1048576: true; the input reads as it did. -/
def agreesOffUptoRow : OpenClaim := { program := "ytckcldimnelklaa", sum := "30b4ffbfbed00853e29fb33a9f1313c30582bd632ed10c0d03f2507dc4457b03", func := "sennit/sennitlaw15.AgreesOff", spec := "agreesOff", unfollowed := true, recurses := true, plainKeys := false, apart := false, narrowed := true }
def AgreesOffUptoSaid : Prop := agreesOffUptoRow.holds Try.pinned (OpenSpec.upto agreesOffSpec)

/-- 'sennitlaw17.CliquesMeet', WHERE WHAT IT READS IS OF BULK AT MOST 1048576: true; the input reads as it did. -/
def cliquesMeetUptoRow : OpenClaim := { program := "ytckcldimnelklaa", sum := "30b4ffbfbed00853e29fb33a9f1313c30582bd632ed10c0d03f2507dc4457b03", func := "sennit/sennitlaw17.CliquesMeet", spec := "cliquesMeet", unfollowed := true, recurses := true, plainKeys := false, apart := false, narrowed := true }
def CliquesMeetUptoSaid : Prop := cliquesMeetUptoRow.holds Try.pinned (OpenSpec.upto cliquesMeetSpec)

/-- 'sennitlaw16.AgesCommon', WHERE WHAT IT READS IS OF BULK AT MOST 1048576: true; the input reads as it did. -/
def agesCommonUptoRow : OpenClaim := { program := "ytckcldimnelklaa", sum := "30b4ffbfbed00853e29fb33a9f1313c30582bd632ed10c0d03f2507dc4457b03", func := "sennit/sennitlaw16.AgesCommon", spec := "agesCommon", unfollowed := true, recurses := true, plainKeys := false, apart := false, narrowed := true }
def AgesCommonUptoSaid : Prop := agesCommonUptoRow.holds Try.pinned (OpenSpec.upto agesCommonSpec)

/-- 'sennitlaw16.AgesPlay', WHERE WHAT IT READS IS OF BULK AT MOST 1048576: true; the input reads as it did. -/
def agesPlayUptoRow : OpenClaim := { program := "ytckcldimnelklaa", sum := "30b4ffbfbed00853e29fb33a9f1313c30582bd632ed10c0d03f2507dc4457b03", func := "sennit/sennitlaw16.AgesPlay", spec := "agesPlay", unfollowed := true, recurses := true, plainKeys := false, apart := false, narrowed := true }
def AgesPlayUptoSaid : Prop := agesPlayUptoRow.holds Try.pinned (OpenSpec.upto agesPlaySpec)

/-- 'sennitlaw16.AgesVoid', WHERE WHAT IT READS IS OF BULK AT MOST 1048576: true; the input reads as it did. -/
def agesVoidUptoRow : OpenClaim := { program := "ytckcldimnelklaa", sum := "30b4ffbfbed00853e29fb33a9f1313c30582bd632ed10c0d03f2507dc4457b03", func := "sennit/sennitlaw16.AgesVoid", spec := "agesVoid", unfollowed := true, recurses := true, plainKeys := false, apart := false, narrowed := true }
def AgesVoidUptoSaid : Prop := agesVoidUptoRow.holds Try.pinned (OpenSpec.upto agesVoidSpec)

/-- 'sennitlaw16.AgesMiddle', WHERE WHAT IT READS IS OF BULK AT MOST 1048576: true; the input reads as it did. -/
def agesMiddleUptoRow : OpenClaim := { program := "ytckcldimnelklaa", sum := "30b4ffbfbed00853e29fb33a9f1313c30582bd632ed10c0d03f2507dc4457b03", func := "sennit/sennitlaw16.AgesMiddle", spec := "agesMiddle", unfollowed := true, recurses := true, plainKeys := false, apart := false, narrowed := true }
def AgesMiddleUptoSaid : Prop := agesMiddleUptoRow.holds Try.pinned (OpenSpec.upto agesMiddleSpec)

/-- 'sennitlaw16.AgesRun', WHERE WHAT IT READS IS OF BULK AT MOST 1048576: true; the input reads as it did. -/
def agesRunUptoRow : OpenClaim := { program := "ytckcldimnelklaa", sum := "30b4ffbfbed00853e29fb33a9f1313c30582bd632ed10c0d03f2507dc4457b03", func := "sennit/sennitlaw16.AgesRun", spec := "agesRun", unfollowed := true, recurses := true, plainKeys := false, apart := false, narrowed := true }
def AgesRunUptoSaid : Prop := agesRunUptoRow.holds Try.pinned (OpenSpec.upto agesRunSpec)

end Rows
end Go.Proofs.Ytckcldimnelklaa
