/-
  NARROWER THAN 'FOR EVERY INPUT', by the rows' own cells (each row's printed sentence says how): KnownSums: laid · SumLong: laid · TagLong: laid · TagMade: laid · TagEmpty: laid · TagWhole: laid · BatchBad: laid · HeaderBad: laid · BallotBad: laid · CastBad: laid · DigestMade: laid · BatchesBad: laid.
  DERIVED. THE GIVEN ROWS OF THIS SEAT. 12 by the template 'for every input the law returns true; each argument reads behind the call as it read before'; 0 by the template 'total and deterministic' (their statements: YtdfnnahhgbhmeaaDoorTotals.lean).
  GIVEN WITH THE SEED: the statements are not yours to turn. If you find one false, say at which input.
  Laid BY PROGRAM, IN A SANDBOX (cutbox-rows.mjs): the forced cells as the released guide's own fill.sh prints them over the translation 3f6608ece20a4f7d… (all of the seat's roots in one cut). By AI agents, Wed Nov 11 2026. No macro, syntax, notation, axiom, sorry.
-/
import Derived.Test.YtdfnnahhgbhmeaaDoorChecked
import GoSem.Claim
import GoSem.ClaimJoined
import GoSem.ClaimMapViews
import Derived.JoinedTies
import Derived.KernelRfl
namespace Go.Proofs.YtdfnnahhgbhmeaaDoor
/- THE CELL 'sum', in the pinned program and in every row, IS THE sha256 OF THE DUMP (.gsa) THAT YtdfnnahhgbhmeaaDoorProg.lean LOADS. Nothing in Lean hashes anything: it is a label: what it is worth is what the hold of that sum in a sandbox is worth. -/
noncomputable def Tryd.pinned : Pinned := { name := "ytdfnnahhgbhmeaadoor", sum := "3f6608ece20a4f7dcf79083373f7d3c75a720a32b806629b4dc42234f7f1efde", checked := Tryd.checked }
namespace Rows
def none {H : Type} : Left H := { results := [], args := [] }

/- WHAT THE LISTED PACKAGE-LEVEL VARIABLES READ AS WHEN THE CALL BEGINS. Each datum BY PROGRAM (the guide's laid-datum.mjs) off the statement by which the dump's own 'gosem.cut.vars' lays the variable. In a bare row this is a premise. The card (YtdfnnahhgbhmeaaDoorCards.lean) ties it to the program's text. -/
def laid_sheaves_blake_first {H : Type} : DataW H := .agg [.lit (.int .u32 1779033703), .lit (.int .u32 3144134277), .lit (.int .u32 1013904242), .lit (.int .u32 2773480762), .lit (.int .u32 1359893119), .lit (.int .u32 2600822924), .lit (.int .u32 528734635), .lit (.int .u32 1541459225)]
def laid_sheaves_blake_order {H : Type} : DataW H := .agg [.agg [.lit (.int .i64 0), .lit (.int .i64 1), .lit (.int .i64 2), .lit (.int .i64 3), .lit (.int .i64 4), .lit (.int .i64 5), .lit (.int .i64 6), .lit (.int .i64 7), .lit (.int .i64 8), .lit (.int .i64 9), .lit (.int .i64 10), .lit (.int .i64 11), .lit (.int .i64 12), .lit (.int .i64 13), .lit (.int .i64 14), .lit (.int .i64 15)], .agg [.lit (.int .i64 14), .lit (.int .i64 10), .lit (.int .i64 4), .lit (.int .i64 8), .lit (.int .i64 9), .lit (.int .i64 15), .lit (.int .i64 13), .lit (.int .i64 6), .lit (.int .i64 1), .lit (.int .i64 12), .lit (.int .i64 0), .lit (.int .i64 2), .lit (.int .i64 11), .lit (.int .i64 7), .lit (.int .i64 5), .lit (.int .i64 3)], .agg [.lit (.int .i64 11), .lit (.int .i64 8), .lit (.int .i64 12), .lit (.int .i64 0), .lit (.int .i64 5), .lit (.int .i64 2), .lit (.int .i64 15), .lit (.int .i64 13), .lit (.int .i64 10), .lit (.int .i64 14), .lit (.int .i64 3), .lit (.int .i64 6), .lit (.int .i64 7), .lit (.int .i64 1), .lit (.int .i64 9), .lit (.int .i64 4)], .agg [.lit (.int .i64 7), .lit (.int .i64 9), .lit (.int .i64 3), .lit (.int .i64 1), .lit (.int .i64 13), .lit (.int .i64 12), .lit (.int .i64 11), .lit (.int .i64 14), .lit (.int .i64 2), .lit (.int .i64 6), .lit (.int .i64 5), .lit (.int .i64 10), .lit (.int .i64 4), .lit (.int .i64 0), .lit (.int .i64 15), .lit (.int .i64 8)], .agg [.lit (.int .i64 9), .lit (.int .i64 0), .lit (.int .i64 5), .lit (.int .i64 7), .lit (.int .i64 2), .lit (.int .i64 4), .lit (.int .i64 10), .lit (.int .i64 15), .lit (.int .i64 14), .lit (.int .i64 1), .lit (.int .i64 11), .lit (.int .i64 12), .lit (.int .i64 6), .lit (.int .i64 8), .lit (.int .i64 3), .lit (.int .i64 13)], .agg [.lit (.int .i64 2), .lit (.int .i64 12), .lit (.int .i64 6), .lit (.int .i64 10), .lit (.int .i64 0), .lit (.int .i64 11), .lit (.int .i64 8), .lit (.int .i64 3), .lit (.int .i64 4), .lit (.int .i64 13), .lit (.int .i64 7), .lit (.int .i64 5), .lit (.int .i64 15), .lit (.int .i64 14), .lit (.int .i64 1), .lit (.int .i64 9)], .agg [.lit (.int .i64 12), .lit (.int .i64 5), .lit (.int .i64 1), .lit (.int .i64 15), .lit (.int .i64 14), .lit (.int .i64 13), .lit (.int .i64 4), .lit (.int .i64 10), .lit (.int .i64 0), .lit (.int .i64 7), .lit (.int .i64 6), .lit (.int .i64 3), .lit (.int .i64 9), .lit (.int .i64 2), .lit (.int .i64 8), .lit (.int .i64 11)], .agg [.lit (.int .i64 13), .lit (.int .i64 11), .lit (.int .i64 7), .lit (.int .i64 14), .lit (.int .i64 12), .lit (.int .i64 1), .lit (.int .i64 3), .lit (.int .i64 9), .lit (.int .i64 5), .lit (.int .i64 0), .lit (.int .i64 15), .lit (.int .i64 4), .lit (.int .i64 8), .lit (.int .i64 6), .lit (.int .i64 2), .lit (.int .i64 10)], .agg [.lit (.int .i64 6), .lit (.int .i64 15), .lit (.int .i64 14), .lit (.int .i64 9), .lit (.int .i64 11), .lit (.int .i64 3), .lit (.int .i64 0), .lit (.int .i64 8), .lit (.int .i64 12), .lit (.int .i64 2), .lit (.int .i64 13), .lit (.int .i64 7), .lit (.int .i64 1), .lit (.int .i64 4), .lit (.int .i64 10), .lit (.int .i64 5)], .agg [.lit (.int .i64 10), .lit (.int .i64 2), .lit (.int .i64 8), .lit (.int .i64 4), .lit (.int .i64 7), .lit (.int .i64 6), .lit (.int .i64 1), .lit (.int .i64 5), .lit (.int .i64 15), .lit (.int .i64 11), .lit (.int .i64 9), .lit (.int .i64 14), .lit (.int .i64 3), .lit (.int .i64 12), .lit (.int .i64 13), .lit (.int .i64 0)]]
def laid_sheaves_blake_lanes {H : Type} : DataW H := .agg [.agg [.lit (.int .i64 0), .lit (.int .i64 4), .lit (.int .i64 8), .lit (.int .i64 12)], .agg [.lit (.int .i64 1), .lit (.int .i64 5), .lit (.int .i64 9), .lit (.int .i64 13)], .agg [.lit (.int .i64 2), .lit (.int .i64 6), .lit (.int .i64 10), .lit (.int .i64 14)], .agg [.lit (.int .i64 3), .lit (.int .i64 7), .lit (.int .i64 11), .lit (.int .i64 15)], .agg [.lit (.int .i64 0), .lit (.int .i64 5), .lit (.int .i64 10), .lit (.int .i64 15)], .agg [.lit (.int .i64 1), .lit (.int .i64 6), .lit (.int .i64 11), .lit (.int .i64 12)], .agg [.lit (.int .i64 2), .lit (.int .i64 7), .lit (.int .i64 8), .lit (.int .i64 13)], .agg [.lit (.int .i64 3), .lit (.int .i64 4), .lit (.int .i64 9), .lit (.int .i64 14)]]

/-- 'sheaveskeep.KnownSums': WHATEVER THE INPUT: true; the input reads as it did. -/
def knownSumsSpec : ChangeSpec := { name := "knownSums", fn := fun _ => fun
  | [] => { results := [.lit (.bool true)], args := [] }
  | _ => none }
def knownSumsRow : OpenClaim := { program := "ytdfnnahhgbhmeaadoor", sum := "3f6608ece20a4f7dcf79083373f7d3c75a720a32b806629b4dc42234f7f1efde", func := "sheaves/sheaveskeep.KnownSums", spec := "knownSums", named := ["sheaves/blake.first", "sheaves/blake.order", "sheaves/blake.lanes"], apart := false, laid := [("sheaves/blake.first", laid_sheaves_blake_first), ("sheaves/blake.order", laid_sheaves_blake_order), ("sheaves/blake.lanes", laid_sheaves_blake_lanes)] }
def KnownSumsSaid : Prop := knownSumsRow.holds Tryd.pinned (OpenSpec.ofChange knownSumsSpec)

/-- ITS FALSE NEIGHBOUR: 'it returns false'. Refute it at one input. -/
def knownSumsWrong : ChangeSpec := { name := "knownSums", fn := fun _ => fun
  | [] => { results := [.lit (.bool false)], args := [] }
  | _ => none }
def KnownSumsWrongFalsely : Prop := knownSumsRow.holds Tryd.pinned (OpenSpec.ofChange knownSumsWrong)

/-- 'sheaveskeep.SumLong': WHATEVER THE INPUT: true; the input reads as it did. -/
def sumLongSpec : ChangeSpec := { name := "sumLong", fn := fun _ => fun
  | [d1, d2] => { results := [.lit (.bool true)], args := [d1, d2] }
  | _ => none }
def sumLongRow : OpenClaim := { program := "ytdfnnahhgbhmeaadoor", sum := "3f6608ece20a4f7dcf79083373f7d3c75a720a32b806629b4dc42234f7f1efde", func := "sheaves/sheaveskeep.SumLong", spec := "sumLong", named := ["sheaves/blake.first", "sheaves/blake.order", "sheaves/blake.lanes"], apart := false, laid := [("sheaves/blake.first", laid_sheaves_blake_first), ("sheaves/blake.order", laid_sheaves_blake_order), ("sheaves/blake.lanes", laid_sheaves_blake_lanes)] }
def SumLongSaid : Prop := sumLongRow.holds Tryd.pinned (OpenSpec.ofChange sumLongSpec)

/-- ITS FALSE NEIGHBOUR: 'it returns false'. Refute it at one input. -/
def sumLongWrong : ChangeSpec := { name := "sumLong", fn := fun _ => fun
  | [d1, d2] => { results := [.lit (.bool false)], args := [d1, d2] }
  | _ => none }
def SumLongWrongFalsely : Prop := sumLongRow.holds Tryd.pinned (OpenSpec.ofChange sumLongWrong)

/-- 'sheaveskeep.TagLong': WHATEVER THE INPUT: true; the input reads as it did. -/
def tagLongSpec : ChangeSpec := { name := "tagLong", fn := fun _ => fun
  | [d1, d2] => { results := [.lit (.bool true)], args := [d1, d2] }
  | _ => none }
def tagLongRow : OpenClaim := { program := "ytdfnnahhgbhmeaadoor", sum := "3f6608ece20a4f7dcf79083373f7d3c75a720a32b806629b4dc42234f7f1efde", func := "sheaves/sheaveskeep.TagLong", spec := "tagLong", named := ["sheaves/blake.first", "sheaves/blake.order", "sheaves/blake.lanes"], apart := false, laid := [("sheaves/blake.first", laid_sheaves_blake_first), ("sheaves/blake.order", laid_sheaves_blake_order), ("sheaves/blake.lanes", laid_sheaves_blake_lanes)] }
def TagLongSaid : Prop := tagLongRow.holds Tryd.pinned (OpenSpec.ofChange tagLongSpec)

/-- ITS FALSE NEIGHBOUR: 'it returns false'. Refute it at one input. -/
def tagLongWrong : ChangeSpec := { name := "tagLong", fn := fun _ => fun
  | [d1, d2] => { results := [.lit (.bool false)], args := [d1, d2] }
  | _ => none }
def TagLongWrongFalsely : Prop := tagLongRow.holds Tryd.pinned (OpenSpec.ofChange tagLongWrong)

/-- 'sheaveskeep.TagMade': WHATEVER THE INPUT: true; the input reads as it did. -/
def tagMadeSpec : ChangeSpec := { name := "tagMade", fn := fun _ => fun
  | [d1, d2, d3] => { results := [.lit (.bool true)], args := [d1, d2, d3] }
  | _ => none }
def tagMadeRow : OpenClaim := { program := "ytdfnnahhgbhmeaadoor", sum := "3f6608ece20a4f7dcf79083373f7d3c75a720a32b806629b4dc42234f7f1efde", func := "sheaves/sheaveskeep.TagMade", spec := "tagMade", named := ["sheaves/blake.first", "sheaves/blake.order", "sheaves/blake.lanes"], apart := false, laid := [("sheaves/blake.first", laid_sheaves_blake_first), ("sheaves/blake.order", laid_sheaves_blake_order), ("sheaves/blake.lanes", laid_sheaves_blake_lanes)] }
def TagMadeSaid : Prop := tagMadeRow.holds Tryd.pinned (OpenSpec.ofChange tagMadeSpec)

/-- ITS FALSE NEIGHBOUR: 'it returns false'. Refute it at one input. -/
def tagMadeWrong : ChangeSpec := { name := "tagMade", fn := fun _ => fun
  | [d1, d2, d3] => { results := [.lit (.bool false)], args := [d1, d2, d3] }
  | _ => none }
def TagMadeWrongFalsely : Prop := tagMadeRow.holds Tryd.pinned (OpenSpec.ofChange tagMadeWrong)

/-- 'sheaveskeep.TagEmpty': WHATEVER THE INPUT: true; the input reads as it did. -/
def tagEmptySpec : ChangeSpec := { name := "tagEmpty", fn := fun _ => fun
  | [d1, d2] => { results := [.lit (.bool true)], args := [d1, d2] }
  | _ => none }
def tagEmptyRow : OpenClaim := { program := "ytdfnnahhgbhmeaadoor", sum := "3f6608ece20a4f7dcf79083373f7d3c75a720a32b806629b4dc42234f7f1efde", func := "sheaves/sheaveskeep.TagEmpty", spec := "tagEmpty", named := ["sheaves/blake.first", "sheaves/blake.order", "sheaves/blake.lanes"], apart := false, laid := [("sheaves/blake.first", laid_sheaves_blake_first), ("sheaves/blake.order", laid_sheaves_blake_order), ("sheaves/blake.lanes", laid_sheaves_blake_lanes)] }
def TagEmptySaid : Prop := tagEmptyRow.holds Tryd.pinned (OpenSpec.ofChange tagEmptySpec)

/-- ITS FALSE NEIGHBOUR: 'it returns false'. Refute it at one input. -/
def tagEmptyWrong : ChangeSpec := { name := "tagEmpty", fn := fun _ => fun
  | [d1, d2] => { results := [.lit (.bool false)], args := [d1, d2] }
  | _ => none }
def TagEmptyWrongFalsely : Prop := tagEmptyRow.holds Tryd.pinned (OpenSpec.ofChange tagEmptyWrong)

/-- 'sheaveskeep.TagWhole': WHATEVER THE INPUT: true; the input reads as it did. -/
def tagWholeSpec : ChangeSpec := { name := "tagWhole", fn := fun _ => fun
  | [d1, d2] => { results := [.lit (.bool true)], args := [d1, d2] }
  | _ => none }
def tagWholeRow : OpenClaim := { program := "ytdfnnahhgbhmeaadoor", sum := "3f6608ece20a4f7dcf79083373f7d3c75a720a32b806629b4dc42234f7f1efde", func := "sheaves/sheaveskeep.TagWhole", spec := "tagWhole", named := ["sheaves/blake.first", "sheaves/blake.order", "sheaves/blake.lanes"], apart := false, laid := [("sheaves/blake.first", laid_sheaves_blake_first), ("sheaves/blake.order", laid_sheaves_blake_order), ("sheaves/blake.lanes", laid_sheaves_blake_lanes)] }
def TagWholeSaid : Prop := tagWholeRow.holds Tryd.pinned (OpenSpec.ofChange tagWholeSpec)

/-- ITS FALSE NEIGHBOUR: 'it returns false'. Refute it at one input. -/
def tagWholeWrong : ChangeSpec := { name := "tagWhole", fn := fun _ => fun
  | [d1, d2] => { results := [.lit (.bool false)], args := [d1, d2] }
  | _ => none }
def TagWholeWrongFalsely : Prop := tagWholeRow.holds Tryd.pinned (OpenSpec.ofChange tagWholeWrong)

/-- 'sheaveskeep.BatchBad': WHATEVER THE INPUT: true; the input reads as it did. -/
def batchBadSpec : ChangeSpec := { name := "batchBad", fn := fun _ => fun
  | [d1, d2] => { results := [.lit (.bool true)], args := [d1, d2] }
  | _ => none }
def batchBadRow : OpenClaim := { program := "ytdfnnahhgbhmeaadoor", sum := "3f6608ece20a4f7dcf79083373f7d3c75a720a32b806629b4dc42234f7f1efde", func := "sheaves/sheaveskeep.BatchBad", spec := "batchBad", named := ["sheaves/blake.first", "sheaves/blake.order", "sheaves/blake.lanes"], apart := false, laid := [("sheaves/blake.first", laid_sheaves_blake_first), ("sheaves/blake.order", laid_sheaves_blake_order), ("sheaves/blake.lanes", laid_sheaves_blake_lanes)] }
def BatchBadSaid : Prop := batchBadRow.holds Tryd.pinned (OpenSpec.ofChange batchBadSpec)

/-- ITS FALSE NEIGHBOUR: 'it returns false'. Refute it at one input. -/
def batchBadWrong : ChangeSpec := { name := "batchBad", fn := fun _ => fun
  | [d1, d2] => { results := [.lit (.bool false)], args := [d1, d2] }
  | _ => none }
def BatchBadWrongFalsely : Prop := batchBadRow.holds Tryd.pinned (OpenSpec.ofChange batchBadWrong)

/-- 'sheaveskeep.HeaderBad': WHATEVER THE INPUT: true; the input reads as it did. -/
def headerBadSpec : ChangeSpec := { name := "headerBad", fn := fun _ => fun
  | [d1, d2] => { results := [.lit (.bool true)], args := [d1, d2] }
  | _ => none }
def headerBadRow : OpenClaim := { program := "ytdfnnahhgbhmeaadoor", sum := "3f6608ece20a4f7dcf79083373f7d3c75a720a32b806629b4dc42234f7f1efde", func := "sheaves/sheaveskeep.HeaderBad", spec := "headerBad", unfollowed := true, recurses := true, named := ["sheaves/blake.first", "sheaves/blake.order", "sheaves/blake.lanes"], apart := false, laid := [("sheaves/blake.first", laid_sheaves_blake_first), ("sheaves/blake.order", laid_sheaves_blake_order), ("sheaves/blake.lanes", laid_sheaves_blake_lanes)] }
def HeaderBadSaid : Prop := headerBadRow.holds Tryd.pinned (OpenSpec.ofChange headerBadSpec)

/-- ITS FALSE NEIGHBOUR: 'it returns false'. Refute it at one input. -/
def headerBadWrong : ChangeSpec := { name := "headerBad", fn := fun _ => fun
  | [d1, d2] => { results := [.lit (.bool false)], args := [d1, d2] }
  | _ => none }
def HeaderBadWrongFalsely : Prop := headerBadRow.holds Tryd.pinned (OpenSpec.ofChange headerBadWrong)

/-- 'sheaveskeep.BallotBad': WHATEVER THE INPUT: true; the input reads as it did. -/
def ballotBadSpec : ChangeSpec := { name := "ballotBad", fn := fun _ => fun
  | [d1, d2] => { results := [.lit (.bool true)], args := [d1, d2] }
  | _ => none }
def ballotBadRow : OpenClaim := { program := "ytdfnnahhgbhmeaadoor", sum := "3f6608ece20a4f7dcf79083373f7d3c75a720a32b806629b4dc42234f7f1efde", func := "sheaves/sheaveskeep.BallotBad", spec := "ballotBad", unfollowed := true, recurses := true, named := ["sheaves/blake.first", "sheaves/blake.order", "sheaves/blake.lanes"], apart := false, laid := [("sheaves/blake.first", laid_sheaves_blake_first), ("sheaves/blake.order", laid_sheaves_blake_order), ("sheaves/blake.lanes", laid_sheaves_blake_lanes)] }
def BallotBadSaid : Prop := ballotBadRow.holds Tryd.pinned (OpenSpec.ofChange ballotBadSpec)

/-- ITS FALSE NEIGHBOUR: 'it returns false'. Refute it at one input. -/
def ballotBadWrong : ChangeSpec := { name := "ballotBad", fn := fun _ => fun
  | [d1, d2] => { results := [.lit (.bool false)], args := [d1, d2] }
  | _ => none }
def BallotBadWrongFalsely : Prop := ballotBadRow.holds Tryd.pinned (OpenSpec.ofChange ballotBadWrong)

/-- 'sheaveskeep.CastBad': WHATEVER THE INPUT: true; the input reads as it did. -/
def castBadSpec : ChangeSpec := { name := "castBad", fn := fun _ => fun
  | [d1, d2] => { results := [.lit (.bool true)], args := [d1, d2] }
  | _ => none }
def castBadRow : OpenClaim := { program := "ytdfnnahhgbhmeaadoor", sum := "3f6608ece20a4f7dcf79083373f7d3c75a720a32b806629b4dc42234f7f1efde", func := "sheaves/sheaveskeep.CastBad", spec := "castBad", unfollowed := true, recurses := true, named := ["sheaves/blake.first", "sheaves/blake.order", "sheaves/blake.lanes"], apart := false, laid := [("sheaves/blake.first", laid_sheaves_blake_first), ("sheaves/blake.order", laid_sheaves_blake_order), ("sheaves/blake.lanes", laid_sheaves_blake_lanes)] }
def CastBadSaid : Prop := castBadRow.holds Tryd.pinned (OpenSpec.ofChange castBadSpec)

/-- ITS FALSE NEIGHBOUR: 'it returns false'. Refute it at one input. -/
def castBadWrong : ChangeSpec := { name := "castBad", fn := fun _ => fun
  | [d1, d2] => { results := [.lit (.bool false)], args := [d1, d2] }
  | _ => none }
def CastBadWrongFalsely : Prop := castBadRow.holds Tryd.pinned (OpenSpec.ofChange castBadWrong)

/-- 'sheaveskeep.DigestMade': WHATEVER THE INPUT: true; the input reads as it did. -/
def digestMadeSpec : ChangeSpec := { name := "digestMade", fn := fun _ => fun
  | [d] => { results := [.lit (.bool true)], args := [d] }
  | _ => none }
def digestMadeRow : OpenClaim := { program := "ytdfnnahhgbhmeaadoor", sum := "3f6608ece20a4f7dcf79083373f7d3c75a720a32b806629b4dc42234f7f1efde", func := "sheaves/sheaveskeep.DigestMade", spec := "digestMade", unfollowed := true, recurses := true, named := ["sheaves/blake.first", "sheaves/blake.order", "sheaves/blake.lanes"], apart := false, laid := [("sheaves/blake.first", laid_sheaves_blake_first), ("sheaves/blake.order", laid_sheaves_blake_order), ("sheaves/blake.lanes", laid_sheaves_blake_lanes)] }
def DigestMadeSaid : Prop := digestMadeRow.holds Tryd.pinned (OpenSpec.ofChange digestMadeSpec)

/-- ITS FALSE NEIGHBOUR: 'it returns false'. Refute it at one input. -/
def digestMadeWrong : ChangeSpec := { name := "digestMade", fn := fun _ => fun
  | [d] => { results := [.lit (.bool false)], args := [d] }
  | _ => none }
def DigestMadeWrongFalsely : Prop := digestMadeRow.holds Tryd.pinned (OpenSpec.ofChange digestMadeWrong)

/-- 'sheaveskeep.BatchesBad': WHATEVER THE INPUT: true; the input reads as it did. -/
def batchesBadSpec : ChangeSpec := { name := "batchesBad", fn := fun _ => fun
  | [d1, d2] => { results := [.lit (.bool true)], args := [d1, d2] }
  | _ => none }
def batchesBadRow : OpenClaim := { program := "ytdfnnahhgbhmeaadoor", sum := "3f6608ece20a4f7dcf79083373f7d3c75a720a32b806629b4dc42234f7f1efde", func := "sheaves/sheaveskeep.BatchesBad", spec := "batchesBad", unfollowed := true, recurses := true, named := ["sheaves/blake.first", "sheaves/blake.order", "sheaves/blake.lanes"], apart := false, laid := [("sheaves/blake.first", laid_sheaves_blake_first), ("sheaves/blake.order", laid_sheaves_blake_order), ("sheaves/blake.lanes", laid_sheaves_blake_lanes)] }
def BatchesBadSaid : Prop := batchesBadRow.holds Tryd.pinned (OpenSpec.ofChange batchesBadSpec)

/-- ITS FALSE NEIGHBOUR: 'it returns false'. Refute it at one input. -/
def batchesBadWrong : ChangeSpec := { name := "batchesBad", fn := fun _ => fun
  | [d1, d2] => { results := [.lit (.bool false)], args := [d1, d2] }
  | _ => none }
def BatchesBadWrongFalsely : Prop := batchesBadRow.holds Tryd.pinned (OpenSpec.ofChange batchesBadWrong)

/- THE SECOND FORM. 'bulk': how many values and letters a reading holds, each counted each time it is reached (what is shared counts as often as it is met; a slice's spare places count too). A statement '..UptoSaid' is the law's where the arguments, and the package variables that the reading takes, are together of bulk at most 1048576: NARROWER than '..Said'. Prove '..Said' where nothing that the law and all that it calls make is longer than what came in: it says more and counts as full. Else prove '..UptoSaid'. A law counts once. -/
mutual
def uptoBulk {H : Type} : DataW H → Nat
  | .lit (.string bytes) => bytes.length + 1
  | .lit _ => 1
  | .nil => 1
  | .ptr d => uptoBulk d + 1
  | .slice elems spare => uptoBulkAll elems + uptoBulkAll spare + 1
  | .agg parts => uptoBulkAll parts + 1
  | .iface _ d => uptoBulk d + 1
  | .map entries => uptoBulkEntries entries + 1
  | .held _ => 1
def uptoBulkAll {H : Type} : List (DataW H) → Nat
  | [] => 0
  | d :: r => uptoBulk d + uptoBulkAll r
def uptoBulkEntries {H : Type} : List (Lit × DataW H) → Nat
  | [] => 0
  | x :: r => uptoBulkEntry x + uptoBulkEntries r
def uptoBulkEntry {H : Type} : Lit × DataW H → Nat
  | (.string bytes, d) => bytes.length + uptoBulk d + 1
  | (_, d) => uptoBulk d + 1
 end
def uptoSmall : (H : Type) → List (DataW H) → Bool := fun _ ds => decide (uptoBulkAll ds ≤ 1048576)
def OpenSpec.upto (s : _root_.Go.ChangeSpec) : _root_.Go.OpenSpec := { _root_.Go.OpenSpec.ofChange s with cond := some uptoSmall }

/-- 'sheaveskeep.KnownSums', WHERE WHAT IT READS IS OF BULK AT MOST 1048576: true; the input reads as it did. -/
def knownSumsUptoRow : OpenClaim := { program := "ytdfnnahhgbhmeaadoor", sum := "3f6608ece20a4f7dcf79083373f7d3c75a720a32b806629b4dc42234f7f1efde", func := "sheaves/sheaveskeep.KnownSums", spec := "knownSums", named := ["sheaves/blake.first", "sheaves/blake.order", "sheaves/blake.lanes"], apart := false, laid := [("sheaves/blake.first", laid_sheaves_blake_first), ("sheaves/blake.order", laid_sheaves_blake_order), ("sheaves/blake.lanes", laid_sheaves_blake_lanes)], narrowed := true }
def KnownSumsUptoSaid : Prop := knownSumsUptoRow.holds Tryd.pinned (OpenSpec.upto knownSumsSpec)

/-- 'sheaveskeep.SumLong', WHERE WHAT IT READS IS OF BULK AT MOST 1048576: true; the input reads as it did. -/
def sumLongUptoRow : OpenClaim := { program := "ytdfnnahhgbhmeaadoor", sum := "3f6608ece20a4f7dcf79083373f7d3c75a720a32b806629b4dc42234f7f1efde", func := "sheaves/sheaveskeep.SumLong", spec := "sumLong", named := ["sheaves/blake.first", "sheaves/blake.order", "sheaves/blake.lanes"], apart := false, laid := [("sheaves/blake.first", laid_sheaves_blake_first), ("sheaves/blake.order", laid_sheaves_blake_order), ("sheaves/blake.lanes", laid_sheaves_blake_lanes)], narrowed := true }
def SumLongUptoSaid : Prop := sumLongUptoRow.holds Tryd.pinned (OpenSpec.upto sumLongSpec)

/-- 'sheaveskeep.TagLong', WHERE WHAT IT READS IS OF BULK AT MOST 1048576: true; the input reads as it did. -/
def tagLongUptoRow : OpenClaim := { program := "ytdfnnahhgbhmeaadoor", sum := "3f6608ece20a4f7dcf79083373f7d3c75a720a32b806629b4dc42234f7f1efde", func := "sheaves/sheaveskeep.TagLong", spec := "tagLong", named := ["sheaves/blake.first", "sheaves/blake.order", "sheaves/blake.lanes"], apart := false, laid := [("sheaves/blake.first", laid_sheaves_blake_first), ("sheaves/blake.order", laid_sheaves_blake_order), ("sheaves/blake.lanes", laid_sheaves_blake_lanes)], narrowed := true }
def TagLongUptoSaid : Prop := tagLongUptoRow.holds Tryd.pinned (OpenSpec.upto tagLongSpec)

/-- 'sheaveskeep.TagMade', WHERE WHAT IT READS IS OF BULK AT MOST 1048576: true; the input reads as it did. -/
def tagMadeUptoRow : OpenClaim := { program := "ytdfnnahhgbhmeaadoor", sum := "3f6608ece20a4f7dcf79083373f7d3c75a720a32b806629b4dc42234f7f1efde", func := "sheaves/sheaveskeep.TagMade", spec := "tagMade", named := ["sheaves/blake.first", "sheaves/blake.order", "sheaves/blake.lanes"], apart := false, laid := [("sheaves/blake.first", laid_sheaves_blake_first), ("sheaves/blake.order", laid_sheaves_blake_order), ("sheaves/blake.lanes", laid_sheaves_blake_lanes)], narrowed := true }
def TagMadeUptoSaid : Prop := tagMadeUptoRow.holds Tryd.pinned (OpenSpec.upto tagMadeSpec)

/-- 'sheaveskeep.TagEmpty', WHERE WHAT IT READS IS OF BULK AT MOST 1048576: true; the input reads as it did. -/
def tagEmptyUptoRow : OpenClaim := { program := "ytdfnnahhgbhmeaadoor", sum := "3f6608ece20a4f7dcf79083373f7d3c75a720a32b806629b4dc42234f7f1efde", func := "sheaves/sheaveskeep.TagEmpty", spec := "tagEmpty", named := ["sheaves/blake.first", "sheaves/blake.order", "sheaves/blake.lanes"], apart := false, laid := [("sheaves/blake.first", laid_sheaves_blake_first), ("sheaves/blake.order", laid_sheaves_blake_order), ("sheaves/blake.lanes", laid_sheaves_blake_lanes)], narrowed := true }
def TagEmptyUptoSaid : Prop := tagEmptyUptoRow.holds Tryd.pinned (OpenSpec.upto tagEmptySpec)

/-- 'sheaveskeep.TagWhole', WHERE WHAT IT READS IS OF BULK AT MOST 1048576: true; the input reads as it did. -/
def tagWholeUptoRow : OpenClaim := { program := "ytdfnnahhgbhmeaadoor", sum := "3f6608ece20a4f7dcf79083373f7d3c75a720a32b806629b4dc42234f7f1efde", func := "sheaves/sheaveskeep.TagWhole", spec := "tagWhole", named := ["sheaves/blake.first", "sheaves/blake.order", "sheaves/blake.lanes"], apart := false, laid := [("sheaves/blake.first", laid_sheaves_blake_first), ("sheaves/blake.order", laid_sheaves_blake_order), ("sheaves/blake.lanes", laid_sheaves_blake_lanes)], narrowed := true }
def TagWholeUptoSaid : Prop := tagWholeUptoRow.holds Tryd.pinned (OpenSpec.upto tagWholeSpec)

/-- 'sheaveskeep.BatchBad', WHERE WHAT IT READS IS OF BULK AT MOST 1048576: true; the input reads as it did. -/
def batchBadUptoRow : OpenClaim := { program := "ytdfnnahhgbhmeaadoor", sum := "3f6608ece20a4f7dcf79083373f7d3c75a720a32b806629b4dc42234f7f1efde", func := "sheaves/sheaveskeep.BatchBad", spec := "batchBad", named := ["sheaves/blake.first", "sheaves/blake.order", "sheaves/blake.lanes"], apart := false, laid := [("sheaves/blake.first", laid_sheaves_blake_first), ("sheaves/blake.order", laid_sheaves_blake_order), ("sheaves/blake.lanes", laid_sheaves_blake_lanes)], narrowed := true }
def BatchBadUptoSaid : Prop := batchBadUptoRow.holds Tryd.pinned (OpenSpec.upto batchBadSpec)

/-- 'sheaveskeep.HeaderBad', WHERE WHAT IT READS IS OF BULK AT MOST 1048576: true; the input reads as it did. -/
def headerBadUptoRow : OpenClaim := { program := "ytdfnnahhgbhmeaadoor", sum := "3f6608ece20a4f7dcf79083373f7d3c75a720a32b806629b4dc42234f7f1efde", func := "sheaves/sheaveskeep.HeaderBad", spec := "headerBad", unfollowed := true, recurses := true, named := ["sheaves/blake.first", "sheaves/blake.order", "sheaves/blake.lanes"], apart := false, laid := [("sheaves/blake.first", laid_sheaves_blake_first), ("sheaves/blake.order", laid_sheaves_blake_order), ("sheaves/blake.lanes", laid_sheaves_blake_lanes)], narrowed := true }
def HeaderBadUptoSaid : Prop := headerBadUptoRow.holds Tryd.pinned (OpenSpec.upto headerBadSpec)

/-- 'sheaveskeep.BallotBad', WHERE WHAT IT READS IS OF BULK AT MOST 1048576: true; the input reads as it did. -/
def ballotBadUptoRow : OpenClaim := { program := "ytdfnnahhgbhmeaadoor", sum := "3f6608ece20a4f7dcf79083373f7d3c75a720a32b806629b4dc42234f7f1efde", func := "sheaves/sheaveskeep.BallotBad", spec := "ballotBad", unfollowed := true, recurses := true, named := ["sheaves/blake.first", "sheaves/blake.order", "sheaves/blake.lanes"], apart := false, laid := [("sheaves/blake.first", laid_sheaves_blake_first), ("sheaves/blake.order", laid_sheaves_blake_order), ("sheaves/blake.lanes", laid_sheaves_blake_lanes)], narrowed := true }
def BallotBadUptoSaid : Prop := ballotBadUptoRow.holds Tryd.pinned (OpenSpec.upto ballotBadSpec)

/-- 'sheaveskeep.CastBad', WHERE WHAT IT READS IS OF BULK AT MOST 1048576: true; the input reads as it did. -/
def castBadUptoRow : OpenClaim := { program := "ytdfnnahhgbhmeaadoor", sum := "3f6608ece20a4f7dcf79083373f7d3c75a720a32b806629b4dc42234f7f1efde", func := "sheaves/sheaveskeep.CastBad", spec := "castBad", unfollowed := true, recurses := true, named := ["sheaves/blake.first", "sheaves/blake.order", "sheaves/blake.lanes"], apart := false, laid := [("sheaves/blake.first", laid_sheaves_blake_first), ("sheaves/blake.order", laid_sheaves_blake_order), ("sheaves/blake.lanes", laid_sheaves_blake_lanes)], narrowed := true }
def CastBadUptoSaid : Prop := castBadUptoRow.holds Tryd.pinned (OpenSpec.upto castBadSpec)

/-- 'sheaveskeep.DigestMade', WHERE WHAT IT READS IS OF BULK AT MOST 1048576: true; the input reads as it did. -/
def digestMadeUptoRow : OpenClaim := { program := "ytdfnnahhgbhmeaadoor", sum := "3f6608ece20a4f7dcf79083373f7d3c75a720a32b806629b4dc42234f7f1efde", func := "sheaves/sheaveskeep.DigestMade", spec := "digestMade", unfollowed := true, recurses := true, named := ["sheaves/blake.first", "sheaves/blake.order", "sheaves/blake.lanes"], apart := false, laid := [("sheaves/blake.first", laid_sheaves_blake_first), ("sheaves/blake.order", laid_sheaves_blake_order), ("sheaves/blake.lanes", laid_sheaves_blake_lanes)], narrowed := true }
def DigestMadeUptoSaid : Prop := digestMadeUptoRow.holds Tryd.pinned (OpenSpec.upto digestMadeSpec)

/-- 'sheaveskeep.BatchesBad', WHERE WHAT IT READS IS OF BULK AT MOST 1048576: true; the input reads as it did. -/
def batchesBadUptoRow : OpenClaim := { program := "ytdfnnahhgbhmeaadoor", sum := "3f6608ece20a4f7dcf79083373f7d3c75a720a32b806629b4dc42234f7f1efde", func := "sheaves/sheaveskeep.BatchesBad", spec := "batchesBad", unfollowed := true, recurses := true, named := ["sheaves/blake.first", "sheaves/blake.order", "sheaves/blake.lanes"], apart := false, laid := [("sheaves/blake.first", laid_sheaves_blake_first), ("sheaves/blake.order", laid_sheaves_blake_order), ("sheaves/blake.lanes", laid_sheaves_blake_lanes)], narrowed := true }
def BatchesBadUptoSaid : Prop := batchesBadUptoRow.holds Tryd.pinned (OpenSpec.upto batchesBadSpec)

end Rows
end Go.Proofs.YtdfnnahhgbhmeaaDoor
