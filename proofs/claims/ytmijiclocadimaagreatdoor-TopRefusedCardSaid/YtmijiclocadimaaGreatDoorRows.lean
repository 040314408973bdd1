/-
  NARROWER THAN 'FOR EVERY INPUT', by the rows' own cells (each row's printed sentence says how): TopCodes: laid · TopQuiet: laid · TopRefused: laid · TopFlow: laid · TopPick: laid · TopLost: laid · TopSealed: laid · TopNumbers: laid · TopAlone: laid · TopVoters: laid · TopFirst: laid · TopBehind: laid.
  DERIVED. THE GIVEN ROWS OF THIS SEAT. 12 by the template 'for every input the law returns true; each argument reads behind the call as it read before'; 0 by the template 'total and deterministic' (their statements: YtmijiclocadimaaGreatDoorTotals.lean).
  GIVEN WITH THE SEED: the statements are not yours to turn. If you find one false, say at which input.
  Laid BY PROGRAM, IN A SANDBOX (cutbox-rows.mjs): the forced cells as the released guide's own fill.sh prints them over the translation 2944f2eba5183a6e… (all of the seat's roots in one cut). By AI agents, Wed Nov 11 2026. No macro, syntax, notation, axiom, sorry.
-/
import Derived.Test.YtmijiclocadimaaGreatDoorChecked
import GoSem.Claim
import GoSem.ClaimJoined
import GoSem.ClaimMapViews
import Derived.JoinedTies
import Derived.KernelRfl
namespace Go.Proofs.YtmijiclocadimaaGreatDoor
/- THE CELL 'sum', in the pinned program and in every row, IS THE sha256 OF THE DUMP (.gsa) THAT YtmijiclocadimaaGreatDoorProg.lean LOADS. Nothing in Lean hashes anything: it is a label: what it is worth is what the hold of that sum in a sandbox is worth. -/
noncomputable def Tryz.pinned : Pinned := { name := "ytmijiclocadimaagreatdoor", sum := "2944f2eba5183a6ec2f918dbe247f95ef37e0a37cc25044b670a42a0b8fd5f78", checked := Tryz.checked }
namespace Rows
def none {H : Type} : Left H := { results := [], args := [] }

/- WHAT THE LISTED PACKAGE-LEVEL VARIABLES READ AS WHEN THE CALL BEGINS. Each datum BY PROGRAM (the guide's laid-datum.mjs) off the statement by which the dump's own 'gosem.cut.vars' lays the variable. In a bare row this is a premise. The card (YtmijiclocadimaaGreatDoorCards.lean) ties it to the program's text. -/
def laid_sheaves_blake_first {H : Type} : DataW H := .agg [.lit (.int .u32 1779033703), .lit (.int .u32 3144134277), .lit (.int .u32 1013904242), .lit (.int .u32 2773480762), .lit (.int .u32 1359893119), .lit (.int .u32 2600822924), .lit (.int .u32 528734635), .lit (.int .u32 1541459225)]
def laid_sheaves_blake_order {H : Type} : DataW H := .agg [.agg [.lit (.int .i64 0), .lit (.int .i64 1), .lit (.int .i64 2), .lit (.int .i64 3), .lit (.int .i64 4), .lit (.int .i64 5), .lit (.int .i64 6), .lit (.int .i64 7), .lit (.int .i64 8), .lit (.int .i64 9), .lit (.int .i64 10), .lit (.int .i64 11), .lit (.int .i64 12), .lit (.int .i64 13), .lit (.int .i64 14), .lit (.int .i64 15)], .agg [.lit (.int .i64 14), .lit (.int .i64 10), .lit (.int .i64 4), .lit (.int .i64 8), .lit (.int .i64 9), .lit (.int .i64 15), .lit (.int .i64 13), .lit (.int .i64 6), .lit (.int .i64 1), .lit (.int .i64 12), .lit (.int .i64 0), .lit (.int .i64 2), .lit (.int .i64 11), .lit (.int .i64 7), .lit (.int .i64 5), .lit (.int .i64 3)], .agg [.lit (.int .i64 11), .lit (.int .i64 8), .lit (.int .i64 12), .lit (.int .i64 0), .lit (.int .i64 5), .lit (.int .i64 2), .lit (.int .i64 15), .lit (.int .i64 13), .lit (.int .i64 10), .lit (.int .i64 14), .lit (.int .i64 3), .lit (.int .i64 6), .lit (.int .i64 7), .lit (.int .i64 1), .lit (.int .i64 9), .lit (.int .i64 4)], .agg [.lit (.int .i64 7), .lit (.int .i64 9), .lit (.int .i64 3), .lit (.int .i64 1), .lit (.int .i64 13), .lit (.int .i64 12), .lit (.int .i64 11), .lit (.int .i64 14), .lit (.int .i64 2), .lit (.int .i64 6), .lit (.int .i64 5), .lit (.int .i64 10), .lit (.int .i64 4), .lit (.int .i64 0), .lit (.int .i64 15), .lit (.int .i64 8)], .agg [.lit (.int .i64 9), .lit (.int .i64 0), .lit (.int .i64 5), .lit (.int .i64 7), .lit (.int .i64 2), .lit (.int .i64 4), .lit (.int .i64 10), .lit (.int .i64 15), .lit (.int .i64 14), .lit (.int .i64 1), .lit (.int .i64 11), .lit (.int .i64 12), .lit (.int .i64 6), .lit (.int .i64 8), .lit (.int .i64 3), .lit (.int .i64 13)], .agg [.lit (.int .i64 2), .lit (.int .i64 12), .lit (.int .i64 6), .lit (.int .i64 10), .lit (.int .i64 0), .lit (.int .i64 11), .lit (.int .i64 8), .lit (.int .i64 3), .lit (.int .i64 4), .lit (.int .i64 13), .lit (.int .i64 7), .lit (.int .i64 5), .lit (.int .i64 15), .lit (.int .i64 14), .lit (.int .i64 1), .lit (.int .i64 9)], .agg [.lit (.int .i64 12), .lit (.int .i64 5), .lit (.int .i64 1), .lit (.int .i64 15), .lit (.int .i64 14), .lit (.int .i64 13), .lit (.int .i64 4), .lit (.int .i64 10), .lit (.int .i64 0), .lit (.int .i64 7), .lit (.int .i64 6), .lit (.int .i64 3), .lit (.int .i64 9), .lit (.int .i64 2), .lit (.int .i64 8), .lit (.int .i64 11)], .agg [.lit (.int .i64 13), .lit (.int .i64 11), .lit (.int .i64 7), .lit (.int .i64 14), .lit (.int .i64 12), .lit (.int .i64 1), .lit (.int .i64 3), .lit (.int .i64 9), .lit (.int .i64 5), .lit (.int .i64 0), .lit (.int .i64 15), .lit (.int .i64 4), .lit (.int .i64 8), .lit (.int .i64 6), .lit (.int .i64 2), .lit (.int .i64 10)], .agg [.lit (.int .i64 6), .lit (.int .i64 15), .lit (.int .i64 14), .lit (.int .i64 9), .lit (.int .i64 11), .lit (.int .i64 3), .lit (.int .i64 0), .lit (.int .i64 8), .lit (.int .i64 12), .lit (.int .i64 2), .lit (.int .i64 13), .lit (.int .i64 7), .lit (.int .i64 1), .lit (.int .i64 4), .lit (.int .i64 10), .lit (.int .i64 5)], .agg [.lit (.int .i64 10), .lit (.int .i64 2), .lit (.int .i64 8), .lit (.int .i64 4), .lit (.int .i64 7), .lit (.int .i64 6), .lit (.int .i64 1), .lit (.int .i64 5), .lit (.int .i64 15), .lit (.int .i64 11), .lit (.int .i64 9), .lit (.int .i64 14), .lit (.int .i64 3), .lit (.int .i64 12), .lit (.int .i64 13), .lit (.int .i64 0)]]
def laid_sheaves_blake_lanes {H : Type} : DataW H := .agg [.agg [.lit (.int .i64 0), .lit (.int .i64 4), .lit (.int .i64 8), .lit (.int .i64 12)], .agg [.lit (.int .i64 1), .lit (.int .i64 5), .lit (.int .i64 9), .lit (.int .i64 13)], .agg [.lit (.int .i64 2), .lit (.int .i64 6), .lit (.int .i64 10), .lit (.int .i64 14)], .agg [.lit (.int .i64 3), .lit (.int .i64 7), .lit (.int .i64 11), .lit (.int .i64 15)], .agg [.lit (.int .i64 0), .lit (.int .i64 5), .lit (.int .i64 10), .lit (.int .i64 15)], .agg [.lit (.int .i64 1), .lit (.int .i64 6), .lit (.int .i64 11), .lit (.int .i64 12)], .agg [.lit (.int .i64 2), .lit (.int .i64 7), .lit (.int .i64 8), .lit (.int .i64 13)], .agg [.lit (.int .i64 3), .lit (.int .i64 4), .lit (.int .i64 9), .lit (.int .i64 14)]]

/-- 'sheavestop.TopCodes': WHATEVER THE INPUT: true; the input reads as it did. -/
def topCodesSpec : ChangeSpec := { name := "topCodes", fn := fun _ => fun
  | [d1, d2, d3] => { results := [.lit (.bool true)], args := [d1, d2, d3] }
  | _ => none }
def topCodesRow : OpenClaim := { program := "ytmijiclocadimaagreatdoor", sum := "2944f2eba5183a6ec2f918dbe247f95ef37e0a37cc25044b670a42a0b8fd5f78", func := "sheaves/sheavestop.TopCodes", spec := "topCodes", unfollowed := true, recurses := true, named := ["sheaves/blake.first", "sheaves/blake.order", "sheaves/blake.lanes"], apart := false, laid := [("sheaves/blake.first", laid_sheaves_blake_first), ("sheaves/blake.order", laid_sheaves_blake_order), ("sheaves/blake.lanes", laid_sheaves_blake_lanes)] }
def TopCodesSaid : Prop := topCodesRow.holds Tryz.pinned (OpenSpec.ofChange topCodesSpec)

/-- ITS FALSE NEIGHBOUR: 'it returns false'. Refute it at one input. -/
def topCodesWrong : ChangeSpec := { name := "topCodes", fn := fun _ => fun
  | [d1, d2, d3] => { results := [.lit (.bool false)], args := [d1, d2, d3] }
  | _ => none }
def TopCodesWrongFalsely : Prop := topCodesRow.holds Tryz.pinned (OpenSpec.ofChange topCodesWrong)

/-- 'sheavestop.TopQuiet': WHATEVER THE INPUT: true; the input reads as it did. -/
def topQuietSpec : ChangeSpec := { name := "topQuiet", fn := fun _ => fun
  | [d1, d2, d3] => { results := [.lit (.bool true)], args := [d1, d2, d3] }
  | _ => none }
def topQuietRow : OpenClaim := { program := "ytmijiclocadimaagreatdoor", sum := "2944f2eba5183a6ec2f918dbe247f95ef37e0a37cc25044b670a42a0b8fd5f78", func := "sheaves/sheavestop.TopQuiet", spec := "topQuiet", unfollowed := true, recurses := true, named := ["sheaves/blake.first", "sheaves/blake.order", "sheaves/blake.lanes"], apart := false, laid := [("sheaves/blake.first", laid_sheaves_blake_first), ("sheaves/blake.order", laid_sheaves_blake_order), ("sheaves/blake.lanes", laid_sheaves_blake_lanes)] }
def TopQuietSaid : Prop := topQuietRow.holds Tryz.pinned (OpenSpec.ofChange topQuietSpec)

/-- ITS FALSE NEIGHBOUR: 'it returns false'. Refute it at one input. -/
def topQuietWrong : ChangeSpec := { name := "topQuiet", fn := fun _ => fun
  | [d1, d2, d3] => { results := [.lit (.bool false)], args := [d1, d2, d3] }
  | _ => none }
def TopQuietWrongFalsely : Prop := topQuietRow.holds Tryz.pinned (OpenSpec.ofChange topQuietWrong)

/-- 'sheavestop.TopRefused': WHATEVER THE INPUT: true; the input reads as it did. -/
def topRefusedSpec : ChangeSpec := { name := "topRefused", fn := fun _ => fun
  | [d1, d2, d3] => { results := [.lit (.bool true)], args := [d1, d2, d3] }
  | _ => none }
def topRefusedRow : OpenClaim := { program := "ytmijiclocadimaagreatdoor", sum := "2944f2eba5183a6ec2f918dbe247f95ef37e0a37cc25044b670a42a0b8fd5f78", func := "sheaves/sheavestop.TopRefused", spec := "topRefused", unfollowed := true, recurses := true, named := ["sheaves/blake.first", "sheaves/blake.order", "sheaves/blake.lanes"], apart := false, laid := [("sheaves/blake.first", laid_sheaves_blake_first), ("sheaves/blake.order", laid_sheaves_blake_order), ("sheaves/blake.lanes", laid_sheaves_blake_lanes)] }
def TopRefusedSaid : Prop := topRefusedRow.holds Tryz.pinned (OpenSpec.ofChange topRefusedSpec)

/-- ITS FALSE NEIGHBOUR: 'it returns false'. Refute it at one input. -/
def topRefusedWrong : ChangeSpec := { name := "topRefused", fn := fun _ => fun
  | [d1, d2, d3] => { results := [.lit (.bool false)], args := [d1, d2, d3] }
  | _ => none }
def TopRefusedWrongFalsely : Prop := topRefusedRow.holds Tryz.pinned (OpenSpec.ofChange topRefusedWrong)

/-- 'sheavestop.TopFlow': WHATEVER THE INPUT: true; the input reads as it did. -/
def topFlowSpec : ChangeSpec := { name := "topFlow", fn := fun _ => fun
  | [d1, d2] => { results := [.lit (.bool true)], args := [d1, d2] }
  | _ => none }
def topFlowRow : OpenClaim := { program := "ytmijiclocadimaagreatdoor", sum := "2944f2eba5183a6ec2f918dbe247f95ef37e0a37cc25044b670a42a0b8fd5f78", func := "sheaves/sheavestop.TopFlow", spec := "topFlow", unfollowed := true, recurses := true, named := ["sheaves/blake.first", "sheaves/blake.order", "sheaves/blake.lanes"], apart := false, laid := [("sheaves/blake.first", laid_sheaves_blake_first), ("sheaves/blake.order", laid_sheaves_blake_order), ("sheaves/blake.lanes", laid_sheaves_blake_lanes)] }
def TopFlowSaid : Prop := topFlowRow.holds Tryz.pinned (OpenSpec.ofChange topFlowSpec)

/-- ITS FALSE NEIGHBOUR: 'it returns false'. Refute it at one input. -/
def topFlowWrong : ChangeSpec := { name := "topFlow", fn := fun _ => fun
  | [d1, d2] => { results := [.lit (.bool false)], args := [d1, d2] }
  | _ => none }
def TopFlowWrongFalsely : Prop := topFlowRow.holds Tryz.pinned (OpenSpec.ofChange topFlowWrong)

/-- 'sheavestop.TopPick': WHATEVER THE INPUT: true; the input reads as it did. -/
def topPickSpec : ChangeSpec := { name := "topPick", fn := fun _ => fun
  | [d1, d2, d3, d4] => { results := [.lit (.bool true)], args := [d1, d2, d3, d4] }
  | _ => none }
def topPickRow : OpenClaim := { program := "ytmijiclocadimaagreatdoor", sum := "2944f2eba5183a6ec2f918dbe247f95ef37e0a37cc25044b670a42a0b8fd5f78", func := "sheaves/sheavestop.TopPick", spec := "topPick", unfollowed := true, recurses := true, named := ["sheaves/blake.first", "sheaves/blake.order", "sheaves/blake.lanes"], apart := false, laid := [("sheaves/blake.first", laid_sheaves_blake_first), ("sheaves/blake.order", laid_sheaves_blake_order), ("sheaves/blake.lanes", laid_sheaves_blake_lanes)] }
def TopPickSaid : Prop := topPickRow.holds Tryz.pinned (OpenSpec.ofChange topPickSpec)

/-- ITS FALSE NEIGHBOUR: 'it returns false'. Refute it at one input. -/
def topPickWrong : ChangeSpec := { name := "topPick", fn := fun _ => fun
  | [d1, d2, d3, d4] => { results := [.lit (.bool false)], args := [d1, d2, d3, d4] }
  | _ => none }
def TopPickWrongFalsely : Prop := topPickRow.holds Tryz.pinned (OpenSpec.ofChange topPickWrong)

/-- 'sheavestop.TopLost': WHATEVER THE INPUT: true; the input reads as it did. -/
def topLostSpec : ChangeSpec := { name := "topLost", fn := fun _ => fun
  | [d1, d2, d3] => { results := [.lit (.bool true)], args := [d1, d2, d3] }
  | _ => none }
def topLostRow : OpenClaim := { program := "ytmijiclocadimaagreatdoor", sum := "2944f2eba5183a6ec2f918dbe247f95ef37e0a37cc25044b670a42a0b8fd5f78", func := "sheaves/sheavestop.TopLost", spec := "topLost", unfollowed := true, recurses := true, named := ["sheaves/blake.first", "sheaves/blake.order", "sheaves/blake.lanes"], apart := false, laid := [("sheaves/blake.first", laid_sheaves_blake_first), ("sheaves/blake.order", laid_sheaves_blake_order), ("sheaves/blake.lanes", laid_sheaves_blake_lanes)] }
def TopLostSaid : Prop := topLostRow.holds Tryz.pinned (OpenSpec.ofChange topLostSpec)

/-- ITS FALSE NEIGHBOUR: 'it returns false'. Refute it at one input. -/
def topLostWrong : ChangeSpec := { name := "topLost", fn := fun _ => fun
  | [d1, d2, d3] => { results := [.lit (.bool false)], args := [d1, d2, d3] }
  | _ => none }
def TopLostWrongFalsely : Prop := topLostRow.holds Tryz.pinned (OpenSpec.ofChange topLostWrong)

/-- 'sheavestop.TopSealed': WHATEVER THE INPUT: true; the input reads as it did. -/
def topSealedSpec : ChangeSpec := { name := "topSealed", fn := fun _ => fun
  | [d1, d2, d3] => { results := [.lit (.bool true)], args := [d1, d2, d3] }
  | _ => none }
def topSealedRow : OpenClaim := { program := "ytmijiclocadimaagreatdoor", sum := "2944f2eba5183a6ec2f918dbe247f95ef37e0a37cc25044b670a42a0b8fd5f78", func := "sheaves/sheavestop.TopSealed", spec := "topSealed", unfollowed := true, recurses := true, named := ["sheaves/blake.first", "sheaves/blake.order", "sheaves/blake.lanes"], apart := false, laid := [("sheaves/blake.first", laid_sheaves_blake_first), ("sheaves/blake.order", laid_sheaves_blake_order), ("sheaves/blake.lanes", laid_sheaves_blake_lanes)] }
def TopSealedSaid : Prop := topSealedRow.holds Tryz.pinned (OpenSpec.ofChange topSealedSpec)

/-- ITS FALSE NEIGHBOUR: 'it returns false'. Refute it at one input. -/
def topSealedWrong : ChangeSpec := { name := "topSealed", fn := fun _ => fun
  | [d1, d2, d3] => { results := [.lit (.bool false)], args := [d1, d2, d3] }
  | _ => none }
def TopSealedWrongFalsely : Prop := topSealedRow.holds Tryz.pinned (OpenSpec.ofChange topSealedWrong)

/-- 'sheavestop.TopNumbers': WHATEVER THE INPUT: true; the input reads as it did. -/
def topNumbersSpec : ChangeSpec := { name := "topNumbers", fn := fun _ => fun
  | [d1, d2] => { results := [.lit (.bool true)], args := [d1, d2] }
  | _ => none }
def topNumbersRow : OpenClaim := { program := "ytmijiclocadimaagreatdoor", sum := "2944f2eba5183a6ec2f918dbe247f95ef37e0a37cc25044b670a42a0b8fd5f78", func := "sheaves/sheavestop.TopNumbers", spec := "topNumbers", unfollowed := true, recurses := true, named := ["sheaves/blake.first", "sheaves/blake.order", "sheaves/blake.lanes"], apart := false, laid := [("sheaves/blake.first", laid_sheaves_blake_first), ("sheaves/blake.order", laid_sheaves_blake_order), ("sheaves/blake.lanes", laid_sheaves_blake_lanes)] }
def TopNumbersSaid : Prop := topNumbersRow.holds Tryz.pinned (OpenSpec.ofChange topNumbersSpec)

/-- ITS FALSE NEIGHBOUR: 'it returns false'. Refute it at one input. -/
def topNumbersWrong : ChangeSpec := { name := "topNumbers", fn := fun _ => fun
  | [d1, d2] => { results := [.lit (.bool false)], args := [d1, d2] }
  | _ => none }
def TopNumbersWrongFalsely : Prop := topNumbersRow.holds Tryz.pinned (OpenSpec.ofChange topNumbersWrong)

/-- 'sheavestop.TopAlone': WHATEVER THE INPUT: true; the input reads as it did. -/
def topAloneSpec : ChangeSpec := { name := "topAlone", fn := fun _ => fun
  | [d1, d2, d3] => { results := [.lit (.bool true)], args := [d1, d2, d3] }
  | _ => none }
def topAloneRow : OpenClaim := { program := "ytmijiclocadimaagreatdoor", sum := "2944f2eba5183a6ec2f918dbe247f95ef37e0a37cc25044b670a42a0b8fd5f78", func := "sheaves/sheavestop.TopAlone", spec := "topAlone", unfollowed := true, recurses := true, named := ["sheaves/blake.first", "sheaves/blake.order", "sheaves/blake.lanes"], apart := false, laid := [("sheaves/blake.first", laid_sheaves_blake_first), ("sheaves/blake.order", laid_sheaves_blake_order), ("sheaves/blake.lanes", laid_sheaves_blake_lanes)] }
def TopAloneSaid : Prop := topAloneRow.holds Tryz.pinned (OpenSpec.ofChange topAloneSpec)

/-- ITS FALSE NEIGHBOUR: 'it returns false'. Refute it at one input. -/
def topAloneWrong : ChangeSpec := { name := "topAlone", fn := fun _ => fun
  | [d1, d2, d3] => { results := [.lit (.bool false)], args := [d1, d2, d3] }
  | _ => none }
def TopAloneWrongFalsely : Prop := topAloneRow.holds Tryz.pinned (OpenSpec.ofChange topAloneWrong)

/-- 'sheavestop.TopVoters': WHATEVER THE INPUT: true; the input reads as it did. -/
def topVotersSpec : ChangeSpec := { name := "topVoters", fn := fun _ => fun
  | [d1, d2] => { results := [.lit (.bool true)], args := [d1, d2] }
  | _ => none }
def topVotersRow : OpenClaim := { program := "ytmijiclocadimaagreatdoor", sum := "2944f2eba5183a6ec2f918dbe247f95ef37e0a37cc25044b670a42a0b8fd5f78", func := "sheaves/sheavestop.TopVoters", spec := "topVoters", unfollowed := true, recurses := true, named := ["sheaves/blake.first", "sheaves/blake.order", "sheaves/blake.lanes"], apart := false, laid := [("sheaves/blake.first", laid_sheaves_blake_first), ("sheaves/blake.order", laid_sheaves_blake_order), ("sheaves/blake.lanes", laid_sheaves_blake_lanes)] }
def TopVotersSaid : Prop := topVotersRow.holds Tryz.pinned (OpenSpec.ofChange topVotersSpec)

/-- ITS FALSE NEIGHBOUR: 'it returns false'. Refute it at one input. -/
def topVotersWrong : ChangeSpec := { name := "topVoters", fn := fun _ => fun
  | [d1, d2] => { results := [.lit (.bool false)], args := [d1, d2] }
  | _ => none }
def TopVotersWrongFalsely : Prop := topVotersRow.holds Tryz.pinned (OpenSpec.ofChange topVotersWrong)

/-- 'sheavestop.TopFirst': WHATEVER THE INPUT: true; the input reads as it did. -/
def topFirstSpec : ChangeSpec := { name := "topFirst", fn := fun _ => fun
  | [d1, d2] => { results := [.lit (.bool true)], args := [d1, d2] }
  | _ => none }
def topFirstRow : OpenClaim := { program := "ytmijiclocadimaagreatdoor", sum := "2944f2eba5183a6ec2f918dbe247f95ef37e0a37cc25044b670a42a0b8fd5f78", func := "sheaves/sheavestop.TopFirst", spec := "topFirst", unfollowed := true, recurses := true, named := ["sheaves/blake.first", "sheaves/blake.order", "sheaves/blake.lanes"], apart := false, laid := [("sheaves/blake.first", laid_sheaves_blake_first), ("sheaves/blake.order", laid_sheaves_blake_order), ("sheaves/blake.lanes", laid_sheaves_blake_lanes)] }
def TopFirstSaid : Prop := topFirstRow.holds Tryz.pinned (OpenSpec.ofChange topFirstSpec)

/-- ITS FALSE NEIGHBOUR: 'it returns false'. Refute it at one input. -/
def topFirstWrong : ChangeSpec := { name := "topFirst", fn := fun _ => fun
  | [d1, d2] => { results := [.lit (.bool false)], args := [d1, d2] }
  | _ => none }
def TopFirstWrongFalsely : Prop := topFirstRow.holds Tryz.pinned (OpenSpec.ofChange topFirstWrong)

/-- 'sheavestop.TopBehind': WHATEVER THE INPUT: true; the input reads as it did. -/
def topBehindSpec : ChangeSpec := { name := "topBehind", fn := fun _ => fun
  | [d1, d2, d3] => { results := [.lit (.bool true)], args := [d1, d2, d3] }
  | _ => none }
def topBehindRow : OpenClaim := { program := "ytmijiclocadimaagreatdoor", sum := "2944f2eba5183a6ec2f918dbe247f95ef37e0a37cc25044b670a42a0b8fd5f78", func := "sheaves/sheavestop.TopBehind", spec := "topBehind", unfollowed := true, recurses := true, named := ["sheaves/blake.first", "sheaves/blake.order", "sheaves/blake.lanes"], apart := false, laid := [("sheaves/blake.first", laid_sheaves_blake_first), ("sheaves/blake.order", laid_sheaves_blake_order), ("sheaves/blake.lanes", laid_sheaves_blake_lanes)] }
def TopBehindSaid : Prop := topBehindRow.holds Tryz.pinned (OpenSpec.ofChange topBehindSpec)

/-- ITS FALSE NEIGHBOUR: 'it returns false'. Refute it at one input. -/
def topBehindWrong : ChangeSpec := { name := "topBehind", fn := fun _ => fun
  | [d1, d2, d3] => { results := [.lit (.bool false)], args := [d1, d2, d3] }
  | _ => none }
def TopBehindWrongFalsely : Prop := topBehindRow.holds Tryz.pinned (OpenSpec.ofChange topBehindWrong)

/- THE SECOND FORM. 'bulk': how many values and letters a reading holds, each counted each time it is reached (what is shared counts as often as it is met; a slice's spare places count too). A statement '..UptoSaid' is the law's where the arguments, and the package variables that the reading takes, are together of bulk at most 1048576: NARROWER than '..Said'. Prove '..Said' where nothing that the law and all that it calls make is longer than what came in: it says more and counts as full. Else prove '..UptoSaid'. A law counts once. -/
mutual
def uptoBulk {H : Type} : DataW H → Nat
  | .lit (.string bytes) => bytes.length + 1
  | .lit _ => 1
  | .nil => 1
  | .ptr d => uptoBulk d + 1
  | .slice elems spare => uptoBulkAll elems + uptoBulkAll spare + 1
  | .agg parts => uptoBulkAll parts + 1
  | .iface _ d => uptoBulk d + 1
  | .map entries => uptoBulkEntries entries + 1
  | .held _ => 1
def uptoBulkAll {H : Type} : List (DataW H) → Nat
  | [] => 0
  | d :: r => uptoBulk d + uptoBulkAll r
def uptoBulkEntries {H : Type} : List (Lit × DataW H) → Nat
  | [] => 0
  | x :: r => uptoBulkEntry x + uptoBulkEntries r
def uptoBulkEntry {H : Type} : Lit × DataW H → Nat
  | (.string bytes, d) => bytes.length + uptoBulk d + 1
  | (_, d) => uptoBulk d + 1
 end
def uptoSmall : (H : Type) → List (DataW H) → Bool := fun _ ds => decide (uptoBulkAll ds ≤ 1048576)
def OpenSpec.upto (s : _root_.Go.ChangeSpec) : _root_.Go.OpenSpec := { _root_.Go.OpenSpec.ofChange s with cond := some uptoSmall }

/-- 'sheavestop.TopCodes', WHERE WHAT IT READS IS OF BULK AT MOST 1048576: true; the input reads as it did. -/
def topCodesUptoRow : OpenClaim := { program := "ytmijiclocadimaagreatdoor", sum := "2944f2eba5183a6ec2f918dbe247f95ef37e0a37cc25044b670a42a0b8fd5f78", func := "sheaves/sheavestop.TopCodes", spec := "topCodes", unfollowed := true, recurses := true, named := ["sheaves/blake.first", "sheaves/blake.order", "sheaves/blake.lanes"], apart := false, laid := [("sheaves/blake.first", laid_sheaves_blake_first), ("sheaves/blake.order", laid_sheaves_blake_order), ("sheaves/blake.lanes", laid_sheaves_blake_lanes)], narrowed := true }
def TopCodesUptoSaid : Prop := topCodesUptoRow.holds Tryz.pinned (OpenSpec.upto topCodesSpec)

/-- 'sheavestop.TopQuiet', WHERE WHAT IT READS IS OF BULK AT MOST 1048576: true; the input reads as it did. -/
def topQuietUptoRow : OpenClaim := { program := "ytmijiclocadimaagreatdoor", sum := "2944f2eba5183a6ec2f918dbe247f95ef37e0a37cc25044b670a42a0b8fd5f78", func := "sheaves/sheavestop.TopQuiet", spec := "topQuiet", unfollowed := true, recurses := true, named := ["sheaves/blake.first", "sheaves/blake.order", "sheaves/blake.lanes"], apart := false, laid := [("sheaves/blake.first", laid_sheaves_blake_first), ("sheaves/blake.order", laid_sheaves_blake_order), ("sheaves/blake.lanes", laid_sheaves_blake_lanes)], narrowed := true }
def TopQuietUptoSaid : Prop := topQuietUptoRow.holds Tryz.pinned (OpenSpec.upto topQuietSpec)

/-- 'sheavestop.TopRefused', WHERE WHAT IT READS IS OF BULK AT MOST 1048576: true; the input reads as it did. -/
def topRefusedUptoRow : OpenClaim := { program := "ytmijiclocadimaagreatdoor", sum := "2944f2eba5183a6ec2f918dbe247f95ef37e0a37cc25044b670a42a0b8fd5f78", func := "sheaves/sheavestop.TopRefused", spec := "topRefused", unfollowed := true, recurses := true, named := ["sheaves/blake.first", "sheaves/blake.order", "sheaves/blake.lanes"], apart := false, laid := [("sheaves/blake.first", laid_sheaves_blake_first), ("sheaves/blake.order", laid_sheaves_blake_order), ("sheaves/blake.lanes", laid_sheaves_blake_lanes)], narrowed := true }
def TopRefusedUptoSaid : Prop := topRefusedUptoRow.holds Tryz.pinned (OpenSpec.upto topRefusedSpec)

/-- 'sheavestop.TopFlow', WHERE WHAT IT READS IS OF BULK AT MOST 1048576: true; the input reads as it did. -/
def topFlowUptoRow : OpenClaim := { program := "ytmijiclocadimaagreatdoor", sum := "2944f2eba5183a6ec2f918dbe247f95ef37e0a37cc25044b670a42a0b8fd5f78", func := "sheaves/sheavestop.TopFlow", spec := "topFlow", unfollowed := true, recurses := true, named := ["sheaves/blake.first", "sheaves/blake.order", "sheaves/blake.lanes"], apart := false, laid := [("sheaves/blake.first", laid_sheaves_blake_first), ("sheaves/blake.order", laid_sheaves_blake_order), ("sheaves/blake.lanes", laid_sheaves_blake_lanes)], narrowed := true }
def TopFlowUptoSaid : Prop := topFlowUptoRow.holds Tryz.pinned (OpenSpec.upto topFlowSpec)

/-- 'sheavestop.TopPick', WHERE WHAT IT READS IS OF BULK AT MOST 1048576: true; the input reads as it did. -/
def topPickUptoRow : OpenClaim := { program := "ytmijiclocadimaagreatdoor", sum := "2944f2eba5183a6ec2f918dbe247f95ef37e0a37cc25044b670a42a0b8fd5f78", func := "sheaves/sheavestop.TopPick", spec := "topPick", unfollowed := true, recurses := true, named := ["sheaves/blake.first", "sheaves/blake.order", "sheaves/blake.lanes"], apart := false, laid := [("sheaves/blake.first", laid_sheaves_blake_first), ("sheaves/blake.order", laid_sheaves_blake_order), ("sheaves/blake.lanes", laid_sheaves_blake_lanes)], narrowed := true }
def TopPickUptoSaid : Prop := topPickUptoRow.holds Tryz.pinned (OpenSpec.upto topPickSpec)

/-- 'sheavestop.TopLost', WHERE WHAT IT READS IS OF BULK AT MOST 1048576: true; the input reads as it did. -/
def topLostUptoRow : OpenClaim := { program := "ytmijiclocadimaagreatdoor", sum := "2944f2eba5183a6ec2f918dbe247f95ef37e0a37cc25044b670a42a0b8fd5f78", func := "sheaves/sheavestop.TopLost", spec := "topLost", unfollowed := true, recurses := true, named := ["sheaves/blake.first", "sheaves/blake.order", "sheaves/blake.lanes"], apart := false, laid := [("sheaves/blake.first", laid_sheaves_blake_first), ("sheaves/blake.order", laid_sheaves_blake_order), ("sheaves/blake.lanes", laid_sheaves_blake_lanes)], narrowed := true }
def TopLostUptoSaid : Prop := topLostUptoRow.holds Tryz.pinned (OpenSpec.upto topLostSpec)

/-- 'sheavestop.TopSealed', WHERE WHAT IT READS IS OF BULK AT MOST 1048576: true; the input reads as it did. -/
def topSealedUptoRow : OpenClaim := { program := "ytmijiclocadimaagreatdoor", sum := "2944f2eba5183a6ec2f918dbe247f95ef37e0a37cc25044b670a42a0b8fd5f78", func := "sheaves/sheavestop.TopSealed", spec := "topSealed", unfollowed := true, recurses := true, named := ["sheaves/blake.first", "sheaves/blake.order", "sheaves/blake.lanes"], apart := false, laid := [("sheaves/blake.first", laid_sheaves_blake_first), ("sheaves/blake.order", laid_sheaves_blake_order), ("sheaves/blake.lanes", laid_sheaves_blake_lanes)], narrowed := true }
def TopSealedUptoSaid : Prop := topSealedUptoRow.holds Tryz.pinned (OpenSpec.upto topSealedSpec)

/-- 'sheavestop.TopNumbers', WHERE WHAT IT READS IS OF BULK AT MOST 1048576: true; the input reads as it did. -/
def topNumbersUptoRow : OpenClaim := { program := "ytmijiclocadimaagreatdoor", sum := "2944f2eba5183a6ec2f918dbe247f95ef37e0a37cc25044b670a42a0b8fd5f78", func := "sheaves/sheavestop.TopNumbers", spec := "topNumbers", unfollowed := true, recurses := true, named := ["sheaves/blake.first", "sheaves/blake.order", "sheaves/blake.lanes"], apart := false, laid := [("sheaves/blake.first", laid_sheaves_blake_first), ("sheaves/blake.order", laid_sheaves_blake_order), ("sheaves/blake.lanes", laid_sheaves_blake_lanes)], narrowed := true }
def TopNumbersUptoSaid : Prop := topNumbersUptoRow.holds Tryz.pinned (OpenSpec.upto topNumbersSpec)

/-- 'sheavestop.TopAlone', WHERE WHAT IT READS IS OF BULK AT MOST 1048576: true; the input reads as it did. -/
def topAloneUptoRow : OpenClaim := { program := "ytmijiclocadimaagreatdoor", sum := "2944f2eba5183a6ec2f918dbe247f95ef37e0a37cc25044b670a42a0b8fd5f78", func := "sheaves/sheavestop.TopAlone", spec := "topAlone", unfollowed := true, recurses := true, named := ["sheaves/blake.first", "sheaves/blake.order", "sheaves/blake.lanes"], apart := false, laid := [("sheaves/blake.first", laid_sheaves_blake_first), ("sheaves/blake.order", laid_sheaves_blake_order), ("sheaves/blake.lanes", laid_sheaves_blake_lanes)], narrowed := true }
def TopAloneUptoSaid : Prop := topAloneUptoRow.holds Tryz.pinned (OpenSpec.upto topAloneSpec)

/-- 'sheavestop.TopVoters', WHERE WHAT IT READS IS OF BULK AT MOST 1048576: true; the input reads as it did. -/
def topVotersUptoRow : OpenClaim := { program := "ytmijiclocadimaagreatdoor", sum := "2944f2eba5183a6ec2f918dbe247f95ef37e0a37cc25044b670a42a0b8fd5f78", func := "sheaves/sheavestop.TopVoters", spec := "topVoters", unfollowed := true, recurses := true, named := ["sheaves/blake.first", "sheaves/blake.order", "sheaves/blake.lanes"], apart := false, laid := [("sheaves/blake.first", laid_sheaves_blake_first), ("sheaves/blake.order", laid_sheaves_blake_order), ("sheaves/blake.lanes", laid_sheaves_blake_lanes)], narrowed := true }
def TopVotersUptoSaid : Prop := topVotersUptoRow.holds Tryz.pinned (OpenSpec.upto topVotersSpec)

/-- 'sheavestop.TopFirst', WHERE WHAT IT READS IS OF BULK AT MOST 1048576: true; the input reads as it did. -/
def topFirstUptoRow : OpenClaim := { program := "ytmijiclocadimaagreatdoor", sum := "2944f2eba5183a6ec2f918dbe247f95ef37e0a37cc25044b670a42a0b8fd5f78", func := "sheaves/sheavestop.TopFirst", spec := "topFirst", unfollowed := true, recurses := true, named := ["sheaves/blake.first", "sheaves/blake.order", "sheaves/blake.lanes"], apart := false, laid := [("sheaves/blake.first", laid_sheaves_blake_first), ("sheaves/blake.order", laid_sheaves_blake_order), ("sheaves/blake.lanes", laid_sheaves_blake_lanes)], narrowed := true }
def TopFirstUptoSaid : Prop := topFirstUptoRow.holds Tryz.pinned (OpenSpec.upto topFirstSpec)

/-- 'sheavestop.TopBehind', WHERE WHAT IT READS IS OF BULK AT MOST 1048576: true; the input reads as it did. -/
def topBehindUptoRow : OpenClaim := { program := "ytmijiclocadimaagreatdoor", sum := "2944f2eba5183a6ec2f918dbe247f95ef37e0a37cc25044b670a42a0b8fd5f78", func := "sheaves/sheavestop.TopBehind", spec := "topBehind", unfollowed := true, recurses := true, named := ["sheaves/blake.first", "sheaves/blake.order", "sheaves/blake.lanes"], apart := false, laid := [("sheaves/blake.first", laid_sheaves_blake_first), ("sheaves/blake.order", laid_sheaves_blake_order), ("sheaves/blake.lanes", laid_sheaves_blake_lanes)], narrowed := true }
def TopBehindUptoSaid : Prop := topBehindUptoRow.holds Tryz.pinned (OpenSpec.upto topBehindSpec)

end Rows
end Go.Proofs.YtmijiclocadimaaGreatDoor
