/-
  NARROWER THAN 'FOR EVERY INPUT', by the rows' own cells (each row's printed sentence says how): ProvenAll: laid · ProvenJust: laid · ProvenForm: laid · ProvenRogue: laid · CastApart: laid · VotedNone: laid · TableAll: laid · CastOnce: laid · InsertLate: laid · InsertBad: laid · DigestsNone: laid · InsertOnce: laid.
  DERIVED. THE GIVEN ROWS OF THIS SEAT. 12 by the template 'for every input the law returns true; each argument reads behind the call as it read before'; 0 by the template 'total and deterministic' (their statements: YtialhdmdeggenaaDoorTotals.lean).
  GIVEN WITH THE SEED: the statements are not yours to turn. If you find one false, say at which input.
  Laid BY PROGRAM, IN A SANDBOX (cutbox-rows.mjs): the forced cells as the released guide's own fill.sh prints them over the translation dbc3f3c20feefccf… (all of the seat's roots in one cut). By AI agents, Wed Nov 11 2026. No macro, syntax, notation, axiom, sorry.
-/
import Derived.Test.YtialhdmdeggenaaDoorChecked
import GoSem.Claim
import GoSem.ClaimJoined
import GoSem.ClaimMapViews
import Derived.JoinedTies
import Derived.KernelRfl
namespace Go.Proofs.YtialhdmdeggenaaDoor
/- THE CELL 'sum', in the pinned program and in every row, IS THE sha256 OF THE DUMP (.gsa) THAT YtialhdmdeggenaaDoorProg.lean LOADS. Nothing in Lean hashes anything: it is a label: what it is worth is what the hold of that sum in a sandbox is worth. -/
noncomputable def Tryd.pinned : Pinned := { name := "ytialhdmdeggenaadoor", sum := "dbc3f3c20feefccf1ca169a8583c8eb6368318589cb416daa6d2ca1986178137", checked := Tryd.checked }
namespace Rows
def none {H : Type} : Left H := { results := [], args := [] }

/- WHAT THE LISTED PACKAGE-LEVEL VARIABLES READ AS WHEN THE CALL BEGINS. Each datum BY PROGRAM (the guide's laid-datum.mjs) off the statement by which the dump's own 'gosem.cut.vars' lays the variable. In a bare row this is a premise. The card (YtialhdmdeggenaaDoorCards.lean) ties it to the program's text. -/
def laid_sheaves_blake_first {H : Type} : DataW H := .agg [.lit (.int .u32 1779033703), .lit (.int .u32 3144134277), .lit (.int .u32 1013904242), .lit (.int .u32 2773480762), .lit (.int .u32 1359893119), .lit (.int .u32 2600822924), .lit (.int .u32 528734635), .lit (.int .u32 1541459225)]
def laid_sheaves_blake_order {H : Type} : DataW H := .agg [.agg [.lit (.int .i64 0), .lit (.int .i64 1), .lit (.int .i64 2), .lit (.int .i64 3), .lit (.int .i64 4), .lit (.int .i64 5), .lit (.int .i64 6), .lit (.int .i64 7), .lit (.int .i64 8), .lit (.int .i64 9), .lit (.int .i64 10), .lit (.int .i64 11), .lit (.int .i64 12), .lit (.int .i64 13), .lit (.int .i64 14), .lit (.int .i64 15)], .agg [.lit (.int .i64 14), .lit (.int .i64 10), .lit (.int .i64 4), .lit (.int .i64 8), .lit (.int .i64 9), .lit (.int .i64 15), .lit (.int .i64 13), .lit (.int .i64 6), .lit (.int .i64 1), .lit (.int .i64 12), .lit (.int .i64 0), .lit (.int .i64 2), .lit (.int .i64 11), .lit (.int .i64 7), .lit (.int .i64 5), .lit (.int .i64 3)], .agg [.lit (.int .i64 11), .lit (.int .i64 8), .lit (.int .i64 12), .lit (.int .i64 0), .lit (.int .i64 5), .lit (.int .i64 2), .lit (.int .i64 15), .lit (.int .i64 13), .lit (.int .i64 10), .lit (.int .i64 14), .lit (.int .i64 3), .lit (.int .i64 6), .lit (.int .i64 7), .lit (.int .i64 1), .lit (.int .i64 9), .lit (.int .i64 4)], .agg [.lit (.int .i64 7), .lit (.int .i64 9), .lit (.int .i64 3), .lit (.int .i64 1), .lit (.int .i64 13), .lit (.int .i64 12), .lit (.int .i64 11), .lit (.int .i64 14), .lit (.int .i64 2), .lit (.int .i64 6), .lit (.int .i64 5), .lit (.int .i64 10), .lit (.int .i64 4), .lit (.int .i64 0), .lit (.int .i64 15), .lit (.int .i64 8)], .agg [.lit (.int .i64 9), .lit (.int .i64 0), .lit (.int .i64 5), .lit (.int .i64 7), .lit (.int .i64 2), .lit (.int .i64 4), .lit (.int .i64 10), .lit (.int .i64 15), .lit (.int .i64 14), .lit (.int .i64 1), .lit (.int .i64 11), .lit (.int .i64 12), .lit (.int .i64 6), .lit (.int .i64 8), .lit (.int .i64 3), .lit (.int .i64 13)], .agg [.lit (.int .i64 2), .lit (.int .i64 12), .lit (.int .i64 6), .lit (.int .i64 10), .lit (.int .i64 0), .lit (.int .i64 11), .lit (.int .i64 8), .lit (.int .i64 3), .lit (.int .i64 4), .lit (.int .i64 13), .lit (.int .i64 7), .lit (.int .i64 5), .lit (.int .i64 15), .lit (.int .i64 14), .lit (.int .i64 1), .lit (.int .i64 9)], .agg [.lit (.int .i64 12), .lit (.int .i64 5), .lit (.int .i64 1), .lit (.int .i64 15), .lit (.int .i64 14), .lit (.int .i64 13), .lit (.int .i64 4), .lit (.int .i64 10), .lit (.int .i64 0), .lit (.int .i64 7), .lit (.int .i64 6), .lit (.int .i64 3), .lit (.int .i64 9), .lit (.int .i64 2), .lit (.int .i64 8), .lit (.int .i64 11)], .agg [.lit (.int .i64 13), .lit (.int .i64 11), .lit (.int .i64 7), .lit (.int .i64 14), .lit (.int .i64 12), .lit (.int .i64 1), .lit (.int .i64 3), .lit (.int .i64 9), .lit (.int .i64 5), .lit (.int .i64 0), .lit (.int .i64 15), .lit (.int .i64 4), .lit (.int .i64 8), .lit (.int .i64 6), .lit (.int .i64 2), .lit (.int .i64 10)], .agg [.lit (.int .i64 6), .lit (.int .i64 15), .lit (.int .i64 14), .lit (.int .i64 9), .lit (.int .i64 11), .lit (.int .i64 3), .lit (.int .i64 0), .lit (.int .i64 8), .lit (.int .i64 12), .lit (.int .i64 2), .lit (.int .i64 13), .lit (.int .i64 7), .lit (.int .i64 1), .lit (.int .i64 4), .lit (.int .i64 10), .lit (.int .i64 5)], .agg [.lit (.int .i64 10), .lit (.int .i64 2), .lit (.int .i64 8), .lit (.int .i64 4), .lit (.int .i64 7), .lit (.int .i64 6), .lit (.int .i64 1), .lit (.int .i64 5), .lit (.int .i64 15), .lit (.int .i64 11), .lit (.int .i64 9), .lit (.int .i64 14), .lit (.int .i64 3), .lit (.int .i64 12), .lit (.int .i64 13), .lit (.int .i64 0)]]
def laid_sheaves_blake_lanes {H : Type} : DataW H := .agg [.agg [.lit (.int .i64 0), .lit (.int .i64 4), .lit (.int .i64 8), .lit (.int .i64 12)], .agg [.lit (.int .i64 1), .lit (.int .i64 5), .lit (.int .i64 9), .lit (.int .i64 13)], .agg [.lit (.int .i64 2), .lit (.int .i64 6), .lit (.int .i64 10), .lit (.int .i64 14)], .agg [.lit (.int .i64 3), .lit (.int .i64 7), .lit (.int .i64 11), .lit (.int .i64 15)], .agg [.lit (.int .i64 0), .lit (.int .i64 5), .lit (.int .i64 10), .lit (.int .i64 15)], .agg [.lit (.int .i64 1), .lit (.int .i64 6), .lit (.int .i64 11), .lit (.int .i64 12)], .agg [.lit (.int .i64 2), .lit (.int .i64 7), .lit (.int .i64 8), .lit (.int .i64 13)], .agg [.lit (.int .i64 3), .lit (.int .i64 4), .lit (.int .i64 9), .lit (.int .i64 14)]]

/-- 'sheaveskeep.ProvenAll': WHATEVER THE INPUT: true; the input reads as it did. -/
def provenAllSpec : ChangeSpec := { name := "provenAll", fn := fun _ => fun
  | [d1, d2] => { results := [.lit (.bool true)], args := [d1, d2] }
  | _ => none }
def provenAllRow : OpenClaim := { program := "ytialhdmdeggenaadoor", sum := "dbc3f3c20feefccf1ca169a8583c8eb6368318589cb416daa6d2ca1986178137", func := "sheaves/sheaveskeep.ProvenAll", spec := "provenAll", unfollowed := true, recurses := true, named := ["sheaves/blake.first", "sheaves/blake.order", "sheaves/blake.lanes"], apart := false, laid := [("sheaves/blake.first", laid_sheaves_blake_first), ("sheaves/blake.order", laid_sheaves_blake_order), ("sheaves/blake.lanes", laid_sheaves_blake_lanes)] }
def ProvenAllSaid : Prop := provenAllRow.holds Tryd.pinned (OpenSpec.ofChange provenAllSpec)

/-- ITS FALSE NEIGHBOUR: 'it returns false'. Refute it at one input. -/
def provenAllWrong : ChangeSpec := { name := "provenAll", fn := fun _ => fun
  | [d1, d2] => { results := [.lit (.bool false)], args := [d1, d2] }
  | _ => none }
def ProvenAllWrongFalsely : Prop := provenAllRow.holds Tryd.pinned (OpenSpec.ofChange provenAllWrong)

/-- 'sheaveskeep.ProvenJust': WHATEVER THE INPUT: true; the input reads as it did. -/
def provenJustSpec : ChangeSpec := { name := "provenJust", fn := fun _ => fun
  | [d1, d2] => { results := [.lit (.bool true)], args := [d1, d2] }
  | _ => none }
def provenJustRow : OpenClaim := { program := "ytialhdmdeggenaadoor", sum := "dbc3f3c20feefccf1ca169a8583c8eb6368318589cb416daa6d2ca1986178137", func := "sheaves/sheaveskeep.ProvenJust", spec := "provenJust", unfollowed := true, recurses := true, named := ["sheaves/blake.first", "sheaves/blake.order", "sheaves/blake.lanes"], apart := false, laid := [("sheaves/blake.first", laid_sheaves_blake_first), ("sheaves/blake.order", laid_sheaves_blake_order), ("sheaves/blake.lanes", laid_sheaves_blake_lanes)] }
def ProvenJustSaid : Prop := provenJustRow.holds Tryd.pinned (OpenSpec.ofChange provenJustSpec)

/-- ITS FALSE NEIGHBOUR: 'it returns false'. Refute it at one input. -/
def provenJustWrong : ChangeSpec := { name := "provenJust", fn := fun _ => fun
  | [d1, d2] => { results := [.lit (.bool false)], args := [d1, d2] }
  | _ => none }
def ProvenJustWrongFalsely : Prop := provenJustRow.holds Tryd.pinned (OpenSpec.ofChange provenJustWrong)

/-- 'sheaveskeep.ProvenForm': WHATEVER THE INPUT: true; the input reads as it did. -/
def provenFormSpec : ChangeSpec := { name := "provenForm", fn := fun _ => fun
  | [d1, d2] => { results := [.lit (.bool true)], args := [d1, d2] }
  | _ => none }
def provenFormRow : OpenClaim := { program := "ytialhdmdeggenaadoor", sum := "dbc3f3c20feefccf1ca169a8583c8eb6368318589cb416daa6d2ca1986178137", func := "sheaves/sheaveskeep.ProvenForm", spec := "provenForm", unfollowed := true, recurses := true, named := ["sheaves/blake.first", "sheaves/blake.order", "sheaves/blake.lanes"], apart := false, laid := [("sheaves/blake.first", laid_sheaves_blake_first), ("sheaves/blake.order", laid_sheaves_blake_order), ("sheaves/blake.lanes", laid_sheaves_blake_lanes)] }
def ProvenFormSaid : Prop := provenFormRow.holds Tryd.pinned (OpenSpec.ofChange provenFormSpec)

/-- ITS FALSE NEIGHBOUR: 'it returns false'. Refute it at one input. -/
def provenFormWrong : ChangeSpec := { name := "provenForm", fn := fun _ => fun
  | [d1, d2] => { results := [.lit (.bool false)], args := [d1, d2] }
  | _ => none }
def ProvenFormWrongFalsely : Prop := provenFormRow.holds Tryd.pinned (OpenSpec.ofChange provenFormWrong)

/-- 'sheaveskeep.ProvenRogue': WHATEVER THE INPUT: true; the input reads as it did. -/
def provenRogueSpec : ChangeSpec := { name := "provenRogue", fn := fun _ => fun
  | [d1, d2] => { results := [.lit (.bool true)], args := [d1, d2] }
  | _ => none }
def provenRogueRow : OpenClaim := { program := "ytialhdmdeggenaadoor", sum := "dbc3f3c20feefccf1ca169a8583c8eb6368318589cb416daa6d2ca1986178137", func := "sheaves/sheaveskeep.ProvenRogue", spec := "provenRogue", unfollowed := true, recurses := true, named := ["sheaves/blake.first", "sheaves/blake.order", "sheaves/blake.lanes"], apart := false, laid := [("sheaves/blake.first", laid_sheaves_blake_first), ("sheaves/blake.order", laid_sheaves_blake_order), ("sheaves/blake.lanes", laid_sheaves_blake_lanes)] }
def ProvenRogueSaid : Prop := provenRogueRow.holds Tryd.pinned (OpenSpec.ofChange provenRogueSpec)

/-- ITS FALSE NEIGHBOUR: 'it returns false'. Refute it at one input. -/
def provenRogueWrong : ChangeSpec := { name := "provenRogue", fn := fun _ => fun
  | [d1, d2] => { results := [.lit (.bool false)], args := [d1, d2] }
  | _ => none }
def ProvenRogueWrongFalsely : Prop := provenRogueRow.holds Tryd.pinned (OpenSpec.ofChange provenRogueWrong)

/-- 'sheaveskeep.CastApart': WHATEVER THE INPUT: true; the input reads as it did. -/
def castApartSpec : ChangeSpec := { name := "castApart", fn := fun _ => fun
  | [d1, d2, d3] => { results := [.lit (.bool true)], args := [d1, d2, d3] }
  | _ => none }
def castApartRow : OpenClaim := { program := "ytialhdmdeggenaadoor", sum := "dbc3f3c20feefccf1ca169a8583c8eb6368318589cb416daa6d2ca1986178137", func := "sheaves/sheaveskeep.CastApart", spec := "castApart", unfollowed := true, recurses := true, named := ["sheaves/blake.first", "sheaves/blake.order", "sheaves/blake.lanes"], apart := false, laid := [("sheaves/blake.first", laid_sheaves_blake_first), ("sheaves/blake.order", laid_sheaves_blake_order), ("sheaves/blake.lanes", laid_sheaves_blake_lanes)] }
def CastApartSaid : Prop := castApartRow.holds Tryd.pinned (OpenSpec.ofChange castApartSpec)

/-- ITS FALSE NEIGHBOUR: 'it returns false'. Refute it at one input. -/
def castApartWrong : ChangeSpec := { name := "castApart", fn := fun _ => fun
  | [d1, d2, d3] => { results := [.lit (.bool false)], args := [d1, d2, d3] }
  | _ => none }
def CastApartWrongFalsely : Prop := castApartRow.holds Tryd.pinned (OpenSpec.ofChange castApartWrong)

/-- 'sheaveskeep.VotedNone': WHATEVER THE INPUT: true; the input reads as it did. -/
def votedNoneSpec : ChangeSpec := { name := "votedNone", fn := fun _ => fun
  | [d1, d2] => { results := [.lit (.bool true)], args := [d1, d2] }
  | _ => none }
def votedNoneRow : OpenClaim := { program := "ytialhdmdeggenaadoor", sum := "dbc3f3c20feefccf1ca169a8583c8eb6368318589cb416daa6d2ca1986178137", func := "sheaves/sheaveskeep.VotedNone", spec := "votedNone", unfollowed := true, recurses := true, named := ["sheaves/blake.first", "sheaves/blake.order", "sheaves/blake.lanes"], apart := false, laid := [("sheaves/blake.first", laid_sheaves_blake_first), ("sheaves/blake.order", laid_sheaves_blake_order), ("sheaves/blake.lanes", laid_sheaves_blake_lanes)] }
def VotedNoneSaid : Prop := votedNoneRow.holds Tryd.pinned (OpenSpec.ofChange votedNoneSpec)

/-- ITS FALSE NEIGHBOUR: 'it returns false'. Refute it at one input. -/
def votedNoneWrong : ChangeSpec := { name := "votedNone", fn := fun _ => fun
  | [d1, d2] => { results := [.lit (.bool false)], args := [d1, d2] }
  | _ => none }
def VotedNoneWrongFalsely : Prop := votedNoneRow.holds Tryd.pinned (OpenSpec.ofChange votedNoneWrong)

/-- 'sheaveskeep.TableAll': WHATEVER THE INPUT: true; the input reads as it did. -/
def tableAllSpec : ChangeSpec := { name := "tableAll", fn := fun _ => fun
  | [d] => { results := [.lit (.bool true)], args := [d] }
  | _ => none }
def tableAllRow : OpenClaim := { program := "ytialhdmdeggenaadoor", sum := "dbc3f3c20feefccf1ca169a8583c8eb6368318589cb416daa6d2ca1986178137", func := "sheaves/sheaveskeep.TableAll", spec := "tableAll", unfollowed := true, recurses := true, named := ["sheaves/blake.first", "sheaves/blake.order", "sheaves/blake.lanes"], apart := false, laid := [("sheaves/blake.first", laid_sheaves_blake_first), ("sheaves/blake.order", laid_sheaves_blake_order), ("sheaves/blake.lanes", laid_sheaves_blake_lanes)] }
def TableAllSaid : Prop := tableAllRow.holds Tryd.pinned (OpenSpec.ofChange tableAllSpec)

/-- ITS FALSE NEIGHBOUR: 'it returns false'. Refute it at one input. -/
def tableAllWrong : ChangeSpec := { name := "tableAll", fn := fun _ => fun
  | [d] => { results := [.lit (.bool false)], args := [d] }
  | _ => none }
def TableAllWrongFalsely : Prop := tableAllRow.holds Tryd.pinned (OpenSpec.ofChange tableAllWrong)

/-- 'sheaveskeep.CastOnce': WHATEVER THE INPUT: true; the input reads as it did. -/
def castOnceSpec : ChangeSpec := { name := "castOnce", fn := fun _ => fun
  | [d1, d2, d3] => { results := [.lit (.bool true)], args := [d1, d2, d3] }
  | _ => none }
def castOnceRow : OpenClaim := { program := "ytialhdmdeggenaadoor", sum := "dbc3f3c20feefccf1ca169a8583c8eb6368318589cb416daa6d2ca1986178137", func := "sheaves/sheaveskeep.CastOnce", spec := "castOnce", unfollowed := true, recurses := true, named := ["sheaves/blake.first", "sheaves/blake.order", "sheaves/blake.lanes"], apart := false, laid := [("sheaves/blake.first", laid_sheaves_blake_first), ("sheaves/blake.order", laid_sheaves_blake_order), ("sheaves/blake.lanes", laid_sheaves_blake_lanes)] }
def CastOnceSaid : Prop := castOnceRow.holds Tryd.pinned (OpenSpec.ofChange castOnceSpec)

/-- ITS FALSE NEIGHBOUR: 'it returns false'. Refute it at one input. -/
def castOnceWrong : ChangeSpec := { name := "castOnce", fn := fun _ => fun
  | [d1, d2, d3] => { results := [.lit (.bool false)], args := [d1, d2, d3] }
  | _ => none }
def CastOnceWrongFalsely : Prop := castOnceRow.holds Tryd.pinned (OpenSpec.ofChange castOnceWrong)

/-- 'sheaveskeep.InsertLate': WHATEVER THE INPUT: true; the input reads as it did. -/
def insertLateSpec : ChangeSpec := { name := "insertLate", fn := fun _ => fun
  | [d] => { results := [.lit (.bool true)], args := [d] }
  | _ => none }
def insertLateRow : OpenClaim := { program := "ytialhdmdeggenaadoor", sum := "dbc3f3c20feefccf1ca169a8583c8eb6368318589cb416daa6d2ca1986178137", func := "sheaves/sheaveskeep.InsertLate", spec := "insertLate", unfollowed := true, recurses := true, named := ["sheaves/blake.first", "sheaves/blake.order", "sheaves/blake.lanes"], apart := false, laid := [("sheaves/blake.first", laid_sheaves_blake_first), ("sheaves/blake.order", laid_sheaves_blake_order), ("sheaves/blake.lanes", laid_sheaves_blake_lanes)] }
def InsertLateSaid : Prop := insertLateRow.holds Tryd.pinned (OpenSpec.ofChange insertLateSpec)

/-- ITS FALSE NEIGHBOUR: 'it returns false'. Refute it at one input. -/
def insertLateWrong : ChangeSpec := { name := "insertLate", fn := fun _ => fun
  | [d] => { results := [.lit (.bool false)], args := [d] }
  | _ => none }
def InsertLateWrongFalsely : Prop := insertLateRow.holds Tryd.pinned (OpenSpec.ofChange insertLateWrong)

/-- 'sheaveskeep.InsertBad': WHATEVER THE INPUT: true; the input reads as it did. -/
def insertBadSpec : ChangeSpec := { name := "insertBad", fn := fun _ => fun
  | [d1, d2] => { results := [.lit (.bool true)], args := [d1, d2] }
  | _ => none }
def insertBadRow : OpenClaim := { program := "ytialhdmdeggenaadoor", sum := "dbc3f3c20feefccf1ca169a8583c8eb6368318589cb416daa6d2ca1986178137", func := "sheaves/sheaveskeep.InsertBad", spec := "insertBad", unfollowed := true, recurses := true, named := ["sheaves/blake.first", "sheaves/blake.order", "sheaves/blake.lanes"], apart := false, laid := [("sheaves/blake.first", laid_sheaves_blake_first), ("sheaves/blake.order", laid_sheaves_blake_order), ("sheaves/blake.lanes", laid_sheaves_blake_lanes)] }
def InsertBadSaid : Prop := insertBadRow.holds Tryd.pinned (OpenSpec.ofChange insertBadSpec)

/-- ITS FALSE NEIGHBOUR: 'it returns false'. Refute it at one input. -/
def insertBadWrong : ChangeSpec := { name := "insertBad", fn := fun _ => fun
  | [d1, d2] => { results := [.lit (.bool false)], args := [d1, d2] }
  | _ => none }
def InsertBadWrongFalsely : Prop := insertBadRow.holds Tryd.pinned (OpenSpec.ofChange insertBadWrong)

/-- 'sheaveskeep.DigestsNone': WHATEVER THE INPUT: true; the input reads as it did. -/
def digestsNoneSpec : ChangeSpec := { name := "digestsNone", fn := fun _ => fun
  | [d1, d2] => { results := [.lit (.bool true)], args := [d1, d2] }
  | _ => none }
def digestsNoneRow : OpenClaim := { program := "ytialhdmdeggenaadoor", sum := "dbc3f3c20feefccf1ca169a8583c8eb6368318589cb416daa6d2ca1986178137", func := "sheaves/sheaveskeep.DigestsNone", spec := "digestsNone", unfollowed := true, recurses := true, named := ["sheaves/blake.first", "sheaves/blake.order", "sheaves/blake.lanes"], apart := false, laid := [("sheaves/blake.first", laid_sheaves_blake_first), ("sheaves/blake.order", laid_sheaves_blake_order), ("sheaves/blake.lanes", laid_sheaves_blake_lanes)] }
def DigestsNoneSaid : Prop := digestsNoneRow.holds Tryd.pinned (OpenSpec.ofChange digestsNoneSpec)

/-- ITS FALSE NEIGHBOUR: 'it returns false'. Refute it at one input. -/
def digestsNoneWrong : ChangeSpec := { name := "digestsNone", fn := fun _ => fun
  | [d1, d2] => { results := [.lit (.bool false)], args := [d1, d2] }
  | _ => none }
def DigestsNoneWrongFalsely : Prop := digestsNoneRow.holds Tryd.pinned (OpenSpec.ofChange digestsNoneWrong)

/-- 'sheaveskeep.InsertOnce': WHATEVER THE INPUT: true; the input reads as it did. -/
def insertOnceSpec : ChangeSpec := { name := "insertOnce", fn := fun _ => fun
  | [d1, d2] => { results := [.lit (.bool true)], args := [d1, d2] }
  | _ => none }
def insertOnceRow : OpenClaim := { program := "ytialhdmdeggenaadoor", sum := "dbc3f3c20feefccf1ca169a8583c8eb6368318589cb416daa6d2ca1986178137", func := "sheaves/sheaveskeep.InsertOnce", spec := "insertOnce", unfollowed := true, recurses := true, named := ["sheaves/blake.first", "sheaves/blake.order", "sheaves/blake.lanes"], apart := false, laid := [("sheaves/blake.first", laid_sheaves_blake_first), ("sheaves/blake.order", laid_sheaves_blake_order), ("sheaves/blake.lanes", laid_sheaves_blake_lanes)] }
def InsertOnceSaid : Prop := insertOnceRow.holds Tryd.pinned (OpenSpec.ofChange insertOnceSpec)

/-- ITS FALSE NEIGHBOUR: 'it returns false'. Refute it at one input. -/
def insertOnceWrong : ChangeSpec := { name := "insertOnce", fn := fun _ => fun
  | [d1, d2] => { results := [.lit (.bool false)], args := [d1, d2] }
  | _ => none }
def InsertOnceWrongFalsely : Prop := insertOnceRow.holds Tryd.pinned (OpenSpec.ofChange insertOnceWrong)

/- THE SECOND FORM. 'bulk': how many values and letters a reading holds, each counted each time it is reached (what is shared counts as often as it is met; a slice's spare places count too). A statement '..UptoSaid' is the law's where the arguments, and the package variables that the reading takes, are together of bulk at most 1048576: NARROWER than '..Said'. Prove '..Said' where nothing that the law and all that it calls make is longer than what came in: it says more and counts as full. Else prove '..UptoSaid'. A law counts once. -/
mutual
def uptoBulk {H : Type} : DataW H → Nat
  | .lit (.string bytes) => bytes.length + 1
  | .lit _ => 1
  | .nil => 1
  | .ptr d => uptoBulk d + 1
  | .slice elems spare => uptoBulkAll elems + uptoBulkAll spare + 1
  | .agg parts => uptoBulkAll parts + 1
  | .iface _ d => uptoBulk d + 1
  | .map entries => uptoBulkEntries entries + 1
  | .held _ => 1
def uptoBulkAll {H : Type} : List (DataW H) → Nat
  | [] => 0
  | d :: r => uptoBulk d + uptoBulkAll r
def uptoBulkEntries {H : Type} : List (Lit × DataW H) → Nat
  | [] => 0
  | x :: r => uptoBulkEntry x + uptoBulkEntries r
def uptoBulkEntry {H : Type} : Lit × DataW H → Nat
  | (.string bytes, d) => bytes.length + uptoBulk d + 1
  | (_, d) => uptoBulk d + 1
 end
def uptoSmall : (H : Type) → List (DataW H) → Bool := fun _ ds => decide (uptoBulkAll ds ≤ 1048576)
def OpenSpec.upto (s : _root_.Go.ChangeSpec) : _root_.Go.OpenSpec := { _root_.Go.OpenSpec.ofChange s with cond := some uptoSmall }

/-- 'sheaveskeep.ProvenAll', WHERE WHAT IT READS IS OF BULK AT MOST 1048576: true; the input reads as it did. -/
def provenAllUptoRow : OpenClaim := { program := "ytialhdmdeggenaadoor", sum := "dbc3f3c20feefccf1ca169a8583c8eb6368318589cb416daa6d2ca1986178137", func := "sheaves/sheaveskeep.ProvenAll", spec := "provenAll", unfollowed := true, recurses := true, named := ["sheaves/blake.first", "sheaves/blake.order", "sheaves/blake.lanes"], apart := false, laid := [("sheaves/blake.first", laid_sheaves_blake_first), ("sheaves/blake.order", laid_sheaves_blake_order), ("sheaves/blake.lanes", laid_sheaves_blake_lanes)], narrowed := true }
def ProvenAllUptoSaid : Prop := provenAllUptoRow.holds Tryd.pinned (OpenSpec.upto provenAllSpec)

/-- 'sheaveskeep.ProvenJust', WHERE WHAT IT READS IS OF BULK AT MOST 1048576: true; the input reads as it did. -/
def provenJustUptoRow : OpenClaim := { program := "ytialhdmdeggenaadoor", sum := "dbc3f3c20feefccf1ca169a8583c8eb6368318589cb416daa6d2ca1986178137", func := "sheaves/sheaveskeep.ProvenJust", spec := "provenJust", unfollowed := true, recurses := true, named := ["sheaves/blake.first", "sheaves/blake.order", "sheaves/blake.lanes"], apart := false, laid := [("sheaves/blake.first", laid_sheaves_blake_first), ("sheaves/blake.order", laid_sheaves_blake_order), ("sheaves/blake.lanes", laid_sheaves_blake_lanes)], narrowed := true }
def ProvenJustUptoSaid : Prop := provenJustUptoRow.holds Tryd.pinned (OpenSpec.upto provenJustSpec)

/-- 'sheaveskeep.ProvenForm', WHERE WHAT IT READS IS OF BULK AT MOST 1048576: true; the input reads as it did. -/
def provenFormUptoRow : OpenClaim := { program := "ytialhdmdeggenaadoor", sum := "dbc3f3c20feefccf1ca169a8583c8eb6368318589cb416daa6d2ca1986178137", func := "sheaves/sheaveskeep.ProvenForm", spec := "provenForm", unfollowed := true, recurses := true, named := ["sheaves/blake.first", "sheaves/blake.order", "sheaves/blake.lanes"], apart := false, laid := [("sheaves/blake.first", laid_sheaves_blake_first), ("sheaves/blake.order", laid_sheaves_blake_order), ("sheaves/blake.lanes", laid_sheaves_blake_lanes)], narrowed := true }
def ProvenFormUptoSaid : Prop := provenFormUptoRow.holds Tryd.pinned (OpenSpec.upto provenFormSpec)

/-- 'sheaveskeep.ProvenRogue', WHERE WHAT IT READS IS OF BULK AT MOST 1048576: true; the input reads as it did. -/
def provenRogueUptoRow : OpenClaim := { program := "ytialhdmdeggenaadoor", sum := "dbc3f3c20feefccf1ca169a8583c8eb6368318589cb416daa6d2ca1986178137", func := "sheaves/sheaveskeep.ProvenRogue", spec := "provenRogue", unfollowed := true, recurses := true, named := ["sheaves/blake.first", "sheaves/blake.order", "sheaves/blake.lanes"], apart := false, laid := [("sheaves/blake.first", laid_sheaves_blake_first), ("sheaves/blake.order", laid_sheaves_blake_order), ("sheaves/blake.lanes", laid_sheaves_blake_lanes)], narrowed := true }
def ProvenRogueUptoSaid : Prop := provenRogueUptoRow.holds Tryd.pinned (OpenSpec.upto provenRogueSpec)

/-- 'sheaveskeep.CastApart', WHERE WHAT IT READS IS OF BULK AT MOST 1048576: true; the input reads as it did. -/
def castApartUptoRow : OpenClaim := { program := "ytialhdmdeggenaadoor", sum := "dbc3f3c20feefccf1ca169a8583c8eb6368318589cb416daa6d2ca1986178137", func := "sheaves/sheaveskeep.CastApart", spec := "castApart", unfollowed := true, recurses := true, named := ["sheaves/blake.first", "sheaves/blake.order", "sheaves/blake.lanes"], apart := false, laid := [("sheaves/blake.first", laid_sheaves_blake_first), ("sheaves/blake.order", laid_sheaves_blake_order), ("sheaves/blake.lanes", laid_sheaves_blake_lanes)], narrowed := true }
def CastApartUptoSaid : Prop := castApartUptoRow.holds Tryd.pinned (OpenSpec.upto castApartSpec)

/-- 'sheaveskeep.VotedNone', WHERE WHAT IT READS IS OF BULK AT MOST 1048576: true; the input reads as it did. -/
def votedNoneUptoRow : OpenClaim := { program := "ytialhdmdeggenaadoor", sum := "dbc3f3c20feefccf1ca169a8583c8eb6368318589cb416daa6d2ca1986178137", func := "sheaves/sheaveskeep.VotedNone", spec := "votedNone", unfollowed := true, recurses := true, named := ["sheaves/blake.first", "sheaves/blake.order", "sheaves/blake.lanes"], apart := false, laid := [("sheaves/blake.first", laid_sheaves_blake_first), ("sheaves/blake.order", laid_sheaves_blake_order), ("sheaves/blake.lanes", laid_sheaves_blake_lanes)], narrowed := true }
def VotedNoneUptoSaid : Prop := votedNoneUptoRow.holds Tryd.pinned (OpenSpec.upto votedNoneSpec)

/-- 'sheaveskeep.TableAll', WHERE WHAT IT READS IS OF BULK AT MOST 1048576: true; the input reads as it did. -/
def tableAllUptoRow : OpenClaim := { program := "ytialhdmdeggenaadoor", sum := "dbc3f3c20feefccf1ca169a8583c8eb6368318589cb416daa6d2ca1986178137", func := "sheaves/sheaveskeep.TableAll", spec := "tableAll", unfollowed := true, recurses := true, named := ["sheaves/blake.first", "sheaves/blake.order", "sheaves/blake.lanes"], apart := false, laid := [("sheaves/blake.first", laid_sheaves_blake_first), ("sheaves/blake.order", laid_sheaves_blake_order), ("sheaves/blake.lanes", laid_sheaves_blake_lanes)], narrowed := true }
def TableAllUptoSaid : Prop := tableAllUptoRow.holds Tryd.pinned (OpenSpec.upto tableAllSpec)

/-- 'sheaveskeep.CastOnce', WHERE WHAT IT READS IS OF BULK AT MOST 1048576: true; the input reads as it did. -/
def castOnceUptoRow : OpenClaim := { program := "ytialhdmdeggenaadoor", sum := "dbc3f3c20feefccf1ca169a8583c8eb6368318589cb416daa6d2ca1986178137", func := "sheaves/sheaveskeep.CastOnce", spec := "castOnce", unfollowed := true, recurses := true, named := ["sheaves/blake.first", "sheaves/blake.order", "sheaves/blake.lanes"], apart := false, laid := [("sheaves/blake.first", laid_sheaves_blake_first), ("sheaves/blake.order", laid_sheaves_blake_order), ("sheaves/blake.lanes", laid_sheaves_blake_lanes)], narrowed := true }
def CastOnceUptoSaid : Prop := castOnceUptoRow.holds Tryd.pinned (OpenSpec.upto castOnceSpec)

/-- 'sheaveskeep.InsertLate', WHERE WHAT IT READS IS OF BULK AT MOST 1048576: true; the input reads as it did. -/
def insertLateUptoRow : OpenClaim := { program := "ytialhdmdeggenaadoor", sum := "dbc3f3c20feefccf1ca169a8583c8eb6368318589cb416daa6d2ca1986178137", func := "sheaves/sheaveskeep.InsertLate", spec := "insertLate", unfollowed := true, recurses := true, named := ["sheaves/blake.first", "sheaves/blake.order", "sheaves/blake.lanes"], apart := false, laid := [("sheaves/blake.first", laid_sheaves_blake_first), ("sheaves/blake.order", laid_sheaves_blake_order), ("sheaves/blake.lanes", laid_sheaves_blake_lanes)], narrowed := true }
def InsertLateUptoSaid : Prop := insertLateUptoRow.holds Tryd.pinned (OpenSpec.upto insertLateSpec)

/-- 'sheaveskeep.InsertBad', WHERE WHAT IT READS IS OF BULK AT MOST 1048576: true; the input reads as it did. -/
def insertBadUptoRow : OpenClaim := { program := "ytialhdmdeggenaadoor", sum := "dbc3f3c20feefccf1ca169a8583c8eb6368318589cb416daa6d2ca1986178137", func := "sheaves/sheaveskeep.InsertBad", spec := "insertBad", unfollowed := true, recurses := true, named := ["sheaves/blake.first", "sheaves/blake.order", "sheaves/blake.lanes"], apart := false, laid := [("sheaves/blake.first", laid_sheaves_blake_first), ("sheaves/blake.order", laid_sheaves_blake_order), ("sheaves/blake.lanes", laid_sheaves_blake_lanes)], narrowed := true }
def InsertBadUptoSaid : Prop := insertBadUptoRow.holds Tryd.pinned (OpenSpec.upto insertBadSpec)

/-- 'sheaveskeep.DigestsNone', WHERE WHAT IT READS IS OF BULK AT MOST 1048576: true; the input reads as it did. -/
def digestsNoneUptoRow : OpenClaim := { program := "ytialhdmdeggenaadoor", sum := "dbc3f3c20feefccf1ca169a8583c8eb6368318589cb416daa6d2ca1986178137", func := "sheaves/sheaveskeep.DigestsNone", spec := "digestsNone", unfollowed := true, recurses := true, named := ["sheaves/blake.first", "sheaves/blake.order", "sheaves/blake.lanes"], apart := false, laid := [("sheaves/blake.first", laid_sheaves_blake_first), ("sheaves/blake.order", laid_sheaves_blake_order), ("sheaves/blake.lanes", laid_sheaves_blake_lanes)], narrowed := true }
def DigestsNoneUptoSaid : Prop := digestsNoneUptoRow.holds Tryd.pinned (OpenSpec.upto digestsNoneSpec)

/-- 'sheaveskeep.InsertOnce', WHERE WHAT IT READS IS OF BULK AT MOST 1048576: true; the input reads as it did. -/
def insertOnceUptoRow : OpenClaim := { program := "ytialhdmdeggenaadoor", sum := "dbc3f3c20feefccf1ca169a8583c8eb6368318589cb416daa6d2ca1986178137", func := "sheaves/sheaveskeep.InsertOnce", spec := "insertOnce", unfollowed := true, recurses := true, named := ["sheaves/blake.first", "sheaves/blake.order", "sheaves/blake.lanes"], apart := false, laid := [("sheaves/blake.first", laid_sheaves_blake_first), ("sheaves/blake.order", laid_sheaves_blake_order), ("sheaves/blake.lanes", laid_sheaves_blake_lanes)], narrowed := true }
def InsertOnceUptoSaid : Prop := insertOnceUptoRow.holds Tryd.pinned (OpenSpec.upto insertOnceSpec)

end Rows
end Go.Proofs.YtialhdmdeggenaaDoor
