/-
  NARROWER THAN 'FOR EVERY INPUT', by the rows' own cells (each row's printed sentence says how): DagGrows: laid · DagBad: laid · DagVoters: laid · RoundNext: laid · InsertNone: laid · MissingSome: laid · DagClosed: laid · HistoryOne: laid · HistoryClosed: laid · HistoryLeast: laid · HistoryOrder: laid.
  DERIVED. THE GIVEN ROWS OF THIS SEAT. 11 by the template 'for every input the law returns true; each argument reads behind the call as it read before'; 0 by the template 'total and deterministic' (their statements: YtlailhhffejbbaaDoorTotals.lean).
  GIVEN WITH THE SEED: the statements are not yours to turn. If you find one false, say at which input.
  Laid BY PROGRAM, IN A SANDBOX (cutbox-rows.mjs): the forced cells as the released guide's own fill.sh prints them over the translation 9091c1b545cc0d8e… (all of the seat's roots in one cut). By AI agents, Wed Nov 11 2026. No macro, syntax, notation, axiom, sorry.
-/
import Derived.Test.YtlailhhffejbbaaDoorChecked
import GoSem.Claim
import GoSem.ClaimJoined
import GoSem.ClaimMapViews
import Derived.JoinedTies
import Derived.KernelRfl
namespace Go.Proofs.YtlailhhffejbbaaDoor
/- THE CELL 'sum', in the pinned program and in every row, IS THE sha256 OF THE DUMP (.gsa) THAT YtlailhhffejbbaaDoorProg.lean LOADS. Nothing in Lean hashes anything: it is a label: what it is worth is what the hold of that sum in a sandbox is worth. -/
noncomputable def Tryd.pinned : Pinned := { name := "ytlailhhffejbbaadoor", sum := "9091c1b545cc0d8e37d96cfcba7977cff9752a639136220cf807bf775addc25c", checked := Tryd.checked }
namespace Rows
def none {H : Type} : Left H := { results := [], args := [] }

/- WHAT THE LISTED PACKAGE-LEVEL VARIABLES READ AS WHEN THE CALL BEGINS. Each datum BY PROGRAM (the guide's laid-datum.mjs) off the statement by which the dump's own 'gosem.cut.vars' lays the variable. In a bare row this is a premise. The card (YtlailhhffejbbaaDoorCards.lean) ties it to the program's text. -/
def laid_sheaves_blake_first {H : Type} : DataW H := .agg [.lit (.int .u32 1779033703), .lit (.int .u32 3144134277), .lit (.int .u32 1013904242), .lit (.int .u32 2773480762), .lit (.int .u32 1359893119), .lit (.int .u32 2600822924), .lit (.int .u32 528734635), .lit (.int .u32 1541459225)]
def laid_sheaves_blake_order {H : Type} : DataW H := .agg [.agg [.lit (.int .i64 0), .lit (.int .i64 1), .lit (.int .i64 2), .lit (.int .i64 3), .lit (.int .i64 4), .lit (.int .i64 5), .lit (.int .i64 6), .lit (.int .i64 7), .lit (.int .i64 8), .lit (.int .i64 9), .lit (.int .i64 10), .lit (.int .i64 11), .lit (.int .i64 12), .lit (.int .i64 13), .lit (.int .i64 14), .lit (.int .i64 15)], .agg [.lit (.int .i64 14), .lit (.int .i64 10), .lit (.int .i64 4), .lit (.int .i64 8), .lit (.int .i64 9), .lit (.int .i64 15), .lit (.int .i64 13), .lit (.int .i64 6), .lit (.int .i64 1), .lit (.int .i64 12), .lit (.int .i64 0), .lit (.int .i64 2), .lit (.int .i64 11), .lit (.int .i64 7), .lit (.int .i64 5), .lit (.int .i64 3)], .agg [.lit (.int .i64 11), .lit (.int .i64 8), .lit (.int .i64 12), .lit (.int .i64 0), .lit (.int .i64 5), .lit (.int .i64 2), .lit (.int .i64 15), .lit (.int .i64 13), .lit (.int .i64 10), .lit (.int .i64 14), .lit (.int .i64 3), .lit (.int .i64 6), .lit (.int .i64 7), .lit (.int .i64 1), .lit (.int .i64 9), .lit (.int .i64 4)], .agg [.lit (.int .i64 7), .lit (.int .i64 9), .lit (.int .i64 3), .lit (.int .i64 1), .lit (.int .i64 13), .lit (.int .i64 12), .lit (.int .i64 11), .lit (.int .i64 14), .lit (.int .i64 2), .lit (.int .i64 6), .lit (.int .i64 5), .lit (.int .i64 10), .lit (.int .i64 4), .lit (.int .i64 0), .lit (.int .i64 15), .lit (.int .i64 8)], .agg [.lit (.int .i64 9), .lit (.int .i64 0), .lit (.int .i64 5), .lit (.int .i64 7), .lit (.int .i64 2), .lit (.int .i64 4), .lit (.int .i64 10), .lit (.int .i64 15), .lit (.int .i64 14), .lit (.int .i64 1), .lit (.int .i64 11), .lit (.int .i64 12), .lit (.int .i64 6), .lit (.int .i64 8), .lit (.int .i64 3), .lit (.int .i64 13)], .agg [.lit (.int .i64 2), .lit (.int .i64 12), .lit (.int .i64 6), .lit (.int .i64 10), .lit (.int .i64 0), .lit (.int .i64 11), .lit (.int .i64 8), .lit (.int .i64 3), .lit (.int .i64 4), .lit (.int .i64 13), .lit (.int .i64 7), .lit (.int .i64 5), .lit (.int .i64 15), .lit (.int .i64 14), .lit (.int .i64 1), .lit (.int .i64 9)], .agg [.lit (.int .i64 12), .lit (.int .i64 5), .lit (.int .i64 1), .lit (.int .i64 15), .lit (.int .i64 14), .lit (.int .i64 13), .lit (.int .i64 4), .lit (.int .i64 10), .lit (.int .i64 0), .lit (.int .i64 7), .lit (.int .i64 6), .lit (.int .i64 3), .lit (.int .i64 9), .lit (.int .i64 2), .lit (.int .i64 8), .lit (.int .i64 11)], .agg [.lit (.int .i64 13), .lit (.int .i64 11), .lit (.int .i64 7), .lit (.int .i64 14), .lit (.int .i64 12), .lit (.int .i64 1), .lit (.int .i64 3), .lit (.int .i64 9), .lit (.int .i64 5), .lit (.int .i64 0), .lit (.int .i64 15), .lit (.int .i64 4), .lit (.int .i64 8), .lit (.int .i64 6), .lit (.int .i64 2), .lit (.int .i64 10)], .agg [.lit (.int .i64 6), .lit (.int .i64 15), .lit (.int .i64 14), .lit (.int .i64 9), .lit (.int .i64 11), .lit (.int .i64 3), .lit (.int .i64 0), .lit (.int .i64 8), .lit (.int .i64 12), .lit (.int .i64 2), .lit (.int .i64 13), .lit (.int .i64 7), .lit (.int .i64 1), .lit (.int .i64 4), .lit (.int .i64 10), .lit (.int .i64 5)], .agg [.lit (.int .i64 10), .lit (.int .i64 2), .lit (.int .i64 8), .lit (.int .i64 4), .lit (.int .i64 7), .lit (.int .i64 6), .lit (.int .i64 1), .lit (.int .i64 5), .lit (.int .i64 15), .lit (.int .i64 11), .lit (.int .i64 9), .lit (.int .i64 14), .lit (.int .i64 3), .lit (.int .i64 12), .lit (.int .i64 13), .lit (.int .i64 0)]]
def laid_sheaves_blake_lanes {H : Type} : DataW H := .agg [.agg [.lit (.int .i64 0), .lit (.int .i64 4), .lit (.int .i64 8), .lit (.int .i64 12)], .agg [.lit (.int .i64 1), .lit (.int .i64 5), .lit (.int .i64 9), .lit (.int .i64 13)], .agg [.lit (.int .i64 2), .lit (.int .i64 6), .lit (.int .i64 10), .lit (.int .i64 14)], .agg [.lit (.int .i64 3), .lit (.int .i64 7), .lit (.int .i64 11), .lit (.int .i64 15)], .agg [.lit (.int .i64 0), .lit (.int .i64 5), .lit (.int .i64 10), .lit (.int .i64 15)], .agg [.lit (.int .i64 1), .lit (.int .i64 6), .lit (.int .i64 11), .lit (.int .i64 12)], .agg [.lit (.int .i64 2), .lit (.int .i64 7), .lit (.int .i64 8), .lit (.int .i64 13)], .agg [.lit (.int .i64 3), .lit (.int .i64 4), .lit (.int .i64 9), .lit (.int .i64 14)]]

/-- 'sheaveskeep.DagGrows': WHATEVER THE INPUT: true; the input reads as it did. -/
def dagGrowsSpec : ChangeSpec := { name := "dagGrows", fn := fun _ => fun
  | [d1, d2] => { results := [.lit (.bool true)], args := [d1, d2] }
  | _ => none }
def dagGrowsRow : OpenClaim := { program := "ytlailhhffejbbaadoor", sum := "9091c1b545cc0d8e37d96cfcba7977cff9752a639136220cf807bf775addc25c", func := "sheaves/sheaveskeep.DagGrows", spec := "dagGrows", unfollowed := true, recurses := true, named := ["sheaves/blake.first", "sheaves/blake.order", "sheaves/blake.lanes"], apart := false, laid := [("sheaves/blake.first", laid_sheaves_blake_first), ("sheaves/blake.order", laid_sheaves_blake_order), ("sheaves/blake.lanes", laid_sheaves_blake_lanes)] }
def DagGrowsSaid : Prop := dagGrowsRow.holds Tryd.pinned (OpenSpec.ofChange dagGrowsSpec)

/-- ITS FALSE NEIGHBOUR: 'it returns false'. Refute it at one input. -/
def dagGrowsWrong : ChangeSpec := { name := "dagGrows", fn := fun _ => fun
  | [d1, d2] => { results := [.lit (.bool false)], args := [d1, d2] }
  | _ => none }
def DagGrowsWrongFalsely : Prop := dagGrowsRow.holds Tryd.pinned (OpenSpec.ofChange dagGrowsWrong)

/-- 'sheaveskeep.DagBad': WHATEVER THE INPUT: true; the input reads as it did. -/
def dagBadSpec : ChangeSpec := { name := "dagBad", fn := fun _ => fun
  | [d1, d2] => { results := [.lit (.bool true)], args := [d1, d2] }
  | _ => none }
def dagBadRow : OpenClaim := { program := "ytlailhhffejbbaadoor", sum := "9091c1b545cc0d8e37d96cfcba7977cff9752a639136220cf807bf775addc25c", func := "sheaves/sheaveskeep.DagBad", spec := "dagBad", unfollowed := true, recurses := true, named := ["sheaves/blake.first", "sheaves/blake.order", "sheaves/blake.lanes"], apart := false, laid := [("sheaves/blake.first", laid_sheaves_blake_first), ("sheaves/blake.order", laid_sheaves_blake_order), ("sheaves/blake.lanes", laid_sheaves_blake_lanes)] }
def DagBadSaid : Prop := dagBadRow.holds Tryd.pinned (OpenSpec.ofChange dagBadSpec)

/-- ITS FALSE NEIGHBOUR: 'it returns false'. Refute it at one input. -/
def dagBadWrong : ChangeSpec := { name := "dagBad", fn := fun _ => fun
  | [d1, d2] => { results := [.lit (.bool false)], args := [d1, d2] }
  | _ => none }
def DagBadWrongFalsely : Prop := dagBadRow.holds Tryd.pinned (OpenSpec.ofChange dagBadWrong)

/-- 'sheaveskeep.DagVoters': WHATEVER THE INPUT: true; the input reads as it did. -/
def dagVotersSpec : ChangeSpec := { name := "dagVoters", fn := fun _ => fun
  | [d1, d2, d3] => { results := [.lit (.bool true)], args := [d1, d2, d3] }
  | _ => none }
def dagVotersRow : OpenClaim := { program := "ytlailhhffejbbaadoor", sum := "9091c1b545cc0d8e37d96cfcba7977cff9752a639136220cf807bf775addc25c", func := "sheaves/sheaveskeep.DagVoters", spec := "dagVoters", unfollowed := true, recurses := true, named := ["sheaves/blake.first", "sheaves/blake.order", "sheaves/blake.lanes"], apart := false, laid := [("sheaves/blake.first", laid_sheaves_blake_first), ("sheaves/blake.order", laid_sheaves_blake_order), ("sheaves/blake.lanes", laid_sheaves_blake_lanes)] }
def DagVotersSaid : Prop := dagVotersRow.holds Tryd.pinned (OpenSpec.ofChange dagVotersSpec)

/-- ITS FALSE NEIGHBOUR: 'it returns false'. Refute it at one input. -/
def dagVotersWrong : ChangeSpec := { name := "dagVoters", fn := fun _ => fun
  | [d1, d2, d3] => { results := [.lit (.bool false)], args := [d1, d2, d3] }
  | _ => none }
def DagVotersWrongFalsely : Prop := dagVotersRow.holds Tryd.pinned (OpenSpec.ofChange dagVotersWrong)

/-- 'sheaveskeep.RoundNext': WHATEVER THE INPUT: true; the input reads as it did. -/
def roundNextSpec : ChangeSpec := { name := "roundNext", fn := fun _ => fun
  | [d] => { results := [.lit (.bool true)], args := [d] }
  | _ => none }
def roundNextRow : OpenClaim := { program := "ytlailhhffejbbaadoor", sum := "9091c1b545cc0d8e37d96cfcba7977cff9752a639136220cf807bf775addc25c", func := "sheaves/sheaveskeep.RoundNext", spec := "roundNext", unfollowed := true, recurses := true, named := ["sheaves/blake.first", "sheaves/blake.order", "sheaves/blake.lanes"], apart := false, laid := [("sheaves/blake.first", laid_sheaves_blake_first), ("sheaves/blake.order", laid_sheaves_blake_order), ("sheaves/blake.lanes", laid_sheaves_blake_lanes)] }
def RoundNextSaid : Prop := roundNextRow.holds Tryd.pinned (OpenSpec.ofChange roundNextSpec)

/-- ITS FALSE NEIGHBOUR: 'it returns false'. Refute it at one input. -/
def roundNextWrong : ChangeSpec := { name := "roundNext", fn := fun _ => fun
  | [d] => { results := [.lit (.bool false)], args := [d] }
  | _ => none }
def RoundNextWrongFalsely : Prop := roundNextRow.holds Tryd.pinned (OpenSpec.ofChange roundNextWrong)

/-- 'sheaveskeep.InsertNone': WHATEVER THE INPUT: true; the input reads as it did. -/
def insertNoneSpec : ChangeSpec := { name := "insertNone", fn := fun _ => fun
  | [d1, d2] => { results := [.lit (.bool true)], args := [d1, d2] }
  | _ => none }
def insertNoneRow : OpenClaim := { program := "ytlailhhffejbbaadoor", sum := "9091c1b545cc0d8e37d96cfcba7977cff9752a639136220cf807bf775addc25c", func := "sheaves/sheaveskeep.InsertNone", spec := "insertNone", unfollowed := true, recurses := true, named := ["sheaves/blake.first", "sheaves/blake.order", "sheaves/blake.lanes"], apart := false, laid := [("sheaves/blake.first", laid_sheaves_blake_first), ("sheaves/blake.order", laid_sheaves_blake_order), ("sheaves/blake.lanes", laid_sheaves_blake_lanes)] }
def InsertNoneSaid : Prop := insertNoneRow.holds Tryd.pinned (OpenSpec.ofChange insertNoneSpec)

/-- ITS FALSE NEIGHBOUR: 'it returns false'. Refute it at one input. -/
def insertNoneWrong : ChangeSpec := { name := "insertNone", fn := fun _ => fun
  | [d1, d2] => { results := [.lit (.bool false)], args := [d1, d2] }
  | _ => none }
def InsertNoneWrongFalsely : Prop := insertNoneRow.holds Tryd.pinned (OpenSpec.ofChange insertNoneWrong)

/-- 'sheaveskeep.MissingSome': WHATEVER THE INPUT: true; the input reads as it did. -/
def missingSomeSpec : ChangeSpec := { name := "missingSome", fn := fun _ => fun
  | [d1, d2] => { results := [.lit (.bool true)], args := [d1, d2] }
  | _ => none }
def missingSomeRow : OpenClaim := { program := "ytlailhhffejbbaadoor", sum := "9091c1b545cc0d8e37d96cfcba7977cff9752a639136220cf807bf775addc25c", func := "sheaves/sheaveskeep.MissingSome", spec := "missingSome", unfollowed := true, recurses := true, named := ["sheaves/blake.first", "sheaves/blake.order", "sheaves/blake.lanes"], apart := false, laid := [("sheaves/blake.first", laid_sheaves_blake_first), ("sheaves/blake.order", laid_sheaves_blake_order), ("sheaves/blake.lanes", laid_sheaves_blake_lanes)] }
def MissingSomeSaid : Prop := missingSomeRow.holds Tryd.pinned (OpenSpec.ofChange missingSomeSpec)

/-- ITS FALSE NEIGHBOUR: 'it returns false'. Refute it at one input. -/
def missingSomeWrong : ChangeSpec := { name := "missingSome", fn := fun _ => fun
  | [d1, d2] => { results := [.lit (.bool false)], args := [d1, d2] }
  | _ => none }
def MissingSomeWrongFalsely : Prop := missingSomeRow.holds Tryd.pinned (OpenSpec.ofChange missingSomeWrong)

/-- 'sheaveskeep.DagClosed': WHATEVER THE INPUT: true; the input reads as it did. -/
def dagClosedSpec : ChangeSpec := { name := "dagClosed", fn := fun _ => fun
  | [d] => { results := [.lit (.bool true)], args := [d] }
  | _ => none }
def dagClosedRow : OpenClaim := { program := "ytlailhhffejbbaadoor", sum := "9091c1b545cc0d8e37d96cfcba7977cff9752a639136220cf807bf775addc25c", func := "sheaves/sheaveskeep.DagClosed", spec := "dagClosed", unfollowed := true, recurses := true, named := ["sheaves/blake.first", "sheaves/blake.order", "sheaves/blake.lanes"], apart := false, laid := [("sheaves/blake.first", laid_sheaves_blake_first), ("sheaves/blake.order", laid_sheaves_blake_order), ("sheaves/blake.lanes", laid_sheaves_blake_lanes)] }
def DagClosedSaid : Prop := dagClosedRow.holds Tryd.pinned (OpenSpec.ofChange dagClosedSpec)

/-- ITS FALSE NEIGHBOUR: 'it returns false'. Refute it at one input. -/
def dagClosedWrong : ChangeSpec := { name := "dagClosed", fn := fun _ => fun
  | [d] => { results := [.lit (.bool false)], args := [d] }
  | _ => none }
def DagClosedWrongFalsely : Prop := dagClosedRow.holds Tryd.pinned (OpenSpec.ofChange dagClosedWrong)

/-- 'sheaveskeep.HistoryOne': WHATEVER THE INPUT: true; the input reads as it did. -/
def historyOneSpec : ChangeSpec := { name := "historyOne", fn := fun _ => fun
  | [d] => { results := [.lit (.bool true)], args := [d] }
  | _ => none }
def historyOneRow : OpenClaim := { program := "ytlailhhffejbbaadoor", sum := "9091c1b545cc0d8e37d96cfcba7977cff9752a639136220cf807bf775addc25c", func := "sheaves/sheaveskeep.HistoryOne", spec := "historyOne", unfollowed := true, recurses := true, named := ["sheaves/blake.first", "sheaves/blake.order", "sheaves/blake.lanes"], apart := false, laid := [("sheaves/blake.first", laid_sheaves_blake_first), ("sheaves/blake.order", laid_sheaves_blake_order), ("sheaves/blake.lanes", laid_sheaves_blake_lanes)] }
def HistoryOneSaid : Prop := historyOneRow.holds Tryd.pinned (OpenSpec.ofChange historyOneSpec)

/-- ITS FALSE NEIGHBOUR: 'it returns false'. Refute it at one input. -/
def historyOneWrong : ChangeSpec := { name := "historyOne", fn := fun _ => fun
  | [d] => { results := [.lit (.bool false)], args := [d] }
  | _ => none }
def HistoryOneWrongFalsely : Prop := historyOneRow.holds Tryd.pinned (OpenSpec.ofChange historyOneWrong)

/-- 'sheaveskeep.HistoryClosed': WHATEVER THE INPUT: true; the input reads as it did. -/
def historyClosedSpec : ChangeSpec := { name := "historyClosed", fn := fun _ => fun
  | [d1, d2] => { results := [.lit (.bool true)], args := [d1, d2] }
  | _ => none }
def historyClosedRow : OpenClaim := { program := "ytlailhhffejbbaadoor", sum := "9091c1b545cc0d8e37d96cfcba7977cff9752a639136220cf807bf775addc25c", func := "sheaves/sheaveskeep.HistoryClosed", spec := "historyClosed", unfollowed := true, recurses := true, named := ["sheaves/blake.first", "sheaves/blake.order", "sheaves/blake.lanes"], apart := false, laid := [("sheaves/blake.first", laid_sheaves_blake_first), ("sheaves/blake.order", laid_sheaves_blake_order), ("sheaves/blake.lanes", laid_sheaves_blake_lanes)] }
def HistoryClosedSaid : Prop := historyClosedRow.holds Tryd.pinned (OpenSpec.ofChange historyClosedSpec)

/-- ITS FALSE NEIGHBOUR: 'it returns false'. Refute it at one input. -/
def historyClosedWrong : ChangeSpec := { name := "historyClosed", fn := fun _ => fun
  | [d1, d2] => { results := [.lit (.bool false)], args := [d1, d2] }
  | _ => none }
def HistoryClosedWrongFalsely : Prop := historyClosedRow.holds Tryd.pinned (OpenSpec.ofChange historyClosedWrong)

/-- 'sheaveskeep.HistoryLeast': WHATEVER THE INPUT: true; the input reads as it did. -/
def historyLeastSpec : ChangeSpec := { name := "historyLeast", fn := fun _ => fun
  | [d1, d2, d3] => { results := [.lit (.bool true)], args := [d1, d2, d3] }
  | _ => none }
def historyLeastRow : OpenClaim := { program := "ytlailhhffejbbaadoor", sum := "9091c1b545cc0d8e37d96cfcba7977cff9752a639136220cf807bf775addc25c", func := "sheaves/sheaveskeep.HistoryLeast", spec := "historyLeast", unfollowed := true, recurses := true, named := ["sheaves/blake.first", "sheaves/blake.order", "sheaves/blake.lanes"], apart := false, laid := [("sheaves/blake.first", laid_sheaves_blake_first), ("sheaves/blake.order", laid_sheaves_blake_order), ("sheaves/blake.lanes", laid_sheaves_blake_lanes)] }
def HistoryLeastSaid : Prop := historyLeastRow.holds Tryd.pinned (OpenSpec.ofChange historyLeastSpec)

/-- ITS FALSE NEIGHBOUR: 'it returns false'. Refute it at one input. -/
def historyLeastWrong : ChangeSpec := { name := "historyLeast", fn := fun _ => fun
  | [d1, d2, d3] => { results := [.lit (.bool false)], args := [d1, d2, d3] }
  | _ => none }
def HistoryLeastWrongFalsely : Prop := historyLeastRow.holds Tryd.pinned (OpenSpec.ofChange historyLeastWrong)

/-- 'sheaveskeep.HistoryOrder': WHATEVER THE INPUT: true; the input reads as it did. -/
def historyOrderSpec : ChangeSpec := { name := "historyOrder", fn := fun _ => fun
  | [d1, d2, d3] => { results := [.lit (.bool true)], args := [d1, d2, d3] }
  | _ => none }
def historyOrderRow : OpenClaim := { program := "ytlailhhffejbbaadoor", sum := "9091c1b545cc0d8e37d96cfcba7977cff9752a639136220cf807bf775addc25c", func := "sheaves/sheaveskeep.HistoryOrder", spec := "historyOrder", unfollowed := true, recurses := true, named := ["sheaves/blake.first", "sheaves/blake.order", "sheaves/blake.lanes"], apart := false, laid := [("sheaves/blake.first", laid_sheaves_blake_first), ("sheaves/blake.order", laid_sheaves_blake_order), ("sheaves/blake.lanes", laid_sheaves_blake_lanes)] }
def HistoryOrderSaid : Prop := historyOrderRow.holds Tryd.pinned (OpenSpec.ofChange historyOrderSpec)

/-- ITS FALSE NEIGHBOUR: 'it returns false'. Refute it at one input. -/
def historyOrderWrong : ChangeSpec := { name := "historyOrder", fn := fun _ => fun
  | [d1, d2, d3] => { results := [.lit (.bool false)], args := [d1, d2, d3] }
  | _ => none }
def HistoryOrderWrongFalsely : Prop := historyOrderRow.holds Tryd.pinned (OpenSpec.ofChange historyOrderWrong)

/- THE SECOND FORM. 'bulk': how many values and letters a reading holds, each counted each time it is reached (what is shared counts as often as it is met; a slice's spare places count too). A statement '..UptoSaid' is the law's where the arguments, and the package variables that the reading takes, are together of bulk at most 1048576: NARROWER than '..Said'. Prove '..Said' where nothing that the law and all that it calls make is longer than what came in: it says more and counts as full. Else prove '..UptoSaid'. A law counts once. -/
mutual
def uptoBulk {H : Type} : DataW H → Nat
  | .lit (.string bytes) => bytes.length + 1
  | .lit _ => 1
  | .nil => 1
  | .ptr d => uptoBulk d + 1
  | .slice elems spare => uptoBulkAll elems + uptoBulkAll spare + 1
  | .agg parts => uptoBulkAll parts + 1
  | .iface _ d => uptoBulk d + 1
  | .map entries => uptoBulkEntries entries + 1
  | .held _ => 1
def uptoBulkAll {H : Type} : List (DataW H) → Nat
  | [] => 0
  | d :: r => uptoBulk d + uptoBulkAll r
def uptoBulkEntries {H : Type} : List (Lit × DataW H) → Nat
  | [] => 0
  | x :: r => uptoBulkEntry x + uptoBulkEntries r
def uptoBulkEntry {H : Type} : Lit × DataW H → Nat
  | (.string bytes, d) => bytes.length + uptoBulk d + 1
  | (_, d) => uptoBulk d + 1
 end
def uptoSmall : (H : Type) → List (DataW H) → Bool := fun _ ds => decide (uptoBulkAll ds ≤ 1048576)
def OpenSpec.upto (s : _root_.Go.ChangeSpec) : _root_.Go.OpenSpec := { _root_.Go.OpenSpec.ofChange s with cond := some uptoSmall }

/-- 'sheaveskeep.DagGrows', WHERE WHAT IT READS IS OF BULK AT MOST 1048576: true; the input reads as it did. -/
def dagGrowsUptoRow : OpenClaim := { program := "ytlailhhffejbbaadoor", sum := "9091c1b545cc0d8e37d96cfcba7977cff9752a639136220cf807bf775addc25c", func := "sheaves/sheaveskeep.DagGrows", spec := "dagGrows", unfollowed := true, recurses := true, named := ["sheaves/blake.first", "sheaves/blake.order", "sheaves/blake.lanes"], apart := false, laid := [("sheaves/blake.first", laid_sheaves_blake_first), ("sheaves/blake.order", laid_sheaves_blake_order), ("sheaves/blake.lanes", laid_sheaves_blake_lanes)], narrowed := true }
def DagGrowsUptoSaid : Prop := dagGrowsUptoRow.holds Tryd.pinned (OpenSpec.upto dagGrowsSpec)

/-- 'sheaveskeep.DagBad', WHERE WHAT IT READS IS OF BULK AT MOST 1048576: true; the input reads as it did. -/
def dagBadUptoRow : OpenClaim := { program := "ytlailhhffejbbaadoor", sum := "9091c1b545cc0d8e37d96cfcba7977cff9752a639136220cf807bf775addc25c", func := "sheaves/sheaveskeep.DagBad", spec := "dagBad", unfollowed := true, recurses := true, named := ["sheaves/blake.first", "sheaves/blake.order", "sheaves/blake.lanes"], apart := false, laid := [("sheaves/blake.first", laid_sheaves_blake_first), ("sheaves/blake.order", laid_sheaves_blake_order), ("sheaves/blake.lanes", laid_sheaves_blake_lanes)], narrowed := true }
def DagBadUptoSaid : Prop := dagBadUptoRow.holds Tryd.pinned (OpenSpec.upto dagBadSpec)

/-- 'sheaveskeep.DagVoters', WHERE WHAT IT READS IS OF BULK AT MOST 1048576: true; the input reads as it did. -/
def dagVotersUptoRow : OpenClaim := { program := "ytlailhhffejbbaadoor", sum := "9091c1b545cc0d8e37d96cfcba7977cff9752a639136220cf807bf775addc25c", func := "sheaves/sheaveskeep.DagVoters", spec := "dagVoters", unfollowed := true, recurses := true, named := ["sheaves/blake.first", "sheaves/blake.order", "sheaves/blake.lanes"], apart := false, laid := [("sheaves/blake.first", laid_sheaves_blake_first), ("sheaves/blake.order", laid_sheaves_blake_order), ("sheaves/blake.lanes", laid_sheaves_blake_lanes)], narrowed := true }
def DagVotersUptoSaid : Prop := dagVotersUptoRow.holds Tryd.pinned (OpenSpec.upto dagVotersSpec)

/-- 'sheaveskeep.RoundNext', WHERE WHAT IT READS IS OF BULK AT MOST 1048576: true; the input reads as it did. -/
def roundNextUptoRow : OpenClaim := { program := "ytlailhhffejbbaadoor", sum := "9091c1b545cc0d8e37d96cfcba7977cff9752a639136220cf807bf775addc25c", func := "sheaves/sheaveskeep.RoundNext", spec := "roundNext", unfollowed := true, recurses := true, named := ["sheaves/blake.first", "sheaves/blake.order", "sheaves/blake.lanes"], apart := false, laid := [("sheaves/blake.first", laid_sheaves_blake_first), ("sheaves/blake.order", laid_sheaves_blake_order), ("sheaves/blake.lanes", laid_sheaves_blake_lanes)], narrowed := true }
def RoundNextUptoSaid : Prop := roundNextUptoRow.holds Tryd.pinned (OpenSpec.upto roundNextSpec)

/-- 'sheaveskeep.InsertNone', WHERE WHAT IT READS IS OF BULK AT MOST 1048576: true; the input reads as it did. -/
def insertNoneUptoRow : OpenClaim := { program := "ytlailhhffejbbaadoor", sum := "9091c1b545cc0d8e37d96cfcba7977cff9752a639136220cf807bf775addc25c", func := "sheaves/sheaveskeep.InsertNone", spec := "insertNone", unfollowed := true, recurses := true, named := ["sheaves/blake.first", "sheaves/blake.order", "sheaves/blake.lanes"], apart := false, laid := [("sheaves/blake.first", laid_sheaves_blake_first), ("sheaves/blake.order", laid_sheaves_blake_order), ("sheaves/blake.lanes", laid_sheaves_blake_lanes)], narrowed := true }
def InsertNoneUptoSaid : Prop := insertNoneUptoRow.holds Tryd.pinned (OpenSpec.upto insertNoneSpec)

/-- 'sheaveskeep.MissingSome', WHERE WHAT IT READS IS OF BULK AT MOST 1048576: true; the input reads as it did. -/
def missingSomeUptoRow : OpenClaim := { program := "ytlailhhffejbbaadoor", sum := "9091c1b545cc0d8e37d96cfcba7977cff9752a639136220cf807bf775addc25c", func := "sheaves/sheaveskeep.MissingSome", spec := "missingSome", unfollowed := true, recurses := true, named := ["sheaves/blake.first", "sheaves/blake.order", "sheaves/blake.lanes"], apart := false, laid := [("sheaves/blake.first", laid_sheaves_blake_first), ("sheaves/blake.order", laid_sheaves_blake_order), ("sheaves/blake.lanes", laid_sheaves_blake_lanes)], narrowed := true }
def MissingSomeUptoSaid : Prop := missingSomeUptoRow.holds Tryd.pinned (OpenSpec.upto missingSomeSpec)

/-- 'sheaveskeep.DagClosed', WHERE WHAT IT READS IS OF BULK AT MOST 1048576: true; the input reads as it did. -/
def dagClosedUptoRow : OpenClaim := { program := "ytlailhhffejbbaadoor", sum := "9091c1b545cc0d8e37d96cfcba7977cff9752a639136220cf807bf775addc25c", func := "sheaves/sheaveskeep.DagClosed", spec := "dagClosed", unfollowed := true, recurses := true, named := ["sheaves/blake.first", "sheaves/blake.order", "sheaves/blake.lanes"], apart := false, laid := [("sheaves/blake.first", laid_sheaves_blake_first), ("sheaves/blake.order", laid_sheaves_blake_order), ("sheaves/blake.lanes", laid_sheaves_blake_lanes)], narrowed := true }
def DagClosedUptoSaid : Prop := dagClosedUptoRow.holds Tryd.pinned (OpenSpec.upto dagClosedSpec)

/-- 'sheaveskeep.HistoryOne', WHERE WHAT IT READS IS OF BULK AT MOST 1048576: true; the input reads as it did. -/
def historyOneUptoRow : OpenClaim := { program := "ytlailhhffejbbaadoor", sum := "9091c1b545cc0d8e37d96cfcba7977cff9752a639136220cf807bf775addc25c", func := "sheaves/sheaveskeep.HistoryOne", spec := "historyOne", unfollowed := true, recurses := true, named := ["sheaves/blake.first", "sheaves/blake.order", "sheaves/blake.lanes"], apart := false, laid := [("sheaves/blake.first", laid_sheaves_blake_first), ("sheaves/blake.order", laid_sheaves_blake_order), ("sheaves/blake.lanes", laid_sheaves_blake_lanes)], narrowed := true }
def HistoryOneUptoSaid : Prop := historyOneUptoRow.holds Tryd.pinned (OpenSpec.upto historyOneSpec)

/-- 'sheaveskeep.HistoryClosed', WHERE WHAT IT READS IS OF BULK AT MOST 1048576: true; the input reads as it did. -/
def historyClosedUptoRow : OpenClaim := { program := "ytlailhhffejbbaadoor", sum := "9091c1b545cc0d8e37d96cfcba7977cff9752a639136220cf807bf775addc25c", func := "sheaves/sheaveskeep.HistoryClosed", spec := "historyClosed", unfollowed := true, recurses := true, named := ["sheaves/blake.first", "sheaves/blake.order", "sheaves/blake.lanes"], apart := false, laid := [("sheaves/blake.first", laid_sheaves_blake_first), ("sheaves/blake.order", laid_sheaves_blake_order), ("sheaves/blake.lanes", laid_sheaves_blake_lanes)], narrowed := true }
def HistoryClosedUptoSaid : Prop := historyClosedUptoRow.holds Tryd.pinned (OpenSpec.upto historyClosedSpec)

/-- 'sheaveskeep.HistoryLeast', WHERE WHAT IT READS IS OF BULK AT MOST 1048576: true; the input reads as it did. -/
def historyLeastUptoRow : OpenClaim := { program := "ytlailhhffejbbaadoor", sum := "9091c1b545cc0d8e37d96cfcba7977cff9752a639136220cf807bf775addc25c", func := "sheaves/sheaveskeep.HistoryLeast", spec := "historyLeast", unfollowed := true, recurses := true, named := ["sheaves/blake.first", "sheaves/blake.order", "sheaves/blake.lanes"], apart := false, laid := [("sheaves/blake.first", laid_sheaves_blake_first), ("sheaves/blake.order", laid_sheaves_blake_order), ("sheaves/blake.lanes", laid_sheaves_blake_lanes)], narrowed := true }
def HistoryLeastUptoSaid : Prop := historyLeastUptoRow.holds Tryd.pinned (OpenSpec.upto historyLeastSpec)

/-- 'sheaveskeep.HistoryOrder', WHERE WHAT IT READS IS OF BULK AT MOST 1048576: true; the input reads as it did. -/
def historyOrderUptoRow : OpenClaim := { program := "ytlailhhffejbbaadoor", sum := "9091c1b545cc0d8e37d96cfcba7977cff9752a639136220cf807bf775addc25c", func := "sheaves/sheaveskeep.HistoryOrder", spec := "historyOrder", unfollowed := true, recurses := true, named := ["sheaves/blake.first", "sheaves/blake.order", "sheaves/blake.lanes"], apart := false, laid := [("sheaves/blake.first", laid_sheaves_blake_first), ("sheaves/blake.order", laid_sheaves_blake_order), ("sheaves/blake.lanes", laid_sheaves_blake_lanes)], narrowed := true }
def HistoryOrderUptoSaid : Prop := historyOrderUptoRow.holds Tryd.pinned (OpenSpec.upto historyOrderSpec)

end Rows
end Go.Proofs.YtlailhhffejbbaaDoor
