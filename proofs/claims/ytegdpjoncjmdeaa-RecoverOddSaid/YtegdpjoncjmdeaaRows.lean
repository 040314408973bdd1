/-
  No cell of these rows narrows 'for every input' (looked for: loops, veiled, ifaces, maps, wideKeys, modest, calm, conditions, laid).
  DERIVED. THE GIVEN ROWS OF THIS SEAT. 12 by the template 'for every input the law returns true; each argument reads behind the call as it read before'; 0 by the template 'total and deterministic' (their statements: YtegdpjoncjmdeaaTotals.lean).
  GIVEN WITH THE SEED: the statements are not yours to turn. If you find one false, say at which input.
  Laid BY PROGRAM, IN A SANDBOX (cutbox-rows.mjs): the forced cells as the released guide's own fill.sh prints them over the translation 2dd3b9662256d2d6… (all of the seat's roots in one cut). By AI agents, Wed Nov 11 2026. No macro, syntax, notation, axiom, sorry.
-/
import Derived.Test.YtegdpjoncjmdeaaChecked
import GoSem.Claim
import GoSem.ClaimJoined
import GoSem.ClaimMapViews
import Derived.JoinedTies
import Derived.KernelRfl
namespace Go.Proofs.Ytegdpjoncjmdeaa
/- THE CELL 'sum', in the pinned program and in every row, IS THE sha256 OF THE DUMP (.gsa) THAT YtegdpjoncjmdeaaProg.lean LOADS. Nothing in Lean hashes anything: it is a label: what it is worth is what the hold of that sum in a sandbox is worth. -/
noncomputable def Try.pinned : Pinned := { name := "ytegdpjoncjmdeaa", sum := "2dd3b9662256d2d620b97fa797e801eb39a16252f9d104167d2798017343b2ad", checked := Try.checked }
namespace Rows
def none {H : Type} : Left H := { results := [], args := [] }

/-- 'sheaveskeep.MessageFixed': WHATEVER THE INPUT: true; the input reads as it did. -/
def messageFixedSpec : ChangeSpec := { name := "messageFixed", fn := fun _ => fun
  | [d] => { results := [.lit (.bool true)], args := [d] }
  | _ => none }
def messageFixedRow : OpenClaim := { program := "ytegdpjoncjmdeaa", sum := "2dd3b9662256d2d620b97fa797e801eb39a16252f9d104167d2798017343b2ad", func := "sheaves/sheaveskeep.MessageFixed", spec := "messageFixed", unfollowed := true, recurses := true, apart := false }
def MessageFixedSaid : Prop := messageFixedRow.holds Try.pinned (OpenSpec.ofChange messageFixedSpec)

/-- ITS FALSE NEIGHBOUR: 'it returns false'. Refute it at one input. -/
def messageFixedWrong : ChangeSpec := { name := "messageFixed", fn := fun _ => fun
  | [d] => { results := [.lit (.bool false)], args := [d] }
  | _ => none }
def MessageFixedWrongFalsely : Prop := messageFixedRow.holds Try.pinned (OpenSpec.ofChange messageFixedWrong)

/-- 'sheaveskeep.MessageTorn': WHATEVER THE INPUT: true; the input reads as it did. -/
def messageTornSpec : ChangeSpec := { name := "messageTorn", fn := fun _ => fun
  | [d1, d2] => { results := [.lit (.bool true)], args := [d1, d2] }
  | _ => none }
def messageTornRow : OpenClaim := { program := "ytegdpjoncjmdeaa", sum := "2dd3b9662256d2d620b97fa797e801eb39a16252f9d104167d2798017343b2ad", func := "sheaves/sheaveskeep.MessageTorn", spec := "messageTorn", unfollowed := true, recurses := true, apart := false }
def MessageTornSaid : Prop := messageTornRow.holds Try.pinned (OpenSpec.ofChange messageTornSpec)

/-- ITS FALSE NEIGHBOUR: 'it returns false'. Refute it at one input. -/
def messageTornWrong : ChangeSpec := { name := "messageTorn", fn := fun _ => fun
  | [d1, d2] => { results := [.lit (.bool false)], args := [d1, d2] }
  | _ => none }
def MessageTornWrongFalsely : Prop := messageTornRow.holds Try.pinned (OpenSpec.ofChange messageTornWrong)

/-- 'sheaveskeep.RecordBad': WHATEVER THE INPUT: true; the input reads as it did. -/
def recordBadSpec : ChangeSpec := { name := "recordBad", fn := fun _ => fun
  | [d1, d2] => { results := [.lit (.bool true)], args := [d1, d2] }
  | _ => none }
def recordBadRow : OpenClaim := { program := "ytegdpjoncjmdeaa", sum := "2dd3b9662256d2d620b97fa797e801eb39a16252f9d104167d2798017343b2ad", func := "sheaves/sheaveskeep.RecordBad", spec := "recordBad", unfollowed := true, recurses := true, apart := false }
def RecordBadSaid : Prop := recordBadRow.holds Try.pinned (OpenSpec.ofChange recordBadSpec)

/-- ITS FALSE NEIGHBOUR: 'it returns false'. Refute it at one input. -/
def recordBadWrong : ChangeSpec := { name := "recordBad", fn := fun _ => fun
  | [d1, d2] => { results := [.lit (.bool false)], args := [d1, d2] }
  | _ => none }
def RecordBadWrongFalsely : Prop := recordBadRow.holds Try.pinned (OpenSpec.ofChange recordBadWrong)

/-- 'sheaveskeep.AppendFull': WHATEVER THE INPUT: true; the input reads as it did. -/
def appendFullSpec : ChangeSpec := { name := "appendFull", fn := fun _ => fun
  | [d1, d2] => { results := [.lit (.bool true)], args := [d1, d2] }
  | _ => none }
def appendFullRow : OpenClaim := { program := "ytegdpjoncjmdeaa", sum := "2dd3b9662256d2d620b97fa797e801eb39a16252f9d104167d2798017343b2ad", func := "sheaves/sheaveskeep.AppendFull", spec := "appendFull", unfollowed := true, recurses := true, apart := false }
def AppendFullSaid : Prop := appendFullRow.holds Try.pinned (OpenSpec.ofChange appendFullSpec)

/-- ITS FALSE NEIGHBOUR: 'it returns false'. Refute it at one input. -/
def appendFullWrong : ChangeSpec := { name := "appendFull", fn := fun _ => fun
  | [d1, d2] => { results := [.lit (.bool false)], args := [d1, d2] }
  | _ => none }
def AppendFullWrongFalsely : Prop := appendFullRow.holds Try.pinned (OpenSpec.ofChange appendFullWrong)

/-- 'sheaveskeep.CrashJust': WHATEVER THE INPUT: true; the input reads as it did. -/
def crashJustSpec : ChangeSpec := { name := "crashJust", fn := fun _ => fun
  | [d1, d2, d3] => { results := [.lit (.bool true)], args := [d1, d2, d3] }
  | _ => none }
def crashJustRow : OpenClaim := { program := "ytegdpjoncjmdeaa", sum := "2dd3b9662256d2d620b97fa797e801eb39a16252f9d104167d2798017343b2ad", func := "sheaves/sheaveskeep.CrashJust", spec := "crashJust", unfollowed := true, recurses := true, apart := false }
def CrashJustSaid : Prop := crashJustRow.holds Try.pinned (OpenSpec.ofChange crashJustSpec)

/-- ITS FALSE NEIGHBOUR: 'it returns false'. Refute it at one input. -/
def crashJustWrong : ChangeSpec := { name := "crashJust", fn := fun _ => fun
  | [d1, d2, d3] => { results := [.lit (.bool false)], args := [d1, d2, d3] }
  | _ => none }
def CrashJustWrongFalsely : Prop := crashJustRow.holds Try.pinned (OpenSpec.ofChange crashJustWrong)

/-- 'sheaveskeep.TapeLong': WHATEVER THE INPUT: true; the input reads as it did. -/
def tapeLongSpec : ChangeSpec := { name := "tapeLong", fn := fun _ => fun
  | [d] => { results := [.lit (.bool true)], args := [d] }
  | _ => none }
def tapeLongRow : OpenClaim := { program := "ytegdpjoncjmdeaa", sum := "2dd3b9662256d2d620b97fa797e801eb39a16252f9d104167d2798017343b2ad", func := "sheaves/sheaveskeep.TapeLong", spec := "tapeLong", unfollowed := true, recurses := true, apart := false }
def TapeLongSaid : Prop := tapeLongRow.holds Try.pinned (OpenSpec.ofChange tapeLongSpec)

/-- ITS FALSE NEIGHBOUR: 'it returns false'. Refute it at one input. -/
def tapeLongWrong : ChangeSpec := { name := "tapeLong", fn := fun _ => fun
  | [d] => { results := [.lit (.bool false)], args := [d] }
  | _ => none }
def TapeLongWrongFalsely : Prop := tapeLongRow.holds Try.pinned (OpenSpec.ofChange tapeLongWrong)

/-- 'sheaveskeep.TapeTorn': WHATEVER THE INPUT: true; the input reads as it did. -/
def tapeTornSpec : ChangeSpec := { name := "tapeTorn", fn := fun _ => fun
  | [d1, d2] => { results := [.lit (.bool true)], args := [d1, d2] }
  | _ => none }
def tapeTornRow : OpenClaim := { program := "ytegdpjoncjmdeaa", sum := "2dd3b9662256d2d620b97fa797e801eb39a16252f9d104167d2798017343b2ad", func := "sheaves/sheaveskeep.TapeTorn", spec := "tapeTorn", unfollowed := true, recurses := true, apart := false }
def TapeTornSaid : Prop := tapeTornRow.holds Try.pinned (OpenSpec.ofChange tapeTornSpec)

/-- ITS FALSE NEIGHBOUR: 'it returns false'. Refute it at one input. -/
def tapeTornWrong : ChangeSpec := { name := "tapeTorn", fn := fun _ => fun
  | [d1, d2] => { results := [.lit (.bool false)], args := [d1, d2] }
  | _ => none }
def TapeTornWrongFalsely : Prop := tapeTornRow.holds Try.pinned (OpenSpec.ofChange tapeTornWrong)

/-- 'sheaveskeep.RecoverOdd': WHATEVER THE INPUT: true; the input reads as it did. -/
def recoverOddSpec : ChangeSpec := { name := "recoverOdd", fn := fun _ => fun
  | [d1, d2] => { results := [.lit (.bool true)], args := [d1, d2] }
  | _ => none }
def recoverOddRow : OpenClaim := { program := "ytegdpjoncjmdeaa", sum := "2dd3b9662256d2d620b97fa797e801eb39a16252f9d104167d2798017343b2ad", func := "sheaves/sheaveskeep.RecoverOdd", spec := "recoverOdd", unfollowed := true, recurses := true, apart := false }
def RecoverOddSaid : Prop := recoverOddRow.holds Try.pinned (OpenSpec.ofChange recoverOddSpec)

/-- ITS FALSE NEIGHBOUR: 'it returns false'. Refute it at one input. -/
def recoverOddWrong : ChangeSpec := { name := "recoverOdd", fn := fun _ => fun
  | [d1, d2] => { results := [.lit (.bool false)], args := [d1, d2] }
  | _ => none }
def RecoverOddWrongFalsely : Prop := recoverOddRow.holds Try.pinned (OpenSpec.ofChange recoverOddWrong)

/-- 'sheaveskeep.TapeJoin': WHATEVER THE INPUT: true; the input reads as it did. -/
def tapeJoinSpec : ChangeSpec := { name := "tapeJoin", fn := fun _ => fun
  | [d1, d2] => { results := [.lit (.bool true)], args := [d1, d2] }
  | _ => none }
def tapeJoinRow : OpenClaim := { program := "ytegdpjoncjmdeaa", sum := "2dd3b9662256d2d620b97fa797e801eb39a16252f9d104167d2798017343b2ad", func := "sheaves/sheaveskeep.TapeJoin", spec := "tapeJoin", unfollowed := true, recurses := true, apart := false }
def TapeJoinSaid : Prop := tapeJoinRow.holds Try.pinned (OpenSpec.ofChange tapeJoinSpec)

/-- ITS FALSE NEIGHBOUR: 'it returns false'. Refute it at one input. -/
def tapeJoinWrong : ChangeSpec := { name := "tapeJoin", fn := fun _ => fun
  | [d1, d2] => { results := [.lit (.bool false)], args := [d1, d2] }
  | _ => none }
def TapeJoinWrongFalsely : Prop := tapeJoinRow.holds Try.pinned (OpenSpec.ofChange tapeJoinWrong)

/-- 'sheaveskeep.TapeOn': WHATEVER THE INPUT: true; the input reads as it did. -/
def tapeOnSpec : ChangeSpec := { name := "tapeOn", fn := fun _ => fun
  | [d1, d2, d3] => { results := [.lit (.bool true)], args := [d1, d2, d3] }
  | _ => none }
def tapeOnRow : OpenClaim := { program := "ytegdpjoncjmdeaa", sum := "2dd3b9662256d2d620b97fa797e801eb39a16252f9d104167d2798017343b2ad", func := "sheaves/sheaveskeep.TapeOn", spec := "tapeOn", unfollowed := true, recurses := true, apart := false }
def TapeOnSaid : Prop := tapeOnRow.holds Try.pinned (OpenSpec.ofChange tapeOnSpec)

/-- ITS FALSE NEIGHBOUR: 'it returns false'. Refute it at one input. -/
def tapeOnWrong : ChangeSpec := { name := "tapeOn", fn := fun _ => fun
  | [d1, d2, d3] => { results := [.lit (.bool false)], args := [d1, d2, d3] }
  | _ => none }
def TapeOnWrongFalsely : Prop := tapeOnRow.holds Try.pinned (OpenSpec.ofChange tapeOnWrong)

/-- 'sheaveskeep.TapeKeeps': WHATEVER THE INPUT: true; the input reads as it did. -/
def tapeKeepsSpec : ChangeSpec := { name := "tapeKeeps", fn := fun _ => fun
  | [d1, d2, d3] => { results := [.lit (.bool true)], args := [d1, d2, d3] }
  | _ => none }
def tapeKeepsRow : OpenClaim := { program := "ytegdpjoncjmdeaa", sum := "2dd3b9662256d2d620b97fa797e801eb39a16252f9d104167d2798017343b2ad", func := "sheaves/sheaveskeep.TapeKeeps", spec := "tapeKeeps", unfollowed := true, recurses := true, apart := false }
def TapeKeepsSaid : Prop := tapeKeepsRow.holds Try.pinned (OpenSpec.ofChange tapeKeepsSpec)

/-- ITS FALSE NEIGHBOUR: 'it returns false'. Refute it at one input. -/
def tapeKeepsWrong : ChangeSpec := { name := "tapeKeeps", fn := fun _ => fun
  | [d1, d2, d3] => { results := [.lit (.bool false)], args := [d1, d2, d3] }
  | _ => none }
def TapeKeepsWrongFalsely : Prop := tapeKeepsRow.holds Try.pinned (OpenSpec.ofChange tapeKeepsWrong)

/-- 'sheaveskeep.SyncSafe': WHATEVER THE INPUT: true; the input reads as it did. -/
def syncSafeSpec : ChangeSpec := { name := "syncSafe", fn := fun _ => fun
  | [d1, d2] => { results := [.lit (.bool true)], args := [d1, d2] }
  | _ => none }
def syncSafeRow : OpenClaim := { program := "ytegdpjoncjmdeaa", sum := "2dd3b9662256d2d620b97fa797e801eb39a16252f9d104167d2798017343b2ad", func := "sheaves/sheaveskeep.SyncSafe", spec := "syncSafe", unfollowed := true, recurses := true, apart := false }
def SyncSafeSaid : Prop := syncSafeRow.holds Try.pinned (OpenSpec.ofChange syncSafeSpec)

/-- ITS FALSE NEIGHBOUR: 'it returns false'. Refute it at one input. -/
def syncSafeWrong : ChangeSpec := { name := "syncSafe", fn := fun _ => fun
  | [d1, d2] => { results := [.lit (.bool false)], args := [d1, d2] }
  | _ => none }
def SyncSafeWrongFalsely : Prop := syncSafeRow.holds Try.pinned (OpenSpec.ofChange syncSafeWrong)

/- THE SECOND FORM. 'bulk': how many values and letters a reading holds, each counted each time it is reached (what is shared counts as often as it is met; a slice's spare places count too). A statement '..UptoSaid' is the law's where the arguments, and the package variables that the reading takes, are together of bulk at most 1048576: NARROWER than '..Said'. Prove '..Said' where nothing that the law and all that it calls make is longer than what came in: it says more and counts as full. Else prove '..UptoSaid'. A law counts once. -/
mutual
def uptoBulk {H : Type} : DataW H → Nat
  | .lit (.string bytes) => bytes.length + 1
  | .lit _ => 1
  | .nil => 1
  | .ptr d => uptoBulk d + 1
  | .slice elems spare => uptoBulkAll elems + uptoBulkAll spare + 1
  | .agg parts => uptoBulkAll parts + 1
  | .iface _ d => uptoBulk d + 1
  | .map entries => uptoBulkEntries entries + 1
  | .held _ => 1
def uptoBulkAll {H : Type} : List (DataW H) → Nat
  | [] => 0
  | d :: r => uptoBulk d + uptoBulkAll r
def uptoBulkEntries {H : Type} : List (Lit × DataW H) → Nat
  | [] => 0
  | x :: r => uptoBulkEntry x + uptoBulkEntries r
def uptoBulkEntry {H : Type} : Lit × DataW H → Nat
  | (.string bytes, d) => bytes.length + uptoBulk d + 1
  | (_, d) => uptoBulk d + 1
 end
def uptoSmall : (H : Type) → List (DataW H) → Bool := fun _ ds => decide (uptoBulkAll ds ≤ 1048576)
def OpenSpec.upto (s : _root_.Go.ChangeSpec) : _root_.Go.OpenSpec := { _root_.Go.OpenSpec.ofChange s with cond := some uptoSmall }

/-- 'sheaveskeep.MessageFixed', WHERE WHAT IT READS IS OF BULK AT MOST 1048576: true; the input reads as it did. -/
def messageFixedUptoRow : OpenClaim := { program := "ytegdpjoncjmdeaa", sum := "2dd3b9662256d2d620b97fa797e801eb39a16252f9d104167d2798017343b2ad", func := "sheaves/sheaveskeep.MessageFixed", spec := "messageFixed", unfollowed := true, recurses := true, apart := false, narrowed := true }
def MessageFixedUptoSaid : Prop := messageFixedUptoRow.holds Try.pinned (OpenSpec.upto messageFixedSpec)

/-- 'sheaveskeep.MessageTorn', WHERE WHAT IT READS IS OF BULK AT MOST 1048576: true; the input reads as it did. -/
def messageTornUptoRow : OpenClaim := { program := "ytegdpjoncjmdeaa", sum := "2dd3b9662256d2d620b97fa797e801eb39a16252f9d104167d2798017343b2ad", func := "sheaves/sheaveskeep.MessageTorn", spec := "messageTorn", unfollowed := true, recurses := true, apart := false, narrowed := true }
def MessageTornUptoSaid : Prop := messageTornUptoRow.holds Try.pinned (OpenSpec.upto messageTornSpec)

/-- 'sheaveskeep.RecordBad', WHERE WHAT IT READS IS OF BULK AT MOST 1048576: true; the input reads as it did. -/
def recordBadUptoRow : OpenClaim := { program := "ytegdpjoncjmdeaa", sum := "2dd3b9662256d2d620b97fa797e801eb39a16252f9d104167d2798017343b2ad", func := "sheaves/sheaveskeep.RecordBad", spec := "recordBad", unfollowed := true, recurses := true, apart := false, narrowed := true }
def RecordBadUptoSaid : Prop := recordBadUptoRow.holds Try.pinned (OpenSpec.upto recordBadSpec)

/-- 'sheaveskeep.AppendFull', WHERE WHAT IT READS IS OF BULK AT MOST 1048576: true; the input reads as it did. -/
def appendFullUptoRow : OpenClaim := { program := "ytegdpjoncjmdeaa", sum := "2dd3b9662256d2d620b97fa797e801eb39a16252f9d104167d2798017343b2ad", func := "sheaves/sheaveskeep.AppendFull", spec := "appendFull", unfollowed := true, recurses := true, apart := false, narrowed := true }
def AppendFullUptoSaid : Prop := appendFullUptoRow.holds Try.pinned (OpenSpec.upto appendFullSpec)

/-- 'sheaveskeep.CrashJust', WHERE WHAT IT READS IS OF BULK AT MOST 1048576: true; the input reads as it did. -/
def crashJustUptoRow : OpenClaim := { program := "ytegdpjoncjmdeaa", sum := "2dd3b9662256d2d620b97fa797e801eb39a16252f9d104167d2798017343b2ad", func := "sheaves/sheaveskeep.CrashJust", spec := "crashJust", unfollowed := true, recurses := true, apart := false, narrowed := true }
def CrashJustUptoSaid : Prop := crashJustUptoRow.holds Try.pinned (OpenSpec.upto crashJustSpec)

/-- 'sheaveskeep.TapeLong', WHERE WHAT IT READS IS OF BULK AT MOST 1048576: true; the input reads as it did. -/
def tapeLongUptoRow : OpenClaim := { program := "ytegdpjoncjmdeaa", sum := "2dd3b9662256d2d620b97fa797e801eb39a16252f9d104167d2798017343b2ad", func := "sheaves/sheaveskeep.TapeLong", spec := "tapeLong", unfollowed := true, recurses := true, apart := false, narrowed := true }
def TapeLongUptoSaid : Prop := tapeLongUptoRow.holds Try.pinned (OpenSpec.upto tapeLongSpec)

/-- 'sheaveskeep.TapeTorn', WHERE WHAT IT READS IS OF BULK AT MOST 1048576: true; the input reads as it did. -/
def tapeTornUptoRow : OpenClaim := { program := "ytegdpjoncjmdeaa", sum := "2dd3b9662256d2d620b97fa797e801eb39a16252f9d104167d2798017343b2ad", func := "sheaves/sheaveskeep.TapeTorn", spec := "tapeTorn", unfollowed := true, recurses := true, apart := false, narrowed := true }
def TapeTornUptoSaid : Prop := tapeTornUptoRow.holds Try.pinned (OpenSpec.upto tapeTornSpec)

/-- 'sheaveskeep.RecoverOdd', WHERE WHAT IT READS IS OF BULK AT MOST 1048576: true; the input reads as it did. -/
def recoverOddUptoRow : OpenClaim := { program := "ytegdpjoncjmdeaa", sum := "2dd3b9662256d2d620b97fa797e801eb39a16252f9d104167d2798017343b2ad", func := "sheaves/sheaveskeep.RecoverOdd", spec := "recoverOdd", unfollowed := true, recurses := true, apart := false, narrowed := true }
def RecoverOddUptoSaid : Prop := recoverOddUptoRow.holds Try.pinned (OpenSpec.upto recoverOddSpec)

/-- 'sheaveskeep.TapeJoin', WHERE WHAT IT READS IS OF BULK AT MOST 1048576: true; the input reads as it did. -/
def tapeJoinUptoRow : OpenClaim := { program := "ytegdpjoncjmdeaa", sum := "2dd3b9662256d2d620b97fa797e801eb39a16252f9d104167d2798017343b2ad", func := "sheaves/sheaveskeep.TapeJoin", spec := "tapeJoin", unfollowed := true, recurses := true, apart := false, narrowed := true }
def TapeJoinUptoSaid : Prop := tapeJoinUptoRow.holds Try.pinned (OpenSpec.upto tapeJoinSpec)

/-- 'sheaveskeep.TapeOn', WHERE WHAT IT READS IS OF BULK AT MOST 1048576: true; the input reads as it did. -/
def tapeOnUptoRow : OpenClaim := { program := "ytegdpjoncjmdeaa", sum := "2dd3b9662256d2d620b97fa797e801eb39a16252f9d104167d2798017343b2ad", func := "sheaves/sheaveskeep.TapeOn", spec := "tapeOn", unfollowed := true, recurses := true, apart := false, narrowed := true }
def TapeOnUptoSaid : Prop := tapeOnUptoRow.holds Try.pinned (OpenSpec.upto tapeOnSpec)

/-- 'sheaveskeep.TapeKeeps', WHERE WHAT IT READS IS OF BULK AT MOST 1048576: true; the input reads as it did. -/
def tapeKeepsUptoRow : OpenClaim := { program := "ytegdpjoncjmdeaa", sum := "2dd3b9662256d2d620b97fa797e801eb39a16252f9d104167d2798017343b2ad", func := "sheaves/sheaveskeep.TapeKeeps", spec := "tapeKeeps", unfollowed := true, recurses := true, apart := false, narrowed := true }
def TapeKeepsUptoSaid : Prop := tapeKeepsUptoRow.holds Try.pinned (OpenSpec.upto tapeKeepsSpec)

/-- 'sheaveskeep.SyncSafe', WHERE WHAT IT READS IS OF BULK AT MOST 1048576: true; the input reads as it did. -/
def syncSafeUptoRow : OpenClaim := { program := "ytegdpjoncjmdeaa", sum := "2dd3b9662256d2d620b97fa797e801eb39a16252f9d104167d2798017343b2ad", func := "sheaves/sheaveskeep.SyncSafe", spec := "syncSafe", unfollowed := true, recurses := true, apart := false, narrowed := true }
def SyncSafeUptoSaid : Prop := syncSafeUptoRow.holds Try.pinned (OpenSpec.upto syncSafeSpec)

end Rows
end Go.Proofs.Ytegdpjoncjmdeaa
