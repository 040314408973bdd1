/-
  No cell of these rows narrows 'for every input' (looked for: loops, veiled, ifaces, maps, wideKeys, modest, calm, conditions, laid).
  DERIVED. THE GIVEN ROWS OF THIS SEAT. 12 by the template 'for every input the law returns true; each argument reads behind the call as it read before'; 0 by the template 'total and deterministic' (their statements: YtgkmgdkmafbohaaTotals.lean).
  GIVEN WITH THE SEED: the statements are not yours to turn. If you find one false, say at which input.
  Laid BY PROGRAM, IN A SANDBOX (cutbox-rows.mjs): the forced cells as the released guide's own fill.sh prints them over the translation b0b18fdfbc4761db… (all of the seat's roots in one cut). By AI agents, Wed Nov 11 2026. No macro, syntax, notation, axiom, sorry.
-/
import Derived.Test.YtgkmgdkmafbohaaChecked
import GoSem.Claim
import GoSem.ClaimJoined
import GoSem.ClaimMapViews
import Derived.JoinedTies
import Derived.KernelRfl
namespace Go.Proofs.Ytgkmgdkmafbohaa
/- THE CELL 'sum', in the pinned program and in every row, IS THE sha256 OF THE DUMP (.gsa) THAT YtgkmgdkmafbohaaProg.lean LOADS. Nothing in Lean hashes anything: it is a label: what it is worth is what the hold of that sum in a sandbox is worth. -/
noncomputable def Try.pinned : Pinned := { name := "ytgkmgdkmafbohaa", sum := "b0b18fdfbc4761db63153671400440669188a3a8851fb40d8affcd0b5ec4f774", checked := Try.checked }
namespace Rows
def none {H : Type} : Left H := { results := [], args := [] }

/-- 'sheaveskeep.SlotBad': WHATEVER THE INPUT: true; the input reads as it did. -/
def slotBadSpec : ChangeSpec := { name := "slotBad", fn := fun _ => fun
  | [d1, d2] => { results := [.lit (.bool true)], args := [d1, d2] }
  | _ => none }
def slotBadRow : OpenClaim := { program := "ytgkmgdkmafbohaa", sum := "b0b18fdfbc4761db63153671400440669188a3a8851fb40d8affcd0b5ec4f774", func := "sheaves/sheaveskeep.SlotBad", spec := "slotBad", unfollowed := true, recurses := true, apart := false }
def SlotBadSaid : Prop := slotBadRow.holds Try.pinned (OpenSpec.ofChange slotBadSpec)

/-- ITS FALSE NEIGHBOUR: 'it returns false'. Refute it at one input. -/
def slotBadWrong : ChangeSpec := { name := "slotBad", fn := fun _ => fun
  | [d1, d2] => { results := [.lit (.bool false)], args := [d1, d2] }
  | _ => none }
def SlotBadWrongFalsely : Prop := slotBadRow.holds Try.pinned (OpenSpec.ofChange slotBadWrong)

/-- 'sheaveskeep.MessageMore': WHATEVER THE INPUT: true; the input reads as it did. -/
def messageMoreSpec : ChangeSpec := { name := "messageMore", fn := fun _ => fun
  | [d1, d2] => { results := [.lit (.bool true)], args := [d1, d2] }
  | _ => none }
def messageMoreRow : OpenClaim := { program := "ytgkmgdkmafbohaa", sum := "b0b18fdfbc4761db63153671400440669188a3a8851fb40d8affcd0b5ec4f774", func := "sheaves/sheaveskeep.MessageMore", spec := "messageMore", unfollowed := true, recurses := true, apart := false }
def MessageMoreSaid : Prop := messageMoreRow.holds Try.pinned (OpenSpec.ofChange messageMoreSpec)

/-- ITS FALSE NEIGHBOUR: 'it returns false'. Refute it at one input. -/
def messageMoreWrong : ChangeSpec := { name := "messageMore", fn := fun _ => fun
  | [d1, d2] => { results := [.lit (.bool false)], args := [d1, d2] }
  | _ => none }
def MessageMoreWrongFalsely : Prop := messageMoreRow.holds Try.pinned (OpenSpec.ofChange messageMoreWrong)

/-- 'sheaveskeep.WantBad': WHATEVER THE INPUT: true; the input reads as it did. -/
def wantBadSpec : ChangeSpec := { name := "wantBad", fn := fun _ => fun
  | [d] => { results := [.lit (.bool true)], args := [d] }
  | _ => none }
def wantBadRow : OpenClaim := { program := "ytgkmgdkmafbohaa", sum := "b0b18fdfbc4761db63153671400440669188a3a8851fb40d8affcd0b5ec4f774", func := "sheaves/sheaveskeep.WantBad", spec := "wantBad", unfollowed := true, recurses := true, apart := false }
def WantBadSaid : Prop := wantBadRow.holds Try.pinned (OpenSpec.ofChange wantBadSpec)

/-- ITS FALSE NEIGHBOUR: 'it returns false'. Refute it at one input. -/
def wantBadWrong : ChangeSpec := { name := "wantBad", fn := fun _ => fun
  | [d] => { results := [.lit (.bool false)], args := [d] }
  | _ => none }
def WantBadWrongFalsely : Prop := wantBadRow.holds Try.pinned (OpenSpec.ofChange wantBadWrong)

/-- 'sheaveskeep.NodesBad': WHATEVER THE INPUT: true; the input reads as it did. -/
def nodesBadSpec : ChangeSpec := { name := "nodesBad", fn := fun _ => fun
  | [d1, d2, d3] => { results := [.lit (.bool true)], args := [d1, d2, d3] }
  | _ => none }
def nodesBadRow : OpenClaim := { program := "ytgkmgdkmafbohaa", sum := "b0b18fdfbc4761db63153671400440669188a3a8851fb40d8affcd0b5ec4f774", func := "sheaves/sheaveskeep.NodesBad", spec := "nodesBad", unfollowed := true, recurses := true, apart := false }
def NodesBadSaid : Prop := nodesBadRow.holds Try.pinned (OpenSpec.ofChange nodesBadSpec)

/-- ITS FALSE NEIGHBOUR: 'it returns false'. Refute it at one input. -/
def nodesBadWrong : ChangeSpec := { name := "nodesBad", fn := fun _ => fun
  | [d1, d2, d3] => { results := [.lit (.bool false)], args := [d1, d2, d3] }
  | _ => none }
def NodesBadWrongFalsely : Prop := nodesBadRow.holds Try.pinned (OpenSpec.ofChange nodesBadWrong)

/-- 'sheaveskeep.BundleBytes': WHATEVER THE INPUT: true; the input reads as it did. -/
def bundleBytesSpec : ChangeSpec := { name := "bundleBytes", fn := fun _ => fun
  | [d] => { results := [.lit (.bool true)], args := [d] }
  | _ => none }
def bundleBytesRow : OpenClaim := { program := "ytgkmgdkmafbohaa", sum := "b0b18fdfbc4761db63153671400440669188a3a8851fb40d8affcd0b5ec4f774", func := "sheaves/sheaveskeep.BundleBytes", spec := "bundleBytes", unfollowed := true, recurses := true, apart := false }
def BundleBytesSaid : Prop := bundleBytesRow.holds Try.pinned (OpenSpec.ofChange bundleBytesSpec)

/-- ITS FALSE NEIGHBOUR: 'it returns false'. Refute it at one input. -/
def bundleBytesWrong : ChangeSpec := { name := "bundleBytes", fn := fun _ => fun
  | [d] => { results := [.lit (.bool false)], args := [d] }
  | _ => none }
def BundleBytesWrongFalsely : Prop := bundleBytesRow.holds Try.pinned (OpenSpec.ofChange bundleBytesWrong)

/-- 'sheaveskeep.OfferBytes': WHATEVER THE INPUT: true; the input reads as it did. -/
def offerBytesSpec : ChangeSpec := { name := "offerBytes", fn := fun _ => fun
  | [d] => { results := [.lit (.bool true)], args := [d] }
  | _ => none }
def offerBytesRow : OpenClaim := { program := "ytgkmgdkmafbohaa", sum := "b0b18fdfbc4761db63153671400440669188a3a8851fb40d8affcd0b5ec4f774", func := "sheaves/sheaveskeep.OfferBytes", spec := "offerBytes", unfollowed := true, recurses := true, apart := false }
def OfferBytesSaid : Prop := offerBytesRow.holds Try.pinned (OpenSpec.ofChange offerBytesSpec)

/-- ITS FALSE NEIGHBOUR: 'it returns false'. Refute it at one input. -/
def offerBytesWrong : ChangeSpec := { name := "offerBytes", fn := fun _ => fun
  | [d] => { results := [.lit (.bool false)], args := [d] }
  | _ => none }
def OfferBytesWrongFalsely : Prop := offerBytesRow.holds Try.pinned (OpenSpec.ofChange offerBytesWrong)

/-- 'sheaveskeep.ProofBytes': WHATEVER THE INPUT: true; the input reads as it did. -/
def proofBytesSpec : ChangeSpec := { name := "proofBytes", fn := fun _ => fun
  | [d] => { results := [.lit (.bool true)], args := [d] }
  | _ => none }
def proofBytesRow : OpenClaim := { program := "ytgkmgdkmafbohaa", sum := "b0b18fdfbc4761db63153671400440669188a3a8851fb40d8affcd0b5ec4f774", func := "sheaves/sheaveskeep.ProofBytes", spec := "proofBytes", unfollowed := true, recurses := true, apart := false }
def ProofBytesSaid : Prop := proofBytesRow.holds Try.pinned (OpenSpec.ofChange proofBytesSpec)

/-- ITS FALSE NEIGHBOUR: 'it returns false'. Refute it at one input. -/
def proofBytesWrong : ChangeSpec := { name := "proofBytes", fn := fun _ => fun
  | [d] => { results := [.lit (.bool false)], args := [d] }
  | _ => none }
def ProofBytesWrongFalsely : Prop := proofBytesRow.holds Try.pinned (OpenSpec.ofChange proofBytesWrong)

/-- 'sheaveskeep.VoteBytes': WHATEVER THE INPUT: true; the input reads as it did. -/
def voteBytesSpec : ChangeSpec := { name := "voteBytes", fn := fun _ => fun
  | [d] => { results := [.lit (.bool true)], args := [d] }
  | _ => none }
def voteBytesRow : OpenClaim := { program := "ytgkmgdkmafbohaa", sum := "b0b18fdfbc4761db63153671400440669188a3a8851fb40d8affcd0b5ec4f774", func := "sheaves/sheaveskeep.VoteBytes", spec := "voteBytes", unfollowed := true, recurses := true, apart := false }
def VoteBytesSaid : Prop := voteBytesRow.holds Try.pinned (OpenSpec.ofChange voteBytesSpec)

/-- ITS FALSE NEIGHBOUR: 'it returns false'. Refute it at one input. -/
def voteBytesWrong : ChangeSpec := { name := "voteBytes", fn := fun _ => fun
  | [d] => { results := [.lit (.bool false)], args := [d] }
  | _ => none }
def VoteBytesWrongFalsely : Prop := voteBytesRow.holds Try.pinned (OpenSpec.ofChange voteBytesWrong)

/-- 'sheaveskeep.BatchApart': WHATEVER THE INPUT: true; the input reads as it did. -/
def batchApartSpec : ChangeSpec := { name := "batchApart", fn := fun _ => fun
  | [d1, d2] => { results := [.lit (.bool true)], args := [d1, d2] }
  | _ => none }
def batchApartRow : OpenClaim := { program := "ytgkmgdkmafbohaa", sum := "b0b18fdfbc4761db63153671400440669188a3a8851fb40d8affcd0b5ec4f774", func := "sheaves/sheaveskeep.BatchApart", spec := "batchApart", unfollowed := true, recurses := true, apart := false }
def BatchApartSaid : Prop := batchApartRow.holds Try.pinned (OpenSpec.ofChange batchApartSpec)

/-- ITS FALSE NEIGHBOUR: 'it returns false'. Refute it at one input. -/
def batchApartWrong : ChangeSpec := { name := "batchApart", fn := fun _ => fun
  | [d1, d2] => { results := [.lit (.bool false)], args := [d1, d2] }
  | _ => none }
def BatchApartWrongFalsely : Prop := batchApartRow.holds Try.pinned (OpenSpec.ofChange batchApartWrong)

/-- 'sheaveskeep.HeaderApart': WHATEVER THE INPUT: true; the input reads as it did. -/
def headerApartSpec : ChangeSpec := { name := "headerApart", fn := fun _ => fun
  | [d1, d2] => { results := [.lit (.bool true)], args := [d1, d2] }
  | _ => none }
def headerApartRow : OpenClaim := { program := "ytgkmgdkmafbohaa", sum := "b0b18fdfbc4761db63153671400440669188a3a8851fb40d8affcd0b5ec4f774", func := "sheaves/sheaveskeep.HeaderApart", spec := "headerApart", unfollowed := true, recurses := true, apart := false }
def HeaderApartSaid : Prop := headerApartRow.holds Try.pinned (OpenSpec.ofChange headerApartSpec)

/-- ITS FALSE NEIGHBOUR: 'it returns false'. Refute it at one input. -/
def headerApartWrong : ChangeSpec := { name := "headerApart", fn := fun _ => fun
  | [d1, d2] => { results := [.lit (.bool false)], args := [d1, d2] }
  | _ => none }
def HeaderApartWrongFalsely : Prop := headerApartRow.holds Try.pinned (OpenSpec.ofChange headerApartWrong)

/-- 'sheaveskeep.KindBad': WHATEVER THE INPUT: true; the input reads as it did. -/
def kindBadSpec : ChangeSpec := { name := "kindBad", fn := fun _ => fun
  | [d1, d2] => { results := [.lit (.bool true)], args := [d1, d2] }
  | _ => none }
def kindBadRow : OpenClaim := { program := "ytgkmgdkmafbohaa", sum := "b0b18fdfbc4761db63153671400440669188a3a8851fb40d8affcd0b5ec4f774", func := "sheaves/sheaveskeep.KindBad", spec := "kindBad", unfollowed := true, recurses := true, apart := false }
def KindBadSaid : Prop := kindBadRow.holds Try.pinned (OpenSpec.ofChange kindBadSpec)

/-- ITS FALSE NEIGHBOUR: 'it returns false'. Refute it at one input. -/
def kindBadWrong : ChangeSpec := { name := "kindBad", fn := fun _ => fun
  | [d1, d2] => { results := [.lit (.bool false)], args := [d1, d2] }
  | _ => none }
def KindBadWrongFalsely : Prop := kindBadRow.holds Try.pinned (OpenSpec.ofChange kindBadWrong)

/-- 'sheaveskeep.MessageBack': WHATEVER THE INPUT: true; the input reads as it did. -/
def messageBackSpec : ChangeSpec := { name := "messageBack", fn := fun _ => fun
  | [d1, d2] => { results := [.lit (.bool true)], args := [d1, d2] }
  | _ => none }
def messageBackRow : OpenClaim := { program := "ytgkmgdkmafbohaa", sum := "b0b18fdfbc4761db63153671400440669188a3a8851fb40d8affcd0b5ec4f774", func := "sheaves/sheaveskeep.MessageBack", spec := "messageBack", unfollowed := true, recurses := true, apart := false }
def MessageBackSaid : Prop := messageBackRow.holds Try.pinned (OpenSpec.ofChange messageBackSpec)

/-- ITS FALSE NEIGHBOUR: 'it returns false'. Refute it at one input. -/
def messageBackWrong : ChangeSpec := { name := "messageBack", fn := fun _ => fun
  | [d1, d2] => { results := [.lit (.bool false)], args := [d1, d2] }
  | _ => none }
def MessageBackWrongFalsely : Prop := messageBackRow.holds Try.pinned (OpenSpec.ofChange messageBackWrong)

/- THE SECOND FORM. 'bulk': how many values and letters a reading holds, each counted each time it is reached (what is shared counts as often as it is met; a slice's spare places count too). A statement '..UptoSaid' is the law's where the arguments, and the package variables that the reading takes, are together of bulk at most 1048576: NARROWER than '..Said'. Prove '..Said' where nothing that the law and all that it calls make is longer than what came in: it says more and counts as full. Else prove '..UptoSaid'. A law counts once. -/
mutual
def uptoBulk {H : Type} : DataW H → Nat
  | .lit (.string bytes) => bytes.length + 1
  | .lit _ => 1
  | .nil => 1
  | .ptr d => uptoBulk d + 1
  | .slice elems spare => uptoBulkAll elems + uptoBulkAll spare + 1
  | .agg parts => uptoBulkAll parts + 1
  | .iface _ d => uptoBulk d + 1
  | .map entries => uptoBulkEntries entries + 1
  | .held _ => 1
def uptoBulkAll {H : Type} : List (DataW H) → Nat
  | [] => 0
  | d :: r => uptoBulk d + uptoBulkAll r
def uptoBulkEntries {H : Type} : List (Lit × DataW H) → Nat
  | [] => 0
  | x :: r => uptoBulkEntry x + uptoBulkEntries r
def uptoBulkEntry {H : Type} : Lit × DataW H → Nat
  | (.string bytes, d) => bytes.length + uptoBulk d + 1
  | (_, d) => uptoBulk d + 1
 end
def uptoSmall : (H : Type) → List (DataW H) → Bool := fun _ ds => decide (uptoBulkAll ds ≤ 1048576)
def OpenSpec.upto (s : _root_.Go.ChangeSpec) : _root_.Go.OpenSpec := { _root_.Go.OpenSpec.ofChange s with cond := some uptoSmall }

/-- 'sheaveskeep.SlotBad', WHERE WHAT IT READS IS OF BULK AT MOST 1048576: true; the input reads as it did. -/
def slotBadUptoRow : OpenClaim := { program := "ytgkmgdkmafbohaa", sum := "b0b18fdfbc4761db63153671400440669188a3a8851fb40d8affcd0b5ec4f774", func := "sheaves/sheaveskeep.SlotBad", spec := "slotBad", unfollowed := true, recurses := true, apart := false, narrowed := true }
def SlotBadUptoSaid : Prop := slotBadUptoRow.holds Try.pinned (OpenSpec.upto slotBadSpec)

/-- 'sheaveskeep.MessageMore', WHERE WHAT IT READS IS OF BULK AT MOST 1048576: true; the input reads as it did. -/
def messageMoreUptoRow : OpenClaim := { program := "ytgkmgdkmafbohaa", sum := "b0b18fdfbc4761db63153671400440669188a3a8851fb40d8affcd0b5ec4f774", func := "sheaves/sheaveskeep.MessageMore", spec := "messageMore", unfollowed := true, recurses := true, apart := false, narrowed := true }
def MessageMoreUptoSaid : Prop := messageMoreUptoRow.holds Try.pinned (OpenSpec.upto messageMoreSpec)

/-- 'sheaveskeep.WantBad', WHERE WHAT IT READS IS OF BULK AT MOST 1048576: true; the input reads as it did. -/
def wantBadUptoRow : OpenClaim := { program := "ytgkmgdkmafbohaa", sum := "b0b18fdfbc4761db63153671400440669188a3a8851fb40d8affcd0b5ec4f774", func := "sheaves/sheaveskeep.WantBad", spec := "wantBad", unfollowed := true, recurses := true, apart := false, narrowed := true }
def WantBadUptoSaid : Prop := wantBadUptoRow.holds Try.pinned (OpenSpec.upto wantBadSpec)

/-- 'sheaveskeep.NodesBad', WHERE WHAT IT READS IS OF BULK AT MOST 1048576: true; the input reads as it did. -/
def nodesBadUptoRow : OpenClaim := { program := "ytgkmgdkmafbohaa", sum := "b0b18fdfbc4761db63153671400440669188a3a8851fb40d8affcd0b5ec4f774", func := "sheaves/sheaveskeep.NodesBad", spec := "nodesBad", unfollowed := true, recurses := true, apart := false, narrowed := true }
def NodesBadUptoSaid : Prop := nodesBadUptoRow.holds Try.pinned (OpenSpec.upto nodesBadSpec)

/-- 'sheaveskeep.BundleBytes', WHERE WHAT IT READS IS OF BULK AT MOST 1048576: true; the input reads as it did. -/
def bundleBytesUptoRow : OpenClaim := { program := "ytgkmgdkmafbohaa", sum := "b0b18fdfbc4761db63153671400440669188a3a8851fb40d8affcd0b5ec4f774", func := "sheaves/sheaveskeep.BundleBytes", spec := "bundleBytes", unfollowed := true, recurses := true, apart := false, narrowed := true }
def BundleBytesUptoSaid : Prop := bundleBytesUptoRow.holds Try.pinned (OpenSpec.upto bundleBytesSpec)

/-- 'sheaveskeep.OfferBytes', WHERE WHAT IT READS IS OF BULK AT MOST 1048576: true; the input reads as it did. -/
def offerBytesUptoRow : OpenClaim := { program := "ytgkmgdkmafbohaa", sum := "b0b18fdfbc4761db63153671400440669188a3a8851fb40d8affcd0b5ec4f774", func := "sheaves/sheaveskeep.OfferBytes", spec := "offerBytes", unfollowed := true, recurses := true, apart := false, narrowed := true }
def OfferBytesUptoSaid : Prop := offerBytesUptoRow.holds Try.pinned (OpenSpec.upto offerBytesSpec)

/-- 'sheaveskeep.ProofBytes', WHERE WHAT IT READS IS OF BULK AT MOST 1048576: true; the input reads as it did. -/
def proofBytesUptoRow : OpenClaim := { program := "ytgkmgdkmafbohaa", sum := "b0b18fdfbc4761db63153671400440669188a3a8851fb40d8affcd0b5ec4f774", func := "sheaves/sheaveskeep.ProofBytes", spec := "proofBytes", unfollowed := true, recurses := true, apart := false, narrowed := true }
def ProofBytesUptoSaid : Prop := proofBytesUptoRow.holds Try.pinned (OpenSpec.upto proofBytesSpec)

/-- 'sheaveskeep.VoteBytes', WHERE WHAT IT READS IS OF BULK AT MOST 1048576: true; the input reads as it did. -/
def voteBytesUptoRow : OpenClaim := { program := "ytgkmgdkmafbohaa", sum := "b0b18fdfbc4761db63153671400440669188a3a8851fb40d8affcd0b5ec4f774", func := "sheaves/sheaveskeep.VoteBytes", spec := "voteBytes", unfollowed := true, recurses := true, apart := false, narrowed := true }
def VoteBytesUptoSaid : Prop := voteBytesUptoRow.holds Try.pinned (OpenSpec.upto voteBytesSpec)

/-- 'sheaveskeep.BatchApart', WHERE WHAT IT READS IS OF BULK AT MOST 1048576: true; the input reads as it did. -/
def batchApartUptoRow : OpenClaim := { program := "ytgkmgdkmafbohaa", sum := "b0b18fdfbc4761db63153671400440669188a3a8851fb40d8affcd0b5ec4f774", func := "sheaves/sheaveskeep.BatchApart", spec := "batchApart", unfollowed := true, recurses := true, apart := false, narrowed := true }
def BatchApartUptoSaid : Prop := batchApartUptoRow.holds Try.pinned (OpenSpec.upto batchApartSpec)

/-- 'sheaveskeep.HeaderApart', WHERE WHAT IT READS IS OF BULK AT MOST 1048576: true; the input reads as it did. -/
def headerApartUptoRow : OpenClaim := { program := "ytgkmgdkmafbohaa", sum := "b0b18fdfbc4761db63153671400440669188a3a8851fb40d8affcd0b5ec4f774", func := "sheaves/sheaveskeep.HeaderApart", spec := "headerApart", unfollowed := true, recurses := true, apart := false, narrowed := true }
def HeaderApartUptoSaid : Prop := headerApartUptoRow.holds Try.pinned (OpenSpec.upto headerApartSpec)

/-- 'sheaveskeep.KindBad', WHERE WHAT IT READS IS OF BULK AT MOST 1048576: true; the input reads as it did. -/
def kindBadUptoRow : OpenClaim := { program := "ytgkmgdkmafbohaa", sum := "b0b18fdfbc4761db63153671400440669188a3a8851fb40d8affcd0b5ec4f774", func := "sheaves/sheaveskeep.KindBad", spec := "kindBad", unfollowed := true, recurses := true, apart := false, narrowed := true }
def KindBadUptoSaid : Prop := kindBadUptoRow.holds Try.pinned (OpenSpec.upto kindBadSpec)

/-- 'sheaveskeep.MessageBack', WHERE WHAT IT READS IS OF BULK AT MOST 1048576: true; the input reads as it did. -/
def messageBackUptoRow : OpenClaim := { program := "ytgkmgdkmafbohaa", sum := "b0b18fdfbc4761db63153671400440669188a3a8851fb40d8affcd0b5ec4f774", func := "sheaves/sheaveskeep.MessageBack", spec := "messageBack", unfollowed := true, recurses := true, apart := false, narrowed := true }
def MessageBackUptoSaid : Prop := messageBackUptoRow.holds Try.pinned (OpenSpec.upto messageBackSpec)

end Rows
end Go.Proofs.Ytgkmgdkmafbohaa
