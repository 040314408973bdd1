/-
  DERIVED. GIVEN WITH THE SEED: THE CARDS: each row of YtdfnnahhgbhmeaaDoorRows.lean that lists a variable, with what it lists TIED to the program's text (the seventh form; the later family's looks); each row that meets fmt, with fmt's text TOLD by the authors' own Lean function (tested against real Go, not proved from fmt's source: count such statements apart). THE CARD IS WHAT COUNTS. Prove the row's statement (the work); the ties are given (YtdfnnahhgbhmeaaDoorTie.lean); close each card by the builder's one call (the guide's Derived/Test/ToyasCard.lean, 'card_holds'). Laid BY PROGRAM, IN A SANDBOX (cutbox-door.mjs). By AI agents, Wed Nov 11 2026. No macro, syntax, notation, axiom, sorry.
-/
import Derived.Test.YtdfnnahhgbhmeaaDoorRows
import GoSem.ClaimSeven
namespace Go.Proofs.YtdfnnahhgbhmeaaDoor
namespace Rows

/-- THE TIED CARD OF 'sheaveskeep.KnownSums'. -/
def knownSumsCard : Claim7 := { stood := { row := knownSumsRow, standIns := [], harness := (true, "b3c61268a93d84e755c5d33606ebf3cd3d68b913a83907c6abad6b7b5c3afed5"), looks := false }, kinds := [], alts := [], laidByText := true, laidKinds := [.widerDeep, .data, .data], laidTests := true, laidLooks := .later }
def KnownSumsCardSaid : Prop := Claim7.holds Tryd.pinned (.plain (OpenSpec.ofChange knownSumsSpec)) knownSumsCard

/-- THE TIED CARD OF 'sheaveskeep.SumLong'. -/
def sumLongCard : Claim7 := { stood := { row := sumLongRow, standIns := [], harness := (true, "b3c61268a93d84e755c5d33606ebf3cd3d68b913a83907c6abad6b7b5c3afed5"), looks := false }, kinds := [], alts := [], laidByText := true, laidKinds := [.widerDeep, .data, .data], laidTests := true, laidLooks := .later }
def SumLongCardSaid : Prop := Claim7.holds Tryd.pinned (.plain (OpenSpec.ofChange sumLongSpec)) sumLongCard

/-- THE TIED CARD OF 'sheaveskeep.TagLong'. -/
def tagLongCard : Claim7 := { stood := { row := tagLongRow, standIns := [], harness := (true, "b3c61268a93d84e755c5d33606ebf3cd3d68b913a83907c6abad6b7b5c3afed5"), looks := false }, kinds := [], alts := [], laidByText := true, laidKinds := [.widerDeep, .data, .data], laidTests := true, laidLooks := .later }
def TagLongCardSaid : Prop := Claim7.holds Tryd.pinned (.plain (OpenSpec.ofChange tagLongSpec)) tagLongCard

/-- THE TIED CARD OF 'sheaveskeep.TagMade'. -/
def tagMadeCard : Claim7 := { stood := { row := tagMadeRow, standIns := [], harness := (true, "b3c61268a93d84e755c5d33606ebf3cd3d68b913a83907c6abad6b7b5c3afed5"), looks := false }, kinds := [], alts := [], laidByText := true, laidKinds := [.widerDeep, .data, .data], laidTests := true, laidLooks := .later }
def TagMadeCardSaid : Prop := Claim7.holds Tryd.pinned (.plain (OpenSpec.ofChange tagMadeSpec)) tagMadeCard

/-- THE TIED CARD OF 'sheaveskeep.TagEmpty'. -/
def tagEmptyCard : Claim7 := { stood := { row := tagEmptyRow, standIns := [], harness := (true, "b3c61268a93d84e755c5d33606ebf3cd3d68b913a83907c6abad6b7b5c3afed5"), looks := false }, kinds := [], alts := [], laidByText := true, laidKinds := [.widerDeep, .data, .data], laidTests := true, laidLooks := .later }
def TagEmptyCardSaid : Prop := Claim7.holds Tryd.pinned (.plain (OpenSpec.ofChange tagEmptySpec)) tagEmptyCard

/-- THE TIED CARD OF 'sheaveskeep.TagWhole'. -/
def tagWholeCard : Claim7 := { stood := { row := tagWholeRow, standIns := [], harness := (true, "b3c61268a93d84e755c5d33606ebf3cd3d68b913a83907c6abad6b7b5c3afed5"), looks := false }, kinds := [], alts := [], laidByText := true, laidKinds := [.widerDeep, .data, .data], laidTests := true, laidLooks := .later }
def TagWholeCardSaid : Prop := Claim7.holds Tryd.pinned (.plain (OpenSpec.ofChange tagWholeSpec)) tagWholeCard

/-- THE TIED CARD OF 'sheaveskeep.BatchBad'. -/
def batchBadCard : Claim7 := { stood := { row := batchBadRow, standIns := [], harness := (true, "b3c61268a93d84e755c5d33606ebf3cd3d68b913a83907c6abad6b7b5c3afed5"), looks := false }, kinds := [], alts := [], laidByText := true, laidKinds := [.widerDeep, .data, .data], laidTests := true, laidLooks := .later }
def BatchBadCardSaid : Prop := Claim7.holds Tryd.pinned (.plain (OpenSpec.ofChange batchBadSpec)) batchBadCard

/-- THE TIED CARD OF 'sheaveskeep.HeaderBad'. -/
def headerBadCard : Claim7 := { stood := { row := headerBadRow, standIns := [], harness := (true, "b3c61268a93d84e755c5d33606ebf3cd3d68b913a83907c6abad6b7b5c3afed5"), looks := false }, kinds := [], alts := [], laidByText := true, laidKinds := [.widerDeep, .data, .data], laidTests := true, laidLooks := .later }
def HeaderBadCardSaid : Prop := Claim7.holds Tryd.pinned (.plain (OpenSpec.ofChange headerBadSpec)) headerBadCard

/-- THE TIED CARD OF 'sheaveskeep.BallotBad'. -/
def ballotBadCard : Claim7 := { stood := { row := ballotBadRow, standIns := [], harness := (true, "b3c61268a93d84e755c5d33606ebf3cd3d68b913a83907c6abad6b7b5c3afed5"), looks := false }, kinds := [], alts := [], laidByText := true, laidKinds := [.widerDeep, .data, .data], laidTests := true, laidLooks := .later }
def BallotBadCardSaid : Prop := Claim7.holds Tryd.pinned (.plain (OpenSpec.ofChange ballotBadSpec)) ballotBadCard

/-- THE TIED CARD OF 'sheaveskeep.CastBad'. -/
def castBadCard : Claim7 := { stood := { row := castBadRow, standIns := [], harness := (true, "b3c61268a93d84e755c5d33606ebf3cd3d68b913a83907c6abad6b7b5c3afed5"), looks := false }, kinds := [], alts := [], laidByText := true, laidKinds := [.widerDeep, .data, .data], laidTests := true, laidLooks := .later }
def CastBadCardSaid : Prop := Claim7.holds Tryd.pinned (.plain (OpenSpec.ofChange castBadSpec)) castBadCard

/-- THE TIED CARD OF 'sheaveskeep.DigestMade'. -/
def digestMadeCard : Claim7 := { stood := { row := digestMadeRow, standIns := [], harness := (true, "b3c61268a93d84e755c5d33606ebf3cd3d68b913a83907c6abad6b7b5c3afed5"), looks := false }, kinds := [], alts := [], laidByText := true, laidKinds := [.widerDeep, .data, .data], laidTests := true, laidLooks := .later }
def DigestMadeCardSaid : Prop := Claim7.holds Tryd.pinned (.plain (OpenSpec.ofChange digestMadeSpec)) digestMadeCard

/-- THE TIED CARD OF 'sheaveskeep.BatchesBad'. -/
def batchesBadCard : Claim7 := { stood := { row := batchesBadRow, standIns := [], harness := (true, "b3c61268a93d84e755c5d33606ebf3cd3d68b913a83907c6abad6b7b5c3afed5"), looks := false }, kinds := [], alts := [], laidByText := true, laidKinds := [.widerDeep, .data, .data], laidTests := true, laidLooks := .later }
def BatchesBadCardSaid : Prop := Claim7.holds Tryd.pinned (.plain (OpenSpec.ofChange batchesBadSpec)) batchesBadCard

/-- THE SECOND FORM's CARD OF 'sheaveskeep.KnownSums'. -/
def knownSumsUptoCard : Claim7 := { stood := { row := knownSumsUptoRow, standIns := [], harness := (true, "b3c61268a93d84e755c5d33606ebf3cd3d68b913a83907c6abad6b7b5c3afed5"), looks := false }, kinds := [], alts := [], laidByText := true, laidKinds := [.widerDeep, .data, .data], laidTests := true, laidLooks := .later }
def KnownSumsUptoCardSaid : Prop := Claim7.holds Tryd.pinned (.plain (OpenSpec.upto knownSumsSpec)) knownSumsUptoCard

/-- THE SECOND FORM's CARD OF 'sheaveskeep.SumLong'. -/
def sumLongUptoCard : Claim7 := { stood := { row := sumLongUptoRow, standIns := [], harness := (true, "b3c61268a93d84e755c5d33606ebf3cd3d68b913a83907c6abad6b7b5c3afed5"), looks := false }, kinds := [], alts := [], laidByText := true, laidKinds := [.widerDeep, .data, .data], laidTests := true, laidLooks := .later }
def SumLongUptoCardSaid : Prop := Claim7.holds Tryd.pinned (.plain (OpenSpec.upto sumLongSpec)) sumLongUptoCard

/-- THE SECOND FORM's CARD OF 'sheaveskeep.TagLong'. -/
def tagLongUptoCard : Claim7 := { stood := { row := tagLongUptoRow, standIns := [], harness := (true, "b3c61268a93d84e755c5d33606ebf3cd3d68b913a83907c6abad6b7b5c3afed5"), looks := false }, kinds := [], alts := [], laidByText := true, laidKinds := [.widerDeep, .data, .data], laidTests := true, laidLooks := .later }
def TagLongUptoCardSaid : Prop := Claim7.holds Tryd.pinned (.plain (OpenSpec.upto tagLongSpec)) tagLongUptoCard

/-- THE SECOND FORM's CARD OF 'sheaveskeep.TagMade'. -/
def tagMadeUptoCard : Claim7 := { stood := { row := tagMadeUptoRow, standIns := [], harness := (true, "b3c61268a93d84e755c5d33606ebf3cd3d68b913a83907c6abad6b7b5c3afed5"), looks := false }, kinds := [], alts := [], laidByText := true, laidKinds := [.widerDeep, .data, .data], laidTests := true, laidLooks := .later }
def TagMadeUptoCardSaid : Prop := Claim7.holds Tryd.pinned (.plain (OpenSpec.upto tagMadeSpec)) tagMadeUptoCard

/-- THE SECOND FORM's CARD OF 'sheaveskeep.TagEmpty'. -/
def tagEmptyUptoCard : Claim7 := { stood := { row := tagEmptyUptoRow, standIns := [], harness := (true, "b3c61268a93d84e755c5d33606ebf3cd3d68b913a83907c6abad6b7b5c3afed5"), looks := false }, kinds := [], alts := [], laidByText := true, laidKinds := [.widerDeep, .data, .data], laidTests := true, laidLooks := .later }
def TagEmptyUptoCardSaid : Prop := Claim7.holds Tryd.pinned (.plain (OpenSpec.upto tagEmptySpec)) tagEmptyUptoCard

/-- THE SECOND FORM's CARD OF 'sheaveskeep.TagWhole'. -/
def tagWholeUptoCard : Claim7 := { stood := { row := tagWholeUptoRow, standIns := [], harness := (true, "b3c61268a93d84e755c5d33606ebf3cd3d68b913a83907c6abad6b7b5c3afed5"), looks := false }, kinds := [], alts := [], laidByText := true, laidKinds := [.widerDeep, .data, .data], laidTests := true, laidLooks := .later }
def TagWholeUptoCardSaid : Prop := Claim7.holds Tryd.pinned (.plain (OpenSpec.upto tagWholeSpec)) tagWholeUptoCard

/-- THE SECOND FORM's CARD OF 'sheaveskeep.BatchBad'. -/
def batchBadUptoCard : Claim7 := { stood := { row := batchBadUptoRow, standIns := [], harness := (true, "b3c61268a93d84e755c5d33606ebf3cd3d68b913a83907c6abad6b7b5c3afed5"), looks := false }, kinds := [], alts := [], laidByText := true, laidKinds := [.widerDeep, .data, .data], laidTests := true, laidLooks := .later }
def BatchBadUptoCardSaid : Prop := Claim7.holds Tryd.pinned (.plain (OpenSpec.upto batchBadSpec)) batchBadUptoCard

/-- THE SECOND FORM's CARD OF 'sheaveskeep.HeaderBad'. -/
def headerBadUptoCard : Claim7 := { stood := { row := headerBadUptoRow, standIns := [], harness := (true, "b3c61268a93d84e755c5d33606ebf3cd3d68b913a83907c6abad6b7b5c3afed5"), looks := false }, kinds := [], alts := [], laidByText := true, laidKinds := [.widerDeep, .data, .data], laidTests := true, laidLooks := .later }
def HeaderBadUptoCardSaid : Prop := Claim7.holds Tryd.pinned (.plain (OpenSpec.upto headerBadSpec)) headerBadUptoCard

/-- THE SECOND FORM's CARD OF 'sheaveskeep.BallotBad'. -/
def ballotBadUptoCard : Claim7 := { stood := { row := ballotBadUptoRow, standIns := [], harness := (true, "b3c61268a93d84e755c5d33606ebf3cd3d68b913a83907c6abad6b7b5c3afed5"), looks := false }, kinds := [], alts := [], laidByText := true, laidKinds := [.widerDeep, .data, .data], laidTests := true, laidLooks := .later }
def BallotBadUptoCardSaid : Prop := Claim7.holds Tryd.pinned (.plain (OpenSpec.upto ballotBadSpec)) ballotBadUptoCard

/-- THE SECOND FORM's CARD OF 'sheaveskeep.CastBad'. -/
def castBadUptoCard : Claim7 := { stood := { row := castBadUptoRow, standIns := [], harness := (true, "b3c61268a93d84e755c5d33606ebf3cd3d68b913a83907c6abad6b7b5c3afed5"), looks := false }, kinds := [], alts := [], laidByText := true, laidKinds := [.widerDeep, .data, .data], laidTests := true, laidLooks := .later }
def CastBadUptoCardSaid : Prop := Claim7.holds Tryd.pinned (.plain (OpenSpec.upto castBadSpec)) castBadUptoCard

/-- THE SECOND FORM's CARD OF 'sheaveskeep.DigestMade'. -/
def digestMadeUptoCard : Claim7 := { stood := { row := digestMadeUptoRow, standIns := [], harness := (true, "b3c61268a93d84e755c5d33606ebf3cd3d68b913a83907c6abad6b7b5c3afed5"), looks := false }, kinds := [], alts := [], laidByText := true, laidKinds := [.widerDeep, .data, .data], laidTests := true, laidLooks := .later }
def DigestMadeUptoCardSaid : Prop := Claim7.holds Tryd.pinned (.plain (OpenSpec.upto digestMadeSpec)) digestMadeUptoCard

/-- THE SECOND FORM's CARD OF 'sheaveskeep.BatchesBad'. -/
def batchesBadUptoCard : Claim7 := { stood := { row := batchesBadUptoRow, standIns := [], harness := (true, "b3c61268a93d84e755c5d33606ebf3cd3d68b913a83907c6abad6b7b5c3afed5"), looks := false }, kinds := [], alts := [], laidByText := true, laidKinds := [.widerDeep, .data, .data], laidTests := true, laidLooks := .later }
def BatchesBadUptoCardSaid : Prop := Claim7.holds Tryd.pinned (.plain (OpenSpec.upto batchesBadSpec)) batchesBadUptoCard
end Rows
end Go.Proofs.YtdfnnahhgbhmeaaDoor
