/-
  DERIVED. GIVEN WITH THE SEED: THE CARDS: each row of YtpfmmncnhlfdgaaDoorRows.lean that lists a variable, with what it lists TIED to the program's text (the seventh form; the later family's looks); each row that meets fmt, with fmt's text TOLD by the authors' own Lean function (tested against real Go, not proved from fmt's source: count such statements apart). THE CARD IS WHAT COUNTS. Prove the row's statement (the work); the ties are given (YtpfmmncnhlfdgaaDoorTie.lean); close each card by the builder's one call (the guide's Derived/Test/ToyasCard.lean, 'card_holds'). Laid BY PROGRAM, IN A SANDBOX (cutbox-door.mjs). By AI agents, Wed Nov 11 2026. No macro, syntax, notation, axiom, sorry.
-/
import Derived.Test.YtpfmmncnhlfdgaaDoorRows
import GoSem.ClaimSeven
namespace Go.Proofs.YtpfmmncnhlfdgaaDoor
namespace Rows

/-- THE TIED CARD OF 'sheaveskeep.HistoryOne'. -/
def historyOneCard : Claim7 := { stood := { row := historyOneRow, standIns := [], harness := (true, "95ed8a58b13c456652d1ff85d1d7483182401c33c6b9863b2b772183b8c98c2d"), looks := false }, kinds := [], alts := [], laidByText := true, laidKinds := [.widerDeep, .data, .data], laidTests := true, laidLooks := .later }
def HistoryOneCardSaid : Prop := Claim7.holds Tryd.pinned (.plain (OpenSpec.ofChange historyOneSpec)) historyOneCard

/-- THE TIED CARD OF 'sheaveskeep.HistoryClosed'. -/
def historyClosedCard : Claim7 := { stood := { row := historyClosedRow, standIns := [], harness := (true, "95ed8a58b13c456652d1ff85d1d7483182401c33c6b9863b2b772183b8c98c2d"), looks := false }, kinds := [], alts := [], laidByText := true, laidKinds := [.widerDeep, .data, .data], laidTests := true, laidLooks := .later }
def HistoryClosedCardSaid : Prop := Claim7.holds Tryd.pinned (.plain (OpenSpec.ofChange historyClosedSpec)) historyClosedCard

/-- THE TIED CARD OF 'sheaveskeep.HistoryLeast'. -/
def historyLeastCard : Claim7 := { stood := { row := historyLeastRow, standIns := [], harness := (true, "95ed8a58b13c456652d1ff85d1d7483182401c33c6b9863b2b772183b8c98c2d"), looks := false }, kinds := [], alts := [], laidByText := true, laidKinds := [.widerDeep, .data, .data], laidTests := true, laidLooks := .later }
def HistoryLeastCardSaid : Prop := Claim7.holds Tryd.pinned (.plain (OpenSpec.ofChange historyLeastSpec)) historyLeastCard

/-- THE TIED CARD OF 'sheaveskeep.HistoryOrder'. -/
def historyOrderCard : Claim7 := { stood := { row := historyOrderRow, standIns := [], harness := (true, "95ed8a58b13c456652d1ff85d1d7483182401c33c6b9863b2b772183b8c98c2d"), looks := false }, kinds := [], alts := [], laidByText := true, laidKinds := [.widerDeep, .data, .data], laidTests := true, laidLooks := .later }
def HistoryOrderCardSaid : Prop := Claim7.holds Tryd.pinned (.plain (OpenSpec.ofChange historyOrderSpec)) historyOrderCard

/-- THE TIED CARD OF 'sheaveskeep.BlockSame'. -/
def blockSameCard : Claim7 := { stood := { row := blockSameRow, standIns := [], harness := (true, "95ed8a58b13c456652d1ff85d1d7483182401c33c6b9863b2b772183b8c98c2d"), looks := false }, kinds := [], alts := [], laidByText := true, laidKinds := [.widerDeep, .data, .data], laidTests := true, laidLooks := .later }
def BlockSameCardSaid : Prop := Claim7.holds Tryd.pinned (.plain (OpenSpec.ofChange blockSameSpec)) blockSameCard

/-- THE TIED CARD OF 'sheaveskeep.BlockGrows'. -/
def blockGrowsCard : Claim7 := { stood := { row := blockGrowsRow, standIns := [], harness := (true, "95ed8a58b13c456652d1ff85d1d7483182401c33c6b9863b2b772183b8c98c2d"), looks := false }, kinds := [], alts := [], laidByText := true, laidKinds := [.widerDeep, .data, .data], laidTests := true, laidLooks := .later }
def BlockGrowsCardSaid : Prop := Claim7.holds Tryd.pinned (.plain (OpenSpec.ofChange blockGrowsSpec)) blockGrowsCard

/-- THE TIED CARD OF 'sheaveskeep.BlockOnce'. -/
def blockOnceCard : Claim7 := { stood := { row := blockOnceRow, standIns := [], harness := (true, "95ed8a58b13c456652d1ff85d1d7483182401c33c6b9863b2b772183b8c98c2d"), looks := false }, kinds := [], alts := [], laidByText := true, laidKinds := [.widerDeep, .data, .data], laidTests := true, laidLooks := .later }
def BlockOnceCardSaid : Prop := Claim7.holds Tryd.pinned (.plain (OpenSpec.ofChange blockOnceSpec)) blockOnceCard

/-- THE TIED CARD OF 'sheaveskeep.BlockNone'. -/
def blockNoneCard : Claim7 := { stood := { row := blockNoneRow, standIns := [], harness := (true, "95ed8a58b13c456652d1ff85d1d7483182401c33c6b9863b2b772183b8c98c2d"), looks := false }, kinds := [], alts := [], laidByText := true, laidKinds := [.widerDeep, .data, .data], laidTests := true, laidLooks := .later }
def BlockNoneCardSaid : Prop := Claim7.holds Tryd.pinned (.plain (OpenSpec.ofChange blockNoneSpec)) blockNoneCard

/-- THE SECOND FORM's CARD OF 'sheaveskeep.HistoryOne'. -/
def historyOneUptoCard : Claim7 := { stood := { row := historyOneUptoRow, standIns := [], harness := (true, "95ed8a58b13c456652d1ff85d1d7483182401c33c6b9863b2b772183b8c98c2d"), looks := false }, kinds := [], alts := [], laidByText := true, laidKinds := [.widerDeep, .data, .data], laidTests := true, laidLooks := .later }
def HistoryOneUptoCardSaid : Prop := Claim7.holds Tryd.pinned (.plain (OpenSpec.upto historyOneSpec)) historyOneUptoCard

/-- THE SECOND FORM's CARD OF 'sheaveskeep.HistoryClosed'. -/
def historyClosedUptoCard : Claim7 := { stood := { row := historyClosedUptoRow, standIns := [], harness := (true, "95ed8a58b13c456652d1ff85d1d7483182401c33c6b9863b2b772183b8c98c2d"), looks := false }, kinds := [], alts := [], laidByText := true, laidKinds := [.widerDeep, .data, .data], laidTests := true, laidLooks := .later }
def HistoryClosedUptoCardSaid : Prop := Claim7.holds Tryd.pinned (.plain (OpenSpec.upto historyClosedSpec)) historyClosedUptoCard

/-- THE SECOND FORM's CARD OF 'sheaveskeep.HistoryLeast'. -/
def historyLeastUptoCard : Claim7 := { stood := { row := historyLeastUptoRow, standIns := [], harness := (true, "95ed8a58b13c456652d1ff85d1d7483182401c33c6b9863b2b772183b8c98c2d"), looks := false }, kinds := [], alts := [], laidByText := true, laidKinds := [.widerDeep, .data, .data], laidTests := true, laidLooks := .later }
def HistoryLeastUptoCardSaid : Prop := Claim7.holds Tryd.pinned (.plain (OpenSpec.upto historyLeastSpec)) historyLeastUptoCard

/-- THE SECOND FORM's CARD OF 'sheaveskeep.HistoryOrder'. -/
def historyOrderUptoCard : Claim7 := { stood := { row := historyOrderUptoRow, standIns := [], harness := (true, "95ed8a58b13c456652d1ff85d1d7483182401c33c6b9863b2b772183b8c98c2d"), looks := false }, kinds := [], alts := [], laidByText := true, laidKinds := [.widerDeep, .data, .data], laidTests := true, laidLooks := .later }
def HistoryOrderUptoCardSaid : Prop := Claim7.holds Tryd.pinned (.plain (OpenSpec.upto historyOrderSpec)) historyOrderUptoCard

/-- THE SECOND FORM's CARD OF 'sheaveskeep.BlockSame'. -/
def blockSameUptoCard : Claim7 := { stood := { row := blockSameUptoRow, standIns := [], harness := (true, "95ed8a58b13c456652d1ff85d1d7483182401c33c6b9863b2b772183b8c98c2d"), looks := false }, kinds := [], alts := [], laidByText := true, laidKinds := [.widerDeep, .data, .data], laidTests := true, laidLooks := .later }
def BlockSameUptoCardSaid : Prop := Claim7.holds Tryd.pinned (.plain (OpenSpec.upto blockSameSpec)) blockSameUptoCard

/-- THE SECOND FORM's CARD OF 'sheaveskeep.BlockGrows'. -/
def blockGrowsUptoCard : Claim7 := { stood := { row := blockGrowsUptoRow, standIns := [], harness := (true, "95ed8a58b13c456652d1ff85d1d7483182401c33c6b9863b2b772183b8c98c2d"), looks := false }, kinds := [], alts := [], laidByText := true, laidKinds := [.widerDeep, .data, .data], laidTests := true, laidLooks := .later }
def BlockGrowsUptoCardSaid : Prop := Claim7.holds Tryd.pinned (.plain (OpenSpec.upto blockGrowsSpec)) blockGrowsUptoCard

/-- THE SECOND FORM's CARD OF 'sheaveskeep.BlockOnce'. -/
def blockOnceUptoCard : Claim7 := { stood := { row := blockOnceUptoRow, standIns := [], harness := (true, "95ed8a58b13c456652d1ff85d1d7483182401c33c6b9863b2b772183b8c98c2d"), looks := false }, kinds := [], alts := [], laidByText := true, laidKinds := [.widerDeep, .data, .data], laidTests := true, laidLooks := .later }
def BlockOnceUptoCardSaid : Prop := Claim7.holds Tryd.pinned (.plain (OpenSpec.upto blockOnceSpec)) blockOnceUptoCard

/-- THE SECOND FORM's CARD OF 'sheaveskeep.BlockNone'. -/
def blockNoneUptoCard : Claim7 := { stood := { row := blockNoneUptoRow, standIns := [], harness := (true, "95ed8a58b13c456652d1ff85d1d7483182401c33c6b9863b2b772183b8c98c2d"), looks := false }, kinds := [], alts := [], laidByText := true, laidKinds := [.widerDeep, .data, .data], laidTests := true, laidLooks := .later }
def BlockNoneUptoCardSaid : Prop := Claim7.holds Tryd.pinned (.plain (OpenSpec.upto blockNoneSpec)) blockNoneUptoCard
end Rows
end Go.Proofs.YtpfmmncnhlfdgaaDoor
