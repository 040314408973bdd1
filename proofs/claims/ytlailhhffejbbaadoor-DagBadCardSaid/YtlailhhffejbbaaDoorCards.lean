/-
  DERIVED. GIVEN WITH THE SEED: THE CARDS: each row of YtlailhhffejbbaaDoorRows.lean that lists a variable, with what it lists TIED to the program's text (the seventh form; the later family's looks); each row that meets fmt, with fmt's text TOLD by the authors' own Lean function (tested against real Go, not proved from fmt's source: count such statements apart). THE CARD IS WHAT COUNTS. Prove the row's statement (the work); the ties are given (YtlailhhffejbbaaDoorTie.lean); close each card by the builder's one call (the guide's Derived/Test/ToyasCard.lean, 'card_holds'). Laid BY PROGRAM, IN A SANDBOX (cutbox-door.mjs). By AI agents, Wed Nov 11 2026. No macro, syntax, notation, axiom, sorry.
-/
import Derived.Test.YtlailhhffejbbaaDoorRows
import GoSem.ClaimSeven
namespace Go.Proofs.YtlailhhffejbbaaDoor
namespace Rows

/-- THE TIED CARD OF 'sheaveskeep.DagGrows'. -/
def dagGrowsCard : Claim7 := { stood := { row := dagGrowsRow, standIns := [], harness := (true, "6a1cfc5a38d635d3dd0f6bba8346d0e6b89e6ee32f5f03daae590949f02e8154"), looks := false }, kinds := [], alts := [], laidByText := true, laidKinds := [.widerDeep, .data, .data], laidTests := true, laidLooks := .later }
def DagGrowsCardSaid : Prop := Claim7.holds Tryd.pinned (.plain (OpenSpec.ofChange dagGrowsSpec)) dagGrowsCard

/-- THE TIED CARD OF 'sheaveskeep.DagBad'. -/
def dagBadCard : Claim7 := { stood := { row := dagBadRow, standIns := [], harness := (true, "6a1cfc5a38d635d3dd0f6bba8346d0e6b89e6ee32f5f03daae590949f02e8154"), looks := false }, kinds := [], alts := [], laidByText := true, laidKinds := [.widerDeep, .data, .data], laidTests := true, laidLooks := .later }
def DagBadCardSaid : Prop := Claim7.holds Tryd.pinned (.plain (OpenSpec.ofChange dagBadSpec)) dagBadCard

/-- THE TIED CARD OF 'sheaveskeep.DagVoters'. -/
def dagVotersCard : Claim7 := { stood := { row := dagVotersRow, standIns := [], harness := (true, "6a1cfc5a38d635d3dd0f6bba8346d0e6b89e6ee32f5f03daae590949f02e8154"), looks := false }, kinds := [], alts := [], laidByText := true, laidKinds := [.widerDeep, .data, .data], laidTests := true, laidLooks := .later }
def DagVotersCardSaid : Prop := Claim7.holds Tryd.pinned (.plain (OpenSpec.ofChange dagVotersSpec)) dagVotersCard

/-- THE TIED CARD OF 'sheaveskeep.RoundNext'. -/
def roundNextCard : Claim7 := { stood := { row := roundNextRow, standIns := [], harness := (true, "6a1cfc5a38d635d3dd0f6bba8346d0e6b89e6ee32f5f03daae590949f02e8154"), looks := false }, kinds := [], alts := [], laidByText := true, laidKinds := [.widerDeep, .data, .data], laidTests := true, laidLooks := .later }
def RoundNextCardSaid : Prop := Claim7.holds Tryd.pinned (.plain (OpenSpec.ofChange roundNextSpec)) roundNextCard

/-- THE TIED CARD OF 'sheaveskeep.InsertNone'. -/
def insertNoneCard : Claim7 := { stood := { row := insertNoneRow, standIns := [], harness := (true, "6a1cfc5a38d635d3dd0f6bba8346d0e6b89e6ee32f5f03daae590949f02e8154"), looks := false }, kinds := [], alts := [], laidByText := true, laidKinds := [.widerDeep, .data, .data], laidTests := true, laidLooks := .later }
def InsertNoneCardSaid : Prop := Claim7.holds Tryd.pinned (.plain (OpenSpec.ofChange insertNoneSpec)) insertNoneCard

/-- THE TIED CARD OF 'sheaveskeep.MissingSome'. -/
def missingSomeCard : Claim7 := { stood := { row := missingSomeRow, standIns := [], harness := (true, "6a1cfc5a38d635d3dd0f6bba8346d0e6b89e6ee32f5f03daae590949f02e8154"), looks := false }, kinds := [], alts := [], laidByText := true, laidKinds := [.widerDeep, .data, .data], laidTests := true, laidLooks := .later }
def MissingSomeCardSaid : Prop := Claim7.holds Tryd.pinned (.plain (OpenSpec.ofChange missingSomeSpec)) missingSomeCard

/-- THE TIED CARD OF 'sheaveskeep.DagClosed'. -/
def dagClosedCard : Claim7 := { stood := { row := dagClosedRow, standIns := [], harness := (true, "6a1cfc5a38d635d3dd0f6bba8346d0e6b89e6ee32f5f03daae590949f02e8154"), looks := false }, kinds := [], alts := [], laidByText := true, laidKinds := [.widerDeep, .data, .data], laidTests := true, laidLooks := .later }
def DagClosedCardSaid : Prop := Claim7.holds Tryd.pinned (.plain (OpenSpec.ofChange dagClosedSpec)) dagClosedCard

/-- THE TIED CARD OF 'sheaveskeep.HistoryOne'. -/
def historyOneCard : Claim7 := { stood := { row := historyOneRow, standIns := [], harness := (true, "6a1cfc5a38d635d3dd0f6bba8346d0e6b89e6ee32f5f03daae590949f02e8154"), looks := false }, kinds := [], alts := [], laidByText := true, laidKinds := [.widerDeep, .data, .data], laidTests := true, laidLooks := .later }
def HistoryOneCardSaid : Prop := Claim7.holds Tryd.pinned (.plain (OpenSpec.ofChange historyOneSpec)) historyOneCard

/-- THE TIED CARD OF 'sheaveskeep.HistoryClosed'. -/
def historyClosedCard : Claim7 := { stood := { row := historyClosedRow, standIns := [], harness := (true, "6a1cfc5a38d635d3dd0f6bba8346d0e6b89e6ee32f5f03daae590949f02e8154"), looks := false }, kinds := [], alts := [], laidByText := true, laidKinds := [.widerDeep, .data, .data], laidTests := true, laidLooks := .later }
def HistoryClosedCardSaid : Prop := Claim7.holds Tryd.pinned (.plain (OpenSpec.ofChange historyClosedSpec)) historyClosedCard

/-- THE TIED CARD OF 'sheaveskeep.HistoryLeast'. -/
def historyLeastCard : Claim7 := { stood := { row := historyLeastRow, standIns := [], harness := (true, "6a1cfc5a38d635d3dd0f6bba8346d0e6b89e6ee32f5f03daae590949f02e8154"), looks := false }, kinds := [], alts := [], laidByText := true, laidKinds := [.widerDeep, .data, .data], laidTests := true, laidLooks := .later }
def HistoryLeastCardSaid : Prop := Claim7.holds Tryd.pinned (.plain (OpenSpec.ofChange historyLeastSpec)) historyLeastCard

/-- THE TIED CARD OF 'sheaveskeep.HistoryOrder'. -/
def historyOrderCard : Claim7 := { stood := { row := historyOrderRow, standIns := [], harness := (true, "6a1cfc5a38d635d3dd0f6bba8346d0e6b89e6ee32f5f03daae590949f02e8154"), looks := false }, kinds := [], alts := [], laidByText := true, laidKinds := [.widerDeep, .data, .data], laidTests := true, laidLooks := .later }
def HistoryOrderCardSaid : Prop := Claim7.holds Tryd.pinned (.plain (OpenSpec.ofChange historyOrderSpec)) historyOrderCard

/-- THE SECOND FORM's CARD OF 'sheaveskeep.DagGrows'. -/
def dagGrowsUptoCard : Claim7 := { stood := { row := dagGrowsUptoRow, standIns := [], harness := (true, "6a1cfc5a38d635d3dd0f6bba8346d0e6b89e6ee32f5f03daae590949f02e8154"), looks := false }, kinds := [], alts := [], laidByText := true, laidKinds := [.widerDeep, .data, .data], laidTests := true, laidLooks := .later }
def DagGrowsUptoCardSaid : Prop := Claim7.holds Tryd.pinned (.plain (OpenSpec.upto dagGrowsSpec)) dagGrowsUptoCard

/-- THE SECOND FORM's CARD OF 'sheaveskeep.DagBad'. -/
def dagBadUptoCard : Claim7 := { stood := { row := dagBadUptoRow, standIns := [], harness := (true, "6a1cfc5a38d635d3dd0f6bba8346d0e6b89e6ee32f5f03daae590949f02e8154"), looks := false }, kinds := [], alts := [], laidByText := true, laidKinds := [.widerDeep, .data, .data], laidTests := true, laidLooks := .later }
def DagBadUptoCardSaid : Prop := Claim7.holds Tryd.pinned (.plain (OpenSpec.upto dagBadSpec)) dagBadUptoCard

/-- THE SECOND FORM's CARD OF 'sheaveskeep.DagVoters'. -/
def dagVotersUptoCard : Claim7 := { stood := { row := dagVotersUptoRow, standIns := [], harness := (true, "6a1cfc5a38d635d3dd0f6bba8346d0e6b89e6ee32f5f03daae590949f02e8154"), looks := false }, kinds := [], alts := [], laidByText := true, laidKinds := [.widerDeep, .data, .data], laidTests := true, laidLooks := .later }
def DagVotersUptoCardSaid : Prop := Claim7.holds Tryd.pinned (.plain (OpenSpec.upto dagVotersSpec)) dagVotersUptoCard

/-- THE SECOND FORM's CARD OF 'sheaveskeep.RoundNext'. -/
def roundNextUptoCard : Claim7 := { stood := { row := roundNextUptoRow, standIns := [], harness := (true, "6a1cfc5a38d635d3dd0f6bba8346d0e6b89e6ee32f5f03daae590949f02e8154"), looks := false }, kinds := [], alts := [], laidByText := true, laidKinds := [.widerDeep, .data, .data], laidTests := true, laidLooks := .later }
def RoundNextUptoCardSaid : Prop := Claim7.holds Tryd.pinned (.plain (OpenSpec.upto roundNextSpec)) roundNextUptoCard

/-- THE SECOND FORM's CARD OF 'sheaveskeep.InsertNone'. -/
def insertNoneUptoCard : Claim7 := { stood := { row := insertNoneUptoRow, standIns := [], harness := (true, "6a1cfc5a38d635d3dd0f6bba8346d0e6b89e6ee32f5f03daae590949f02e8154"), looks := false }, kinds := [], alts := [], laidByText := true, laidKinds := [.widerDeep, .data, .data], laidTests := true, laidLooks := .later }
def InsertNoneUptoCardSaid : Prop := Claim7.holds Tryd.pinned (.plain (OpenSpec.upto insertNoneSpec)) insertNoneUptoCard

/-- THE SECOND FORM's CARD OF 'sheaveskeep.MissingSome'. -/
def missingSomeUptoCard : Claim7 := { stood := { row := missingSomeUptoRow, standIns := [], harness := (true, "6a1cfc5a38d635d3dd0f6bba8346d0e6b89e6ee32f5f03daae590949f02e8154"), looks := false }, kinds := [], alts := [], laidByText := true, laidKinds := [.widerDeep, .data, .data], laidTests := true, laidLooks := .later }
def MissingSomeUptoCardSaid : Prop := Claim7.holds Tryd.pinned (.plain (OpenSpec.upto missingSomeSpec)) missingSomeUptoCard

/-- THE SECOND FORM's CARD OF 'sheaveskeep.DagClosed'. -/
def dagClosedUptoCard : Claim7 := { stood := { row := dagClosedUptoRow, standIns := [], harness := (true, "6a1cfc5a38d635d3dd0f6bba8346d0e6b89e6ee32f5f03daae590949f02e8154"), looks := false }, kinds := [], alts := [], laidByText := true, laidKinds := [.widerDeep, .data, .data], laidTests := true, laidLooks := .later }
def DagClosedUptoCardSaid : Prop := Claim7.holds Tryd.pinned (.plain (OpenSpec.upto dagClosedSpec)) dagClosedUptoCard

/-- THE SECOND FORM's CARD OF 'sheaveskeep.HistoryOne'. -/
def historyOneUptoCard : Claim7 := { stood := { row := historyOneUptoRow, standIns := [], harness := (true, "6a1cfc5a38d635d3dd0f6bba8346d0e6b89e6ee32f5f03daae590949f02e8154"), looks := false }, kinds := [], alts := [], laidByText := true, laidKinds := [.widerDeep, .data, .data], laidTests := true, laidLooks := .later }
def HistoryOneUptoCardSaid : Prop := Claim7.holds Tryd.pinned (.plain (OpenSpec.upto historyOneSpec)) historyOneUptoCard

/-- THE SECOND FORM's CARD OF 'sheaveskeep.HistoryClosed'. -/
def historyClosedUptoCard : Claim7 := { stood := { row := historyClosedUptoRow, standIns := [], harness := (true, "6a1cfc5a38d635d3dd0f6bba8346d0e6b89e6ee32f5f03daae590949f02e8154"), looks := false }, kinds := [], alts := [], laidByText := true, laidKinds := [.widerDeep, .data, .data], laidTests := true, laidLooks := .later }
def HistoryClosedUptoCardSaid : Prop := Claim7.holds Tryd.pinned (.plain (OpenSpec.upto historyClosedSpec)) historyClosedUptoCard

/-- THE SECOND FORM's CARD OF 'sheaveskeep.HistoryLeast'. -/
def historyLeastUptoCard : Claim7 := { stood := { row := historyLeastUptoRow, standIns := [], harness := (true, "6a1cfc5a38d635d3dd0f6bba8346d0e6b89e6ee32f5f03daae590949f02e8154"), looks := false }, kinds := [], alts := [], laidByText := true, laidKinds := [.widerDeep, .data, .data], laidTests := true, laidLooks := .later }
def HistoryLeastUptoCardSaid : Prop := Claim7.holds Tryd.pinned (.plain (OpenSpec.upto historyLeastSpec)) historyLeastUptoCard

/-- THE SECOND FORM's CARD OF 'sheaveskeep.HistoryOrder'. -/
def historyOrderUptoCard : Claim7 := { stood := { row := historyOrderUptoRow, standIns := [], harness := (true, "6a1cfc5a38d635d3dd0f6bba8346d0e6b89e6ee32f5f03daae590949f02e8154"), looks := false }, kinds := [], alts := [], laidByText := true, laidKinds := [.widerDeep, .data, .data], laidTests := true, laidLooks := .later }
def HistoryOrderUptoCardSaid : Prop := Claim7.holds Tryd.pinned (.plain (OpenSpec.upto historyOrderSpec)) historyOrderUptoCard
end Rows
end Go.Proofs.YtlailhhffejbbaaDoor
