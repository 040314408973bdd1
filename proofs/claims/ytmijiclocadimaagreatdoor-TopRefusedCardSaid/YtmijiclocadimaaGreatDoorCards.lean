/-
  DERIVED. GIVEN WITH THE SEED: THE CARDS: each row of YtmijiclocadimaaGreatDoorRows.lean that lists a variable, with what it lists TIED to the program's text (the seventh form; the later family's looks); each row that meets fmt, with fmt's text TOLD by the authors' own Lean function (tested against real Go, not proved from fmt's source: count such statements apart). THE CARD IS WHAT COUNTS. Prove the row's statement (the work); the ties are given (YtmijiclocadimaaGreatDoorTie.lean); close each card by the builder's one call (the guide's Derived/Test/ToyasCard.lean, 'card_holds'). Laid BY PROGRAM, IN A SANDBOX (cutbox-door.mjs). By AI agents, Wed Nov 11 2026. No macro, syntax, notation, axiom, sorry.
-/
import Derived.Test.YtmijiclocadimaaGreatDoorRows
import GoSem.ClaimSeven
namespace Go.Proofs.YtmijiclocadimaaGreatDoor
namespace Rows

/-- THE TIED CARD OF 'sheavestop.TopCodes'. -/
def topCodesCard : Claim7 := { stood := { row := topCodesRow, standIns := [], harness := (true, "845422deda468678387a082f12334de11568273b2b7f0fdfdc4c0426320b7be0"), looks := false }, kinds := [], alts := [], laidByText := true, laidKinds := [.widerDeep, .data, .data], laidTests := true, laidLooks := .later }
def TopCodesCardSaid : Prop := Claim7.holds Tryz.pinned (.plain (OpenSpec.ofChange topCodesSpec)) topCodesCard

/-- THE TIED CARD OF 'sheavestop.TopQuiet'. -/
def topQuietCard : Claim7 := { stood := { row := topQuietRow, standIns := [], harness := (true, "845422deda468678387a082f12334de11568273b2b7f0fdfdc4c0426320b7be0"), looks := false }, kinds := [], alts := [], laidByText := true, laidKinds := [.widerDeep, .data, .data], laidTests := true, laidLooks := .later }
def TopQuietCardSaid : Prop := Claim7.holds Tryz.pinned (.plain (OpenSpec.ofChange topQuietSpec)) topQuietCard

/-- THE TIED CARD OF 'sheavestop.TopRefused'. -/
def topRefusedCard : Claim7 := { stood := { row := topRefusedRow, standIns := [], harness := (true, "845422deda468678387a082f12334de11568273b2b7f0fdfdc4c0426320b7be0"), looks := false }, kinds := [], alts := [], laidByText := true, laidKinds := [.widerDeep, .data, .data], laidTests := true, laidLooks := .later }
def TopRefusedCardSaid : Prop := Claim7.holds Tryz.pinned (.plain (OpenSpec.ofChange topRefusedSpec)) topRefusedCard

/-- THE TIED CARD OF 'sheavestop.TopFlow'. -/
def topFlowCard : Claim7 := { stood := { row := topFlowRow, standIns := [], harness := (true, "845422deda468678387a082f12334de11568273b2b7f0fdfdc4c0426320b7be0"), looks := false }, kinds := [], alts := [], laidByText := true, laidKinds := [.widerDeep, .data, .data], laidTests := true, laidLooks := .later }
def TopFlowCardSaid : Prop := Claim7.holds Tryz.pinned (.plain (OpenSpec.ofChange topFlowSpec)) topFlowCard

/-- THE TIED CARD OF 'sheavestop.TopPick'. -/
def topPickCard : Claim7 := { stood := { row := topPickRow, standIns := [], harness := (true, "845422deda468678387a082f12334de11568273b2b7f0fdfdc4c0426320b7be0"), looks := false }, kinds := [], alts := [], laidByText := true, laidKinds := [.widerDeep, .data, .data], laidTests := true, laidLooks := .later }
def TopPickCardSaid : Prop := Claim7.holds Tryz.pinned (.plain (OpenSpec.ofChange topPickSpec)) topPickCard

/-- THE TIED CARD OF 'sheavestop.TopLost'. -/
def topLostCard : Claim7 := { stood := { row := topLostRow, standIns := [], harness := (true, "845422deda468678387a082f12334de11568273b2b7f0fdfdc4c0426320b7be0"), looks := false }, kinds := [], alts := [], laidByText := true, laidKinds := [.widerDeep, .data, .data], laidTests := true, laidLooks := .later }
def TopLostCardSaid : Prop := Claim7.holds Tryz.pinned (.plain (OpenSpec.ofChange topLostSpec)) topLostCard

/-- THE TIED CARD OF 'sheavestop.TopSealed'. -/
def topSealedCard : Claim7 := { stood := { row := topSealedRow, standIns := [], harness := (true, "845422deda468678387a082f12334de11568273b2b7f0fdfdc4c0426320b7be0"), looks := false }, kinds := [], alts := [], laidByText := true, laidKinds := [.widerDeep, .data, .data], laidTests := true, laidLooks := .later }
def TopSealedCardSaid : Prop := Claim7.holds Tryz.pinned (.plain (OpenSpec.ofChange topSealedSpec)) topSealedCard

/-- THE TIED CARD OF 'sheavestop.TopNumbers'. -/
def topNumbersCard : Claim7 := { stood := { row := topNumbersRow, standIns := [], harness := (true, "845422deda468678387a082f12334de11568273b2b7f0fdfdc4c0426320b7be0"), looks := false }, kinds := [], alts := [], laidByText := true, laidKinds := [.widerDeep, .data, .data], laidTests := true, laidLooks := .later }
def TopNumbersCardSaid : Prop := Claim7.holds Tryz.pinned (.plain (OpenSpec.ofChange topNumbersSpec)) topNumbersCard

/-- THE TIED CARD OF 'sheavestop.TopAlone'. -/
def topAloneCard : Claim7 := { stood := { row := topAloneRow, standIns := [], harness := (true, "845422deda468678387a082f12334de11568273b2b7f0fdfdc4c0426320b7be0"), looks := false }, kinds := [], alts := [], laidByText := true, laidKinds := [.widerDeep, .data, .data], laidTests := true, laidLooks := .later }
def TopAloneCardSaid : Prop := Claim7.holds Tryz.pinned (.plain (OpenSpec.ofChange topAloneSpec)) topAloneCard

/-- THE TIED CARD OF 'sheavestop.TopVoters'. -/
def topVotersCard : Claim7 := { stood := { row := topVotersRow, standIns := [], harness := (true, "845422deda468678387a082f12334de11568273b2b7f0fdfdc4c0426320b7be0"), looks := false }, kinds := [], alts := [], laidByText := true, laidKinds := [.widerDeep, .data, .data], laidTests := true, laidLooks := .later }
def TopVotersCardSaid : Prop := Claim7.holds Tryz.pinned (.plain (OpenSpec.ofChange topVotersSpec)) topVotersCard

/-- THE TIED CARD OF 'sheavestop.TopFirst'. -/
def topFirstCard : Claim7 := { stood := { row := topFirstRow, standIns := [], harness := (true, "845422deda468678387a082f12334de11568273b2b7f0fdfdc4c0426320b7be0"), looks := false }, kinds := [], alts := [], laidByText := true, laidKinds := [.widerDeep, .data, .data], laidTests := true, laidLooks := .later }
def TopFirstCardSaid : Prop := Claim7.holds Tryz.pinned (.plain (OpenSpec.ofChange topFirstSpec)) topFirstCard

/-- THE TIED CARD OF 'sheavestop.TopBehind'. -/
def topBehindCard : Claim7 := { stood := { row := topBehindRow, standIns := [], harness := (true, "845422deda468678387a082f12334de11568273b2b7f0fdfdc4c0426320b7be0"), looks := false }, kinds := [], alts := [], laidByText := true, laidKinds := [.widerDeep, .data, .data], laidTests := true, laidLooks := .later }
def TopBehindCardSaid : Prop := Claim7.holds Tryz.pinned (.plain (OpenSpec.ofChange topBehindSpec)) topBehindCard

/-- THE SECOND FORM's CARD OF 'sheavestop.TopCodes'. -/
def topCodesUptoCard : Claim7 := { stood := { row := topCodesUptoRow, standIns := [], harness := (true, "845422deda468678387a082f12334de11568273b2b7f0fdfdc4c0426320b7be0"), looks := false }, kinds := [], alts := [], laidByText := true, laidKinds := [.widerDeep, .data, .data], laidTests := true, laidLooks := .later }
def TopCodesUptoCardSaid : Prop := Claim7.holds Tryz.pinned (.plain (OpenSpec.upto topCodesSpec)) topCodesUptoCard

/-- THE SECOND FORM's CARD OF 'sheavestop.TopQuiet'. -/
def topQuietUptoCard : Claim7 := { stood := { row := topQuietUptoRow, standIns := [], harness := (true, "845422deda468678387a082f12334de11568273b2b7f0fdfdc4c0426320b7be0"), looks := false }, kinds := [], alts := [], laidByText := true, laidKinds := [.widerDeep, .data, .data], laidTests := true, laidLooks := .later }
def TopQuietUptoCardSaid : Prop := Claim7.holds Tryz.pinned (.plain (OpenSpec.upto topQuietSpec)) topQuietUptoCard

/-- THE SECOND FORM's CARD OF 'sheavestop.TopRefused'. -/
def topRefusedUptoCard : Claim7 := { stood := { row := topRefusedUptoRow, standIns := [], harness := (true, "845422deda468678387a082f12334de11568273b2b7f0fdfdc4c0426320b7be0"), looks := false }, kinds := [], alts := [], laidByText := true, laidKinds := [.widerDeep, .data, .data], laidTests := true, laidLooks := .later }
def TopRefusedUptoCardSaid : Prop := Claim7.holds Tryz.pinned (.plain (OpenSpec.upto topRefusedSpec)) topRefusedUptoCard

/-- THE SECOND FORM's CARD OF 'sheavestop.TopFlow'. -/
def topFlowUptoCard : Claim7 := { stood := { row := topFlowUptoRow, standIns := [], harness := (true, "845422deda468678387a082f12334de11568273b2b7f0fdfdc4c0426320b7be0"), looks := false }, kinds := [], alts := [], laidByText := true, laidKinds := [.widerDeep, .data, .data], laidTests := true, laidLooks := .later }
def TopFlowUptoCardSaid : Prop := Claim7.holds Tryz.pinned (.plain (OpenSpec.upto topFlowSpec)) topFlowUptoCard

/-- THE SECOND FORM's CARD OF 'sheavestop.TopPick'. -/
def topPickUptoCard : Claim7 := { stood := { row := topPickUptoRow, standIns := [], harness := (true, "845422deda468678387a082f12334de11568273b2b7f0fdfdc4c0426320b7be0"), looks := false }, kinds := [], alts := [], laidByText := true, laidKinds := [.widerDeep, .data, .data], laidTests := true, laidLooks := .later }
def TopPickUptoCardSaid : Prop := Claim7.holds Tryz.pinned (.plain (OpenSpec.upto topPickSpec)) topPickUptoCard

/-- THE SECOND FORM's CARD OF 'sheavestop.TopLost'. -/
def topLostUptoCard : Claim7 := { stood := { row := topLostUptoRow, standIns := [], harness := (true, "845422deda468678387a082f12334de11568273b2b7f0fdfdc4c0426320b7be0"), looks := false }, kinds := [], alts := [], laidByText := true, laidKinds := [.widerDeep, .data, .data], laidTests := true, laidLooks := .later }
def TopLostUptoCardSaid : Prop := Claim7.holds Tryz.pinned (.plain (OpenSpec.upto topLostSpec)) topLostUptoCard

/-- THE SECOND FORM's CARD OF 'sheavestop.TopSealed'. -/
def topSealedUptoCard : Claim7 := { stood := { row := topSealedUptoRow, standIns := [], harness := (true, "845422deda468678387a082f12334de11568273b2b7f0fdfdc4c0426320b7be0"), looks := false }, kinds := [], alts := [], laidByText := true, laidKinds := [.widerDeep, .data, .data], laidTests := true, laidLooks := .later }
def TopSealedUptoCardSaid : Prop := Claim7.holds Tryz.pinned (.plain (OpenSpec.upto topSealedSpec)) topSealedUptoCard

/-- THE SECOND FORM's CARD OF 'sheavestop.TopNumbers'. -/
def topNumbersUptoCard : Claim7 := { stood := { row := topNumbersUptoRow, standIns := [], harness := (true, "845422deda468678387a082f12334de11568273b2b7f0fdfdc4c0426320b7be0"), looks := false }, kinds := [], alts := [], laidByText := true, laidKinds := [.widerDeep, .data, .data], laidTests := true, laidLooks := .later }
def TopNumbersUptoCardSaid : Prop := Claim7.holds Tryz.pinned (.plain (OpenSpec.upto topNumbersSpec)) topNumbersUptoCard

/-- THE SECOND FORM's CARD OF 'sheavestop.TopAlone'. -/
def topAloneUptoCard : Claim7 := { stood := { row := topAloneUptoRow, standIns := [], harness := (true, "845422deda468678387a082f12334de11568273b2b7f0fdfdc4c0426320b7be0"), looks := false }, kinds := [], alts := [], laidByText := true, laidKinds := [.widerDeep, .data, .data], laidTests := true, laidLooks := .later }
def TopAloneUptoCardSaid : Prop := Claim7.holds Tryz.pinned (.plain (OpenSpec.upto topAloneSpec)) topAloneUptoCard

/-- THE SECOND FORM's CARD OF 'sheavestop.TopVoters'. -/
def topVotersUptoCard : Claim7 := { stood := { row := topVotersUptoRow, standIns := [], harness := (true, "845422deda468678387a082f12334de11568273b2b7f0fdfdc4c0426320b7be0"), looks := false }, kinds := [], alts := [], laidByText := true, laidKinds := [.widerDeep, .data, .data], laidTests := true, laidLooks := .later }
def TopVotersUptoCardSaid : Prop := Claim7.holds Tryz.pinned (.plain (OpenSpec.upto topVotersSpec)) topVotersUptoCard

/-- THE SECOND FORM's CARD OF 'sheavestop.TopFirst'. -/
def topFirstUptoCard : Claim7 := { stood := { row := topFirstUptoRow, standIns := [], harness := (true, "845422deda468678387a082f12334de11568273b2b7f0fdfdc4c0426320b7be0"), looks := false }, kinds := [], alts := [], laidByText := true, laidKinds := [.widerDeep, .data, .data], laidTests := true, laidLooks := .later }
def TopFirstUptoCardSaid : Prop := Claim7.holds Tryz.pinned (.plain (OpenSpec.upto topFirstSpec)) topFirstUptoCard

/-- THE SECOND FORM's CARD OF 'sheavestop.TopBehind'. -/
def topBehindUptoCard : Claim7 := { stood := { row := topBehindUptoRow, standIns := [], harness := (true, "845422deda468678387a082f12334de11568273b2b7f0fdfdc4c0426320b7be0"), looks := false }, kinds := [], alts := [], laidByText := true, laidKinds := [.widerDeep, .data, .data], laidTests := true, laidLooks := .later }
def TopBehindUptoCardSaid : Prop := Claim7.holds Tryz.pinned (.plain (OpenSpec.upto topBehindSpec)) topBehindUptoCard
end Rows
end Go.Proofs.YtmijiclocadimaaGreatDoor
