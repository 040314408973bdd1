/-
  DERIVED. GIVEN WITH THE SEED: THE CARDS: each row of YtodcebhfkmlmgaaDoorRows.lean that lists a variable, with what it lists TIED to the program's text (the seventh form; the later family's looks); each row that meets fmt, with fmt's text TOLD by the authors' own Lean function (tested against real Go, not proved from fmt's source: count such statements apart). THE CARD IS WHAT COUNTS. Prove the row's statement (the work); the ties are given (YtodcebhfkmlmgaaDoorTie.lean); close each card by the builder's one call (the guide's Derived/Test/ToyasCard.lean, 'card_holds'). Laid BY PROGRAM, IN A SANDBOX (cutbox-door.mjs). By AI agents, Wed Nov 11 2026. No macro, syntax, notation, axiom, sorry.
-/
import Derived.Test.YtodcebhfkmlmgaaDoorRows
import GoSem.ClaimSeven
namespace Go.Proofs.YtodcebhfkmlmgaaDoor
namespace Rows

/-- THE TIED CARD OF 'sheaveskeep.ActBare'. -/
def actBareCard : Claim7 := { stood := { row := actBareRow, standIns := [], harness := (true, "2eb9157da102d1b9785ca3aed3a980a47fe0bcff9a5d8eb52036ee87f0f91ebc"), looks := true }, kinds := [], alts := [], laidByText := true, laidKinds := [.data, .data, .data, .data], laidTests := true, laidLooks := .later }
def ActBareCardSaid : Prop := Claim7.holds Tryd.pinned (.plain (OpenSpec.ofChange actBareSpec)) actBareCard

/-- THE TIED CARD OF 'sheaveskeep.LinesJoin'. -/
def linesJoinCard : Claim7 := { stood := { row := linesJoinRow, standIns := [], harness := (true, "2eb9157da102d1b9785ca3aed3a980a47fe0bcff9a5d8eb52036ee87f0f91ebc"), looks := true }, kinds := [], alts := [], laidByText := true, laidKinds := [.data, .data, .data, .data], laidTests := true, laidLooks := .later }
def LinesJoinCardSaid : Prop := Claim7.holds Tryd.pinned (.plain (OpenSpec.ofChange linesJoinSpec)) linesJoinCard

/-- THE TIED CARD OF 'sheaveskeep.LinesWords'. -/
def linesWordsCard : Claim7 := { stood := { row := linesWordsRow, standIns := [], harness := (true, "2eb9157da102d1b9785ca3aed3a980a47fe0bcff9a5d8eb52036ee87f0f91ebc"), looks := true }, kinds := [], alts := [], laidByText := true, laidKinds := [.data, .data, .data, .data, .sentinel, .sentinel, .data, .pinned], laidTests := true, laidLooks := .later }
def LinesWordsCardSaid : Prop := Claim7.holds Tryd.pinned (.plain (OpenSpec.ofChange linesWordsSpec)) linesWordsCard

/-- THE TIED CARD OF 'sheaveskeep.LinesBack'. -/
def linesBackCard : Claim7 := { stood := { row := linesBackRow, standIns := [], harness := (true, "2eb9157da102d1b9785ca3aed3a980a47fe0bcff9a5d8eb52036ee87f0f91ebc"), looks := true }, kinds := [], alts := [], laidByText := true, laidKinds := [.data, .data, .data, .data, .sentinel, .sentinel, .data, .pinned], laidTests := true, laidLooks := .later }
def LinesBackCardSaid : Prop := Claim7.holds Tryd.pinned (.plain (OpenSpec.ofChange linesBackSpec)) linesBackCard

/-- THE TIED CARD OF 'sheaveskeep.LinesFixed'. -/
def linesFixedCard : Claim7 := { stood := { row := linesFixedRow, standIns := [], harness := (true, "2eb9157da102d1b9785ca3aed3a980a47fe0bcff9a5d8eb52036ee87f0f91ebc"), looks := true }, kinds := [], alts := [], laidByText := true, laidKinds := [.data, .data, .data, .data, .sentinel, .sentinel, .data, .pinned], laidTests := true, laidLooks := .later }
def LinesFixedCardSaid : Prop := Claim7.holds Tryd.pinned (.plain (OpenSpec.ofChange linesFixedSpec)) linesFixedCard

/-- THE TIED CARD OF 'sheaveskeep.LinesBad'. -/
def linesBadCard : Claim7 := { stood := { row := linesBadRow, standIns := [], harness := (true, "2eb9157da102d1b9785ca3aed3a980a47fe0bcff9a5d8eb52036ee87f0f91ebc"), looks := true }, kinds := [], alts := [], laidByText := true, laidKinds := [.data, .data, .data, .data, .sentinel, .sentinel, .data, .pinned], laidTests := true, laidLooks := .later }
def LinesBadCardSaid : Prop := Claim7.holds Tryd.pinned (.plain (OpenSpec.ofChange linesBadSpec)) linesBadCard

/-- THE TIED CARD OF 'sheaveskeep.LinesMany'. -/
def linesManyCard : Claim7 := { stood := { row := linesManyRow, standIns := [], harness := (true, "2eb9157da102d1b9785ca3aed3a980a47fe0bcff9a5d8eb52036ee87f0f91ebc"), looks := true }, kinds := [], alts := [], laidByText := true, laidKinds := [.data, .data, .data, .data, .sentinel, .sentinel, .data, .pinned], laidTests := true, laidLooks := .later }
def LinesManyCardSaid : Prop := Claim7.holds Tryd.pinned (.plain (OpenSpec.ofChange linesManySpec)) linesManyCard

/-- THE TIED CARD OF 'sheaveskeep.LinesHex'. -/
def linesHexCard : Claim7 := { stood := { row := linesHexRow, standIns := [], harness := (true, "2eb9157da102d1b9785ca3aed3a980a47fe0bcff9a5d8eb52036ee87f0f91ebc"), looks := true }, kinds := [], alts := [], laidByText := true, laidKinds := [.data, .data, .data, .data, .sentinel, .sentinel, .data, .pinned], laidTests := true, laidLooks := .later }
def LinesHexCardSaid : Prop := Claim7.holds Tryd.pinned (.plain (OpenSpec.ofChange linesHexSpec)) linesHexCard

/-- THE SECOND FORM's CARD OF 'sheaveskeep.ActBare'. -/
def actBareUptoCard : Claim7 := { stood := { row := actBareUptoRow, standIns := [], harness := (true, "2eb9157da102d1b9785ca3aed3a980a47fe0bcff9a5d8eb52036ee87f0f91ebc"), looks := true }, kinds := [], alts := [], laidByText := true, laidKinds := [.data, .data, .data, .data], laidTests := true, laidLooks := .later }
def ActBareUptoCardSaid : Prop := Claim7.holds Tryd.pinned (.plain (OpenSpec.upto actBareSpec)) actBareUptoCard

/-- THE SECOND FORM's CARD OF 'sheaveskeep.LinesJoin'. -/
def linesJoinUptoCard : Claim7 := { stood := { row := linesJoinUptoRow, standIns := [], harness := (true, "2eb9157da102d1b9785ca3aed3a980a47fe0bcff9a5d8eb52036ee87f0f91ebc"), looks := true }, kinds := [], alts := [], laidByText := true, laidKinds := [.data, .data, .data, .data], laidTests := true, laidLooks := .later }
def LinesJoinUptoCardSaid : Prop := Claim7.holds Tryd.pinned (.plain (OpenSpec.upto linesJoinSpec)) linesJoinUptoCard

/-- THE SECOND FORM's CARD OF 'sheaveskeep.LinesWords'. -/
def linesWordsUptoCard : Claim7 := { stood := { row := linesWordsUptoRow, standIns := [], harness := (true, "2eb9157da102d1b9785ca3aed3a980a47fe0bcff9a5d8eb52036ee87f0f91ebc"), looks := true }, kinds := [], alts := [], laidByText := true, laidKinds := [.data, .data, .data, .data, .sentinel, .sentinel, .data, .pinned], laidTests := true, laidLooks := .later }
def LinesWordsUptoCardSaid : Prop := Claim7.holds Tryd.pinned (.plain (OpenSpec.upto linesWordsSpec)) linesWordsUptoCard

/-- THE SECOND FORM's CARD OF 'sheaveskeep.LinesBack'. -/
def linesBackUptoCard : Claim7 := { stood := { row := linesBackUptoRow, standIns := [], harness := (true, "2eb9157da102d1b9785ca3aed3a980a47fe0bcff9a5d8eb52036ee87f0f91ebc"), looks := true }, kinds := [], alts := [], laidByText := true, laidKinds := [.data, .data, .data, .data, .sentinel, .sentinel, .data, .pinned], laidTests := true, laidLooks := .later }
def LinesBackUptoCardSaid : Prop := Claim7.holds Tryd.pinned (.plain (OpenSpec.upto linesBackSpec)) linesBackUptoCard

/-- THE SECOND FORM's CARD OF 'sheaveskeep.LinesFixed'. -/
def linesFixedUptoCard : Claim7 := { stood := { row := linesFixedUptoRow, standIns := [], harness := (true, "2eb9157da102d1b9785ca3aed3a980a47fe0bcff9a5d8eb52036ee87f0f91ebc"), looks := true }, kinds := [], alts := [], laidByText := true, laidKinds := [.data, .data, .data, .data, .sentinel, .sentinel, .data, .pinned], laidTests := true, laidLooks := .later }
def LinesFixedUptoCardSaid : Prop := Claim7.holds Tryd.pinned (.plain (OpenSpec.upto linesFixedSpec)) linesFixedUptoCard

/-- THE SECOND FORM's CARD OF 'sheaveskeep.LinesBad'. -/
def linesBadUptoCard : Claim7 := { stood := { row := linesBadUptoRow, standIns := [], harness := (true, "2eb9157da102d1b9785ca3aed3a980a47fe0bcff9a5d8eb52036ee87f0f91ebc"), looks := true }, kinds := [], alts := [], laidByText := true, laidKinds := [.data, .data, .data, .data, .sentinel, .sentinel, .data, .pinned], laidTests := true, laidLooks := .later }
def LinesBadUptoCardSaid : Prop := Claim7.holds Tryd.pinned (.plain (OpenSpec.upto linesBadSpec)) linesBadUptoCard

/-- THE SECOND FORM's CARD OF 'sheaveskeep.LinesMany'. -/
def linesManyUptoCard : Claim7 := { stood := { row := linesManyUptoRow, standIns := [], harness := (true, "2eb9157da102d1b9785ca3aed3a980a47fe0bcff9a5d8eb52036ee87f0f91ebc"), looks := true }, kinds := [], alts := [], laidByText := true, laidKinds := [.data, .data, .data, .data, .sentinel, .sentinel, .data, .pinned], laidTests := true, laidLooks := .later }
def LinesManyUptoCardSaid : Prop := Claim7.holds Tryd.pinned (.plain (OpenSpec.upto linesManySpec)) linesManyUptoCard

/-- THE SECOND FORM's CARD OF 'sheaveskeep.LinesHex'. -/
def linesHexUptoCard : Claim7 := { stood := { row := linesHexUptoRow, standIns := [], harness := (true, "2eb9157da102d1b9785ca3aed3a980a47fe0bcff9a5d8eb52036ee87f0f91ebc"), looks := true }, kinds := [], alts := [], laidByText := true, laidKinds := [.data, .data, .data, .data, .sentinel, .sentinel, .data, .pinned], laidTests := true, laidLooks := .later }
def LinesHexUptoCardSaid : Prop := Claim7.holds Tryd.pinned (.plain (OpenSpec.upto linesHexSpec)) linesHexUptoCard
end Rows
end Go.Proofs.YtodcebhfkmlmgaaDoor
