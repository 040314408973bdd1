/-
  DERIVED. GIVEN WITH THE SEED: THE CARDS: each row of YtialhdmdeggenaaDoorRows.lean that lists a variable, with what it lists TIED to the program's text (the seventh form; the later family's looks); each row that meets fmt, with fmt's text TOLD by the authors' own Lean function (tested against real Go, not proved from fmt's source: count such statements apart). THE CARD IS WHAT COUNTS. Prove the row's statement (the work); the ties are given (YtialhdmdeggenaaDoorTie.lean); close each card by the builder's one call (the guide's Derived/Test/ToyasCard.lean, 'card_holds'). Laid BY PROGRAM, IN A SANDBOX (cutbox-door.mjs). By AI agents, Wed Nov 11 2026. No macro, syntax, notation, axiom, sorry.
-/
import Derived.Test.YtialhdmdeggenaaDoorRows
import GoSem.ClaimSeven
namespace Go.Proofs.YtialhdmdeggenaaDoor
namespace Rows

/-- THE TIED CARD OF 'sheaveskeep.ProvenAll'. -/
def provenAllCard : Claim7 := { stood := { row := provenAllRow, standIns := [], harness := (true, "f27691ea98033cb3b51283766f6b989a1c8bde77c597e252623a7c83327c809d"), looks := false }, kinds := [], alts := [], laidByText := true, laidKinds := [.widerDeep, .data, .data], laidTests := true, laidLooks := .later }
def ProvenAllCardSaid : Prop := Claim7.holds Tryd.pinned (.plain (OpenSpec.ofChange provenAllSpec)) provenAllCard

/-- THE TIED CARD OF 'sheaveskeep.ProvenJust'. -/
def provenJustCard : Claim7 := { stood := { row := provenJustRow, standIns := [], harness := (true, "f27691ea98033cb3b51283766f6b989a1c8bde77c597e252623a7c83327c809d"), looks := false }, kinds := [], alts := [], laidByText := true, laidKinds := [.widerDeep, .data, .data], laidTests := true, laidLooks := .later }
def ProvenJustCardSaid : Prop := Claim7.holds Tryd.pinned (.plain (OpenSpec.ofChange provenJustSpec)) provenJustCard

/-- THE TIED CARD OF 'sheaveskeep.ProvenForm'. -/
def provenFormCard : Claim7 := { stood := { row := provenFormRow, standIns := [], harness := (true, "f27691ea98033cb3b51283766f6b989a1c8bde77c597e252623a7c83327c809d"), looks := false }, kinds := [], alts := [], laidByText := true, laidKinds := [.widerDeep, .data, .data], laidTests := true, laidLooks := .later }
def ProvenFormCardSaid : Prop := Claim7.holds Tryd.pinned (.plain (OpenSpec.ofChange provenFormSpec)) provenFormCard

/-- THE TIED CARD OF 'sheaveskeep.ProvenRogue'. -/
def provenRogueCard : Claim7 := { stood := { row := provenRogueRow, standIns := [], harness := (true, "f27691ea98033cb3b51283766f6b989a1c8bde77c597e252623a7c83327c809d"), looks := false }, kinds := [], alts := [], laidByText := true, laidKinds := [.widerDeep, .data, .data], laidTests := true, laidLooks := .later }
def ProvenRogueCardSaid : Prop := Claim7.holds Tryd.pinned (.plain (OpenSpec.ofChange provenRogueSpec)) provenRogueCard

/-- THE TIED CARD OF 'sheaveskeep.CastApart'. -/
def castApartCard : Claim7 := { stood := { row := castApartRow, standIns := [], harness := (true, "f27691ea98033cb3b51283766f6b989a1c8bde77c597e252623a7c83327c809d"), looks := false }, kinds := [], alts := [], laidByText := true, laidKinds := [.widerDeep, .data, .data], laidTests := true, laidLooks := .later }
def CastApartCardSaid : Prop := Claim7.holds Tryd.pinned (.plain (OpenSpec.ofChange castApartSpec)) castApartCard

/-- THE TIED CARD OF 'sheaveskeep.VotedNone'. -/
def votedNoneCard : Claim7 := { stood := { row := votedNoneRow, standIns := [], harness := (true, "f27691ea98033cb3b51283766f6b989a1c8bde77c597e252623a7c83327c809d"), looks := false }, kinds := [], alts := [], laidByText := true, laidKinds := [.widerDeep, .data, .data], laidTests := true, laidLooks := .later }
def VotedNoneCardSaid : Prop := Claim7.holds Tryd.pinned (.plain (OpenSpec.ofChange votedNoneSpec)) votedNoneCard

/-- THE TIED CARD OF 'sheaveskeep.TableAll'. -/
def tableAllCard : Claim7 := { stood := { row := tableAllRow, standIns := [], harness := (true, "f27691ea98033cb3b51283766f6b989a1c8bde77c597e252623a7c83327c809d"), looks := false }, kinds := [], alts := [], laidByText := true, laidKinds := [.widerDeep, .data, .data], laidTests := true, laidLooks := .later }
def TableAllCardSaid : Prop := Claim7.holds Tryd.pinned (.plain (OpenSpec.ofChange tableAllSpec)) tableAllCard

/-- THE TIED CARD OF 'sheaveskeep.CastOnce'. -/
def castOnceCard : Claim7 := { stood := { row := castOnceRow, standIns := [], harness := (true, "f27691ea98033cb3b51283766f6b989a1c8bde77c597e252623a7c83327c809d"), looks := false }, kinds := [], alts := [], laidByText := true, laidKinds := [.widerDeep, .data, .data], laidTests := true, laidLooks := .later }
def CastOnceCardSaid : Prop := Claim7.holds Tryd.pinned (.plain (OpenSpec.ofChange castOnceSpec)) castOnceCard

/-- THE TIED CARD OF 'sheaveskeep.InsertLate'. -/
def insertLateCard : Claim7 := { stood := { row := insertLateRow, standIns := [], harness := (true, "f27691ea98033cb3b51283766f6b989a1c8bde77c597e252623a7c83327c809d"), looks := false }, kinds := [], alts := [], laidByText := true, laidKinds := [.widerDeep, .data, .data], laidTests := true, laidLooks := .later }
def InsertLateCardSaid : Prop := Claim7.holds Tryd.pinned (.plain (OpenSpec.ofChange insertLateSpec)) insertLateCard

/-- THE TIED CARD OF 'sheaveskeep.InsertBad'. -/
def insertBadCard : Claim7 := { stood := { row := insertBadRow, standIns := [], harness := (true, "f27691ea98033cb3b51283766f6b989a1c8bde77c597e252623a7c83327c809d"), looks := false }, kinds := [], alts := [], laidByText := true, laidKinds := [.widerDeep, .data, .data], laidTests := true, laidLooks := .later }
def InsertBadCardSaid : Prop := Claim7.holds Tryd.pinned (.plain (OpenSpec.ofChange insertBadSpec)) insertBadCard

/-- THE TIED CARD OF 'sheaveskeep.DigestsNone'. -/
def digestsNoneCard : Claim7 := { stood := { row := digestsNoneRow, standIns := [], harness := (true, "f27691ea98033cb3b51283766f6b989a1c8bde77c597e252623a7c83327c809d"), looks := false }, kinds := [], alts := [], laidByText := true, laidKinds := [.widerDeep, .data, .data], laidTests := true, laidLooks := .later }
def DigestsNoneCardSaid : Prop := Claim7.holds Tryd.pinned (.plain (OpenSpec.ofChange digestsNoneSpec)) digestsNoneCard

/-- THE TIED CARD OF 'sheaveskeep.InsertOnce'. -/
def insertOnceCard : Claim7 := { stood := { row := insertOnceRow, standIns := [], harness := (true, "f27691ea98033cb3b51283766f6b989a1c8bde77c597e252623a7c83327c809d"), looks := false }, kinds := [], alts := [], laidByText := true, laidKinds := [.widerDeep, .data, .data], laidTests := true, laidLooks := .later }
def InsertOnceCardSaid : Prop := Claim7.holds Tryd.pinned (.plain (OpenSpec.ofChange insertOnceSpec)) insertOnceCard

/-- THE SECOND FORM's CARD OF 'sheaveskeep.ProvenAll'. -/
def provenAllUptoCard : Claim7 := { stood := { row := provenAllUptoRow, standIns := [], harness := (true, "f27691ea98033cb3b51283766f6b989a1c8bde77c597e252623a7c83327c809d"), looks := false }, kinds := [], alts := [], laidByText := true, laidKinds := [.widerDeep, .data, .data], laidTests := true, laidLooks := .later }
def ProvenAllUptoCardSaid : Prop := Claim7.holds Tryd.pinned (.plain (OpenSpec.upto provenAllSpec)) provenAllUptoCard

/-- THE SECOND FORM's CARD OF 'sheaveskeep.ProvenJust'. -/
def provenJustUptoCard : Claim7 := { stood := { row := provenJustUptoRow, standIns := [], harness := (true, "f27691ea98033cb3b51283766f6b989a1c8bde77c597e252623a7c83327c809d"), looks := false }, kinds := [], alts := [], laidByText := true, laidKinds := [.widerDeep, .data, .data], laidTests := true, laidLooks := .later }
def ProvenJustUptoCardSaid : Prop := Claim7.holds Tryd.pinned (.plain (OpenSpec.upto provenJustSpec)) provenJustUptoCard

/-- THE SECOND FORM's CARD OF 'sheaveskeep.ProvenForm'. -/
def provenFormUptoCard : Claim7 := { stood := { row := provenFormUptoRow, standIns := [], harness := (true, "f27691ea98033cb3b51283766f6b989a1c8bde77c597e252623a7c83327c809d"), looks := false }, kinds := [], alts := [], laidByText := true, laidKinds := [.widerDeep, .data, .data], laidTests := true, laidLooks := .later }
def ProvenFormUptoCardSaid : Prop := Claim7.holds Tryd.pinned (.plain (OpenSpec.upto provenFormSpec)) provenFormUptoCard

/-- THE SECOND FORM's CARD OF 'sheaveskeep.ProvenRogue'. -/
def provenRogueUptoCard : Claim7 := { stood := { row := provenRogueUptoRow, standIns := [], harness := (true, "f27691ea98033cb3b51283766f6b989a1c8bde77c597e252623a7c83327c809d"), looks := false }, kinds := [], alts := [], laidByText := true, laidKinds := [.widerDeep, .data, .data], laidTests := true, laidLooks := .later }
def ProvenRogueUptoCardSaid : Prop := Claim7.holds Tryd.pinned (.plain (OpenSpec.upto provenRogueSpec)) provenRogueUptoCard

/-- THE SECOND FORM's CARD OF 'sheaveskeep.CastApart'. -/
def castApartUptoCard : Claim7 := { stood := { row := castApartUptoRow, standIns := [], harness := (true, "f27691ea98033cb3b51283766f6b989a1c8bde77c597e252623a7c83327c809d"), looks := false }, kinds := [], alts := [], laidByText := true, laidKinds := [.widerDeep, .data, .data], laidTests := true, laidLooks := .later }
def CastApartUptoCardSaid : Prop := Claim7.holds Tryd.pinned (.plain (OpenSpec.upto castApartSpec)) castApartUptoCard

/-- THE SECOND FORM's CARD OF 'sheaveskeep.VotedNone'. -/
def votedNoneUptoCard : Claim7 := { stood := { row := votedNoneUptoRow, standIns := [], harness := (true, "f27691ea98033cb3b51283766f6b989a1c8bde77c597e252623a7c83327c809d"), looks := false }, kinds := [], alts := [], laidByText := true, laidKinds := [.widerDeep, .data, .data], laidTests := true, laidLooks := .later }
def VotedNoneUptoCardSaid : Prop := Claim7.holds Tryd.pinned (.plain (OpenSpec.upto votedNoneSpec)) votedNoneUptoCard

/-- THE SECOND FORM's CARD OF 'sheaveskeep.TableAll'. -/
def tableAllUptoCard : Claim7 := { stood := { row := tableAllUptoRow, standIns := [], harness := (true, "f27691ea98033cb3b51283766f6b989a1c8bde77c597e252623a7c83327c809d"), looks := false }, kinds := [], alts := [], laidByText := true, laidKinds := [.widerDeep, .data, .data], laidTests := true, laidLooks := .later }
def TableAllUptoCardSaid : Prop := Claim7.holds Tryd.pinned (.plain (OpenSpec.upto tableAllSpec)) tableAllUptoCard

/-- THE SECOND FORM's CARD OF 'sheaveskeep.CastOnce'. -/
def castOnceUptoCard : Claim7 := { stood := { row := castOnceUptoRow, standIns := [], harness := (true, "f27691ea98033cb3b51283766f6b989a1c8bde77c597e252623a7c83327c809d"), looks := false }, kinds := [], alts := [], laidByText := true, laidKinds := [.widerDeep, .data, .data], laidTests := true, laidLooks := .later }
def CastOnceUptoCardSaid : Prop := Claim7.holds Tryd.pinned (.plain (OpenSpec.upto castOnceSpec)) castOnceUptoCard

/-- THE SECOND FORM's CARD OF 'sheaveskeep.InsertLate'. -/
def insertLateUptoCard : Claim7 := { stood := { row := insertLateUptoRow, standIns := [], harness := (true, "f27691ea98033cb3b51283766f6b989a1c8bde77c597e252623a7c83327c809d"), looks := false }, kinds := [], alts := [], laidByText := true, laidKinds := [.widerDeep, .data, .data], laidTests := true, laidLooks := .later }
def InsertLateUptoCardSaid : Prop := Claim7.holds Tryd.pinned (.plain (OpenSpec.upto insertLateSpec)) insertLateUptoCard

/-- THE SECOND FORM's CARD OF 'sheaveskeep.InsertBad'. -/
def insertBadUptoCard : Claim7 := { stood := { row := insertBadUptoRow, standIns := [], harness := (true, "f27691ea98033cb3b51283766f6b989a1c8bde77c597e252623a7c83327c809d"), looks := false }, kinds := [], alts := [], laidByText := true, laidKinds := [.widerDeep, .data, .data], laidTests := true, laidLooks := .later }
def InsertBadUptoCardSaid : Prop := Claim7.holds Tryd.pinned (.plain (OpenSpec.upto insertBadSpec)) insertBadUptoCard

/-- THE SECOND FORM's CARD OF 'sheaveskeep.DigestsNone'. -/
def digestsNoneUptoCard : Claim7 := { stood := { row := digestsNoneUptoRow, standIns := [], harness := (true, "f27691ea98033cb3b51283766f6b989a1c8bde77c597e252623a7c83327c809d"), looks := false }, kinds := [], alts := [], laidByText := true, laidKinds := [.widerDeep, .data, .data], laidTests := true, laidLooks := .later }
def DigestsNoneUptoCardSaid : Prop := Claim7.holds Tryd.pinned (.plain (OpenSpec.upto digestsNoneSpec)) digestsNoneUptoCard

/-- THE SECOND FORM's CARD OF 'sheaveskeep.InsertOnce'. -/
def insertOnceUptoCard : Claim7 := { stood := { row := insertOnceUptoRow, standIns := [], harness := (true, "f27691ea98033cb3b51283766f6b989a1c8bde77c597e252623a7c83327c809d"), looks := false }, kinds := [], alts := [], laidByText := true, laidKinds := [.widerDeep, .data, .data], laidTests := true, laidLooks := .later }
def InsertOnceUptoCardSaid : Prop := Claim7.holds Tryd.pinned (.plain (OpenSpec.upto insertOnceSpec)) insertOnceUptoCard
end Rows
end Go.Proofs.YtialhdmdeggenaaDoor
