/-
  DERIVED. GIVEN WITH THE SEED: THE CARDS: each row of YtihonljdanjfmaaGreatDoorRows.lean that lists a variable, with what it lists TIED to the program's text (the seventh form; the later family's looks); each row that meets fmt, with fmt's text TOLD by the authors' own Lean function (tested against real Go, not proved from fmt's source: count such statements apart). THE CARD IS WHAT COUNTS. Prove the row's statement (the work); the ties are given (YtihonljdanjfmaaGreatDoorTie.lean); close each card by the builder's one call (the guide's Derived/Test/ToyasCard.lean, 'card_holds'). Laid BY PROGRAM, IN A SANDBOX (cutbox-door.mjs). By AI agents, Wed Nov 11 2026. No macro, syntax, notation, axiom, sorry.
-/
import Derived.Test.YtihonljdanjfmaaGreatDoorRows
import GoSem.ClaimSeven
namespace Go.Proofs.YtihonljdanjfmaaGreatDoor
namespace Rows

/-- THE TIED CARD OF 'aguadorlaw08.FloorSettles'. -/
def floorSettlesCard : Claim7 := { stood := { row := floorSettlesRow, standIns := [], harness := (true, "dda372a1db8efb6b8b4468e9edd4816b1da70a7be31930d63f51b0a36886d7be"), looks := false }, kinds := [], alts := [], laidByText := true, laidKinds := [.funcs, .funcs], laidTests := true, laidLooks := .later }
def FloorSettlesCardSaid : Prop := Claim7.holds Tryz.pinned (.plain (OpenSpec.ofChange floorSettlesSpec)) floorSettlesCard

/-- THE TIED CARD OF 'aguadorlaw08.FloorShares'. -/
def floorSharesCard : Claim7 := { stood := { row := floorSharesRow, standIns := [], harness := (true, "dda372a1db8efb6b8b4468e9edd4816b1da70a7be31930d63f51b0a36886d7be"), looks := false }, kinds := [], alts := [], laidByText := true, laidKinds := [.funcs, .funcs], laidTests := true, laidLooks := .later }
def FloorSharesCardSaid : Prop := Claim7.holds Tryz.pinned (.plain (OpenSpec.ofChange floorSharesSpec)) floorSharesCard

/-- THE TIED CARD OF 'aguadorlaw08.FloorGroups'. -/
def floorGroupsCard : Claim7 := { stood := { row := floorGroupsRow, standIns := [], harness := (true, "dda372a1db8efb6b8b4468e9edd4816b1da70a7be31930d63f51b0a36886d7be"), looks := false }, kinds := [], alts := [], laidByText := true, laidKinds := [.funcs, .funcs], laidTests := true, laidLooks := .later }
def FloorGroupsCardSaid : Prop := Claim7.holds Tryz.pinned (.plain (OpenSpec.ofChange floorGroupsSpec)) floorGroupsCard

/-- THE TIED CARD OF 'aguadorlaw08.FloorCheapest'. -/
def floorCheapestCard : Claim7 := { stood := { row := floorCheapestRow, standIns := [], harness := (true, "dda372a1db8efb6b8b4468e9edd4816b1da70a7be31930d63f51b0a36886d7be"), looks := false }, kinds := [], alts := [], laidByText := true, laidKinds := [.funcs, .funcs], laidTests := true, laidLooks := .later }
def FloorCheapestCardSaid : Prop := Claim7.holds Tryz.pinned (.plain (OpenSpec.ofChange floorCheapestSpec)) floorCheapestCard

/-- THE TIED CARD OF 'aguadorlaw08.FloorSure'. -/
def floorSureCard : Claim7 := { stood := { row := floorSureRow, standIns := [], harness := (true, "dda372a1db8efb6b8b4468e9edd4816b1da70a7be31930d63f51b0a36886d7be"), looks := false }, kinds := [], alts := [], laidByText := true, laidKinds := [.funcs, .funcs], laidTests := true, laidLooks := .later }
def FloorSureCardSaid : Prop := Claim7.holds Tryz.pinned (.plain (OpenSpec.ofChange floorSureSpec)) floorSureCard

/-- THE TIED CARD OF 'aguadorlaw08.FloorAlone'. -/
def floorAloneCard : Claim7 := { stood := { row := floorAloneRow, standIns := [], harness := (true, "dda372a1db8efb6b8b4468e9edd4816b1da70a7be31930d63f51b0a36886d7be"), looks := false }, kinds := [], alts := [], laidByText := true, laidKinds := [.funcs, .funcs], laidTests := true, laidLooks := .later }
def FloorAloneCardSaid : Prop := Claim7.holds Tryz.pinned (.plain (OpenSpec.ofChange floorAloneSpec)) floorAloneCard

/-- THE TIED CARD OF 'aguadorlaw08.FloorTally'. -/
def floorTallyCard : Claim7 := { stood := { row := floorTallyRow, standIns := [], harness := (true, "dda372a1db8efb6b8b4468e9edd4816b1da70a7be31930d63f51b0a36886d7be"), looks := false }, kinds := [], alts := [], laidByText := true, laidKinds := [.funcs, .funcs], laidTests := true, laidLooks := .later }
def FloorTallyCardSaid : Prop := Claim7.holds Tryz.pinned (.plain (OpenSpec.ofChange floorTallySpec)) floorTallyCard

/-- THE TIED CARD OF 'aguadorlaw08.FloorPays'. -/
def floorPaysCard : Claim7 := { stood := { row := floorPaysRow, standIns := [], harness := (true, "dda372a1db8efb6b8b4468e9edd4816b1da70a7be31930d63f51b0a36886d7be"), looks := false }, kinds := [], alts := [], laidByText := true, laidKinds := [.funcs, .funcs], laidTests := true, laidLooks := .later }
def FloorPaysCardSaid : Prop := Claim7.holds Tryz.pinned (.plain (OpenSpec.ofChange floorPaysSpec)) floorPaysCard

/-- THE TIED CARD OF 'aguadorlaw08.FloorQuarrel'. -/
def floorQuarrelCard : Claim7 := { stood := { row := floorQuarrelRow, standIns := [], harness := (true, "dda372a1db8efb6b8b4468e9edd4816b1da70a7be31930d63f51b0a36886d7be"), looks := false }, kinds := [], alts := [], laidByText := true, laidKinds := [.funcs, .funcs], laidTests := true, laidLooks := .later }
def FloorQuarrelCardSaid : Prop := Claim7.holds Tryz.pinned (.plain (OpenSpec.ofChange floorQuarrelSpec)) floorQuarrelCard

/-- THE TIED CARD OF 'aguadorlaw08.FloorExamples'. -/
def floorExamplesCard : Claim7 := { stood := { row := floorExamplesRow, standIns := [], harness := (true, "dda372a1db8efb6b8b4468e9edd4816b1da70a7be31930d63f51b0a36886d7be"), looks := false }, kinds := [], alts := [], laidByText := true, laidKinds := [.funcs, .funcs], laidTests := true, laidLooks := .later }
def FloorExamplesCardSaid : Prop := Claim7.holds Tryz.pinned (.plain (OpenSpec.ofChange floorExamplesSpec)) floorExamplesCard

/-- THE TIED CARD OF 'aguadortop.TopJoined'. -/
def topJoinedCard : Claim7 := { stood := { row := topJoinedRow, standIns := [], harness := (true, "dda372a1db8efb6b8b4468e9edd4816b1da70a7be31930d63f51b0a36886d7be"), looks := false }, kinds := [], alts := [], laidByText := true, laidKinds := [.funcs, .funcs], laidTests := true, laidLooks := .later }
def TopJoinedCardSaid : Prop := Claim7.holds Tryz.pinned (.plain (OpenSpec.ofChange topJoinedSpec)) topJoinedCard

/-- THE SECOND FORM's CARD OF 'aguadorlaw08.FloorSettles'. -/
def floorSettlesUptoCard : Claim7 := { stood := { row := floorSettlesUptoRow, standIns := [], harness := (true, "dda372a1db8efb6b8b4468e9edd4816b1da70a7be31930d63f51b0a36886d7be"), looks := false }, kinds := [], alts := [], laidByText := true, laidKinds := [.funcs, .funcs], laidTests := true, laidLooks := .later }
def FloorSettlesUptoCardSaid : Prop := Claim7.holds Tryz.pinned (.plain (OpenSpec.upto floorSettlesSpec)) floorSettlesUptoCard

/-- THE SECOND FORM's CARD OF 'aguadorlaw08.FloorShares'. -/
def floorSharesUptoCard : Claim7 := { stood := { row := floorSharesUptoRow, standIns := [], harness := (true, "dda372a1db8efb6b8b4468e9edd4816b1da70a7be31930d63f51b0a36886d7be"), looks := false }, kinds := [], alts := [], laidByText := true, laidKinds := [.funcs, .funcs], laidTests := true, laidLooks := .later }
def FloorSharesUptoCardSaid : Prop := Claim7.holds Tryz.pinned (.plain (OpenSpec.upto floorSharesSpec)) floorSharesUptoCard

/-- THE SECOND FORM's CARD OF 'aguadorlaw08.FloorGroups'. -/
def floorGroupsUptoCard : Claim7 := { stood := { row := floorGroupsUptoRow, standIns := [], harness := (true, "dda372a1db8efb6b8b4468e9edd4816b1da70a7be31930d63f51b0a36886d7be"), looks := false }, kinds := [], alts := [], laidByText := true, laidKinds := [.funcs, .funcs], laidTests := true, laidLooks := .later }
def FloorGroupsUptoCardSaid : Prop := Claim7.holds Tryz.pinned (.plain (OpenSpec.upto floorGroupsSpec)) floorGroupsUptoCard

/-- THE SECOND FORM's CARD OF 'aguadorlaw08.FloorCheapest'. -/
def floorCheapestUptoCard : Claim7 := { stood := { row := floorCheapestUptoRow, standIns := [], harness := (true, "dda372a1db8efb6b8b4468e9edd4816b1da70a7be31930d63f51b0a36886d7be"), looks := false }, kinds := [], alts := [], laidByText := true, laidKinds := [.funcs, .funcs], laidTests := true, laidLooks := .later }
def FloorCheapestUptoCardSaid : Prop := Claim7.holds Tryz.pinned (.plain (OpenSpec.upto floorCheapestSpec)) floorCheapestUptoCard

/-- THE SECOND FORM's CARD OF 'aguadorlaw08.FloorSure'. -/
def floorSureUptoCard : Claim7 := { stood := { row := floorSureUptoRow, standIns := [], harness := (true, "dda372a1db8efb6b8b4468e9edd4816b1da70a7be31930d63f51b0a36886d7be"), looks := false }, kinds := [], alts := [], laidByText := true, laidKinds := [.funcs, .funcs], laidTests := true, laidLooks := .later }
def FloorSureUptoCardSaid : Prop := Claim7.holds Tryz.pinned (.plain (OpenSpec.upto floorSureSpec)) floorSureUptoCard

/-- THE SECOND FORM's CARD OF 'aguadorlaw08.FloorAlone'. -/
def floorAloneUptoCard : Claim7 := { stood := { row := floorAloneUptoRow, standIns := [], harness := (true, "dda372a1db8efb6b8b4468e9edd4816b1da70a7be31930d63f51b0a36886d7be"), looks := false }, kinds := [], alts := [], laidByText := true, laidKinds := [.funcs, .funcs], laidTests := true, laidLooks := .later }
def FloorAloneUptoCardSaid : Prop := Claim7.holds Tryz.pinned (.plain (OpenSpec.upto floorAloneSpec)) floorAloneUptoCard

/-- THE SECOND FORM's CARD OF 'aguadorlaw08.FloorTally'. -/
def floorTallyUptoCard : Claim7 := { stood := { row := floorTallyUptoRow, standIns := [], harness := (true, "dda372a1db8efb6b8b4468e9edd4816b1da70a7be31930d63f51b0a36886d7be"), looks := false }, kinds := [], alts := [], laidByText := true, laidKinds := [.funcs, .funcs], laidTests := true, laidLooks := .later }
def FloorTallyUptoCardSaid : Prop := Claim7.holds Tryz.pinned (.plain (OpenSpec.upto floorTallySpec)) floorTallyUptoCard

/-- THE SECOND FORM's CARD OF 'aguadorlaw08.FloorPays'. -/
def floorPaysUptoCard : Claim7 := { stood := { row := floorPaysUptoRow, standIns := [], harness := (true, "dda372a1db8efb6b8b4468e9edd4816b1da70a7be31930d63f51b0a36886d7be"), looks := false }, kinds := [], alts := [], laidByText := true, laidKinds := [.funcs, .funcs], laidTests := true, laidLooks := .later }
def FloorPaysUptoCardSaid : Prop := Claim7.holds Tryz.pinned (.plain (OpenSpec.upto floorPaysSpec)) floorPaysUptoCard

/-- THE SECOND FORM's CARD OF 'aguadorlaw08.FloorQuarrel'. -/
def floorQuarrelUptoCard : Claim7 := { stood := { row := floorQuarrelUptoRow, standIns := [], harness := (true, "dda372a1db8efb6b8b4468e9edd4816b1da70a7be31930d63f51b0a36886d7be"), looks := false }, kinds := [], alts := [], laidByText := true, laidKinds := [.funcs, .funcs], laidTests := true, laidLooks := .later }
def FloorQuarrelUptoCardSaid : Prop := Claim7.holds Tryz.pinned (.plain (OpenSpec.upto floorQuarrelSpec)) floorQuarrelUptoCard

/-- THE SECOND FORM's CARD OF 'aguadorlaw08.FloorExamples'. -/
def floorExamplesUptoCard : Claim7 := { stood := { row := floorExamplesUptoRow, standIns := [], harness := (true, "dda372a1db8efb6b8b4468e9edd4816b1da70a7be31930d63f51b0a36886d7be"), looks := false }, kinds := [], alts := [], laidByText := true, laidKinds := [.funcs, .funcs], laidTests := true, laidLooks := .later }
def FloorExamplesUptoCardSaid : Prop := Claim7.holds Tryz.pinned (.plain (OpenSpec.upto floorExamplesSpec)) floorExamplesUptoCard

/-- THE SECOND FORM's CARD OF 'aguadortop.TopJoined'. -/
def topJoinedUptoCard : Claim7 := { stood := { row := topJoinedUptoRow, standIns := [], harness := (true, "dda372a1db8efb6b8b4468e9edd4816b1da70a7be31930d63f51b0a36886d7be"), looks := false }, kinds := [], alts := [], laidByText := true, laidKinds := [.funcs, .funcs], laidTests := true, laidLooks := .later }
def TopJoinedUptoCardSaid : Prop := Claim7.holds Tryz.pinned (.plain (OpenSpec.upto topJoinedSpec)) topJoinedUptoCard
end Rows
end Go.Proofs.YtihonljdanjfmaaGreatDoor
