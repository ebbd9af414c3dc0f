/-
  DERIVED. GIVEN WITH THE SEED: THE CARDS: each row of YtihonljdanjfmaaDoorRows.lean that lists a variable, with what it lists TIED to the program's text (the seventh form; the later family's looks); each row that meets fmt, with fmt's text TOLD by the authors' own Lean function (tested against real Go, not proved from fmt's source: count such statements apart). THE CARD IS WHAT COUNTS. Prove the row's statement (the work); the ties are given (YtihonljdanjfmaaDoorTie.lean); close each card by the builder's one call (the guide's Derived/Test/ToyasCard.lean, 'card_holds'). Laid BY PROGRAM, IN A SANDBOX (cutbox-door.mjs). By AI agents, Wed Nov 11 2026. No macro, syntax, notation, axiom, sorry.
-/
import Derived.Test.YtihonljdanjfmaaDoorRows
import GoSem.ClaimSeven
namespace Go.Proofs.YtihonljdanjfmaaDoor
namespace Rows

/-- THE TIED CARD OF 'aguadorlaw08.FloorJudges'. -/
def floorJudgesCard : Claim7 := { stood := { row := floorJudgesRow, standIns := [], harness := (true, "f6cdb4d87cdc7769fbf679e94a68588a2d13c6d4069aa0c487f5b5e1377f9291"), looks := false }, kinds := [], alts := [], laidByText := true, laidKinds := [.funcs], laidTests := true, laidLooks := .later }
def FloorJudgesCardSaid : Prop := Claim7.holds Tryd.pinned (.plain (OpenSpec.ofChange floorJudgesSpec)) floorJudgesCard

/-- THE TIED CARD OF 'aguadorlaw08.FloorTells'. -/
def floorTellsCard : Claim7 := { stood := { row := floorTellsRow, standIns := [], harness := (true, "f6cdb4d87cdc7769fbf679e94a68588a2d13c6d4069aa0c487f5b5e1377f9291"), looks := false }, kinds := [], alts := [], laidByText := true, laidKinds := [.funcs], laidTests := true, laidLooks := .later }
def FloorTellsCardSaid : Prop := Claim7.holds Tryd.pinned (.plain (OpenSpec.ofChange floorTellsSpec)) floorTellsCard

/-- THE TIED CARD OF 'aguadorlaw08.FloorChanges'. -/
def floorChangesCard : Claim7 := { stood := { row := floorChangesRow, standIns := [], harness := (true, "f6cdb4d87cdc7769fbf679e94a68588a2d13c6d4069aa0c487f5b5e1377f9291"), looks := false }, kinds := [], alts := [], laidByText := true, laidKinds := [.funcs], laidTests := true, laidLooks := .later }
def FloorChangesCardSaid : Prop := Claim7.holds Tryd.pinned (.plain (OpenSpec.ofChange floorChangesSpec)) floorChangesCard

/-- THE TIED CARD OF 'aguadorlaw08.FloorBills'. -/
def floorBillsCard : Claim7 := { stood := { row := floorBillsRow, standIns := [], harness := (true, "f6cdb4d87cdc7769fbf679e94a68588a2d13c6d4069aa0c487f5b5e1377f9291"), looks := false }, kinds := [], alts := [], laidByText := true, laidKinds := [.funcs, .funcs], laidTests := true, laidLooks := .later }
def FloorBillsCardSaid : Prop := Claim7.holds Tryd.pinned (.plain (OpenSpec.ofChange floorBillsSpec)) floorBillsCard

/-- THE TIED CARD OF 'aguadorlaw08.FloorParts'. -/
def floorPartsCard : Claim7 := { stood := { row := floorPartsRow, standIns := [], harness := (true, "f6cdb4d87cdc7769fbf679e94a68588a2d13c6d4069aa0c487f5b5e1377f9291"), looks := false }, kinds := [], alts := [], laidByText := true, laidKinds := [.funcs], laidTests := true, laidLooks := .later }
def FloorPartsCardSaid : Prop := Claim7.holds Tryd.pinned (.plain (OpenSpec.ofChange floorPartsSpec)) floorPartsCard

/-- THE TIED CARD OF 'aguadorlaw08.FloorLists'. -/
def floorListsCard : Claim7 := { stood := { row := floorListsRow, standIns := [], harness := (true, "f6cdb4d87cdc7769fbf679e94a68588a2d13c6d4069aa0c487f5b5e1377f9291"), looks := false }, kinds := [], alts := [], laidByText := true, laidKinds := [.funcs], laidTests := true, laidLooks := .later }
def FloorListsCardSaid : Prop := Claim7.holds Tryd.pinned (.plain (OpenSpec.ofChange floorListsSpec)) floorListsCard

/-- THE SECOND FORM's CARD OF 'aguadorlaw08.FloorJudges'. -/
def floorJudgesUptoCard : Claim7 := { stood := { row := floorJudgesUptoRow, standIns := [], harness := (true, "f6cdb4d87cdc7769fbf679e94a68588a2d13c6d4069aa0c487f5b5e1377f9291"), looks := false }, kinds := [], alts := [], laidByText := true, laidKinds := [.funcs], laidTests := true, laidLooks := .later }
def FloorJudgesUptoCardSaid : Prop := Claim7.holds Tryd.pinned (.plain (OpenSpec.upto floorJudgesSpec)) floorJudgesUptoCard

/-- THE SECOND FORM's CARD OF 'aguadorlaw08.FloorTells'. -/
def floorTellsUptoCard : Claim7 := { stood := { row := floorTellsUptoRow, standIns := [], harness := (true, "f6cdb4d87cdc7769fbf679e94a68588a2d13c6d4069aa0c487f5b5e1377f9291"), looks := false }, kinds := [], alts := [], laidByText := true, laidKinds := [.funcs], laidTests := true, laidLooks := .later }
def FloorTellsUptoCardSaid : Prop := Claim7.holds Tryd.pinned (.plain (OpenSpec.upto floorTellsSpec)) floorTellsUptoCard

/-- THE SECOND FORM's CARD OF 'aguadorlaw08.FloorChanges'. -/
def floorChangesUptoCard : Claim7 := { stood := { row := floorChangesUptoRow, standIns := [], harness := (true, "f6cdb4d87cdc7769fbf679e94a68588a2d13c6d4069aa0c487f5b5e1377f9291"), looks := false }, kinds := [], alts := [], laidByText := true, laidKinds := [.funcs], laidTests := true, laidLooks := .later }
def FloorChangesUptoCardSaid : Prop := Claim7.holds Tryd.pinned (.plain (OpenSpec.upto floorChangesSpec)) floorChangesUptoCard

/-- THE SECOND FORM's CARD OF 'aguadorlaw08.FloorBills'. -/
def floorBillsUptoCard : Claim7 := { stood := { row := floorBillsUptoRow, standIns := [], harness := (true, "f6cdb4d87cdc7769fbf679e94a68588a2d13c6d4069aa0c487f5b5e1377f9291"), looks := false }, kinds := [], alts := [], laidByText := true, laidKinds := [.funcs, .funcs], laidTests := true, laidLooks := .later }
def FloorBillsUptoCardSaid : Prop := Claim7.holds Tryd.pinned (.plain (OpenSpec.upto floorBillsSpec)) floorBillsUptoCard

/-- THE SECOND FORM's CARD OF 'aguadorlaw08.FloorParts'. -/
def floorPartsUptoCard : Claim7 := { stood := { row := floorPartsUptoRow, standIns := [], harness := (true, "f6cdb4d87cdc7769fbf679e94a68588a2d13c6d4069aa0c487f5b5e1377f9291"), looks := false }, kinds := [], alts := [], laidByText := true, laidKinds := [.funcs], laidTests := true, laidLooks := .later }
def FloorPartsUptoCardSaid : Prop := Claim7.holds Tryd.pinned (.plain (OpenSpec.upto floorPartsSpec)) floorPartsUptoCard

/-- THE SECOND FORM's CARD OF 'aguadorlaw08.FloorLists'. -/
def floorListsUptoCard : Claim7 := { stood := { row := floorListsUptoRow, standIns := [], harness := (true, "f6cdb4d87cdc7769fbf679e94a68588a2d13c6d4069aa0c487f5b5e1377f9291"), looks := false }, kinds := [], alts := [], laidByText := true, laidKinds := [.funcs], laidTests := true, laidLooks := .later }
def FloorListsUptoCardSaid : Prop := Claim7.holds Tryd.pinned (.plain (OpenSpec.upto floorListsSpec)) floorListsUptoCard
end Rows
end Go.Proofs.YtihonljdanjfmaaDoor
