/-
  DERIVED. GIVEN WITH THE SEED: THE CARDS: each row of YthddoikmgpgakaaDoorRows.lean that lists a variable, with what it lists TIED to the program's text (the seventh form; the later family's looks); each row that meets fmt, with fmt's text TOLD by the authors' own Lean function (tested against real Go, not proved from fmt's source: count such statements apart). THE CARD IS WHAT COUNTS. Prove the row's statement (the work); the ties are given (YthddoikmgpgakaaDoorTie.lean); close each card by the builder's one call (the guide's Derived/Test/ToyasCard.lean, 'card_holds'). Laid BY PROGRAM, IN A SANDBOX (cutbox-door.mjs). By AI agents, Wed Nov 11 2026. No macro, syntax, notation, axiom, sorry.
-/
import Derived.Test.YthddoikmgpgakaaDoorRows
import GoSem.ClaimSeven
namespace Go.Proofs.YthddoikmgpgakaaDoor
namespace Rows

/-- THE TIED CARD OF 'aguadorlaw07.TallyChanges'. -/
def tallyChangesCard : Claim7 := { stood := { row := tallyChangesRow, standIns := [], harness := (true, "69d1e61d04cdaa26cf28fe4c6392fdbda52821a3f6b1c0f7549a7598b03fccae"), looks := false }, kinds := [], alts := [], laidByText := true, laidKinds := [.funcs], laidTests := true, laidLooks := .later }
def TallyChangesCardSaid : Prop := Claim7.holds Tryd.pinned (.plain (OpenSpec.ofChange tallyChangesSpec)) tallyChangesCard

/-- THE TIED CARD OF 'aguadorlaw07.TallyCuts'. -/
def tallyCutsCard : Claim7 := { stood := { row := tallyCutsRow, standIns := [], harness := (true, "69d1e61d04cdaa26cf28fe4c6392fdbda52821a3f6b1c0f7549a7598b03fccae"), looks := false }, kinds := [], alts := [], laidByText := true, laidKinds := [.funcs], laidTests := true, laidLooks := .later }
def TallyCutsCardSaid : Prop := Claim7.holds Tryd.pinned (.plain (OpenSpec.ofChange tallyCutsSpec)) tallyCutsCard

/-- THE TIED CARD OF 'aguadorlaw07.TallyTells'. -/
def tallyTellsCard : Claim7 := { stood := { row := tallyTellsRow, standIns := [], harness := (true, "69d1e61d04cdaa26cf28fe4c6392fdbda52821a3f6b1c0f7549a7598b03fccae"), looks := false }, kinds := [], alts := [], laidByText := true, laidKinds := [.funcs], laidTests := true, laidLooks := .later }
def TallyTellsCardSaid : Prop := Claim7.holds Tryd.pinned (.plain (OpenSpec.ofChange tallyTellsSpec)) tallyTellsCard

/-- THE TIED CARD OF 'aguadorlaw07.TallyOwes'. -/
def tallyOwesCard : Claim7 := { stood := { row := tallyOwesRow, standIns := [], harness := (true, "69d1e61d04cdaa26cf28fe4c6392fdbda52821a3f6b1c0f7549a7598b03fccae"), looks := false }, kinds := [], alts := [], laidByText := true, laidKinds := [.funcs], laidTests := true, laidLooks := .later }
def TallyOwesCardSaid : Prop := Claim7.holds Tryd.pinned (.plain (OpenSpec.ofChange tallyOwesSpec)) tallyOwesCard

/-- THE TIED CARD OF 'aguadorlaw07.TallyMatches'. -/
def tallyMatchesCard : Claim7 := { stood := { row := tallyMatchesRow, standIns := [], harness := (true, "69d1e61d04cdaa26cf28fe4c6392fdbda52821a3f6b1c0f7549a7598b03fccae"), looks := false }, kinds := [], alts := [], laidByText := true, laidKinds := [.funcs], laidTests := true, laidLooks := .later }
def TallyMatchesCardSaid : Prop := Claim7.holds Tryd.pinned (.plain (OpenSpec.ofChange tallyMatchesSpec)) tallyMatchesCard

/-- THE TIED CARD OF 'aguadorlaw07.TallyLists'. -/
def tallyListsCard : Claim7 := { stood := { row := tallyListsRow, standIns := [], harness := (true, "69d1e61d04cdaa26cf28fe4c6392fdbda52821a3f6b1c0f7549a7598b03fccae"), looks := false }, kinds := [], alts := [], laidByText := true, laidKinds := [.funcs], laidTests := true, laidLooks := .later }
def TallyListsCardSaid : Prop := Claim7.holds Tryd.pinned (.plain (OpenSpec.ofChange tallyListsSpec)) tallyListsCard

/-- THE TIED CARD OF 'aguadorlaw07.TallyExamples'. -/
def tallyExamplesCard : Claim7 := { stood := { row := tallyExamplesRow, standIns := [], harness := (true, "69d1e61d04cdaa26cf28fe4c6392fdbda52821a3f6b1c0f7549a7598b03fccae"), looks := false }, kinds := [], alts := [], laidByText := true, laidKinds := [.funcs], laidTests := true, laidLooks := .later }
def TallyExamplesCardSaid : Prop := Claim7.holds Tryd.pinned (.plain (OpenSpec.ofChange tallyExamplesSpec)) tallyExamplesCard

/-- THE TIED CARD OF 'aguadorlaw07.TallyFewest'. -/
def tallyFewestCard : Claim7 := { stood := { row := tallyFewestRow, standIns := [], harness := (true, "69d1e61d04cdaa26cf28fe4c6392fdbda52821a3f6b1c0f7549a7598b03fccae"), looks := false }, kinds := [], alts := [], laidByText := true, laidKinds := [.funcs], laidTests := true, laidLooks := .later }
def TallyFewestCardSaid : Prop := Claim7.holds Tryd.pinned (.plain (OpenSpec.ofChange tallyFewestSpec)) tallyFewestCard

/-- THE TIED CARD OF 'aguadorlaw07.TallyTrue'. -/
def tallyTrueCard : Claim7 := { stood := { row := tallyTrueRow, standIns := [], harness := (true, "69d1e61d04cdaa26cf28fe4c6392fdbda52821a3f6b1c0f7549a7598b03fccae"), looks := false }, kinds := [], alts := [], laidByText := true, laidKinds := [.funcs], laidTests := true, laidLooks := .later }
def TallyTrueCardSaid : Prop := Claim7.holds Tryd.pinned (.plain (OpenSpec.ofChange tallyTrueSpec)) tallyTrueCard

/-- THE TIED CARD OF 'aguadorlaw07.TallyAll'. -/
def tallyAllCard : Claim7 := { stood := { row := tallyAllRow, standIns := [], harness := (true, "69d1e61d04cdaa26cf28fe4c6392fdbda52821a3f6b1c0f7549a7598b03fccae"), looks := false }, kinds := [], alts := [], laidByText := true, laidKinds := [.funcs], laidTests := true, laidLooks := .later }
def TallyAllCardSaid : Prop := Claim7.holds Tryd.pinned (.plain (OpenSpec.ofChange tallyAllSpec)) tallyAllCard

/-- THE TIED CARD OF 'aguadorlaw07.TallyThird'. -/
def tallyThirdCard : Claim7 := { stood := { row := tallyThirdRow, standIns := [], harness := (true, "69d1e61d04cdaa26cf28fe4c6392fdbda52821a3f6b1c0f7549a7598b03fccae"), looks := false }, kinds := [], alts := [], laidByText := true, laidKinds := [.funcs], laidTests := true, laidLooks := .later }
def TallyThirdCardSaid : Prop := Claim7.holds Tryd.pinned (.plain (OpenSpec.ofChange tallyThirdSpec)) tallyThirdCard

/-- THE TIED CARD OF 'aguadorlaw07.TallyCut'. -/
def tallyCutCard : Claim7 := { stood := { row := tallyCutRow, standIns := [], harness := (true, "69d1e61d04cdaa26cf28fe4c6392fdbda52821a3f6b1c0f7549a7598b03fccae"), looks := false }, kinds := [], alts := [], laidByText := true, laidKinds := [.funcs], laidTests := true, laidLooks := .later }
def TallyCutCardSaid : Prop := Claim7.holds Tryd.pinned (.plain (OpenSpec.ofChange tallyCutSpec)) tallyCutCard

/-- THE TIED CARD OF 'aguadorlaw07.TallyMore'. -/
def tallyMoreCard : Claim7 := { stood := { row := tallyMoreRow, standIns := [], harness := (true, "69d1e61d04cdaa26cf28fe4c6392fdbda52821a3f6b1c0f7549a7598b03fccae"), looks := false }, kinds := [], alts := [], laidByText := true, laidKinds := [.funcs], laidTests := true, laidLooks := .later }
def TallyMoreCardSaid : Prop := Claim7.holds Tryd.pinned (.plain (OpenSpec.ofChange tallyMoreSpec)) tallyMoreCard

/-- THE TIED CARD OF 'aguadorlaw07.TallyMatch'. -/
def tallyMatchCard : Claim7 := { stood := { row := tallyMatchRow, standIns := [], harness := (true, "69d1e61d04cdaa26cf28fe4c6392fdbda52821a3f6b1c0f7549a7598b03fccae"), looks := false }, kinds := [], alts := [], laidByText := true, laidKinds := [.funcs], laidTests := true, laidLooks := .later }
def TallyMatchCardSaid : Prop := Claim7.holds Tryd.pinned (.plain (OpenSpec.ofChange tallyMatchSpec)) tallyMatchCard

/-- THE TIED CARD OF 'aguadorlaw07.TallyHouse'. -/
def tallyHouseCard : Claim7 := { stood := { row := tallyHouseRow, standIns := [], harness := (true, "69d1e61d04cdaa26cf28fe4c6392fdbda52821a3f6b1c0f7549a7598b03fccae"), looks := false }, kinds := [], alts := [], laidByText := true, laidKinds := [.funcs], laidTests := true, laidLooks := .later }
def TallyHouseCardSaid : Prop := Claim7.holds Tryd.pinned (.plain (OpenSpec.ofChange tallyHouseSpec)) tallyHouseCard

/-- THE SECOND FORM's CARD OF 'aguadorlaw07.TallyChanges'. -/
def tallyChangesUptoCard : Claim7 := { stood := { row := tallyChangesUptoRow, standIns := [], harness := (true, "69d1e61d04cdaa26cf28fe4c6392fdbda52821a3f6b1c0f7549a7598b03fccae"), looks := false }, kinds := [], alts := [], laidByText := true, laidKinds := [.funcs], laidTests := true, laidLooks := .later }
def TallyChangesUptoCardSaid : Prop := Claim7.holds Tryd.pinned (.plain (OpenSpec.upto tallyChangesSpec)) tallyChangesUptoCard

/-- THE SECOND FORM's CARD OF 'aguadorlaw07.TallyCuts'. -/
def tallyCutsUptoCard : Claim7 := { stood := { row := tallyCutsUptoRow, standIns := [], harness := (true, "69d1e61d04cdaa26cf28fe4c6392fdbda52821a3f6b1c0f7549a7598b03fccae"), looks := false }, kinds := [], alts := [], laidByText := true, laidKinds := [.funcs], laidTests := true, laidLooks := .later }
def TallyCutsUptoCardSaid : Prop := Claim7.holds Tryd.pinned (.plain (OpenSpec.upto tallyCutsSpec)) tallyCutsUptoCard

/-- THE SECOND FORM's CARD OF 'aguadorlaw07.TallyTells'. -/
def tallyTellsUptoCard : Claim7 := { stood := { row := tallyTellsUptoRow, standIns := [], harness := (true, "69d1e61d04cdaa26cf28fe4c6392fdbda52821a3f6b1c0f7549a7598b03fccae"), looks := false }, kinds := [], alts := [], laidByText := true, laidKinds := [.funcs], laidTests := true, laidLooks := .later }
def TallyTellsUptoCardSaid : Prop := Claim7.holds Tryd.pinned (.plain (OpenSpec.upto tallyTellsSpec)) tallyTellsUptoCard

/-- THE SECOND FORM's CARD OF 'aguadorlaw07.TallyOwes'. -/
def tallyOwesUptoCard : Claim7 := { stood := { row := tallyOwesUptoRow, standIns := [], harness := (true, "69d1e61d04cdaa26cf28fe4c6392fdbda52821a3f6b1c0f7549a7598b03fccae"), looks := false }, kinds := [], alts := [], laidByText := true, laidKinds := [.funcs], laidTests := true, laidLooks := .later }
def TallyOwesUptoCardSaid : Prop := Claim7.holds Tryd.pinned (.plain (OpenSpec.upto tallyOwesSpec)) tallyOwesUptoCard

/-- THE SECOND FORM's CARD OF 'aguadorlaw07.TallyMatches'. -/
def tallyMatchesUptoCard : Claim7 := { stood := { row := tallyMatchesUptoRow, standIns := [], harness := (true, "69d1e61d04cdaa26cf28fe4c6392fdbda52821a3f6b1c0f7549a7598b03fccae"), looks := false }, kinds := [], alts := [], laidByText := true, laidKinds := [.funcs], laidTests := true, laidLooks := .later }
def TallyMatchesUptoCardSaid : Prop := Claim7.holds Tryd.pinned (.plain (OpenSpec.upto tallyMatchesSpec)) tallyMatchesUptoCard

/-- THE SECOND FORM's CARD OF 'aguadorlaw07.TallyLists'. -/
def tallyListsUptoCard : Claim7 := { stood := { row := tallyListsUptoRow, standIns := [], harness := (true, "69d1e61d04cdaa26cf28fe4c6392fdbda52821a3f6b1c0f7549a7598b03fccae"), looks := false }, kinds := [], alts := [], laidByText := true, laidKinds := [.funcs], laidTests := true, laidLooks := .later }
def TallyListsUptoCardSaid : Prop := Claim7.holds Tryd.pinned (.plain (OpenSpec.upto tallyListsSpec)) tallyListsUptoCard

/-- THE SECOND FORM's CARD OF 'aguadorlaw07.TallyExamples'. -/
def tallyExamplesUptoCard : Claim7 := { stood := { row := tallyExamplesUptoRow, standIns := [], harness := (true, "69d1e61d04cdaa26cf28fe4c6392fdbda52821a3f6b1c0f7549a7598b03fccae"), looks := false }, kinds := [], alts := [], laidByText := true, laidKinds := [.funcs], laidTests := true, laidLooks := .later }
def TallyExamplesUptoCardSaid : Prop := Claim7.holds Tryd.pinned (.plain (OpenSpec.upto tallyExamplesSpec)) tallyExamplesUptoCard

/-- THE SECOND FORM's CARD OF 'aguadorlaw07.TallyFewest'. -/
def tallyFewestUptoCard : Claim7 := { stood := { row := tallyFewestUptoRow, standIns := [], harness := (true, "69d1e61d04cdaa26cf28fe4c6392fdbda52821a3f6b1c0f7549a7598b03fccae"), looks := false }, kinds := [], alts := [], laidByText := true, laidKinds := [.funcs], laidTests := true, laidLooks := .later }
def TallyFewestUptoCardSaid : Prop := Claim7.holds Tryd.pinned (.plain (OpenSpec.upto tallyFewestSpec)) tallyFewestUptoCard

/-- THE SECOND FORM's CARD OF 'aguadorlaw07.TallyTrue'. -/
def tallyTrueUptoCard : Claim7 := { stood := { row := tallyTrueUptoRow, standIns := [], harness := (true, "69d1e61d04cdaa26cf28fe4c6392fdbda52821a3f6b1c0f7549a7598b03fccae"), looks := false }, kinds := [], alts := [], laidByText := true, laidKinds := [.funcs], laidTests := true, laidLooks := .later }
def TallyTrueUptoCardSaid : Prop := Claim7.holds Tryd.pinned (.plain (OpenSpec.upto tallyTrueSpec)) tallyTrueUptoCard

/-- THE SECOND FORM's CARD OF 'aguadorlaw07.TallyAll'. -/
def tallyAllUptoCard : Claim7 := { stood := { row := tallyAllUptoRow, standIns := [], harness := (true, "69d1e61d04cdaa26cf28fe4c6392fdbda52821a3f6b1c0f7549a7598b03fccae"), looks := false }, kinds := [], alts := [], laidByText := true, laidKinds := [.funcs], laidTests := true, laidLooks := .later }
def TallyAllUptoCardSaid : Prop := Claim7.holds Tryd.pinned (.plain (OpenSpec.upto tallyAllSpec)) tallyAllUptoCard

/-- THE SECOND FORM's CARD OF 'aguadorlaw07.TallyThird'. -/
def tallyThirdUptoCard : Claim7 := { stood := { row := tallyThirdUptoRow, standIns := [], harness := (true, "69d1e61d04cdaa26cf28fe4c6392fdbda52821a3f6b1c0f7549a7598b03fccae"), looks := false }, kinds := [], alts := [], laidByText := true, laidKinds := [.funcs], laidTests := true, laidLooks := .later }
def TallyThirdUptoCardSaid : Prop := Claim7.holds Tryd.pinned (.plain (OpenSpec.upto tallyThirdSpec)) tallyThirdUptoCard

/-- THE SECOND FORM's CARD OF 'aguadorlaw07.TallyCut'. -/
def tallyCutUptoCard : Claim7 := { stood := { row := tallyCutUptoRow, standIns := [], harness := (true, "69d1e61d04cdaa26cf28fe4c6392fdbda52821a3f6b1c0f7549a7598b03fccae"), looks := false }, kinds := [], alts := [], laidByText := true, laidKinds := [.funcs], laidTests := true, laidLooks := .later }
def TallyCutUptoCardSaid : Prop := Claim7.holds Tryd.pinned (.plain (OpenSpec.upto tallyCutSpec)) tallyCutUptoCard

/-- THE SECOND FORM's CARD OF 'aguadorlaw07.TallyMore'. -/
def tallyMoreUptoCard : Claim7 := { stood := { row := tallyMoreUptoRow, standIns := [], harness := (true, "69d1e61d04cdaa26cf28fe4c6392fdbda52821a3f6b1c0f7549a7598b03fccae"), looks := false }, kinds := [], alts := [], laidByText := true, laidKinds := [.funcs], laidTests := true, laidLooks := .later }
def TallyMoreUptoCardSaid : Prop := Claim7.holds Tryd.pinned (.plain (OpenSpec.upto tallyMoreSpec)) tallyMoreUptoCard

/-- THE SECOND FORM's CARD OF 'aguadorlaw07.TallyMatch'. -/
def tallyMatchUptoCard : Claim7 := { stood := { row := tallyMatchUptoRow, standIns := [], harness := (true, "69d1e61d04cdaa26cf28fe4c6392fdbda52821a3f6b1c0f7549a7598b03fccae"), looks := false }, kinds := [], alts := [], laidByText := true, laidKinds := [.funcs], laidTests := true, laidLooks := .later }
def TallyMatchUptoCardSaid : Prop := Claim7.holds Tryd.pinned (.plain (OpenSpec.upto tallyMatchSpec)) tallyMatchUptoCard

/-- THE SECOND FORM's CARD OF 'aguadorlaw07.TallyHouse'. -/
def tallyHouseUptoCard : Claim7 := { stood := { row := tallyHouseUptoRow, standIns := [], harness := (true, "69d1e61d04cdaa26cf28fe4c6392fdbda52821a3f6b1c0f7549a7598b03fccae"), looks := false }, kinds := [], alts := [], laidByText := true, laidKinds := [.funcs], laidTests := true, laidLooks := .later }
def TallyHouseUptoCardSaid : Prop := Claim7.holds Tryd.pinned (.plain (OpenSpec.upto tallyHouseSpec)) tallyHouseUptoCard
end Rows
end Go.Proofs.YthddoikmgpgakaaDoor
