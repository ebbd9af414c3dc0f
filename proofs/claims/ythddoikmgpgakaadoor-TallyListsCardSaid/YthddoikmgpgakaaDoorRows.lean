/-
  NARROWER THAN 'FOR EVERY INPUT', by the rows' own cells (each row's printed sentence says how): TallyChanges: laid · TallyCuts: laid · TallyTells: laid · TallyOwes: laid · TallyMatches: laid · TallyLists: laid · TallyExamples: laid · TallyFewest: laid · TallyTrue: laid · TallyAll: laid · TallyThird: laid · TallyCut: laid · TallyMore: laid · TallyMatch: laid · TallyHouse: laid.
  DERIVED. THE GIVEN ROWS OF THIS SEAT. 15 by the template 'for every input the law returns true; each argument reads behind the call as it read before'; 0 by the template 'total and deterministic' (their statements: YthddoikmgpgakaaDoorTotals.lean).
  GIVEN WITH THE SEED: the statements are not yours to turn. If you find one false, say at which input.
  Laid BY PROGRAM, IN A SANDBOX (cutbox-rows.mjs): the forced cells as the released guide's own fill.sh prints them over the translation 07e5d47764c21740… (all of the seat's roots in one cut). By AI agents, Wed Nov 11 2026. No macro, syntax, notation, axiom, sorry.
-/
import Derived.Test.YthddoikmgpgakaaDoorChecked
import GoSem.Claim
import GoSem.ClaimJoined
import GoSem.ClaimMapViews
import Derived.JoinedTies
import Derived.KernelRfl
namespace Go.Proofs.YthddoikmgpgakaaDoor
/- THE CELL 'sum', in the pinned program and in every row, IS THE sha256 OF THE DUMP (.gsa) THAT YthddoikmgpgakaaDoorProg.lean LOADS. Nothing in Lean hashes anything: it is a label: what it is worth is what the hold of that sum in a sandbox is worth. -/
noncomputable def Tryd.pinned : Pinned := { name := "ythddoikmgpgakaadoor", sum := "07e5d47764c217406b4a16e667b834e9bca60fa92799cd8fa367e269c02b2e73", checked := Tryd.checked }
namespace Rows
def none {H : Type} : Left H := { results := [], args := [] }

/- WHAT THE LISTED PACKAGE-LEVEL VARIABLES READ AS WHEN THE CALL BEGINS. Each datum BY PROGRAM (the guide's laid-datum.mjs) off the statement by which the dump's own 'gosem.cut.vars' lays the variable. In a bare row this is a premise. The card (YthddoikmgpgakaaDoorCards.lean) ties it to the program's text. -/
def laid_aguador_tally_checks {H : Type} : DataW H := .iface "func table" (.agg [.agg [.iface "func" (.lit (.string [97, 103, 117, 97, 100, 111, 114, 47, 116, 97, 108, 108, 121, 46, 99, 104, 101, 99, 107, 115, 36, 49]))], .agg [.iface "func" (.lit (.string [97, 103, 117, 97, 100, 111, 114, 47, 116, 97, 108, 108, 121, 46, 99, 104, 101, 99, 107, 115, 36, 50]))], .agg [.iface "func" (.lit (.string [97, 103, 117, 97, 100, 111, 114, 47, 116, 97, 108, 108, 121, 46, 99, 104, 101, 99, 107, 115, 36, 51]))]])

/-- 'aguadorlaw07.TallyChanges': WHATEVER THE INPUT: true; the input reads as it did. -/
def tallyChangesSpec : ChangeSpec := { name := "tallyChanges", fn := fun _ => fun
  | [d1, d2, d3] => { results := [.lit (.bool true)], args := [d1, d2, d3] }
  | _ => none }
def tallyChangesRow : OpenClaim := { program := "ythddoikmgpgakaadoor", sum := "07e5d47764c217406b4a16e667b834e9bca60fa92799cd8fa367e269c02b2e73", func := "aguador/aguadorlaw07.TallyChanges", spec := "tallyChanges", unfollowed := true, recurses := true, named := ["aguador/tally.checks"], plainKeys := false, apart := false, laid := [("aguador/tally.checks", laid_aguador_tally_checks)] }
def TallyChangesSaid : Prop := tallyChangesRow.holds Tryd.pinned (OpenSpec.ofChange tallyChangesSpec)

/-- ITS FALSE NEIGHBOUR: 'it returns false'. Refute it at one input. -/
def tallyChangesWrong : ChangeSpec := { name := "tallyChanges", fn := fun _ => fun
  | [d1, d2, d3] => { results := [.lit (.bool false)], args := [d1, d2, d3] }
  | _ => none }
def TallyChangesWrongFalsely : Prop := tallyChangesRow.holds Tryd.pinned (OpenSpec.ofChange tallyChangesWrong)

/-- 'aguadorlaw07.TallyCuts': WHATEVER THE INPUT: true; the input reads as it did. -/
def tallyCutsSpec : ChangeSpec := { name := "tallyCuts", fn := fun _ => fun
  | [d1, d2, d3] => { results := [.lit (.bool true)], args := [d1, d2, d3] }
  | _ => none }
def tallyCutsRow : OpenClaim := { program := "ythddoikmgpgakaadoor", sum := "07e5d47764c217406b4a16e667b834e9bca60fa92799cd8fa367e269c02b2e73", func := "aguador/aguadorlaw07.TallyCuts", spec := "tallyCuts", unfollowed := true, recurses := true, named := ["aguador/tally.checks"], plainKeys := false, apart := false, laid := [("aguador/tally.checks", laid_aguador_tally_checks)] }
def TallyCutsSaid : Prop := tallyCutsRow.holds Tryd.pinned (OpenSpec.ofChange tallyCutsSpec)

/-- ITS FALSE NEIGHBOUR: 'it returns false'. Refute it at one input. -/
def tallyCutsWrong : ChangeSpec := { name := "tallyCuts", fn := fun _ => fun
  | [d1, d2, d3] => { results := [.lit (.bool false)], args := [d1, d2, d3] }
  | _ => none }
def TallyCutsWrongFalsely : Prop := tallyCutsRow.holds Tryd.pinned (OpenSpec.ofChange tallyCutsWrong)

/-- 'aguadorlaw07.TallyTells': WHATEVER THE INPUT: true; the input reads as it did. -/
def tallyTellsSpec : ChangeSpec := { name := "tallyTells", fn := fun _ => fun
  | [d1, d2] => { results := [.lit (.bool true)], args := [d1, d2] }
  | _ => none }
def tallyTellsRow : OpenClaim := { program := "ythddoikmgpgakaadoor", sum := "07e5d47764c217406b4a16e667b834e9bca60fa92799cd8fa367e269c02b2e73", func := "aguador/aguadorlaw07.TallyTells", spec := "tallyTells", unfollowed := true, recurses := true, named := ["aguador/tally.checks"], plainKeys := false, apart := false, laid := [("aguador/tally.checks", laid_aguador_tally_checks)] }
def TallyTellsSaid : Prop := tallyTellsRow.holds Tryd.pinned (OpenSpec.ofChange tallyTellsSpec)

/-- ITS FALSE NEIGHBOUR: 'it returns false'. Refute it at one input. -/
def tallyTellsWrong : ChangeSpec := { name := "tallyTells", fn := fun _ => fun
  | [d1, d2] => { results := [.lit (.bool false)], args := [d1, d2] }
  | _ => none }
def TallyTellsWrongFalsely : Prop := tallyTellsRow.holds Tryd.pinned (OpenSpec.ofChange tallyTellsWrong)

/-- 'aguadorlaw07.TallyOwes': WHATEVER THE INPUT: true; the input reads as it did. -/
def tallyOwesSpec : ChangeSpec := { name := "tallyOwes", fn := fun _ => fun
  | [d1, d2, d3, d4, d5] => { results := [.lit (.bool true)], args := [d1, d2, d3, d4, d5] }
  | _ => none }
def tallyOwesRow : OpenClaim := { program := "ythddoikmgpgakaadoor", sum := "07e5d47764c217406b4a16e667b834e9bca60fa92799cd8fa367e269c02b2e73", func := "aguador/aguadorlaw07.TallyOwes", spec := "tallyOwes", unfollowed := true, recurses := true, named := ["aguador/tally.checks"], plainKeys := false, apart := false, laid := [("aguador/tally.checks", laid_aguador_tally_checks)] }
def TallyOwesSaid : Prop := tallyOwesRow.holds Tryd.pinned (OpenSpec.ofChange tallyOwesSpec)

/-- ITS FALSE NEIGHBOUR: 'it returns false'. Refute it at one input. -/
def tallyOwesWrong : ChangeSpec := { name := "tallyOwes", fn := fun _ => fun
  | [d1, d2, d3, d4, d5] => { results := [.lit (.bool false)], args := [d1, d2, d3, d4, d5] }
  | _ => none }
def TallyOwesWrongFalsely : Prop := tallyOwesRow.holds Tryd.pinned (OpenSpec.ofChange tallyOwesWrong)

/-- 'aguadorlaw07.TallyMatches': WHATEVER THE INPUT: true; the input reads as it did. -/
def tallyMatchesSpec : ChangeSpec := { name := "tallyMatches", fn := fun _ => fun
  | [d] => { results := [.lit (.bool true)], args := [d] }
  | _ => none }
def tallyMatchesRow : OpenClaim := { program := "ythddoikmgpgakaadoor", sum := "07e5d47764c217406b4a16e667b834e9bca60fa92799cd8fa367e269c02b2e73", func := "aguador/aguadorlaw07.TallyMatches", spec := "tallyMatches", unfollowed := true, recurses := true, named := ["aguador/tally.checks"], plainKeys := false, apart := false, laid := [("aguador/tally.checks", laid_aguador_tally_checks)] }
def TallyMatchesSaid : Prop := tallyMatchesRow.holds Tryd.pinned (OpenSpec.ofChange tallyMatchesSpec)

/-- ITS FALSE NEIGHBOUR: 'it returns false'. Refute it at one input. -/
def tallyMatchesWrong : ChangeSpec := { name := "tallyMatches", fn := fun _ => fun
  | [d] => { results := [.lit (.bool false)], args := [d] }
  | _ => none }
def TallyMatchesWrongFalsely : Prop := tallyMatchesRow.holds Tryd.pinned (OpenSpec.ofChange tallyMatchesWrong)

/-- 'aguadorlaw07.TallyLists': WHATEVER THE INPUT: true; the input reads as it did. -/
def tallyListsSpec : ChangeSpec := { name := "tallyLists", fn := fun _ => fun
  | [d] => { results := [.lit (.bool true)], args := [d] }
  | _ => none }
def tallyListsRow : OpenClaim := { program := "ythddoikmgpgakaadoor", sum := "07e5d47764c217406b4a16e667b834e9bca60fa92799cd8fa367e269c02b2e73", func := "aguador/aguadorlaw07.TallyLists", spec := "tallyLists", unfollowed := true, recurses := true, named := ["aguador/tally.checks"], plainKeys := false, apart := false, laid := [("aguador/tally.checks", laid_aguador_tally_checks)] }
def TallyListsSaid : Prop := tallyListsRow.holds Tryd.pinned (OpenSpec.ofChange tallyListsSpec)

/-- ITS FALSE NEIGHBOUR: 'it returns false'. Refute it at one input. -/
def tallyListsWrong : ChangeSpec := { name := "tallyLists", fn := fun _ => fun
  | [d] => { results := [.lit (.bool false)], args := [d] }
  | _ => none }
def TallyListsWrongFalsely : Prop := tallyListsRow.holds Tryd.pinned (OpenSpec.ofChange tallyListsWrong)

/-- 'aguadorlaw07.TallyExamples': WHATEVER THE INPUT: true; the input reads as it did. -/
def tallyExamplesSpec : ChangeSpec := { name := "tallyExamples", fn := fun _ => fun
  | [] => { results := [.lit (.bool true)], args := [] }
  | _ => none }
def tallyExamplesRow : OpenClaim := { program := "ythddoikmgpgakaadoor", sum := "07e5d47764c217406b4a16e667b834e9bca60fa92799cd8fa367e269c02b2e73", func := "aguador/aguadorlaw07.TallyExamples", spec := "tallyExamples", unfollowed := true, recurses := true, named := ["aguador/tally.checks"], plainKeys := false, apart := false, laid := [("aguador/tally.checks", laid_aguador_tally_checks)] }
def TallyExamplesSaid : Prop := tallyExamplesRow.holds Tryd.pinned (OpenSpec.ofChange tallyExamplesSpec)

/-- ITS FALSE NEIGHBOUR: 'it returns false'. Refute it at one input. -/
def tallyExamplesWrong : ChangeSpec := { name := "tallyExamples", fn := fun _ => fun
  | [] => { results := [.lit (.bool false)], args := [] }
  | _ => none }
def TallyExamplesWrongFalsely : Prop := tallyExamplesRow.holds Tryd.pinned (OpenSpec.ofChange tallyExamplesWrong)

/-- 'aguadorlaw07.TallyFewest': WHATEVER THE INPUT: true; the input reads as it did. -/
def tallyFewestSpec : ChangeSpec := { name := "tallyFewest", fn := fun _ => fun
  | [d1, d2] => { results := [.lit (.bool true)], args := [d1, d2] }
  | _ => none }
def tallyFewestRow : OpenClaim := { program := "ythddoikmgpgakaadoor", sum := "07e5d47764c217406b4a16e667b834e9bca60fa92799cd8fa367e269c02b2e73", func := "aguador/aguadorlaw07.TallyFewest", spec := "tallyFewest", unfollowed := true, recurses := true, named := ["aguador/tally.checks"], plainKeys := false, apart := false, laid := [("aguador/tally.checks", laid_aguador_tally_checks)] }
def TallyFewestSaid : Prop := tallyFewestRow.holds Tryd.pinned (OpenSpec.ofChange tallyFewestSpec)

/-- ITS FALSE NEIGHBOUR: 'it returns false'. Refute it at one input. -/
def tallyFewestWrong : ChangeSpec := { name := "tallyFewest", fn := fun _ => fun
  | [d1, d2] => { results := [.lit (.bool false)], args := [d1, d2] }
  | _ => none }
def TallyFewestWrongFalsely : Prop := tallyFewestRow.holds Tryd.pinned (OpenSpec.ofChange tallyFewestWrong)

/-- 'aguadorlaw07.TallyTrue': WHATEVER THE INPUT: true; the input reads as it did. -/
def tallyTrueSpec : ChangeSpec := { name := "tallyTrue", fn := fun _ => fun
  | [d1, d2, d3] => { results := [.lit (.bool true)], args := [d1, d2, d3] }
  | _ => none }
def tallyTrueRow : OpenClaim := { program := "ythddoikmgpgakaadoor", sum := "07e5d47764c217406b4a16e667b834e9bca60fa92799cd8fa367e269c02b2e73", func := "aguador/aguadorlaw07.TallyTrue", spec := "tallyTrue", unfollowed := true, recurses := true, named := ["aguador/tally.checks"], plainKeys := false, apart := false, laid := [("aguador/tally.checks", laid_aguador_tally_checks)] }
def TallyTrueSaid : Prop := tallyTrueRow.holds Tryd.pinned (OpenSpec.ofChange tallyTrueSpec)

/-- ITS FALSE NEIGHBOUR: 'it returns false'. Refute it at one input. -/
def tallyTrueWrong : ChangeSpec := { name := "tallyTrue", fn := fun _ => fun
  | [d1, d2, d3] => { results := [.lit (.bool false)], args := [d1, d2, d3] }
  | _ => none }
def TallyTrueWrongFalsely : Prop := tallyTrueRow.holds Tryd.pinned (OpenSpec.ofChange tallyTrueWrong)

/-- 'aguadorlaw07.TallyAll': WHATEVER THE INPUT: true; the input reads as it did. -/
def tallyAllSpec : ChangeSpec := { name := "tallyAll", fn := fun _ => fun
  | [d1, d2] => { results := [.lit (.bool true)], args := [d1, d2] }
  | _ => none }
def tallyAllRow : OpenClaim := { program := "ythddoikmgpgakaadoor", sum := "07e5d47764c217406b4a16e667b834e9bca60fa92799cd8fa367e269c02b2e73", func := "aguador/aguadorlaw07.TallyAll", spec := "tallyAll", unfollowed := true, recurses := true, named := ["aguador/tally.checks"], plainKeys := false, apart := false, laid := [("aguador/tally.checks", laid_aguador_tally_checks)] }
def TallyAllSaid : Prop := tallyAllRow.holds Tryd.pinned (OpenSpec.ofChange tallyAllSpec)

/-- ITS FALSE NEIGHBOUR: 'it returns false'. Refute it at one input. -/
def tallyAllWrong : ChangeSpec := { name := "tallyAll", fn := fun _ => fun
  | [d1, d2] => { results := [.lit (.bool false)], args := [d1, d2] }
  | _ => none }
def TallyAllWrongFalsely : Prop := tallyAllRow.holds Tryd.pinned (OpenSpec.ofChange tallyAllWrong)

/-- 'aguadorlaw07.TallyThird': WHATEVER THE INPUT: true; the input reads as it did. -/
def tallyThirdSpec : ChangeSpec := { name := "tallyThird", fn := fun _ => fun
  | [d1, d2] => { results := [.lit (.bool true)], args := [d1, d2] }
  | _ => none }
def tallyThirdRow : OpenClaim := { program := "ythddoikmgpgakaadoor", sum := "07e5d47764c217406b4a16e667b834e9bca60fa92799cd8fa367e269c02b2e73", func := "aguador/aguadorlaw07.TallyThird", spec := "tallyThird", unfollowed := true, recurses := true, named := ["aguador/tally.checks"], plainKeys := false, apart := false, laid := [("aguador/tally.checks", laid_aguador_tally_checks)] }
def TallyThirdSaid : Prop := tallyThirdRow.holds Tryd.pinned (OpenSpec.ofChange tallyThirdSpec)

/-- ITS FALSE NEIGHBOUR: 'it returns false'. Refute it at one input. -/
def tallyThirdWrong : ChangeSpec := { name := "tallyThird", fn := fun _ => fun
  | [d1, d2] => { results := [.lit (.bool false)], args := [d1, d2] }
  | _ => none }
def TallyThirdWrongFalsely : Prop := tallyThirdRow.holds Tryd.pinned (OpenSpec.ofChange tallyThirdWrong)

/-- 'aguadorlaw07.TallyCut': WHATEVER THE INPUT: true; the input reads as it did. -/
def tallyCutSpec : ChangeSpec := { name := "tallyCut", fn := fun _ => fun
  | [d1, d2] => { results := [.lit (.bool true)], args := [d1, d2] }
  | _ => none }
def tallyCutRow : OpenClaim := { program := "ythddoikmgpgakaadoor", sum := "07e5d47764c217406b4a16e667b834e9bca60fa92799cd8fa367e269c02b2e73", func := "aguador/aguadorlaw07.TallyCut", spec := "tallyCut", unfollowed := true, recurses := true, named := ["aguador/tally.checks"], plainKeys := false, apart := false, laid := [("aguador/tally.checks", laid_aguador_tally_checks)] }
def TallyCutSaid : Prop := tallyCutRow.holds Tryd.pinned (OpenSpec.ofChange tallyCutSpec)

/-- ITS FALSE NEIGHBOUR: 'it returns false'. Refute it at one input. -/
def tallyCutWrong : ChangeSpec := { name := "tallyCut", fn := fun _ => fun
  | [d1, d2] => { results := [.lit (.bool false)], args := [d1, d2] }
  | _ => none }
def TallyCutWrongFalsely : Prop := tallyCutRow.holds Tryd.pinned (OpenSpec.ofChange tallyCutWrong)

/-- 'aguadorlaw07.TallyMore': WHATEVER THE INPUT: true; the input reads as it did. -/
def tallyMoreSpec : ChangeSpec := { name := "tallyMore", fn := fun _ => fun
  | [d1, d2, d3, d4] => { results := [.lit (.bool true)], args := [d1, d2, d3, d4] }
  | _ => none }
def tallyMoreRow : OpenClaim := { program := "ythddoikmgpgakaadoor", sum := "07e5d47764c217406b4a16e667b834e9bca60fa92799cd8fa367e269c02b2e73", func := "aguador/aguadorlaw07.TallyMore", spec := "tallyMore", unfollowed := true, recurses := true, named := ["aguador/tally.checks"], plainKeys := false, apart := false, laid := [("aguador/tally.checks", laid_aguador_tally_checks)] }
def TallyMoreSaid : Prop := tallyMoreRow.holds Tryd.pinned (OpenSpec.ofChange tallyMoreSpec)

/-- ITS FALSE NEIGHBOUR: 'it returns false'. Refute it at one input. -/
def tallyMoreWrong : ChangeSpec := { name := "tallyMore", fn := fun _ => fun
  | [d1, d2, d3, d4] => { results := [.lit (.bool false)], args := [d1, d2, d3, d4] }
  | _ => none }
def TallyMoreWrongFalsely : Prop := tallyMoreRow.holds Tryd.pinned (OpenSpec.ofChange tallyMoreWrong)

/-- 'aguadorlaw07.TallyMatch': WHATEVER THE INPUT: true; the input reads as it did. -/
def tallyMatchSpec : ChangeSpec := { name := "tallyMatch", fn := fun _ => fun
  | [d1, d2] => { results := [.lit (.bool true)], args := [d1, d2] }
  | _ => none }
def tallyMatchRow : OpenClaim := { program := "ythddoikmgpgakaadoor", sum := "07e5d47764c217406b4a16e667b834e9bca60fa92799cd8fa367e269c02b2e73", func := "aguador/aguadorlaw07.TallyMatch", spec := "tallyMatch", unfollowed := true, recurses := true, named := ["aguador/tally.checks"], plainKeys := false, apart := false, laid := [("aguador/tally.checks", laid_aguador_tally_checks)] }
def TallyMatchSaid : Prop := tallyMatchRow.holds Tryd.pinned (OpenSpec.ofChange tallyMatchSpec)

/-- ITS FALSE NEIGHBOUR: 'it returns false'. Refute it at one input. -/
def tallyMatchWrong : ChangeSpec := { name := "tallyMatch", fn := fun _ => fun
  | [d1, d2] => { results := [.lit (.bool false)], args := [d1, d2] }
  | _ => none }
def TallyMatchWrongFalsely : Prop := tallyMatchRow.holds Tryd.pinned (OpenSpec.ofChange tallyMatchWrong)

/-- 'aguadorlaw07.TallyHouse': WHATEVER THE INPUT: true; the input reads as it did. -/
def tallyHouseSpec : ChangeSpec := { name := "tallyHouse", fn := fun _ => fun
  | [d1, d2, d3] => { results := [.lit (.bool true)], args := [d1, d2, d3] }
  | _ => none }
def tallyHouseRow : OpenClaim := { program := "ythddoikmgpgakaadoor", sum := "07e5d47764c217406b4a16e667b834e9bca60fa92799cd8fa367e269c02b2e73", func := "aguador/aguadorlaw07.TallyHouse", spec := "tallyHouse", unfollowed := true, recurses := true, named := ["aguador/tally.checks"], plainKeys := false, apart := false, laid := [("aguador/tally.checks", laid_aguador_tally_checks)] }
def TallyHouseSaid : Prop := tallyHouseRow.holds Tryd.pinned (OpenSpec.ofChange tallyHouseSpec)

/-- ITS FALSE NEIGHBOUR: 'it returns false'. Refute it at one input. -/
def tallyHouseWrong : ChangeSpec := { name := "tallyHouse", fn := fun _ => fun
  | [d1, d2, d3] => { results := [.lit (.bool false)], args := [d1, d2, d3] }
  | _ => none }
def TallyHouseWrongFalsely : Prop := tallyHouseRow.holds Tryd.pinned (OpenSpec.ofChange tallyHouseWrong)

/- THE SECOND FORM. 'bulk': how many values and letters a reading holds, each counted each time it is reached (what is shared counts as often as it is met; a slice's spare places count too). A statement '..UptoSaid' is the law's where the arguments, and the package variables that the reading takes, are together of bulk at most 1048576: NARROWER than '..Said'. Prove '..Said' where nothing that the law and all that it calls make is longer than what came in: it says more and counts as full. Else prove '..UptoSaid'. A law counts once. -/
mutual
def uptoBulk {H : Type} : DataW H → Nat
  | .lit (.string bytes) => bytes.length + 1
  | .lit _ => 1
  | .nil => 1
  | .ptr d => uptoBulk d + 1
  | .slice elems spare => uptoBulkAll elems + uptoBulkAll spare + 1
  | .agg parts => uptoBulkAll parts + 1
  | .iface _ d => uptoBulk d + 1
  | .map entries => uptoBulkEntries entries + 1
  | .held _ => 1
def uptoBulkAll {H : Type} : List (DataW H) → Nat
  | [] => 0
  | d :: r => uptoBulk d + uptoBulkAll r
def uptoBulkEntries {H : Type} : List (Lit × DataW H) → Nat
  | [] => 0
  | x :: r => uptoBulkEntry x + uptoBulkEntries r
def uptoBulkEntry {H : Type} : Lit × DataW H → Nat
  | (.string bytes, d) => bytes.length + uptoBulk d + 1
  | (_, d) => uptoBulk d + 1
 end
def uptoSmall : (H : Type) → List (DataW H) → Bool := fun _ ds => decide (uptoBulkAll ds ≤ 1048576)
def OpenSpec.upto (s : _root_.Go.ChangeSpec) : _root_.Go.OpenSpec := { _root_.Go.OpenSpec.ofChange s with cond := some uptoSmall }

/-- 'aguadorlaw07.TallyChanges', WHERE WHAT IT READS IS OF BULK AT MOST 1048576: true; the input reads as it did. -/
def tallyChangesUptoRow : OpenClaim := { program := "ythddoikmgpgakaadoor", sum := "07e5d47764c217406b4a16e667b834e9bca60fa92799cd8fa367e269c02b2e73", func := "aguador/aguadorlaw07.TallyChanges", spec := "tallyChanges", unfollowed := true, recurses := true, named := ["aguador/tally.checks"], plainKeys := false, apart := false, laid := [("aguador/tally.checks", laid_aguador_tally_checks)], narrowed := true }
def TallyChangesUptoSaid : Prop := tallyChangesUptoRow.holds Tryd.pinned (OpenSpec.upto tallyChangesSpec)

/-- 'aguadorlaw07.TallyCuts', WHERE WHAT IT READS IS OF BULK AT MOST 1048576: true; the input reads as it did. -/
def tallyCutsUptoRow : OpenClaim := { program := "ythddoikmgpgakaadoor", sum := "07e5d47764c217406b4a16e667b834e9bca60fa92799cd8fa367e269c02b2e73", func := "aguador/aguadorlaw07.TallyCuts", spec := "tallyCuts", unfollowed := true, recurses := true, named := ["aguador/tally.checks"], plainKeys := false, apart := false, laid := [("aguador/tally.checks", laid_aguador_tally_checks)], narrowed := true }
def TallyCutsUptoSaid : Prop := tallyCutsUptoRow.holds Tryd.pinned (OpenSpec.upto tallyCutsSpec)

/-- 'aguadorlaw07.TallyTells', WHERE WHAT IT READS IS OF BULK AT MOST 1048576: true; the input reads as it did. -/
def tallyTellsUptoRow : OpenClaim := { program := "ythddoikmgpgakaadoor", sum := "07e5d47764c217406b4a16e667b834e9bca60fa92799cd8fa367e269c02b2e73", func := "aguador/aguadorlaw07.TallyTells", spec := "tallyTells", unfollowed := true, recurses := true, named := ["aguador/tally.checks"], plainKeys := false, apart := false, laid := [("aguador/tally.checks", laid_aguador_tally_checks)], narrowed := true }
def TallyTellsUptoSaid : Prop := tallyTellsUptoRow.holds Tryd.pinned (OpenSpec.upto tallyTellsSpec)

/-- 'aguadorlaw07.TallyOwes', WHERE WHAT IT READS IS OF BULK AT MOST 1048576: true; the input reads as it did. -/
def tallyOwesUptoRow : OpenClaim := { program := "ythddoikmgpgakaadoor", sum := "07e5d47764c217406b4a16e667b834e9bca60fa92799cd8fa367e269c02b2e73", func := "aguador/aguadorlaw07.TallyOwes", spec := "tallyOwes", unfollowed := true, recurses := true, named := ["aguador/tally.checks"], plainKeys := false, apart := false, laid := [("aguador/tally.checks", laid_aguador_tally_checks)], narrowed := true }
def TallyOwesUptoSaid : Prop := tallyOwesUptoRow.holds Tryd.pinned (OpenSpec.upto tallyOwesSpec)

/-- 'aguadorlaw07.TallyMatches', WHERE WHAT IT READS IS OF BULK AT MOST 1048576: true; the input reads as it did. -/
def tallyMatchesUptoRow : OpenClaim := { program := "ythddoikmgpgakaadoor", sum := "07e5d47764c217406b4a16e667b834e9bca60fa92799cd8fa367e269c02b2e73", func := "aguador/aguadorlaw07.TallyMatches", spec := "tallyMatches", unfollowed := true, recurses := true, named := ["aguador/tally.checks"], plainKeys := false, apart := false, laid := [("aguador/tally.checks", laid_aguador_tally_checks)], narrowed := true }
def TallyMatchesUptoSaid : Prop := tallyMatchesUptoRow.holds Tryd.pinned (OpenSpec.upto tallyMatchesSpec)

/-- 'aguadorlaw07.TallyLists', WHERE WHAT IT READS IS OF BULK AT MOST 1048576: true; the input reads as it did. -/
def tallyListsUptoRow : OpenClaim := { program := "ythddoikmgpgakaadoor", sum := "07e5d47764c217406b4a16e667b834e9bca60fa92799cd8fa367e269c02b2e73", func := "aguador/aguadorlaw07.TallyLists", spec := "tallyLists", unfollowed := true, recurses := true, named := ["aguador/tally.checks"], plainKeys := false, apart := false, laid := [("aguador/tally.checks", laid_aguador_tally_checks)], narrowed := true }
def TallyListsUptoSaid : Prop := tallyListsUptoRow.holds Tryd.pinned (OpenSpec.upto tallyListsSpec)

/-- 'aguadorlaw07.TallyExamples', WHERE WHAT IT READS IS OF BULK AT MOST 1048576: true; the input reads as it did. -/
def tallyExamplesUptoRow : OpenClaim := { program := "ythddoikmgpgakaadoor", sum := "07e5d47764c217406b4a16e667b834e9bca60fa92799cd8fa367e269c02b2e73", func := "aguador/aguadorlaw07.TallyExamples", spec := "tallyExamples", unfollowed := true, recurses := true, named := ["aguador/tally.checks"], plainKeys := false, apart := false, laid := [("aguador/tally.checks", laid_aguador_tally_checks)], narrowed := true }
def TallyExamplesUptoSaid : Prop := tallyExamplesUptoRow.holds Tryd.pinned (OpenSpec.upto tallyExamplesSpec)

/-- 'aguadorlaw07.TallyFewest', WHERE WHAT IT READS IS OF BULK AT MOST 1048576: true; the input reads as it did. -/
def tallyFewestUptoRow : OpenClaim := { program := "ythddoikmgpgakaadoor", sum := "07e5d47764c217406b4a16e667b834e9bca60fa92799cd8fa367e269c02b2e73", func := "aguador/aguadorlaw07.TallyFewest", spec := "tallyFewest", unfollowed := true, recurses := true, named := ["aguador/tally.checks"], plainKeys := false, apart := false, laid := [("aguador/tally.checks", laid_aguador_tally_checks)], narrowed := true }
def TallyFewestUptoSaid : Prop := tallyFewestUptoRow.holds Tryd.pinned (OpenSpec.upto tallyFewestSpec)

/-- 'aguadorlaw07.TallyTrue', WHERE WHAT IT READS IS OF BULK AT MOST 1048576: true; the input reads as it did. -/
def tallyTrueUptoRow : OpenClaim := { program := "ythddoikmgpgakaadoor", sum := "07e5d47764c217406b4a16e667b834e9bca60fa92799cd8fa367e269c02b2e73", func := "aguador/aguadorlaw07.TallyTrue", spec := "tallyTrue", unfollowed := true, recurses := true, named := ["aguador/tally.checks"], plainKeys := false, apart := false, laid := [("aguador/tally.checks", laid_aguador_tally_checks)], narrowed := true }
def TallyTrueUptoSaid : Prop := tallyTrueUptoRow.holds Tryd.pinned (OpenSpec.upto tallyTrueSpec)

/-- 'aguadorlaw07.TallyAll', WHERE WHAT IT READS IS OF BULK AT MOST 1048576: true; the input reads as it did. -/
def tallyAllUptoRow : OpenClaim := { program := "ythddoikmgpgakaadoor", sum := "07e5d47764c217406b4a16e667b834e9bca60fa92799cd8fa367e269c02b2e73", func := "aguador/aguadorlaw07.TallyAll", spec := "tallyAll", unfollowed := true, recurses := true, named := ["aguador/tally.checks"], plainKeys := false, apart := false, laid := [("aguador/tally.checks", laid_aguador_tally_checks)], narrowed := true }
def TallyAllUptoSaid : Prop := tallyAllUptoRow.holds Tryd.pinned (OpenSpec.upto tallyAllSpec)

/-- 'aguadorlaw07.TallyThird', WHERE WHAT IT READS IS OF BULK AT MOST 1048576: true; the input reads as it did. -/
def tallyThirdUptoRow : OpenClaim := { program := "ythddoikmgpgakaadoor", sum := "07e5d47764c217406b4a16e667b834e9bca60fa92799cd8fa367e269c02b2e73", func := "aguador/aguadorlaw07.TallyThird", spec := "tallyThird", unfollowed := true, recurses := true, named := ["aguador/tally.checks"], plainKeys := false, apart := false, laid := [("aguador/tally.checks", laid_aguador_tally_checks)], narrowed := true }
def TallyThirdUptoSaid : Prop := tallyThirdUptoRow.holds Tryd.pinned (OpenSpec.upto tallyThirdSpec)

/-- 'aguadorlaw07.TallyCut', WHERE WHAT IT READS IS OF BULK AT MOST 1048576: true; the input reads as it did. -/
def tallyCutUptoRow : OpenClaim := { program := "ythddoikmgpgakaadoor", sum := "07e5d47764c217406b4a16e667b834e9bca60fa92799cd8fa367e269c02b2e73", func := "aguador/aguadorlaw07.TallyCut", spec := "tallyCut", unfollowed := true, recurses := true, named := ["aguador/tally.checks"], plainKeys := false, apart := false, laid := [("aguador/tally.checks", laid_aguador_tally_checks)], narrowed := true }
def TallyCutUptoSaid : Prop := tallyCutUptoRow.holds Tryd.pinned (OpenSpec.upto tallyCutSpec)

/-- 'aguadorlaw07.TallyMore', WHERE WHAT IT READS IS OF BULK AT MOST 1048576: true; the input reads as it did. -/
def tallyMoreUptoRow : OpenClaim := { program := "ythddoikmgpgakaadoor", sum := "07e5d47764c217406b4a16e667b834e9bca60fa92799cd8fa367e269c02b2e73", func := "aguador/aguadorlaw07.TallyMore", spec := "tallyMore", unfollowed := true, recurses := true, named := ["aguador/tally.checks"], plainKeys := false, apart := false, laid := [("aguador/tally.checks", laid_aguador_tally_checks)], narrowed := true }
def TallyMoreUptoSaid : Prop := tallyMoreUptoRow.holds Tryd.pinned (OpenSpec.upto tallyMoreSpec)

/-- 'aguadorlaw07.TallyMatch', WHERE WHAT IT READS IS OF BULK AT MOST 1048576: true; the input reads as it did. -/
def tallyMatchUptoRow : OpenClaim := { program := "ythddoikmgpgakaadoor", sum := "07e5d47764c217406b4a16e667b834e9bca60fa92799cd8fa367e269c02b2e73", func := "aguador/aguadorlaw07.TallyMatch", spec := "tallyMatch", unfollowed := true, recurses := true, named := ["aguador/tally.checks"], plainKeys := false, apart := false, laid := [("aguador/tally.checks", laid_aguador_tally_checks)], narrowed := true }
def TallyMatchUptoSaid : Prop := tallyMatchUptoRow.holds Tryd.pinned (OpenSpec.upto tallyMatchSpec)

/-- 'aguadorlaw07.TallyHouse', WHERE WHAT IT READS IS OF BULK AT MOST 1048576: true; the input reads as it did. -/
def tallyHouseUptoRow : OpenClaim := { program := "ythddoikmgpgakaadoor", sum := "07e5d47764c217406b4a16e667b834e9bca60fa92799cd8fa367e269c02b2e73", func := "aguador/aguadorlaw07.TallyHouse", spec := "tallyHouse", unfollowed := true, recurses := true, named := ["aguador/tally.checks"], plainKeys := false, apart := false, laid := [("aguador/tally.checks", laid_aguador_tally_checks)], narrowed := true }
def TallyHouseUptoSaid : Prop := tallyHouseUptoRow.holds Tryd.pinned (OpenSpec.upto tallyHouseSpec)

end Rows
end Go.Proofs.YthddoikmgpgakaaDoor
