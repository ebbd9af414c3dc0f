/-
  NARROWER THAN 'FOR EVERY INPUT', by the rows' own cells (each row's printed sentence says how): FloorSettles: laid · FloorShares: laid · FloorGroups: laid · FloorCheapest: laid · FloorSure: laid · FloorAlone: laid · FloorTally: laid · FloorPays: laid · FloorQuarrel: laid · FloorExamples: laid · TopJoined: laid.
  DERIVED. THE GIVEN ROWS OF THIS SEAT. 11 by the template 'for every input the law returns true; each argument reads behind the call as it read before'; 0 by the template 'total and deterministic' (their statements: YtihonljdanjfmaaGreatDoorTotals.lean).
  GIVEN WITH THE SEED: the statements are not yours to turn. If you find one false, say at which input.
  Laid BY PROGRAM, IN A SANDBOX (cutbox-rows.mjs): the forced cells as the released guide's own fill.sh prints them over the translation 96c12bce6cc9424f… (all of the seat's roots in one cut). By AI agents, Wed Nov 11 2026. No macro, syntax, notation, axiom, sorry.
-/
import Derived.Test.YtihonljdanjfmaaGreatDoorChecked
import GoSem.Claim
import GoSem.ClaimJoined
import GoSem.ClaimMapViews
import Derived.JoinedTies
import Derived.KernelRfl
namespace Go.Proofs.YtihonljdanjfmaaGreatDoor
/- THE CELL 'sum', in the pinned program and in every row, IS THE sha256 OF THE DUMP (.gsa) THAT YtihonljdanjfmaaGreatDoorProg.lean LOADS. Nothing in Lean hashes anything: it is a label: what it is worth is what the hold of that sum in a sandbox is worth. -/
noncomputable def Tryz.pinned : Pinned := { name := "ytihonljdanjfmaagreatdoor", sum := "96c12bce6cc9424fe7a6c2b4ed83768b0317d45ecc61dc392816728635bf9c82", checked := Tryz.checked }
namespace Rows
def none {H : Type} : Left H := { results := [], args := [] }

/- WHAT THE LISTED PACKAGE-LEVEL VARIABLES READ AS WHEN THE CALL BEGINS. Each datum BY PROGRAM (the guide's laid-datum.mjs) off the statement by which the dump's own 'gosem.cut.vars' lays the variable. In a bare row this is a premise. The card (YtihonljdanjfmaaGreatDoorCards.lean) ties it to the program's text. -/
def laid_aguador_tally_checks {H : Type} : DataW H := .iface "func table" (.agg [.agg [.iface "func" (.lit (.string [97, 103, 117, 97, 100, 111, 114, 47, 116, 97, 108, 108, 121, 46, 99, 104, 101, 99, 107, 115, 36, 49]))], .agg [.iface "func" (.lit (.string [97, 103, 117, 97, 100, 111, 114, 47, 116, 97, 108, 108, 121, 46, 99, 104, 101, 99, 107, 115, 36, 50]))], .agg [.iface "func" (.lit (.string [97, 103, 117, 97, 100, 111, 114, 47, 116, 97, 108, 108, 121, 46, 99, 104, 101, 99, 107, 115, 36, 51]))]])
def laid_aguador_floor_checks {H : Type} : DataW H := .iface "func table" (.agg [.agg [.iface "func" (.lit (.string [97, 103, 117, 97, 100, 111, 114, 47, 102, 108, 111, 111, 114, 46, 99, 104, 101, 99, 107, 115, 36, 49]))], .agg [.iface "func" (.lit (.string [97, 103, 117, 97, 100, 111, 114, 47, 102, 108, 111, 111, 114, 46, 99, 104, 101, 99, 107, 115, 36, 50]))], .agg [.iface "func" (.lit (.string [97, 103, 117, 97, 100, 111, 114, 47, 102, 108, 111, 111, 114, 46, 99, 104, 101, 99, 107, 115, 36, 51]))], .agg [.iface "func" (.lit (.string [97, 103, 117, 97, 100, 111, 114, 47, 102, 108, 111, 111, 114, 46, 99, 104, 101, 99, 107, 115, 36, 52]))]])

/-- 'aguadorlaw08.FloorSettles': WHATEVER THE INPUT: true; the input reads as it did. -/
def floorSettlesSpec : ChangeSpec := { name := "floorSettles", fn := fun _ => fun
  | [d1, d2] => { results := [.lit (.bool true)], args := [d1, d2] }
  | _ => none }
def floorSettlesRow : OpenClaim := { program := "ytihonljdanjfmaagreatdoor", sum := "96c12bce6cc9424fe7a6c2b4ed83768b0317d45ecc61dc392816728635bf9c82", func := "aguador/aguadorlaw08.FloorSettles", spec := "floorSettles", unfollowed := true, recurses := true, named := ["aguador/floor.checks", "aguador/tally.checks"], plainKeys := false, apart := false, laid := [("aguador/tally.checks", laid_aguador_tally_checks), ("aguador/floor.checks", laid_aguador_floor_checks)] }
def FloorSettlesSaid : Prop := floorSettlesRow.holds Tryz.pinned (OpenSpec.ofChange floorSettlesSpec)

/-- ITS FALSE NEIGHBOUR: 'it returns false'. Refute it at one input. -/
def floorSettlesWrong : ChangeSpec := { name := "floorSettles", fn := fun _ => fun
  | [d1, d2] => { results := [.lit (.bool false)], args := [d1, d2] }
  | _ => none }
def FloorSettlesWrongFalsely : Prop := floorSettlesRow.holds Tryz.pinned (OpenSpec.ofChange floorSettlesWrong)

/-- 'aguadorlaw08.FloorShares': WHATEVER THE INPUT: true; the input reads as it did. -/
def floorSharesSpec : ChangeSpec := { name := "floorShares", fn := fun _ => fun
  | [d] => { results := [.lit (.bool true)], args := [d] }
  | _ => none }
def floorSharesRow : OpenClaim := { program := "ytihonljdanjfmaagreatdoor", sum := "96c12bce6cc9424fe7a6c2b4ed83768b0317d45ecc61dc392816728635bf9c82", func := "aguador/aguadorlaw08.FloorShares", spec := "floorShares", unfollowed := true, recurses := true, named := ["aguador/floor.checks", "aguador/tally.checks"], plainKeys := false, apart := false, laid := [("aguador/tally.checks", laid_aguador_tally_checks), ("aguador/floor.checks", laid_aguador_floor_checks)] }
def FloorSharesSaid : Prop := floorSharesRow.holds Tryz.pinned (OpenSpec.ofChange floorSharesSpec)

/-- ITS FALSE NEIGHBOUR: 'it returns false'. Refute it at one input. -/
def floorSharesWrong : ChangeSpec := { name := "floorShares", fn := fun _ => fun
  | [d] => { results := [.lit (.bool false)], args := [d] }
  | _ => none }
def FloorSharesWrongFalsely : Prop := floorSharesRow.holds Tryz.pinned (OpenSpec.ofChange floorSharesWrong)

/-- 'aguadorlaw08.FloorGroups': WHATEVER THE INPUT: true; the input reads as it did. -/
def floorGroupsSpec : ChangeSpec := { name := "floorGroups", fn := fun _ => fun
  | [d1, d2] => { results := [.lit (.bool true)], args := [d1, d2] }
  | _ => none }
def floorGroupsRow : OpenClaim := { program := "ytihonljdanjfmaagreatdoor", sum := "96c12bce6cc9424fe7a6c2b4ed83768b0317d45ecc61dc392816728635bf9c82", func := "aguador/aguadorlaw08.FloorGroups", spec := "floorGroups", unfollowed := true, recurses := true, named := ["aguador/floor.checks", "aguador/tally.checks"], plainKeys := false, apart := false, laid := [("aguador/tally.checks", laid_aguador_tally_checks), ("aguador/floor.checks", laid_aguador_floor_checks)] }
def FloorGroupsSaid : Prop := floorGroupsRow.holds Tryz.pinned (OpenSpec.ofChange floorGroupsSpec)

/-- ITS FALSE NEIGHBOUR: 'it returns false'. Refute it at one input. -/
def floorGroupsWrong : ChangeSpec := { name := "floorGroups", fn := fun _ => fun
  | [d1, d2] => { results := [.lit (.bool false)], args := [d1, d2] }
  | _ => none }
def FloorGroupsWrongFalsely : Prop := floorGroupsRow.holds Tryz.pinned (OpenSpec.ofChange floorGroupsWrong)

/-- 'aguadorlaw08.FloorCheapest': WHATEVER THE INPUT: true; the input reads as it did. -/
def floorCheapestSpec : ChangeSpec := { name := "floorCheapest", fn := fun _ => fun
  | [d] => { results := [.lit (.bool true)], args := [d] }
  | _ => none }
def floorCheapestRow : OpenClaim := { program := "ytihonljdanjfmaagreatdoor", sum := "96c12bce6cc9424fe7a6c2b4ed83768b0317d45ecc61dc392816728635bf9c82", func := "aguador/aguadorlaw08.FloorCheapest", spec := "floorCheapest", unfollowed := true, recurses := true, named := ["aguador/floor.checks", "aguador/tally.checks"], plainKeys := false, apart := false, laid := [("aguador/tally.checks", laid_aguador_tally_checks), ("aguador/floor.checks", laid_aguador_floor_checks)] }
def FloorCheapestSaid : Prop := floorCheapestRow.holds Tryz.pinned (OpenSpec.ofChange floorCheapestSpec)

/-- ITS FALSE NEIGHBOUR: 'it returns false'. Refute it at one input. -/
def floorCheapestWrong : ChangeSpec := { name := "floorCheapest", fn := fun _ => fun
  | [d] => { results := [.lit (.bool false)], args := [d] }
  | _ => none }
def FloorCheapestWrongFalsely : Prop := floorCheapestRow.holds Tryz.pinned (OpenSpec.ofChange floorCheapestWrong)

/-- 'aguadorlaw08.FloorSure': WHATEVER THE INPUT: true; the input reads as it did. -/
def floorSureSpec : ChangeSpec := { name := "floorSure", fn := fun _ => fun
  | [d] => { results := [.lit (.bool true)], args := [d] }
  | _ => none }
def floorSureRow : OpenClaim := { program := "ytihonljdanjfmaagreatdoor", sum := "96c12bce6cc9424fe7a6c2b4ed83768b0317d45ecc61dc392816728635bf9c82", func := "aguador/aguadorlaw08.FloorSure", spec := "floorSure", unfollowed := true, recurses := true, named := ["aguador/floor.checks", "aguador/tally.checks"], plainKeys := false, apart := false, laid := [("aguador/tally.checks", laid_aguador_tally_checks), ("aguador/floor.checks", laid_aguador_floor_checks)] }
def FloorSureSaid : Prop := floorSureRow.holds Tryz.pinned (OpenSpec.ofChange floorSureSpec)

/-- ITS FALSE NEIGHBOUR: 'it returns false'. Refute it at one input. -/
def floorSureWrong : ChangeSpec := { name := "floorSure", fn := fun _ => fun
  | [d] => { results := [.lit (.bool false)], args := [d] }
  | _ => none }
def FloorSureWrongFalsely : Prop := floorSureRow.holds Tryz.pinned (OpenSpec.ofChange floorSureWrong)

/-- 'aguadorlaw08.FloorAlone': WHATEVER THE INPUT: true; the input reads as it did. -/
def floorAloneSpec : ChangeSpec := { name := "floorAlone", fn := fun _ => fun
  | [d1, d2, d3] => { results := [.lit (.bool true)], args := [d1, d2, d3] }
  | _ => none }
def floorAloneRow : OpenClaim := { program := "ytihonljdanjfmaagreatdoor", sum := "96c12bce6cc9424fe7a6c2b4ed83768b0317d45ecc61dc392816728635bf9c82", func := "aguador/aguadorlaw08.FloorAlone", spec := "floorAlone", unfollowed := true, recurses := true, named := ["aguador/floor.checks", "aguador/tally.checks"], plainKeys := false, apart := false, laid := [("aguador/tally.checks", laid_aguador_tally_checks), ("aguador/floor.checks", laid_aguador_floor_checks)] }
def FloorAloneSaid : Prop := floorAloneRow.holds Tryz.pinned (OpenSpec.ofChange floorAloneSpec)

/-- ITS FALSE NEIGHBOUR: 'it returns false'. Refute it at one input. -/
def floorAloneWrong : ChangeSpec := { name := "floorAlone", fn := fun _ => fun
  | [d1, d2, d3] => { results := [.lit (.bool false)], args := [d1, d2, d3] }
  | _ => none }
def FloorAloneWrongFalsely : Prop := floorAloneRow.holds Tryz.pinned (OpenSpec.ofChange floorAloneWrong)

/-- 'aguadorlaw08.FloorTally': WHATEVER THE INPUT: true; the input reads as it did. -/
def floorTallySpec : ChangeSpec := { name := "floorTally", fn := fun _ => fun
  | [d1, d2, d3, d4, d5] => { results := [.lit (.bool true)], args := [d1, d2, d3, d4, d5] }
  | _ => none }
def floorTallyRow : OpenClaim := { program := "ytihonljdanjfmaagreatdoor", sum := "96c12bce6cc9424fe7a6c2b4ed83768b0317d45ecc61dc392816728635bf9c82", func := "aguador/aguadorlaw08.FloorTally", spec := "floorTally", unfollowed := true, recurses := true, named := ["aguador/floor.checks", "aguador/tally.checks"], plainKeys := false, apart := false, laid := [("aguador/tally.checks", laid_aguador_tally_checks), ("aguador/floor.checks", laid_aguador_floor_checks)] }
def FloorTallySaid : Prop := floorTallyRow.holds Tryz.pinned (OpenSpec.ofChange floorTallySpec)

/-- ITS FALSE NEIGHBOUR: 'it returns false'. Refute it at one input. -/
def floorTallyWrong : ChangeSpec := { name := "floorTally", fn := fun _ => fun
  | [d1, d2, d3, d4, d5] => { results := [.lit (.bool false)], args := [d1, d2, d3, d4, d5] }
  | _ => none }
def FloorTallyWrongFalsely : Prop := floorTallyRow.holds Tryz.pinned (OpenSpec.ofChange floorTallyWrong)

/-- 'aguadorlaw08.FloorPays': WHATEVER THE INPUT: true; the input reads as it did. -/
def floorPaysSpec : ChangeSpec := { name := "floorPays", fn := fun _ => fun
  | [d1, d2] => { results := [.lit (.bool true)], args := [d1, d2] }
  | _ => none }
def floorPaysRow : OpenClaim := { program := "ytihonljdanjfmaagreatdoor", sum := "96c12bce6cc9424fe7a6c2b4ed83768b0317d45ecc61dc392816728635bf9c82", func := "aguador/aguadorlaw08.FloorPays", spec := "floorPays", unfollowed := true, recurses := true, named := ["aguador/floor.checks", "aguador/tally.checks"], plainKeys := false, apart := false, laid := [("aguador/tally.checks", laid_aguador_tally_checks), ("aguador/floor.checks", laid_aguador_floor_checks)] }
def FloorPaysSaid : Prop := floorPaysRow.holds Tryz.pinned (OpenSpec.ofChange floorPaysSpec)

/-- ITS FALSE NEIGHBOUR: 'it returns false'. Refute it at one input. -/
def floorPaysWrong : ChangeSpec := { name := "floorPays", fn := fun _ => fun
  | [d1, d2] => { results := [.lit (.bool false)], args := [d1, d2] }
  | _ => none }
def FloorPaysWrongFalsely : Prop := floorPaysRow.holds Tryz.pinned (OpenSpec.ofChange floorPaysWrong)

/-- 'aguadorlaw08.FloorQuarrel': WHATEVER THE INPUT: true; the input reads as it did. -/
def floorQuarrelSpec : ChangeSpec := { name := "floorQuarrel", fn := fun _ => fun
  | [d1, d2, d3] => { results := [.lit (.bool true)], args := [d1, d2, d3] }
  | _ => none }
def floorQuarrelRow : OpenClaim := { program := "ytihonljdanjfmaagreatdoor", sum := "96c12bce6cc9424fe7a6c2b4ed83768b0317d45ecc61dc392816728635bf9c82", func := "aguador/aguadorlaw08.FloorQuarrel", spec := "floorQuarrel", unfollowed := true, recurses := true, named := ["aguador/floor.checks", "aguador/tally.checks"], plainKeys := false, apart := false, laid := [("aguador/tally.checks", laid_aguador_tally_checks), ("aguador/floor.checks", laid_aguador_floor_checks)] }
def FloorQuarrelSaid : Prop := floorQuarrelRow.holds Tryz.pinned (OpenSpec.ofChange floorQuarrelSpec)

/-- ITS FALSE NEIGHBOUR: 'it returns false'. Refute it at one input. -/
def floorQuarrelWrong : ChangeSpec := { name := "floorQuarrel", fn := fun _ => fun
  | [d1, d2, d3] => { results := [.lit (.bool false)], args := [d1, d2, d3] }
  | _ => none }
def FloorQuarrelWrongFalsely : Prop := floorQuarrelRow.holds Tryz.pinned (OpenSpec.ofChange floorQuarrelWrong)

/-- 'aguadorlaw08.FloorExamples': WHATEVER THE INPUT: true; the input reads as it did. -/
def floorExamplesSpec : ChangeSpec := { name := "floorExamples", fn := fun _ => fun
  | [] => { results := [.lit (.bool true)], args := [] }
  | _ => none }
def floorExamplesRow : OpenClaim := { program := "ytihonljdanjfmaagreatdoor", sum := "96c12bce6cc9424fe7a6c2b4ed83768b0317d45ecc61dc392816728635bf9c82", func := "aguador/aguadorlaw08.FloorExamples", spec := "floorExamples", unfollowed := true, recurses := true, named := ["aguador/floor.checks", "aguador/tally.checks"], plainKeys := false, apart := false, laid := [("aguador/tally.checks", laid_aguador_tally_checks), ("aguador/floor.checks", laid_aguador_floor_checks)] }
def FloorExamplesSaid : Prop := floorExamplesRow.holds Tryz.pinned (OpenSpec.ofChange floorExamplesSpec)

/-- ITS FALSE NEIGHBOUR: 'it returns false'. Refute it at one input. -/
def floorExamplesWrong : ChangeSpec := { name := "floorExamples", fn := fun _ => fun
  | [] => { results := [.lit (.bool false)], args := [] }
  | _ => none }
def FloorExamplesWrongFalsely : Prop := floorExamplesRow.holds Tryz.pinned (OpenSpec.ofChange floorExamplesWrong)

/-- 'aguadortop.TopJoined': WHATEVER THE INPUT: true; the input reads as it did. -/
def topJoinedSpec : ChangeSpec := { name := "topJoined", fn := fun _ => fun
  | [d1, d2, d3, d4, d5, d6] => { results := [.lit (.bool true)], args := [d1, d2, d3, d4, d5, d6] }
  | _ => none }
def topJoinedRow : OpenClaim := { program := "ytihonljdanjfmaagreatdoor", sum := "96c12bce6cc9424fe7a6c2b4ed83768b0317d45ecc61dc392816728635bf9c82", func := "aguador/aguadortop.TopJoined", spec := "topJoined", unfollowed := true, recurses := true, named := ["aguador/tally.checks", "aguador/floor.checks"], plainKeys := false, apart := false, laid := [("aguador/tally.checks", laid_aguador_tally_checks), ("aguador/floor.checks", laid_aguador_floor_checks)] }
def TopJoinedSaid : Prop := topJoinedRow.holds Tryz.pinned (OpenSpec.ofChange topJoinedSpec)

/-- ITS FALSE NEIGHBOUR: 'it returns false'. Refute it at one input. -/
def topJoinedWrong : ChangeSpec := { name := "topJoined", fn := fun _ => fun
  | [d1, d2, d3, d4, d5, d6] => { results := [.lit (.bool false)], args := [d1, d2, d3, d4, d5, d6] }
  | _ => none }
def TopJoinedWrongFalsely : Prop := topJoinedRow.holds Tryz.pinned (OpenSpec.ofChange topJoinedWrong)

/- THE SECOND FORM. 'bulk': how many values and letters a reading holds, each counted each time it is reached (what is shared counts as often as it is met; a slice's spare places count too). A statement '..UptoSaid' is the law's where the arguments, and the package variables that the reading takes, are together of bulk at most 1048576: NARROWER than '..Said'. Prove '..Said' where nothing that the law and all that it calls make is longer than what came in: it says more and counts as full. Else prove '..UptoSaid'. A law counts once. -/
mutual
def uptoBulk {H : Type} : DataW H → Nat
  | .lit (.string bytes) => bytes.length + 1
  | .lit _ => 1
  | .nil => 1
  | .ptr d => uptoBulk d + 1
  | .slice elems spare => uptoBulkAll elems + uptoBulkAll spare + 1
  | .agg parts => uptoBulkAll parts + 1
  | .iface _ d => uptoBulk d + 1
  | .map entries => uptoBulkEntries entries + 1
  | .held _ => 1
def uptoBulkAll {H : Type} : List (DataW H) → Nat
  | [] => 0
  | d :: r => uptoBulk d + uptoBulkAll r
def uptoBulkEntries {H : Type} : List (Lit × DataW H) → Nat
  | [] => 0
  | x :: r => uptoBulkEntry x + uptoBulkEntries r
def uptoBulkEntry {H : Type} : Lit × DataW H → Nat
  | (.string bytes, d) => bytes.length + uptoBulk d + 1
  | (_, d) => uptoBulk d + 1
 end
def uptoSmall : (H : Type) → List (DataW H) → Bool := fun _ ds => decide (uptoBulkAll ds ≤ 1048576)
def OpenSpec.upto (s : _root_.Go.ChangeSpec) : _root_.Go.OpenSpec := { _root_.Go.OpenSpec.ofChange s with cond := some uptoSmall }

/-- 'aguadorlaw08.FloorSettles', WHERE WHAT IT READS IS OF BULK AT MOST 1048576: true; the input reads as it did. -/
def floorSettlesUptoRow : OpenClaim := { program := "ytihonljdanjfmaagreatdoor", sum := "96c12bce6cc9424fe7a6c2b4ed83768b0317d45ecc61dc392816728635bf9c82", func := "aguador/aguadorlaw08.FloorSettles", spec := "floorSettles", unfollowed := true, recurses := true, named := ["aguador/floor.checks", "aguador/tally.checks"], plainKeys := false, apart := false, laid := [("aguador/tally.checks", laid_aguador_tally_checks), ("aguador/floor.checks", laid_aguador_floor_checks)], narrowed := true }
def FloorSettlesUptoSaid : Prop := floorSettlesUptoRow.holds Tryz.pinned (OpenSpec.upto floorSettlesSpec)

/-- 'aguadorlaw08.FloorShares', WHERE WHAT IT READS IS OF BULK AT MOST 1048576: true; the input reads as it did. -/
def floorSharesUptoRow : OpenClaim := { program := "ytihonljdanjfmaagreatdoor", sum := "96c12bce6cc9424fe7a6c2b4ed83768b0317d45ecc61dc392816728635bf9c82", func := "aguador/aguadorlaw08.FloorShares", spec := "floorShares", unfollowed := true, recurses := true, named := ["aguador/floor.checks", "aguador/tally.checks"], plainKeys := false, apart := false, laid := [("aguador/tally.checks", laid_aguador_tally_checks), ("aguador/floor.checks", laid_aguador_floor_checks)], narrowed := true }
def FloorSharesUptoSaid : Prop := floorSharesUptoRow.holds Tryz.pinned (OpenSpec.upto floorSharesSpec)

/-- 'aguadorlaw08.FloorGroups', WHERE WHAT IT READS IS OF BULK AT MOST 1048576: true; the input reads as it did. -/
def floorGroupsUptoRow : OpenClaim := { program := "ytihonljdanjfmaagreatdoor", sum := "96c12bce6cc9424fe7a6c2b4ed83768b0317d45ecc61dc392816728635bf9c82", func := "aguador/aguadorlaw08.FloorGroups", spec := "floorGroups", unfollowed := true, recurses := true, named := ["aguador/floor.checks", "aguador/tally.checks"], plainKeys := false, apart := false, laid := [("aguador/tally.checks", laid_aguador_tally_checks), ("aguador/floor.checks", laid_aguador_floor_checks)], narrowed := true }
def FloorGroupsUptoSaid : Prop := floorGroupsUptoRow.holds Tryz.pinned (OpenSpec.upto floorGroupsSpec)

/-- 'aguadorlaw08.FloorCheapest', WHERE WHAT IT READS IS OF BULK AT MOST 1048576: true; the input reads as it did. -/
def floorCheapestUptoRow : OpenClaim := { program := "ytihonljdanjfmaagreatdoor", sum := "96c12bce6cc9424fe7a6c2b4ed83768b0317d45ecc61dc392816728635bf9c82", func := "aguador/aguadorlaw08.FloorCheapest", spec := "floorCheapest", unfollowed := true, recurses := true, named := ["aguador/floor.checks", "aguador/tally.checks"], plainKeys := false, apart := false, laid := [("aguador/tally.checks", laid_aguador_tally_checks), ("aguador/floor.checks", laid_aguador_floor_checks)], narrowed := true }
def FloorCheapestUptoSaid : Prop := floorCheapestUptoRow.holds Tryz.pinned (OpenSpec.upto floorCheapestSpec)

/-- 'aguadorlaw08.FloorSure', WHERE WHAT IT READS IS OF BULK AT MOST 1048576: true; the input reads as it did. -/
def floorSureUptoRow : OpenClaim := { program := "ytihonljdanjfmaagreatdoor", sum := "96c12bce6cc9424fe7a6c2b4ed83768b0317d45ecc61dc392816728635bf9c82", func := "aguador/aguadorlaw08.FloorSure", spec := "floorSure", unfollowed := true, recurses := true, named := ["aguador/floor.checks", "aguador/tally.checks"], plainKeys := false, apart := false, laid := [("aguador/tally.checks", laid_aguador_tally_checks), ("aguador/floor.checks", laid_aguador_floor_checks)], narrowed := true }
def FloorSureUptoSaid : Prop := floorSureUptoRow.holds Tryz.pinned (OpenSpec.upto floorSureSpec)

/-- 'aguadorlaw08.FloorAlone', WHERE WHAT IT READS IS OF BULK AT MOST 1048576: true; the input reads as it did. -/
def floorAloneUptoRow : OpenClaim := { program := "ytihonljdanjfmaagreatdoor", sum := "96c12bce6cc9424fe7a6c2b4ed83768b0317d45ecc61dc392816728635bf9c82", func := "aguador/aguadorlaw08.FloorAlone", spec := "floorAlone", unfollowed := true, recurses := true, named := ["aguador/floor.checks", "aguador/tally.checks"], plainKeys := false, apart := false, laid := [("aguador/tally.checks", laid_aguador_tally_checks), ("aguador/floor.checks", laid_aguador_floor_checks)], narrowed := true }
def FloorAloneUptoSaid : Prop := floorAloneUptoRow.holds Tryz.pinned (OpenSpec.upto floorAloneSpec)

/-- 'aguadorlaw08.FloorTally', WHERE WHAT IT READS IS OF BULK AT MOST 1048576: true; the input reads as it did. -/
def floorTallyUptoRow : OpenClaim := { program := "ytihonljdanjfmaagreatdoor", sum := "96c12bce6cc9424fe7a6c2b4ed83768b0317d45ecc61dc392816728635bf9c82", func := "aguador/aguadorlaw08.FloorTally", spec := "floorTally", unfollowed := true, recurses := true, named := ["aguador/floor.checks", "aguador/tally.checks"], plainKeys := false, apart := false, laid := [("aguador/tally.checks", laid_aguador_tally_checks), ("aguador/floor.checks", laid_aguador_floor_checks)], narrowed := true }
def FloorTallyUptoSaid : Prop := floorTallyUptoRow.holds Tryz.pinned (OpenSpec.upto floorTallySpec)

/-- 'aguadorlaw08.FloorPays', WHERE WHAT IT READS IS OF BULK AT MOST 1048576: true; the input reads as it did. -/
def floorPaysUptoRow : OpenClaim := { program := "ytihonljdanjfmaagreatdoor", sum := "96c12bce6cc9424fe7a6c2b4ed83768b0317d45ecc61dc392816728635bf9c82", func := "aguador/aguadorlaw08.FloorPays", spec := "floorPays", unfollowed := true, recurses := true, named := ["aguador/floor.checks", "aguador/tally.checks"], plainKeys := false, apart := false, laid := [("aguador/tally.checks", laid_aguador_tally_checks), ("aguador/floor.checks", laid_aguador_floor_checks)], narrowed := true }
def FloorPaysUptoSaid : Prop := floorPaysUptoRow.holds Tryz.pinned (OpenSpec.upto floorPaysSpec)

/-- 'aguadorlaw08.FloorQuarrel', WHERE WHAT IT READS IS OF BULK AT MOST 1048576: true; the input reads as it did. -/
def floorQuarrelUptoRow : OpenClaim := { program := "ytihonljdanjfmaagreatdoor", sum := "96c12bce6cc9424fe7a6c2b4ed83768b0317d45ecc61dc392816728635bf9c82", func := "aguador/aguadorlaw08.FloorQuarrel", spec := "floorQuarrel", unfollowed := true, recurses := true, named := ["aguador/floor.checks", "aguador/tally.checks"], plainKeys := false, apart := false, laid := [("aguador/tally.checks", laid_aguador_tally_checks), ("aguador/floor.checks", laid_aguador_floor_checks)], narrowed := true }
def FloorQuarrelUptoSaid : Prop := floorQuarrelUptoRow.holds Tryz.pinned (OpenSpec.upto floorQuarrelSpec)

/-- 'aguadorlaw08.FloorExamples', WHERE WHAT IT READS IS OF BULK AT MOST 1048576: true; the input reads as it did. -/
def floorExamplesUptoRow : OpenClaim := { program := "ytihonljdanjfmaagreatdoor", sum := "96c12bce6cc9424fe7a6c2b4ed83768b0317d45ecc61dc392816728635bf9c82", func := "aguador/aguadorlaw08.FloorExamples", spec := "floorExamples", unfollowed := true, recurses := true, named := ["aguador/floor.checks", "aguador/tally.checks"], plainKeys := false, apart := false, laid := [("aguador/tally.checks", laid_aguador_tally_checks), ("aguador/floor.checks", laid_aguador_floor_checks)], narrowed := true }
def FloorExamplesUptoSaid : Prop := floorExamplesUptoRow.holds Tryz.pinned (OpenSpec.upto floorExamplesSpec)

/-- 'aguadortop.TopJoined', WHERE WHAT IT READS IS OF BULK AT MOST 1048576: true; the input reads as it did. -/
def topJoinedUptoRow : OpenClaim := { program := "ytihonljdanjfmaagreatdoor", sum := "96c12bce6cc9424fe7a6c2b4ed83768b0317d45ecc61dc392816728635bf9c82", func := "aguador/aguadortop.TopJoined", spec := "topJoined", unfollowed := true, recurses := true, named := ["aguador/tally.checks", "aguador/floor.checks"], plainKeys := false, apart := false, laid := [("aguador/tally.checks", laid_aguador_tally_checks), ("aguador/floor.checks", laid_aguador_floor_checks)], narrowed := true }
def TopJoinedUptoSaid : Prop := topJoinedUptoRow.holds Tryz.pinned (OpenSpec.upto topJoinedSpec)

end Rows
end Go.Proofs.YtihonljdanjfmaaGreatDoor
