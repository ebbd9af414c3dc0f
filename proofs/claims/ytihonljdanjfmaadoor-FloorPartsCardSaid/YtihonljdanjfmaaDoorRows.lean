/-
  NARROWER THAN 'FOR EVERY INPUT', by the rows' own cells (each row's printed sentence says how): FloorJudges: laid · FloorTells: laid · FloorChanges: laid · FloorBills: laid · FloorParts: laid · FloorLists: laid.
  DERIVED. THE GIVEN ROWS OF THIS SEAT. 6 by the template 'for every input the law returns true; each argument reads behind the call as it read before'; 0 by the template 'total and deterministic' (their statements: YtihonljdanjfmaaDoorTotals.lean).
  GIVEN WITH THE SEED: the statements are not yours to turn. If you find one false, say at which input.
  Laid BY PROGRAM, IN A SANDBOX (cutbox-rows.mjs): the forced cells as the released guide's own fill.sh prints them over the translation 86e2f9ee5cea8dc8… (all of the seat's roots in one cut). By AI agents, Wed Nov 11 2026. No macro, syntax, notation, axiom, sorry.
-/
import Derived.Test.YtihonljdanjfmaaDoorChecked
import GoSem.Claim
import GoSem.ClaimJoined
import GoSem.ClaimMapViews
import Derived.JoinedTies
import Derived.KernelRfl
namespace Go.Proofs.YtihonljdanjfmaaDoor
/- THE CELL 'sum', in the pinned program and in every row, IS THE sha256 OF THE DUMP (.gsa) THAT YtihonljdanjfmaaDoorProg.lean LOADS. Nothing in Lean hashes anything: it is a label: what it is worth is what the hold of that sum in a sandbox is worth. -/
noncomputable def Tryd.pinned : Pinned := { name := "ytihonljdanjfmaadoor", sum := "86e2f9ee5cea8dc8465ae9b647cf8fbac1a4046b75f3720e65f32ae9a2cde19c", checked := Tryd.checked }
namespace Rows
def none {H : Type} : Left H := { results := [], args := [] }

/- WHAT THE LISTED PACKAGE-LEVEL VARIABLES READ AS WHEN THE CALL BEGINS. Each datum BY PROGRAM (the guide's laid-datum.mjs) off the statement by which the dump's own 'gosem.cut.vars' lays the variable. In a bare row this is a premise. The card (YtihonljdanjfmaaDoorCards.lean) ties it to the program's text. -/
def laid_aguador_floor_checks {H : Type} : DataW H := .iface "func table" (.agg [.agg [.iface "func" (.lit (.string [97, 103, 117, 97, 100, 111, 114, 47, 102, 108, 111, 111, 114, 46, 99, 104, 101, 99, 107, 115, 36, 49]))], .agg [.iface "func" (.lit (.string [97, 103, 117, 97, 100, 111, 114, 47, 102, 108, 111, 111, 114, 46, 99, 104, 101, 99, 107, 115, 36, 50]))], .agg [.iface "func" (.lit (.string [97, 103, 117, 97, 100, 111, 114, 47, 102, 108, 111, 111, 114, 46, 99, 104, 101, 99, 107, 115, 36, 51]))], .agg [.iface "func" (.lit (.string [97, 103, 117, 97, 100, 111, 114, 47, 102, 108, 111, 111, 114, 46, 99, 104, 101, 99, 107, 115, 36, 52]))]])
def laid_aguador_tally_checks {H : Type} : DataW H := .iface "func table" (.agg [.agg [.iface "func" (.lit (.string [97, 103, 117, 97, 100, 111, 114, 47, 116, 97, 108, 108, 121, 46, 99, 104, 101, 99, 107, 115, 36, 49]))], .agg [.iface "func" (.lit (.string [97, 103, 117, 97, 100, 111, 114, 47, 116, 97, 108, 108, 121, 46, 99, 104, 101, 99, 107, 115, 36, 50]))], .agg [.iface "func" (.lit (.string [97, 103, 117, 97, 100, 111, 114, 47, 116, 97, 108, 108, 121, 46, 99, 104, 101, 99, 107, 115, 36, 51]))]])

/-- 'aguadorlaw08.FloorJudges': WHATEVER THE INPUT: true; the input reads as it did. -/
def floorJudgesSpec : ChangeSpec := { name := "floorJudges", fn := fun _ => fun
  | [d1, d2] => { results := [.lit (.bool true)], args := [d1, d2] }
  | _ => none }
def floorJudgesRow : OpenClaim := { program := "ytihonljdanjfmaadoor", sum := "86e2f9ee5cea8dc8465ae9b647cf8fbac1a4046b75f3720e65f32ae9a2cde19c", func := "aguador/aguadorlaw08.FloorJudges", spec := "floorJudges", unfollowed := true, recurses := true, named := ["aguador/floor.checks"], plainKeys := false, apart := false, laid := [("aguador/floor.checks", laid_aguador_floor_checks)] }
def FloorJudgesSaid : Prop := floorJudgesRow.holds Tryd.pinned (OpenSpec.ofChange floorJudgesSpec)

/-- ITS FALSE NEIGHBOUR: 'it returns false'. Refute it at one input. -/
def floorJudgesWrong : ChangeSpec := { name := "floorJudges", fn := fun _ => fun
  | [d1, d2] => { results := [.lit (.bool false)], args := [d1, d2] }
  | _ => none }
def FloorJudgesWrongFalsely : Prop := floorJudgesRow.holds Tryd.pinned (OpenSpec.ofChange floorJudgesWrong)

/-- 'aguadorlaw08.FloorTells': WHATEVER THE INPUT: true; the input reads as it did. -/
def floorTellsSpec : ChangeSpec := { name := "floorTells", fn := fun _ => fun
  | [d1, d2] => { results := [.lit (.bool true)], args := [d1, d2] }
  | _ => none }
def floorTellsRow : OpenClaim := { program := "ytihonljdanjfmaadoor", sum := "86e2f9ee5cea8dc8465ae9b647cf8fbac1a4046b75f3720e65f32ae9a2cde19c", func := "aguador/aguadorlaw08.FloorTells", spec := "floorTells", unfollowed := true, recurses := true, named := ["aguador/floor.checks"], plainKeys := false, apart := false, laid := [("aguador/floor.checks", laid_aguador_floor_checks)] }
def FloorTellsSaid : Prop := floorTellsRow.holds Tryd.pinned (OpenSpec.ofChange floorTellsSpec)

/-- ITS FALSE NEIGHBOUR: 'it returns false'. Refute it at one input. -/
def floorTellsWrong : ChangeSpec := { name := "floorTells", fn := fun _ => fun
  | [d1, d2] => { results := [.lit (.bool false)], args := [d1, d2] }
  | _ => none }
def FloorTellsWrongFalsely : Prop := floorTellsRow.holds Tryd.pinned (OpenSpec.ofChange floorTellsWrong)

/-- 'aguadorlaw08.FloorChanges': WHATEVER THE INPUT: true; the input reads as it did. -/
def floorChangesSpec : ChangeSpec := { name := "floorChanges", fn := fun _ => fun
  | [d1, d2, d3] => { results := [.lit (.bool true)], args := [d1, d2, d3] }
  | _ => none }
def floorChangesRow : OpenClaim := { program := "ytihonljdanjfmaadoor", sum := "86e2f9ee5cea8dc8465ae9b647cf8fbac1a4046b75f3720e65f32ae9a2cde19c", func := "aguador/aguadorlaw08.FloorChanges", spec := "floorChanges", unfollowed := true, recurses := true, named := ["aguador/floor.checks"], plainKeys := false, apart := false, laid := [("aguador/floor.checks", laid_aguador_floor_checks)] }
def FloorChangesSaid : Prop := floorChangesRow.holds Tryd.pinned (OpenSpec.ofChange floorChangesSpec)

/-- ITS FALSE NEIGHBOUR: 'it returns false'. Refute it at one input. -/
def floorChangesWrong : ChangeSpec := { name := "floorChanges", fn := fun _ => fun
  | [d1, d2, d3] => { results := [.lit (.bool false)], args := [d1, d2, d3] }
  | _ => none }
def FloorChangesWrongFalsely : Prop := floorChangesRow.holds Tryd.pinned (OpenSpec.ofChange floorChangesWrong)

/-- 'aguadorlaw08.FloorBills': WHATEVER THE INPUT: true; the input reads as it did. -/
def floorBillsSpec : ChangeSpec := { name := "floorBills", fn := fun _ => fun
  | [d1, d2, d3, d4, d5] => { results := [.lit (.bool true)], args := [d1, d2, d3, d4, d5] }
  | _ => none }
def floorBillsRow : OpenClaim := { program := "ytihonljdanjfmaadoor", sum := "86e2f9ee5cea8dc8465ae9b647cf8fbac1a4046b75f3720e65f32ae9a2cde19c", func := "aguador/aguadorlaw08.FloorBills", spec := "floorBills", unfollowed := true, recurses := true, named := ["aguador/floor.checks", "aguador/tally.checks"], plainKeys := false, apart := false, laid := [("aguador/tally.checks", laid_aguador_tally_checks), ("aguador/floor.checks", laid_aguador_floor_checks)] }
def FloorBillsSaid : Prop := floorBillsRow.holds Tryd.pinned (OpenSpec.ofChange floorBillsSpec)

/-- ITS FALSE NEIGHBOUR: 'it returns false'. Refute it at one input. -/
def floorBillsWrong : ChangeSpec := { name := "floorBills", fn := fun _ => fun
  | [d1, d2, d3, d4, d5] => { results := [.lit (.bool false)], args := [d1, d2, d3, d4, d5] }
  | _ => none }
def FloorBillsWrongFalsely : Prop := floorBillsRow.holds Tryd.pinned (OpenSpec.ofChange floorBillsWrong)

/-- 'aguadorlaw08.FloorParts': WHATEVER THE INPUT: true; the input reads as it did. -/
def floorPartsSpec : ChangeSpec := { name := "floorParts", fn := fun _ => fun
  | [d1, d2] => { results := [.lit (.bool true)], args := [d1, d2] }
  | _ => none }
def floorPartsRow : OpenClaim := { program := "ytihonljdanjfmaadoor", sum := "86e2f9ee5cea8dc8465ae9b647cf8fbac1a4046b75f3720e65f32ae9a2cde19c", func := "aguador/aguadorlaw08.FloorParts", spec := "floorParts", unfollowed := true, recurses := true, named := ["aguador/floor.checks"], plainKeys := false, apart := false, laid := [("aguador/floor.checks", laid_aguador_floor_checks)] }
def FloorPartsSaid : Prop := floorPartsRow.holds Tryd.pinned (OpenSpec.ofChange floorPartsSpec)

/-- ITS FALSE NEIGHBOUR: 'it returns false'. Refute it at one input. -/
def floorPartsWrong : ChangeSpec := { name := "floorParts", fn := fun _ => fun
  | [d1, d2] => { results := [.lit (.bool false)], args := [d1, d2] }
  | _ => none }
def FloorPartsWrongFalsely : Prop := floorPartsRow.holds Tryd.pinned (OpenSpec.ofChange floorPartsWrong)

/-- 'aguadorlaw08.FloorLists': WHATEVER THE INPUT: true; the input reads as it did. -/
def floorListsSpec : ChangeSpec := { name := "floorLists", fn := fun _ => fun
  | [d] => { results := [.lit (.bool true)], args := [d] }
  | _ => none }
def floorListsRow : OpenClaim := { program := "ytihonljdanjfmaadoor", sum := "86e2f9ee5cea8dc8465ae9b647cf8fbac1a4046b75f3720e65f32ae9a2cde19c", func := "aguador/aguadorlaw08.FloorLists", spec := "floorLists", unfollowed := true, recurses := true, named := ["aguador/floor.checks"], plainKeys := false, apart := false, laid := [("aguador/floor.checks", laid_aguador_floor_checks)] }
def FloorListsSaid : Prop := floorListsRow.holds Tryd.pinned (OpenSpec.ofChange floorListsSpec)

/-- ITS FALSE NEIGHBOUR: 'it returns false'. Refute it at one input. -/
def floorListsWrong : ChangeSpec := { name := "floorLists", fn := fun _ => fun
  | [d] => { results := [.lit (.bool false)], args := [d] }
  | _ => none }
def FloorListsWrongFalsely : Prop := floorListsRow.holds Tryd.pinned (OpenSpec.ofChange floorListsWrong)

/- THE SECOND FORM. 'bulk': how many values and letters a reading holds, each counted each time it is reached (what is shared counts as often as it is met; a slice's spare places count too). A statement '..UptoSaid' is the law's where the arguments, and the package variables that the reading takes, are together of bulk at most 1048576: NARROWER than '..Said'. Prove '..Said' where nothing that the law and all that it calls make is longer than what came in: it says more and counts as full. Else prove '..UptoSaid'. A law counts once. -/
mutual
def uptoBulk {H : Type} : DataW H → Nat
  | .lit (.string bytes) => bytes.length + 1
  | .lit _ => 1
  | .nil => 1
  | .ptr d => uptoBulk d + 1
  | .slice elems spare => uptoBulkAll elems + uptoBulkAll spare + 1
  | .agg parts => uptoBulkAll parts + 1
  | .iface _ d => uptoBulk d + 1
  | .map entries => uptoBulkEntries entries + 1
  | .held _ => 1
def uptoBulkAll {H : Type} : List (DataW H) → Nat
  | [] => 0
  | d :: r => uptoBulk d + uptoBulkAll r
def uptoBulkEntries {H : Type} : List (Lit × DataW H) → Nat
  | [] => 0
  | x :: r => uptoBulkEntry x + uptoBulkEntries r
def uptoBulkEntry {H : Type} : Lit × DataW H → Nat
  | (.string bytes, d) => bytes.length + uptoBulk d + 1
  | (_, d) => uptoBulk d + 1
 end
def uptoSmall : (H : Type) → List (DataW H) → Bool := fun _ ds => decide (uptoBulkAll ds ≤ 1048576)
def OpenSpec.upto (s : _root_.Go.ChangeSpec) : _root_.Go.OpenSpec := { _root_.Go.OpenSpec.ofChange s with cond := some uptoSmall }

/-- 'aguadorlaw08.FloorJudges', WHERE WHAT IT READS IS OF BULK AT MOST 1048576: true; the input reads as it did. -/
def floorJudgesUptoRow : OpenClaim := { program := "ytihonljdanjfmaadoor", sum := "86e2f9ee5cea8dc8465ae9b647cf8fbac1a4046b75f3720e65f32ae9a2cde19c", func := "aguador/aguadorlaw08.FloorJudges", spec := "floorJudges", unfollowed := true, recurses := true, named := ["aguador/floor.checks"], plainKeys := false, apart := false, laid := [("aguador/floor.checks", laid_aguador_floor_checks)], narrowed := true }
def FloorJudgesUptoSaid : Prop := floorJudgesUptoRow.holds Tryd.pinned (OpenSpec.upto floorJudgesSpec)

/-- 'aguadorlaw08.FloorTells', WHERE WHAT IT READS IS OF BULK AT MOST 1048576: true; the input reads as it did. -/
def floorTellsUptoRow : OpenClaim := { program := "ytihonljdanjfmaadoor", sum := "86e2f9ee5cea8dc8465ae9b647cf8fbac1a4046b75f3720e65f32ae9a2cde19c", func := "aguador/aguadorlaw08.FloorTells", spec := "floorTells", unfollowed := true, recurses := true, named := ["aguador/floor.checks"], plainKeys := false, apart := false, laid := [("aguador/floor.checks", laid_aguador_floor_checks)], narrowed := true }
def FloorTellsUptoSaid : Prop := floorTellsUptoRow.holds Tryd.pinned (OpenSpec.upto floorTellsSpec)

/-- 'aguadorlaw08.FloorChanges', WHERE WHAT IT READS IS OF BULK AT MOST 1048576: true; the input reads as it did. -/
def floorChangesUptoRow : OpenClaim := { program := "ytihonljdanjfmaadoor", sum := "86e2f9ee5cea8dc8465ae9b647cf8fbac1a4046b75f3720e65f32ae9a2cde19c", func := "aguador/aguadorlaw08.FloorChanges", spec := "floorChanges", unfollowed := true, recurses := true, named := ["aguador/floor.checks"], plainKeys := false, apart := false, laid := [("aguador/floor.checks", laid_aguador_floor_checks)], narrowed := true }
def FloorChangesUptoSaid : Prop := floorChangesUptoRow.holds Tryd.pinned (OpenSpec.upto floorChangesSpec)

/-- 'aguadorlaw08.FloorBills', WHERE WHAT IT READS IS OF BULK AT MOST 1048576: true; the input reads as it did. -/
def floorBillsUptoRow : OpenClaim := { program := "ytihonljdanjfmaadoor", sum := "86e2f9ee5cea8dc8465ae9b647cf8fbac1a4046b75f3720e65f32ae9a2cde19c", func := "aguador/aguadorlaw08.FloorBills", spec := "floorBills", unfollowed := true, recurses := true, named := ["aguador/floor.checks", "aguador/tally.checks"], plainKeys := false, apart := false, laid := [("aguador/tally.checks", laid_aguador_tally_checks), ("aguador/floor.checks", laid_aguador_floor_checks)], narrowed := true }
def FloorBillsUptoSaid : Prop := floorBillsUptoRow.holds Tryd.pinned (OpenSpec.upto floorBillsSpec)

/-- 'aguadorlaw08.FloorParts', WHERE WHAT IT READS IS OF BULK AT MOST 1048576: true; the input reads as it did. -/
def floorPartsUptoRow : OpenClaim := { program := "ytihonljdanjfmaadoor", sum := "86e2f9ee5cea8dc8465ae9b647cf8fbac1a4046b75f3720e65f32ae9a2cde19c", func := "aguador/aguadorlaw08.FloorParts", spec := "floorParts", unfollowed := true, recurses := true, named := ["aguador/floor.checks"], plainKeys := false, apart := false, laid := [("aguador/floor.checks", laid_aguador_floor_checks)], narrowed := true }
def FloorPartsUptoSaid : Prop := floorPartsUptoRow.holds Tryd.pinned (OpenSpec.upto floorPartsSpec)

/-- 'aguadorlaw08.FloorLists', WHERE WHAT IT READS IS OF BULK AT MOST 1048576: true; the input reads as it did. -/
def floorListsUptoRow : OpenClaim := { program := "ytihonljdanjfmaadoor", sum := "86e2f9ee5cea8dc8465ae9b647cf8fbac1a4046b75f3720e65f32ae9a2cde19c", func := "aguador/aguadorlaw08.FloorLists", spec := "floorLists", unfollowed := true, recurses := true, named := ["aguador/floor.checks"], plainKeys := false, apart := false, laid := [("aguador/floor.checks", laid_aguador_floor_checks)], narrowed := true }
def FloorListsUptoSaid : Prop := floorListsUptoRow.holds Tryd.pinned (OpenSpec.upto floorListsSpec)

end Rows
end Go.Proofs.YtihonljdanjfmaaDoor
