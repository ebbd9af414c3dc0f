/- Proofs for one card: Reg, RegIn, Sw, SwOps, SwAny, App, SwOps2, SwOps3, SwR, SwF, SwG, SwH, DoorG, FloorC, Row, Steps, Left, Best, Comes, DoorB, SwI, SwQ, TJa, FloorM, Gr3, SwL, SwM, SwB, FloorCa, FloorLb, SwS, FloorCe, FloorCg, SwN, FloorPc, FloorCj, OCom, OQa, OTa, OHa, OTb, OTc, OYa, OGa. No condition of its own. -/
import Derived.WalkKit
import Derived.Handy
import Derived.Deep.AppendSrc
import Derived.OrdersHeld
import Derived.Deep.RegionHeld
import Derived.OrdersIn
import Derived.RangeFuncCalls
import Derived.RangeFuncNested
import Derived.RangeFuncLeaves
import Derived.IntWalk
import Derived.WalkSpells
import Derived.Maps.AppendAt
import Derived.Deep.AppendLies
import Derived.OwnWalk
import Derived.LoopNIn
import Derived.RangeFuncBound
import Derived.Test.YtihonljdanjfmaaGreatDoorProg
import Derived.Test.YtihonljdanjfmaaGreatDoorCards
import Derived.Test.YtihonljdanjfmaaGreatDoorTie
import Derived.ProofKit
import Derived.OpenShut
import Derived.LaidMore
import Derived.LaidOnce
import Derived.ChangeOld
import Derived.Below
import Derived.Stop.Joined
import Derived.Lib.SmallJoins
import Derived.Deep.Slices
import Derived.WalkSmall
import Derived.Shelf.Abstract
import Derived.Laws.EntriesVeiled
import Derived.ChangeSame
import Derived.Deep.Strs
import Derived.Outline
import Derived.Deep.QuietTactic
import Derived.BigQuiet
import Derived.Deep.RegionHeld3
import Derived.DeepKeys4
import Derived.Maps.OwnIn
import Derived.OwnWalkIn
import Derived.Shelf.RegionOpen
import Derived.TacticsInMore
import Derived.Sort.BigQuietIn
import Derived.LoopIn
import Derived.WalkMore
import Derived.Maps.Views
import Derived.Lib.AppendZerosOnto
import Derived.Lib.Walk
import Derived.Lib.SliceRun
import Derived.Laws.MakeOwn
import Derived.Deep.Cut
import Derived.Lib.LazyBuf
import Derived.Scope
import Derived.WideKeyEntry
import Derived.Test.YtihonljdanjfmaaGreatDoorZk9
set_option linter.unusedVariables false
set_option linter.unusedSimpArgs false
set_option maxRecDepth 40000
set_option maxHeartbeats 32000000
namespace Go.Proofs.YtihonljdanjfmaaGreatDoor
open Go.RowKit Go
section
variable {P : Program} {ops : Array Oper} {Q : Exit → Act → World → Prop} {S : World → Prop} {held : List Nat}
end
section
variable {F : Fence} {n : Nat} {P : Program} {ops : Array Oper} {Q : Exit → Act → World → Prop} {S : World → Prop} {held : List Nat}
end
end Go.Proofs.YtihonljdanjfmaaGreatDoor
namespace Go.Proofs.YtihonljdanjfmaaGreatDoor.Sw
open Go.RowKit Go
section
variable {c : Cx} {s : S} {Q : Exit → S → Prop}
end
section
variable {c : Cx} {s : S} {Q : Exit → S → Prop} {ops : Array Oper} {tl : List Oper}
end
section
variable {c : Cx} {s : S} {Q : Exit → S → Prop} {ops : Array Oper} {tl : List Oper}
end
section
variable {P : Program} {rs : List (Nat × AV)} {d : Option Nat} {ty : TypeId} {pos : String} {af : Array Edge} {g : Option (Nat × Bool)}
end
section
variable {c : Cx} {s : S} {Q : Exit → S → Prop} {ops : Array Oper} {tl : List Oper}
end
section
variable {c : Cx} {rs : List (Nat × AV)} {hs : List HA} {Q : Exit → S → Prop} {ops : Array Oper} {tl : List Oper} {d : Nat} {op : Op} {ty : TypeId} {pos : String} {af : Array Edge}
end
section
variable {c : Cx} {rs : List (Nat × AV)} {hs : List HA} {Q : Exit → S → Prop} {ops : Array Oper} {tl : List Oper} {d : Nat} {ty : TypeId} {pos : String} {af : Array Edge} {x y : Operand} {t tb : TypeId} {p : Value} {j : Nat} {cs : List AV} {f : HA → List HA}
end
section
variable (ops : Array Oper) (m : Nat) (sp : List Sp) (hs0 : List HA)
end
section
variable {c : Cx} {ops : Array Oper} {m : Nat} {sp : List Sp} {hs0 hsR : List HA} {rsB : List (Nat × AV)} {Q : Exit → S → Prop}
end
section
variable {P : Program} {rs : List (Nat × AV)} {hsR : List HA} {d : Option Nat} {ty : TypeId} {pos : String} {af : Array Edge} {g : Option (Nat × Bool)} {x : Operand} {t tb : TypeId} {p : Value} {j : Nat} {cs : List AV} {f : HA → List HA}
end
end Go.Proofs.YtihonljdanjfmaaGreatDoor.Sw
namespace Go.Proofs.YtihonljdanjfmaaGreatDoor
open Go.RowKit Go
section
variable {P : Program} (w : World)
end
end Go.Proofs.YtihonljdanjfmaaGreatDoor
namespace Go.Proofs.YtihonljdanjfmaaGreatDoor.Sw
open Go.RowKit Go
section
variable {P : Program} {rs : List (Nat × AV)} {d : Option Nat} {ty : TypeId} {pos : String} {af : Array Edge} {g : Option (Nat × Bool)}
end
section
variable {P : Program} {rs : List (Nat × AV)} {d : Option Nat} {ty : TypeId} {pos : String} {af : Array Edge} {g : Option (Nat × Bool)}
end
section
variable {c : Cx} {rs : List (Nat × AV)} {hs : List HA} {Q : Exit → S → Prop} {ops : Array Oper} {tl : List Oper} {d : Nat} {ty : TypeId} {pos : String} {af : Array Edge}
end
section
variable {c : Cx} {rs : List (Nat × AV)} {hs : List HA} {Q : Exit → S → Prop} {ops : Array Oper} {tl : List Oper} {d : Nat} {ty : TypeId} {pos : String} {af : Array Edge}
end
section
variable {P : Program} {rs : List (Nat × AV)} {d : Option Nat} {ty : TypeId} {pos : String} {af : Array Edge} {g : Option (Nat × Bool)}
end
section
variable {c : Cx} {rs : List (Nat × AV)} {hs : List HA} {Q : Exit → S → Prop} {ops : Array Oper} {tl : List Oper} {d : Nat} {ty : TypeId} {pos : String} {af : Array Edge}
end
section
variable {P : Program} {rs : List (Nat × AV)} {hsR : List HA} {d : Option Nat} {ty : TypeId} {pos : String} {af : Array Edge} {g : Option (Nat × Bool)}
end
section
variable {P : Program} {rs : List (Nat × AV)} {hsR : List HA} {d : Option Nat} {ty : TypeId} {pos : String} {af : Array Edge} {g : Option (Nat × Bool)}
end
section
variable {c : Cx} {rs : List (Nat × AV)} {hs : List HA} {Q : Exit → S → Prop} {ops : Array Oper} {tl : List Oper} {d : Nat} {ty : TypeId} {pos : String} {af : Array Edge}
end
section
variable {c : Cx} {rs : List (Nat × AV)} {hs : List HA} {Q : Exit → S → Prop} {g : Operand} {ps : Array Tmp} {assign body : Code} {gf : FuncId} {caps : List AV} {own r : List HA} {α β τ : Type} {f : α → τ → List AV} {t : α → τ → List HA} {xs : List α}
end
section
variable {P : Program} {rs : List (Nat × AV)} {hsR : List HA} {d : Option Nat} {ty : TypeId} {pos : String} {af : Array Edge} {g : Option (Nat × Bool)}
end
section
variable {c : Cx} {rs : List (Nat × AV)} {hs : List HA} {Q : Exit → S → Prop} {ops : Array Oper} {tl : List Oper} {d : Nat} {ty : TypeId} {pos : String} {af : Array Edge}
end
end Go.Proofs.YtihonljdanjfmaaGreatDoor.Sw
namespace Go.Proofs.YtihonljdanjfmaaGreatDoor.Sw
open Go Go.RowKit Go.ChangeShapes Go.WideShapes Go.ChangeAt
set_option maxRecDepth 100000 in
theorem arg_int {H : Type} {enc : TypeId × Value → H} {W : World} {t : TypeId} {k : IntKind} {v : Value} {d : DataW H} {p : List MemPlace} {base : Nat} (ht : Tryz.prog.underlying t = some (.int k)) (hv : Value.okWide Tryz.prog W .any base t v) (h : DataW.Trod enc Tryz.prog W 0 (fun _ => true) true t v d p) : ∃ i : Int, (AV.val (.int k i)).P (gh W) v ∧ (Lit.int k i).wf = true := by
 obtain ⟨n, rfl, _, _, hw⟩ := open_int ht hv h
 exact ⟨n, rfl, hw⟩
end Go.Proofs.YtihonljdanjfmaaGreatDoor.Sw
namespace Go.Proofs.YtihonljdanjfmaaGreatDoor
open Go Go.ChangeShapes Go.WideShapes Go.ChangeAt Go.RowKit
theorem laidOut : laidOutB Tryz.prog = true := by kernel_rfl
end Go.Proofs.YtihonljdanjfmaaGreatDoor
namespace Go.Proofs.YtihonljdanjfmaaGreatDoor.Sw
open Go Go.RowKit Go.ChangeShapes Go.WideShapes Go.ChangeAt
set_option maxRecDepth 100000
end Go.Proofs.YtihonljdanjfmaaGreatDoor.Sw
namespace Go.Proofs.YtihonljdanjfmaaGreatDoor.Sw
open Go.RowKit Go Go.Shelf Go.Proofs
end Go.Proofs.YtihonljdanjfmaaGreatDoor.Sw
namespace Go.Proofs.YtihonljdanjfmaaGreatDoor
open Go.RowKit Go
section
variable {α : Type} {f : α → List Value} {n : Nat}
end
end Go.Proofs.YtihonljdanjfmaaGreatDoor
namespace Go.Proofs.YtihonljdanjfmaaGreatDoor
open Go.RowKit Go.Proofs Go.Shelf
attribute [local go_sem] Oper.semAt_some
attribute [local go_sem] Oper.semAt_some
attribute [local go_sem] eqPlace
attribute [local go_sem] Oper.semAt_some
attribute [local go_sem] Oper.semAt_some
end Go.Proofs.YtihonljdanjfmaaGreatDoor
namespace Go.Proofs.YtihonljdanjfmaaGreatDoor
open Go Go.ChangeShapes Go.WideShapes Go.ChangeAt Go.RowKit
end Go.Proofs.YtihonljdanjfmaaGreatDoor
namespace Go.Proofs.YtihonljdanjfmaaGreatDoor.Sw
open Go Go.RowKit Go.ChangeShapes Go.WideShapes Go.ChangeAt
set_option maxRecDepth 100000
theorem reads_t : Reads 67 tC := fun {H enc W n cs y} h =>
 let ⟨x, hx⟩ := reads_4 Tryz.underlying67 (by kernel_rfl) (by kernel_rfl) reads_i reads_i reads_is reads_is h
 ⟨⟨x.1, x.2.1, x.2.2.1, x.2.2.2⟩, hx⟩
theorem reads_r : Reads 69 rC := fun {H enc W n cs y} h =>
 let ⟨x, hx⟩ := reads_4 Tryz.underlying69 (by kernel_rfl) (by kernel_rfl) reads_i reads_i reads_i reads_i h
 ⟨⟨x.1, x.2.1, x.2.2.1, x.2.2.2⟩, hx⟩
end Go.Proofs.YtihonljdanjfmaaGreatDoor.Sw
namespace Go.Proofs.YtihonljdanjfmaaGreatDoor.Sw
open Go.RowKit Go
section
variable {P : Program} {rs : List (Nat × AV)} {hsR : List HA} {d : Option Nat} {ty : TypeId} {pos : String} {af : Array Edge} {g : Option (Nat × Bool)}
end
section
variable {c : Cx} {rs : List (Nat × AV)} {hs : List HA} {Q : Exit → S → Prop} {ops : Array Oper} {tl : List Oper} {d : Nat} {ty : TypeId} {pos : String} {af : Array Edge}
end
section
variable {P : Program} {rs : List (Nat × AV)} {d : Option Nat} {ty : TypeId} {pos : String} {af : Array Edge} {g : Option (Nat × Bool)}
end
section
variable {c : Cx} {rs : List (Nat × AV)} {hs : List HA} {Q : Exit → S → Prop} {ops : Array Oper} {tl : List Oper} {d : Nat} {ty : TypeId} {pos : String} {af : Array Edge}
end
section
variable {P : Program} {rs : List (Nat × AV)} {d : Option Nat} {ty : TypeId} {pos : String} {af : Array Edge} {g : Option (Nat × Bool)}
end
end Go.Proofs.YtihonljdanjfmaaGreatDoor.Sw
namespace Go.Proofs.YtihonljdanjfmaaGreatDoor.Sw
open Go.RowKit Go Go.Shelf Go.Proofs
end Go.Proofs.YtihonljdanjfmaaGreatDoor.Sw
namespace Go.Proofs.YtihonljdanjfmaaGreatDoor.Gr
open Go.Proofs.YtihonljdanjfmaaGreatDoor.Sw (Pay)
end Go.Proofs.YtihonljdanjfmaaGreatDoor.Gr
namespace Go.Proofs.YtihonljdanjfmaaGreatDoor.Sw
open Go.RowKit Go
section
variable {P : Program} {rs : List (Nat × AV)} {d : Option Nat} {ty : TypeId} {pos : String} {af : Array Edge} {g : Option (Nat × Bool)}
end
section
variable {c : Cx} {rs : List (Nat × AV)} {hs : List HA} {Q : Exit → S → Prop} {ops : Array Oper} {tl : List Oper} {d : Nat} {ty : TypeId} {pos : String} {af : Array Edge}
end
end Go.Proofs.YtihonljdanjfmaaGreatDoor.Sw
namespace Go.Proofs.YtihonljdanjfmaaGreatDoor.Sw
open Go.RowKit Go
open Go.WideElems (Fit)
open Go.ChangeMaps (setBlock heap_setBlock_same heap_setBlock_other)
section
variable {κ α : Type} [DecidableEq κ]
end
section
variable {κ α : Type} (kv : κ → Value) (g : α → AV)
variable {kv g}
variable (kv g)
variable {kv g}
end
section
variable {P : Program} {κ α : Type} [DecidableEq κ] {t : TypeId} {kv : κ → Value} {ok : κ → Prop} {g : α → AV} {l : List (κ × α)} {G : Nat → Option Obj} {F : List Nat} {w : World} {v : Value}
variable {rs : List (Nat × AV)} {d : Option Nat} {ty : TypeId} {pos : String} {af : Array Edge} {gd : Option (Nat × Bool)}
end
section
variable {c : Cx} {rs : List (Nat × AV)} {hs : List HA} {Q : Exit → S → Prop} {ops : Array Oper} {tl : List Oper} {d : Nat} {ty : TypeId} {pos : String} {af : Array Edge} {κ α : Type} [DecidableEq κ] {t : TypeId} {kv : κ → Value} {ok : κ → Prop} {g : α → AV} {l : List (κ × α)} {v : Value}
end
end Go.Proofs.YtihonljdanjfmaaGreatDoor.Sw
namespace Go.Proofs.YtihonljdanjfmaaGreatDoor.Sw
open Go.RowKit Go
section
variable {P : Program} {rs : List (Nat × AV)} {d : Option Nat} {ty : TypeId} {pos : String} {af : Array Edge} {g : Option (Nat × Bool)}
end
section
variable {c : Cx} {rs : List (Nat × AV)} {hs : List HA} {Q : Exit → S → Prop} {ops : Array Oper} {tl : List Oper} {d : Nat} {ty : TypeId} {pos : String} {af : Array Edge}
end
end Go.Proofs.YtihonljdanjfmaaGreatDoor.Sw
namespace Go.Proofs.YtihonljdanjfmaaGreatDoor.Sw
open Go.RowKit Go Go.Shelf Go.Proofs
end Go.Proofs.YtihonljdanjfmaaGreatDoor.Sw
namespace Go.Proofs.YtihonljdanjfmaaGreatDoor.Sw
open Go.RowKit Go Go.Shelf Go.Proofs
open Go.Proofs.YtihonljdanjfmaaGreatDoor.Gr (payLt)
section
variable {P : Program} {rs : List (Nat × AV)} {d : Option Nat} {ty : TypeId} {pos : String} {af : Array Edge} {g : Option (Nat × Bool)}
end
section
variable {c : Cx} {rs : List (Nat × AV)} {hs : List HA} {Q : Exit → S → Prop} {ops : Array Oper} {tl : List Oper} {d : Nat} {ty : TypeId} {pos : String} {af : Array Edge}
end
end Go.Proofs.YtihonljdanjfmaaGreatDoor.Sw
namespace Go.Proofs.YtihonljdanjfmaaGreatDoor.Sw
open Go.RowKit Go
section
variable {P : Program} {rs : List (Nat × AV)} {d : Option Nat} {ty : TypeId} {pos : String} {af : Array Edge} {g : Option (Nat × Bool)}
end
section
variable {c : Cx} {rs : List (Nat × AV)} {hs r : List HA} {Q : Exit → S → Prop} {ops : Array Oper} {tl : List Oper} {d : Nat} {ty : TypeId} {pos : String} {af : Array Edge}
end
end Go.Proofs.YtihonljdanjfmaaGreatDoor.Sw
namespace Go.Proofs.YtihonljdanjfmaaGreatDoor.Sw
open Go.RowKit Go Go.Shelf Go.Proofs
end Go.Proofs.YtihonljdanjfmaaGreatDoor.Sw
namespace Go.Proofs.YtihonljdanjfmaaGreatDoor.Sw
open Go.RowKit Go
open Go.WideElems (Fit)
open Go.ChangeMaps (setBlock heap_setBlock_same heap_setBlock_other)
section
variable {P : Program} {κ α : Type} [DecidableEq κ] {t : TypeId} {kv : κ → Value} {ok : κ → Prop} {g : α → AV} {l : List (κ × α)} {G : Nat → Option Obj} {F : List Nat} {w : World} {v : Value}
variable {rs : List (Nat × AV)} {d : Option Nat} {ty : TypeId} {pos : String} {af : Array Edge} {gd : Option (Nat × Bool)}
end
section
variable {c : Cx} {rs : List (Nat × AV)} {hs : List HA} {Q : Exit → S → Prop} {ops : Array Oper} {tl : List Oper} {d : Nat} {ty : TypeId} {pos : String} {af : Array Edge} {κ α : Type} [DecidableEq κ] {t : TypeId} {kv : κ → Value} {ok : κ → Prop} {g : α → AV} {l : List (κ × α)} {v : Value}
end
end Go.Proofs.YtihonljdanjfmaaGreatDoor.Sw
namespace Go.Proofs.YtihonljdanjfmaaGreatDoor.Sw
open Go.RowKit Go Go.Shelf Go.Proofs
open Go.Proofs.YtihonljdanjfmaaGreatDoor.Gr (headsR hf mergeH hf_merge Lab lab_all Cl)
end Go.Proofs.YtihonljdanjfmaaGreatDoor.Sw
namespace Go.Proofs.YtihonljdanjfmaaGreatDoor.Sw
open Go.RowKit Go Go.Shelf Go.Proofs
theorem u8_ok {n : Int} (h : (Lit.int .u8 n).wf = true) : 0 ≤ n ∧ n ≤ 255 := by
 simp only [Lit.wf, IntKind.min, IntKind.max, IntKind.signed, IntKind.bits, Bool.and_eq_true, decide_eq_true_eq] at h
 simp at h
 omega
end Go.Proofs.YtihonljdanjfmaaGreatDoor.Sw
namespace Go.Proofs.YtihonljdanjfmaaGreatDoor.Sw
open Go.RowKit Go Go.Shelf Go.Proofs
open Go.Proofs.YtihonljdanjfmaaGreatDoor.Gr (treeR pick sub_pick pick_sub)
end Go.Proofs.YtihonljdanjfmaaGreatDoor.Sw
namespace Go.Proofs.YtihonljdanjfmaaGreatDoor.Sw
open Go.RowKit Go Go.Shelf Go.Proofs
open Go.Proofs.YtihonljdanjfmaaGreatDoor.Gr (treeR pick Zr Cl Ok Forest Side Min sumP lf amt payE headsR hf Lab lab_all even_iff)
end Go.Proofs.YtihonljdanjfmaaGreatDoor.Sw
namespace Go.Proofs.YtihonljdanjfmaaGreatDoor.Sw
open Go.RowKit Go Go.Shelf Go.Proofs
end Go.Proofs.YtihonljdanjfmaaGreatDoor.Sw
namespace Go.Proofs.YtihonljdanjfmaaGreatDoor.Sw
open Go.RowKit Go Go.Shelf Go.Proofs
open Go.Proofs.YtihonljdanjfmaaGreatDoor.Gr (Zr Cl Forest sumP lf amt payE headsR hf Lab lab_all even_iff)
end Go.Proofs.YtihonljdanjfmaaGreatDoor.Sw
namespace Go.Proofs.YtihonljdanjfmaaGreatDoor.Sw
open Go.RowKit Go Go.Shelf Go.Proofs
section
variable {P : Program} {rs : List (Nat × AV)} {d : Option Nat} {ty : TypeId} {pos : String} {af : Array Edge} {g : Option (Nat × Bool)}
end
end Go.Proofs.YtihonljdanjfmaaGreatDoor.Sw
namespace Go.Proofs.YtihonljdanjfmaaGreatDoor.Sw
open Go.RowKit Go Go.Shelf Go.Proofs
open Go.Proofs.YtihonljdanjfmaaGreatDoor.Gr (lf)
end Go.Proofs.YtihonljdanjfmaaGreatDoor.Sw
namespace Go.Proofs.YtihonljdanjfmaaGreatDoor.Sw
open Go.RowKit Go Go.Shelf Go.Proofs
open Go.Proofs.YtihonljdanjfmaaGreatDoor.Gr (Zr Cl Ok Forest sumP lf headsR headsR_snoc hf_merge mergeH Lab lab_all payE)
end Go.Proofs.YtihonljdanjfmaaGreatDoor.Sw
