/- Proofs for one card: Reg, RegIn, Sw, SwOps, SwAny, App, SwOps2, SwOps3, SwR, SwF, SwG, SwH, DoorG, FloorC, Row, Steps, Left, Best, Comes, FloorW, FloorM, Gr3, SwI, SwL, SwM, SwB, FloorCa, FloorLb, SwS, FloorCe, FloorCg, SwN, FloorDd, FloorPc, FloorCj, SwQ, FloorDf, OAa, OHa, FloorShares. No condition of its own. -/
import Derived.WalkKit
import Derived.Handy
import Derived.Deep.AppendSrc
import Derived.OrdersHeld
import Derived.Deep.RegionHeld
import Derived.OrdersIn
import Derived.RangeFuncCalls
import Derived.RangeFuncNested
import Derived.RangeFuncLeaves
import Derived.IntWalk
import Derived.WalkSpells
import Derived.Maps.AppendAt
import Derived.Deep.AppendLies
import Derived.OwnWalk
import Derived.LoopNIn
import Derived.RangeFuncBound
import Derived.Test.YtihonljdanjfmaaGreatDoorProg
import Derived.Test.YtihonljdanjfmaaGreatDoorCards
import Derived.Test.YtihonljdanjfmaaGreatDoorTie
import Derived.ProofKit
import Derived.OpenShut
import Derived.LaidMore
import Derived.LaidOnce
import Derived.ChangeOld
import Derived.Below
import Derived.Stop.Joined
import Derived.Lib.SmallJoins
import Derived.Deep.Slices
import Derived.WalkSmall
import Derived.Shelf.Abstract
import Derived.Laws.EntriesVeiled
import Derived.ChangeSame
import Derived.Deep.Strs
import Derived.Outline
import Derived.Deep.QuietTactic
import Derived.BigQuiet
import Derived.Deep.RegionHeld3
import Derived.DeepKeys4
import Derived.Maps.OwnIn
import Derived.OwnWalkIn
import Derived.Shelf.RegionOpen
import Derived.TacticsInMore
import Derived.Sort.BigQuietIn
import Derived.LoopIn
import Derived.WalkMore
import Derived.Maps.Views
import Derived.Lib.AppendZerosOnto
import Derived.Lib.Walk
import Derived.Lib.SliceRun
import Derived.Laws.MakeOwn
import Derived.Deep.Cut
import Derived.Lib.LazyBuf
import Derived.Scope
import Derived.WideKeyEntry
import Derived.Test.YtihonljdanjfmaaGreatDoorZb9
set_option linter.unusedVariables false
set_option linter.unusedSimpArgs false
namespace Go.Proofs.YtihonljdanjfmaaGreatDoor
open Go.RowKit Go
section
variable {P : Program} {ops : Array Oper} {Q : Exit → Act → World → Prop} {S : World → Prop} {held : List Nat}
end
section
variable {F : Fence} {n : Nat} {P : Program} {ops : Array Oper} {Q : Exit → Act → World → Prop} {S : World → Prop} {held : List Nat}
end
end Go.Proofs.YtihonljdanjfmaaGreatDoor
namespace Go.Proofs.YtihonljdanjfmaaGreatDoor.Sw
open Go.RowKit Go
section
variable {c : Cx} {s : S} {Q : Exit → S → Prop}
end
section
variable {c : Cx} {s : S} {Q : Exit → S → Prop} {ops : Array Oper} {tl : List Oper}
end
section
variable {c : Cx} {s : S} {Q : Exit → S → Prop} {ops : Array Oper} {tl : List Oper}
end
section
variable {P : Program} {rs : List (Nat × AV)} {d : Option Nat} {ty : TypeId} {pos : String} {af : Array Edge} {g : Option (Nat × Bool)}
end
section
variable {c : Cx} {s : S} {Q : Exit → S → Prop} {ops : Array Oper} {tl : List Oper}
end
section
variable {c : Cx} {rs : List (Nat × AV)} {hs : List HA} {Q : Exit → S → Prop} {ops : Array Oper} {tl : List Oper} {d : Nat} {op : Op} {ty : TypeId} {pos : String} {af : Array Edge}
end
section
variable {c : Cx} {rs : List (Nat × AV)} {hs : List HA} {Q : Exit → S → Prop} {ops : Array Oper} {tl : List Oper} {d : Nat} {ty : TypeId} {pos : String} {af : Array Edge} {x y : Operand} {t tb : TypeId} {p : Value} {j : Nat} {cs : List AV} {f : HA → List HA}
end
section
variable (ops : Array Oper) (m : Nat) (sp : List Sp) (hs0 : List HA)
end
section
variable {c : Cx} {ops : Array Oper} {m : Nat} {sp : List Sp} {hs0 hsR : List HA} {rsB : List (Nat × AV)} {Q : Exit → S → Prop}
end
section
variable {P : Program} {rs : List (Nat × AV)} {hsR : List HA} {d : Option Nat} {ty : TypeId} {pos : String} {af : Array Edge} {g : Option (Nat × Bool)} {x : Operand} {t tb : TypeId} {p : Value} {j : Nat} {cs : List AV} {f : HA → List HA}
end
end Go.Proofs.YtihonljdanjfmaaGreatDoor.Sw
namespace Go.Proofs.YtihonljdanjfmaaGreatDoor
open Go.RowKit Go
section
variable {P : Program} (w : World)
end
end Go.Proofs.YtihonljdanjfmaaGreatDoor
namespace Go.Proofs.YtihonljdanjfmaaGreatDoor.Sw
open Go.RowKit Go
section
variable {P : Program} {rs : List (Nat × AV)} {d : Option Nat} {ty : TypeId} {pos : String} {af : Array Edge} {g : Option (Nat × Bool)}
end
section
variable {P : Program} {rs : List (Nat × AV)} {d : Option Nat} {ty : TypeId} {pos : String} {af : Array Edge} {g : Option (Nat × Bool)}
end
section
variable {c : Cx} {rs : List (Nat × AV)} {hs : List HA} {Q : Exit → S → Prop} {ops : Array Oper} {tl : List Oper} {d : Nat} {ty : TypeId} {pos : String} {af : Array Edge}
end
section
variable {c : Cx} {rs : List (Nat × AV)} {hs : List HA} {Q : Exit → S → Prop} {ops : Array Oper} {tl : List Oper} {d : Nat} {ty : TypeId} {pos : String} {af : Array Edge}
end
section
variable {P : Program} {rs : List (Nat × AV)} {d : Option Nat} {ty : TypeId} {pos : String} {af : Array Edge} {g : Option (Nat × Bool)}
end
section
variable {c : Cx} {rs : List (Nat × AV)} {hs : List HA} {Q : Exit → S → Prop} {ops : Array Oper} {tl : List Oper} {d : Nat} {ty : TypeId} {pos : String} {af : Array Edge}
end
section
variable {P : Program} {rs : List (Nat × AV)} {hsR : List HA} {d : Option Nat} {ty : TypeId} {pos : String} {af : Array Edge} {g : Option (Nat × Bool)}
end
section
variable {P : Program} {rs : List (Nat × AV)} {hsR : List HA} {d : Option Nat} {ty : TypeId} {pos : String} {af : Array Edge} {g : Option (Nat × Bool)}
end
section
variable {c : Cx} {rs : List (Nat × AV)} {hs : List HA} {Q : Exit → S → Prop} {ops : Array Oper} {tl : List Oper} {d : Nat} {ty : TypeId} {pos : String} {af : Array Edge}
end
section
variable {c : Cx} {rs : List (Nat × AV)} {hs : List HA} {Q : Exit → S → Prop} {g : Operand} {ps : Array Tmp} {assign body : Code} {gf : FuncId} {caps : List AV} {own r : List HA} {α β τ : Type} {f : α → τ → List AV} {t : α → τ → List HA} {xs : List α}
end
section
variable {P : Program} {rs : List (Nat × AV)} {hsR : List HA} {d : Option Nat} {ty : TypeId} {pos : String} {af : Array Edge} {g : Option (Nat × Bool)}
end
section
variable {c : Cx} {rs : List (Nat × AV)} {hs : List HA} {Q : Exit → S → Prop} {ops : Array Oper} {tl : List Oper} {d : Nat} {ty : TypeId} {pos : String} {af : Array Edge}
end
end Go.Proofs.YtihonljdanjfmaaGreatDoor.Sw
namespace Go.Proofs.YtihonljdanjfmaaGreatDoor.Sw
open Go Go.RowKit Go.ChangeShapes Go.WideShapes Go.ChangeAt
end Go.Proofs.YtihonljdanjfmaaGreatDoor.Sw
namespace Go.Proofs.YtihonljdanjfmaaGreatDoor
open Go Go.ChangeShapes Go.WideShapes Go.ChangeAt Go.RowKit
theorem laidOut : laidOutB Tryz.prog = true := by kernel_rfl
end Go.Proofs.YtihonljdanjfmaaGreatDoor
namespace Go.Proofs.YtihonljdanjfmaaGreatDoor.Sw
open Go Go.RowKit Go.ChangeShapes Go.WideShapes Go.ChangeAt
set_option maxRecDepth 100000
end Go.Proofs.YtihonljdanjfmaaGreatDoor.Sw
namespace Go.Proofs.YtihonljdanjfmaaGreatDoor.Sw
open Go.RowKit Go Go.Shelf Go.Proofs
end Go.Proofs.YtihonljdanjfmaaGreatDoor.Sw
namespace Go.Proofs.YtihonljdanjfmaaGreatDoor
open Go.RowKit Go
section
variable {α : Type} {f : α → List Value} {n : Nat}
end
end Go.Proofs.YtihonljdanjfmaaGreatDoor
namespace Go.Proofs.YtihonljdanjfmaaGreatDoor
open Go.RowKit Go.Proofs Go.Shelf
attribute [local go_sem] Oper.semAt_some
attribute [local go_sem] Oper.semAt_some
attribute [local go_sem] eqPlace
attribute [local go_sem] Oper.semAt_some
attribute [local go_sem] Oper.semAt_some
end Go.Proofs.YtihonljdanjfmaaGreatDoor
namespace Go.Proofs.YtihonljdanjfmaaGreatDoor.Sw
open Go.RowKit Go Go.Shelf Go.Proofs
theorem floorAt_con (f : Flo) (id : Int) (hl : f.ids.length ≤ 1000000) (hm : id ∈ f.ids) : Con Tryz.prog 23 [.agg (flC f), .val (.int .i64 id)] [] (Is (.val (.int .i64 ((f.ids.idxOf id : Nat) : Int))) []) := by
 have := floor_con f id hl
 rwa [show ixOf f.ids id = ((f.ids.idxOf id : Nat) : Int) from if_pos hm] at this
end Go.Proofs.YtihonljdanjfmaaGreatDoor.Sw
namespace Go.Proofs.YtihonljdanjfmaaGreatDoor.Gr
open Go.Proofs.YtihonljdanjfmaaGreatDoor.Sw (Pay)
end Go.Proofs.YtihonljdanjfmaaGreatDoor.Gr
namespace Go.Proofs.YtihonljdanjfmaaGreatDoor.Sw
open Go.RowKit Go
section
variable {P : Program} {rs : List (Nat × AV)} {hsR : List HA} {d : Option Nat} {ty : TypeId} {pos : String} {af : Array Edge} {g : Option (Nat × Bool)}
end
section
variable {c : Cx} {rs : List (Nat × AV)} {hs : List HA} {Q : Exit → S → Prop} {ops : Array Oper} {tl : List Oper} {d : Nat} {ty : TypeId} {pos : String} {af : Array Edge}
end
section
variable {P : Program} {rs : List (Nat × AV)} {d : Option Nat} {ty : TypeId} {pos : String} {af : Array Edge} {g : Option (Nat × Bool)}
end
section
variable {c : Cx} {rs : List (Nat × AV)} {hs : List HA} {Q : Exit → S → Prop} {ops : Array Oper} {tl : List Oper} {d : Nat} {ty : TypeId} {pos : String} {af : Array Edge}
end
section
variable {P : Program} {rs : List (Nat × AV)} {d : Option Nat} {ty : TypeId} {pos : String} {af : Array Edge} {g : Option (Nat × Bool)}
end
section
variable {c : Cx} {rs : List (Nat × AV)} {hs : List HA} {Q : Exit → S → Prop} {ops : Array Oper} {tl : List Oper} {d : Nat} {ty : TypeId} {pos : String} {af : Array Edge}
end
end Go.Proofs.YtihonljdanjfmaaGreatDoor.Sw
namespace Go.Proofs.YtihonljdanjfmaaGreatDoor.Sw
open Go.RowKit Go
open Go.WideElems (Fit)
open Go.ChangeMaps (setBlock heap_setBlock_same heap_setBlock_other)
section
variable {κ α : Type} [DecidableEq κ]
end
section
variable {κ α : Type} (kv : κ → Value) (g : α → AV)
variable {kv g}
variable (kv g)
variable {kv g}
end
section
variable {P : Program} {κ α : Type} [DecidableEq κ] {t : TypeId} {kv : κ → Value} {ok : κ → Prop} {g : α → AV} {l : List (κ × α)} {G : Nat → Option Obj} {F : List Nat} {w : World} {v : Value}
variable {rs : List (Nat × AV)} {d : Option Nat} {ty : TypeId} {pos : String} {af : Array Edge} {gd : Option (Nat × Bool)}
end
section
variable {c : Cx} {rs : List (Nat × AV)} {hs : List HA} {Q : Exit → S → Prop} {ops : Array Oper} {tl : List Oper} {d : Nat} {ty : TypeId} {pos : String} {af : Array Edge} {κ α : Type} [DecidableEq κ] {t : TypeId} {kv : κ → Value} {ok : κ → Prop} {g : α → AV} {l : List (κ × α)} {v : Value}
end
end Go.Proofs.YtihonljdanjfmaaGreatDoor.Sw
namespace Go.Proofs.YtihonljdanjfmaaGreatDoor.Sw
open Go.RowKit Go
section
variable {P : Program} {rs : List (Nat × AV)} {d : Option Nat} {ty : TypeId} {pos : String} {af : Array Edge} {g : Option (Nat × Bool)}
end
section
variable {c : Cx} {rs : List (Nat × AV)} {hs : List HA} {Q : Exit → S → Prop} {ops : Array Oper} {tl : List Oper} {d : Nat} {ty : TypeId} {pos : String} {af : Array Edge}
end
end Go.Proofs.YtihonljdanjfmaaGreatDoor.Sw
namespace Go.Proofs.YtihonljdanjfmaaGreatDoor.Sw
open Go.RowKit Go Go.Shelf Go.Proofs
end Go.Proofs.YtihonljdanjfmaaGreatDoor.Sw
namespace Go.Proofs.YtihonljdanjfmaaGreatDoor.Sw
open Go.RowKit Go Go.Shelf Go.Proofs
open Go.Proofs.YtihonljdanjfmaaGreatDoor.Gr (payLt)
section
variable {P : Program} {rs : List (Nat × AV)} {d : Option Nat} {ty : TypeId} {pos : String} {af : Array Edge} {g : Option (Nat × Bool)}
end
section
variable {c : Cx} {rs : List (Nat × AV)} {hs : List HA} {Q : Exit → S → Prop} {ops : Array Oper} {tl : List Oper} {d : Nat} {ty : TypeId} {pos : String} {af : Array Edge}
end
end Go.Proofs.YtihonljdanjfmaaGreatDoor.Sw
namespace Go.Proofs.YtihonljdanjfmaaGreatDoor.Sw
open Go.RowKit Go
section
variable {P : Program} {rs : List (Nat × AV)} {d : Option Nat} {ty : TypeId} {pos : String} {af : Array Edge} {g : Option (Nat × Bool)}
end
section
variable {c : Cx} {rs : List (Nat × AV)} {hs r : List HA} {Q : Exit → S → Prop} {ops : Array Oper} {tl : List Oper} {d : Nat} {ty : TypeId} {pos : String} {af : Array Edge}
end
end Go.Proofs.YtihonljdanjfmaaGreatDoor.Sw
namespace Go.Proofs.YtihonljdanjfmaaGreatDoor.Sw
open Go.RowKit Go Go.Shelf Go.Proofs
end Go.Proofs.YtihonljdanjfmaaGreatDoor.Sw
namespace Go.Proofs.YtihonljdanjfmaaGreatDoor.Sw
open Go.RowKit Go
open Go.WideElems (Fit)
open Go.ChangeMaps (setBlock heap_setBlock_same heap_setBlock_other)
section
variable {P : Program} {κ α : Type} [DecidableEq κ] {t : TypeId} {kv : κ → Value} {ok : κ → Prop} {g : α → AV} {l : List (κ × α)} {G : Nat → Option Obj} {F : List Nat} {w : World} {v : Value}
variable {rs : List (Nat × AV)} {d : Option Nat} {ty : TypeId} {pos : String} {af : Array Edge} {gd : Option (Nat × Bool)}
end
section
variable {c : Cx} {rs : List (Nat × AV)} {hs : List HA} {Q : Exit → S → Prop} {ops : Array Oper} {tl : List Oper} {d : Nat} {ty : TypeId} {pos : String} {af : Array Edge} {κ α : Type} [DecidableEq κ] {t : TypeId} {kv : κ → Value} {ok : κ → Prop} {g : α → AV} {l : List (κ × α)} {v : Value}
end
end Go.Proofs.YtihonljdanjfmaaGreatDoor.Sw
namespace Go.Proofs.YtihonljdanjfmaaGreatDoor.Sw
open Go.RowKit Go Go.Shelf Go.Proofs
instance tyzB : TyZ Tryz.prog 49 [.int .i64 0, .int .i64 0, .int .i64 0, .slice none 0 0] := inferInstance
end Go.Proofs.YtihonljdanjfmaaGreatDoor.Sw
namespace Go.Proofs.YtihonljdanjfmaaGreatDoor.Sw
open Go.RowKit Go Go.Shelf Go.Proofs
open Go.Proofs.YtihonljdanjfmaaGreatDoor.Gr (headsR hf mergeH hf_merge Lab lab_all Cl)
end Go.Proofs.YtihonljdanjfmaaGreatDoor.Sw
namespace Go.Proofs.YtihonljdanjfmaaGreatDoor.Sw
open Go.RowKit Go Go.Shelf Go.Proofs
end Go.Proofs.YtihonljdanjfmaaGreatDoor.Sw
namespace Go.Proofs.YtihonljdanjfmaaGreatDoor.Sw
open Go.RowKit Go
section
variable {P : Program} {rs : List (Nat × AV)} {d : Option Nat} {ty : TypeId} {pos : String} {af : Array Edge} {g : Option (Nat × Bool)}
end
end Go.Proofs.YtihonljdanjfmaaGreatDoor.Sw
namespace Go.Proofs.YtihonljdanjfmaaGreatDoor.Sw
open Go.RowKit Go Go.Shelf Go.Proofs
theorem bils_sorted {ids : List Int} : ∀ {l : List Bil} {last : Int}, bilsOk ids last l = true → (∀ x ∈ l, last < x.no) ∧ l.Pairwise (fun a b => a.no < b.no)
 | [], _, _ => ⟨fun _ h => (by cases h), .nil⟩
 | x :: t, last, h => by
  simp only [bilsOk, Bool.and_eq_true, decide_eq_true_eq] at h
  obtain ⟨⟨⟨h1, h2⟩, h3⟩, h4⟩ := h
  obtain ⟨i1, i2⟩ := bils_sorted h4
  refine ⟨fun y hy => ?_, .cons i1 i2⟩
  rcases List.mem_cons.1 hy with rfl | hy
  ·omega
  ·have := i1 y hy; omega
end Go.Proofs.YtihonljdanjfmaaGreatDoor.Sw
namespace Go.Proofs.YtihonljdanjfmaaGreatDoor.Sw
open Go.RowKit Go Go.Shelf Go.Proofs
open Go.Proofs.YtihonljdanjfmaaGreatDoor.Gr (Zr sumP Cl lf)
theorem idx_at {ids : List Int} (hr : rises 0 ids = true) {i : Nat} (hi : i < ids.length) : ids.idxOf ids[i] = i := by
 have hm := List.getElem_mem hi
 have hj := List.idxOf_lt_length_of_mem hm
 have he : ids[ids.idxOf ids[i]] = ids[i] := List.getElem_idxOf hj
 rcases Nat.lt_trichotomy (ids.idxOf ids[i]) i with h | h | h
 ·have := rises_sorted hr _ _ hj hi h; omega
 ·exact h
 ·have := rises_sorted hr _ _ hi hj h; omega
end Go.Proofs.YtihonljdanjfmaaGreatDoor.Sw
namespace Go.Proofs.YtihonljdanjfmaaGreatDoor.Sw
open Go.RowKit Go Go.Shelf Go.Proofs
def ptL (id : Int) (acc : Int) (st : List Stk) : Int := st.foldl (fun a s => if s.fl = id then s.pt else a) acc
def quL (pe all id : Int) (acc : Int) (st : List Stk) : Int := st.foldl (fun a s => if s.fl = id then pe * s.pt / all else a) acc
def cnL (id : Int) (st : List Stk) : Nat := (st.filter fun s => decide (s.fl = id)).length
theorem quL_eq (pe all id : Int) : ∀ (st : List Stk) (a : Int), quL pe all id (pe * a / all) st = pe * ptL id a st / all
 | [], a => rfl
 | s :: t, a => by
  unfold quL ptL
  rw [List.foldl_cons, List.foldl_cons]
  by_cases h : s.fl = id
  ·rw [if_pos h, if_pos h]; exact quL_eq pe all id t s.pt
  ·rw [if_neg h, if_neg h]; exact quL_eq pe all id t a
theorem idxOf_iff {ids : List Int} (hr : rises 0 ids = true) {i : Nat} (hi : i < ids.length) {a : Int} (ha : a ∈ ids) : ids.idxOf a = i ↔ a = ids[i] := by
 constructor
 ·rintro rfl; exact (List.getElem_idxOf (List.idxOf_lt_length_of_mem ha)).symm
 ·rintro rfl; exact idx_at hr hi
theorem putAll_lenH {ids : List Int} {pe all : Int} : ∀ (st : List Stk) (l : List Int), (putAll ids pe all st l).length = l.length
 | [], _ => rfl
 | s :: t, l => by rw [putAll, putAll_lenH t, List.length_set]
theorem putAll_get {ids : List Int} (hr : rises 0 ids = true) {pe all : Int} {i : Nat} (hi : i < ids.length) : ∀ (st : List Stk) (l : List Int), (∀ s ∈ st, s.fl ∈ ids) → l.length = ids.length → (putAll ids pe all st l).getD i 0 = quL pe all ids[i] (l.getD i 0) st
 | [], l, _, _ => rfl
 | s :: t, l, h, hl => by
  have hs := h s (by simp)
  rw [putAll, putAll_get hr hi t _ (fun u hu => h u (by simp [hu])) (by rw [List.length_set]; exact hl)]
  unfold quL
  rw [List.foldl_cons]
  congr 1
  rw [List.getD_eq_getElem?_getD, List.getElem?_set]
  by_cases he : s.fl = ids[i]
  ·rw [if_pos he, if_pos ((idxOf_iff hr hi hs).2 he), if_pos (by rw [(idxOf_iff hr hi hs).2 he]; omega)]; rfl
  ·rw [if_neg he, if_neg fun e => he ((idxOf_iff hr hi hs).1 e), ← List.getD_eq_getElem?_getD]
theorem incAll_get {ids : List Int} (hr : rises 0 ids = true) {i : Nat} (hi : i < ids.length) : ∀ (st : List Stk) (l : List Int), (∀ s ∈ st, s.fl ∈ ids) → l.length = ids.length → (incAll ids st l).getD i 0 = l.getD i 0 + cnL ids[i] st
 | [], l, _, _ => by simp [incAll, cnL]
 | s :: t, l, h, hl => by
  have hs := h s (by simp)
  rw [incAll, incAll_get hr hi t _ (fun u hu => h u (by simp [hu])) (by rw [addAt_len]; exact hl)]
  unfold cnL
  by_cases he : s.fl = ids[i]
  ·have e := (idxOf_iff hr hi hs).2 he
   rw [List.filter_cons_of_pos (by simpa using he), e]
   unfold addAt
   simp only [List.getD_eq_getElem?_getD, List.getElem?_set]
   rw [if_pos trivial, if_pos (by omega), Option.getD_some, List.length_cons]
   omega
  ·have e : ids.idxOf s.fl ≠ i := fun e => he ((idxOf_iff hr hi hs).1 e)
   rw [List.filter_cons_of_neg (by simpa using he)]
   unfold addAt
   simp only [List.getD_eq_getElem?_getD, List.getElem?_set]
   rw [if_neg e]
theorem cnL_one : ∀ {st : List Stk}, (st.map (·.fl)).Nodup → ∀ id, cnL id st ≤ 1
 | [], _, _ => by simp [cnL]
 | s :: t, h, id => by
  obtain ⟨h1, h2⟩ := List.nodup_cons.1 (by simpa using h : (s.fl :: t.map (·.fl)).Nodup)
  have ih := cnL_one h2 id
  unfold cnL at ih ⊢
  by_cases he : s.fl = id
  ·rw [List.filter_cons_of_pos (by simpa using he)]
   have : t.filter (fun s => decide (s.fl = id)) = [] := List.filter_eq_nil_iff.2 fun u hu => by
    have : u.fl ≠ id := fun e => h1 (by rw [he, ← e]; exact List.mem_map_of_mem hu)
    simpa using this
   rw [this]; simp
  ·rw [List.filter_cons_of_neg (by simpa using he)]; exact ih
theorem ptL_zero {id : Int} : ∀ {st : List Stk} {a : Int}, (∀ s ∈ st, 1 ≤ s.pt) → ptL id a st = 0 → (∀ s ∈ st, s.fl ≠ id) ∧ a = 0
 | [], a, _, h => ⟨fun _ h => (by cases h), h⟩
 | s :: t, a, hp, h => by
  unfold ptL at h
  rw [List.foldl_cons] at h
  obtain ⟨k1, k2⟩ := ptL_zero (st := t) (fun u hu => hp u (by simp [hu])) h
  have h1 := hp s (by simp)
  by_cases he : s.fl = id
  ·rw [if_pos he] at k2; omega
  ·rw [if_neg he] at k2
   refine ⟨fun u hu => ?_, k2⟩
   rcases List.mem_cons.1 hu with rfl | hu
   ·exact he
   ·exact k1 u hu
theorem ptL_nn {id : Int} : ∀ {st : List Stk} {a : Int}, (∀ s ∈ st, 1 ≤ s.pt ∧ s.pt ≤ 9) → 0 ≤ a → a ≤ 9 → 0 ≤ ptL id a st ∧ ptL id a st ≤ 9
 | [], a, _, h, h2 => ⟨h, h2⟩
 | s :: t, a, hp, h, h2 => by
  have h1 := hp s (by simp)
  unfold ptL
  rw [List.foldl_cons]
  split
  ·exact ptL_nn (st := t) (fun u hu => hp u (by simp [hu])) (by omega) (by omega)
  ·exact ptL_nn (st := t) (fun u hu => hp u (by simp [hu])) h h2
theorem stks_nodup {ids : List Int} : ∀ {t : List Stk} {last : Int}, stksOk ids last t = true → (t.map (·.fl)).Nodup ∧ ∀ s ∈ t, last < s.fl
 | [], _, _ => ⟨by simp, fun _ h => (by cases h)⟩
 | x :: t, last, h => by
  simp only [stksOk, Bool.and_eq_true, decide_eq_true_eq] at h
  obtain ⟨k1, k2⟩ := stks_nodup h.2
  refine ⟨?_, fun s hs => ?_⟩
  ·rw [List.map_cons]
   refine List.nodup_cons.2 ⟨fun hm => ?_, k1⟩
   obtain ⟨u, hu, e⟩ := List.mem_map.1 hm
   have := k2 u hu
   omega
  ·rcases List.mem_cons.1 hs with rfl | hs
   ·exact h.1.1.1
   ·have := k2 s hs; omega
theorem share_at {ids : List Int} (hr : rises 0 ids = true) {x : Bil} (hx : bilOk ids x = true) {i : Nat} (hi : i < ids.length) (hs : i < (sharesR ids x).length) : ∃ c : Nat, c ≤ 1 ∧ (sharesR ids x)[i] = x.pe * ptL ids[i] 0 x.st / sumPt x.st + c ∧ (ptL ids[i] 0 x.st = 0 → (sharesR ids x)[i] = 0) := by
 have hB := bil_f hx
 have hst : stksOk ids 0 x.st = true := by simp only [bilOk, Bool.and_eq_true] at hx; exact hx.2
 obtain ⟨hnd, _⟩ := stks_nodup hst
 have hmem : ∀ s ∈ x.st, s.fl ∈ ids := fun s h => (hB.st s h).1
 have hg : (sharesR ids x)[i] = (sharesR ids x).getD i 0 := by rw [List.getD_eq_getElem?_getD, List.getElem?_eq_getElem hs]; rfl
 have e : (sharesR ids x).getD i 0 = x.pe * ptL ids[i] 0 x.st / sumPt x.st + cnL ids[i] (x.st.take (leftQ x.pe (sumPt x.st) x.st x.pe).toNat) := by
  unfold sharesR
  rw [incAll_get hr hi _ _ (fun s h => hmem s (List.mem_of_mem_take h)) (by rw [putAll_lenH]; simp), putAll_get hr hi _ _ hmem (by simp)]
  have h0 : (List.replicate ids.length (0 : Int)).getD i 0 = x.pe * 0 / sumPt x.st := by simp [List.getD_eq_getElem?_getD, List.getElem?_replicate, hi]
  rw [h0, quL_eq]
 refine ⟨_, cnL_one (hnd.sublist ((List.take_sublist _ _).map _)) ids[i], by rw [hg, e], fun h0 => ?_⟩
 have hz := ptL_zero (fun s h => (hB.st s h).2.1) h0
 have hc : cnL ids[i] (x.st.take (leftQ x.pe (sumPt x.st) x.st x.pe).toNat) = 0 := by
  unfold cnL
  rw [List.filter_eq_nil_iff.2 fun s hs => by simpa using hz.1 s (List.mem_of_mem_take hs)]; rfl
 rw [hg, e, h0, hc]
 simp
theorem sum_set : ∀ (l : List Int) (i : Nat) (v : Int), i < l.length → (l.set i v).sum = l.sum - l.getD i 0 + v
 | x :: t, 0, v, _ => by simp; omega
 | x :: t, i + 1, v, h => by
  rw [List.set_cons_succ, List.sum_cons, sum_set t i v (by simpa using h), List.sum_cons, List.getD_cons_succ]; omega
 | [], _, _, h => by simp at h
theorem sum_addAt {l : List Int} {i : Nat} (hi : i < l.length) (d : Int) : (addAt l i d).sum = l.sum + d := by
 unfold addAt
 rw [sum_set l i _ hi, List.getD_eq_getElem?_getD]; omega
theorem sum_inc {ids : List Int} : ∀ (st : List Stk) (l : List Int), (∀ s ∈ st, s.fl ∈ ids) → l.length = ids.length → (incAll ids st l).sum = l.sum + st.length
 | [], l, _, _ => by simp [incAll]
 | s :: t, l, h, hl => by
  rw [incAll, sum_inc t _ (fun u hu => h u (by simp [hu])) (by rw [addAt_len]; exact hl), sum_addAt (by rw [hl]; exact List.idxOf_lt_length_of_mem (h s (by simp))), List.length_cons]
  omega
theorem sum_put {ids : List Int} {pe all : Int} (hr : rises 0 ids = true) : ∀ (st : List Stk) (l : List Int), (∀ s ∈ st, s.fl ∈ ids) → (st.map (·.fl)).Nodup → l.length = ids.length → (∀ s ∈ st, l.getD (ids.idxOf s.fl) 0 = 0) → (putAll ids pe all st l).sum = l.sum + quots pe all st
 | [], l, _, _, _, _ => by simp [putAll, quots]
 | s :: t, l, h, hn, hl, hz => by
  obtain ⟨n1, n2⟩ := List.nodup_cons.1 (by simpa using hn : (s.fl :: t.map (·.fl)).Nodup)
  have hsi : ids.idxOf s.fl < l.length := by rw [hl]; exact List.idxOf_lt_length_of_mem (h s (by simp))
  rw [putAll, sum_put hr t _ (fun u hu => h u (by simp [hu])) n2 (by rw [List.length_set]; exact hl) (fun u hu => ?_), sum_set _ _ _ hsi, hz s (by simp), quots]
  ·omega
  ·have hne : ids.idxOf s.fl ≠ ids.idxOf u.fl := fun e => by
    have hu1 := h u (by simp [hu])
    have h1 := List.getElem_idxOf (List.idxOf_lt_length_of_mem (h s (by simp)))
    have h2 := List.getElem_idxOf (List.idxOf_lt_length_of_mem hu1)
    have : s.fl = u.fl := by rw [← h1, ← h2]; simp only [e]
    exact n1 (by rw [this]; exact List.mem_map_of_mem hu)
   rw [List.getD_eq_getElem?_getD, List.getElem?_set, if_neg hne, ← List.getD_eq_getElem?_getD]
   exact hz u (by simp [hu])
theorem share_sum {ids : List Int} (hr : rises 0 ids = true) {x : Bil} (hx : bilOk ids x = true) : (sharesR ids x).sum = x.pe := by
 have hB := bil_f hx
 have hst : stksOk ids 0 x.st = true := by simp only [bilOk, Bool.and_eq_true] at hx; exact hx.2
 obtain ⟨hnd, _⟩ := stks_nodup hst
 have hmem : ∀ s ∈ x.st, s.fl ∈ ids := fun s h => (hB.st s h).1
 have hlb := left_bounds hB
 have hz : ∀ n i, (List.replicate n (0 : Int)).getD i 0 = 0 := fun n i => by
  rw [List.getD_eq_getElem?_getD, List.getElem?_replicate]; split <;> rfl
 unfold sharesR
 rw [sum_inc _ _ (fun s h => hmem s (List.mem_of_mem_take h)) (by rw [putAll_lenH]; simp), sum_put hr _ _ hmem hnd (by simp) (fun s _ => hz _ _), List.length_take]
 rw [leftQ_eq] at hlb ⊢
 have h0 : (List.replicate ids.length (0 : Int)).sum = 0 := by simp
 rw [h0]
 omega
theorem sum_sub : ∀ {l m : List Int}, l.length = m.length → (subL l m).sum = l.sum - m.sum
 | [], [], _ => rfl
 | x :: t, y :: u, h => by
  have ih := sum_sub (l := t) (m := u) (by simpa using h)
  unfold subL at ih ⊢
  rw [List.zipWith_cons_cons, List.sum_cons, ih, List.sum_cons, List.sum_cons]; omega
 | [], _ :: _, h => by simp at h
 | _ :: _, [], h => by simp at h
theorem sum_bills {ids : List Int} (hr : rises 0 ids = true) : ∀ (t : List Bil) (l : List Int), (∀ x ∈ t, bilOk ids x = true) → l.length = ids.length → (bilFold ids t l).sum = l.sum
 | [], _, _, _ => rfl
 | x :: t, l, h, hl => by
  have hx := h x (by simp)
  have hB := bil_f hx
  rw [bilFold, sum_bills hr t _ (fun y hy => h y (by simp [hy])) (by rw [subL_len (by rw [addAt_len, hl, shares_len]), addAt_len]; exact hl), sum_sub (by rw [addAt_len, hl, shares_len]), sum_addAt (by rw [hl]; exact List.idxOf_lt_length_of_mem hB.py), share_sum hr hx]
  omega
theorem sum_pays {ids : List Int} : ∀ (t : List Pay) (l : List Int), (∀ x ∈ t, x.a ∈ ids ∧ x.b ∈ ids) → l.length = ids.length → (payFold ids t l).sum = l.sum
 | [], _, _, _ => rfl
 | x :: t, l, h, hl => by
  have hx := h x (by simp)
  rw [payFold, sum_pays t _ (fun y hy => h y (by simp [hy])) (by unfold payStep; rw [addAt_len, addAt_len]; exact hl)]
  unfold payStep
  rw [sum_addAt (by rw [addAt_len, hl]; exact List.idxOf_lt_length_of_mem hx.2), sum_addAt (by rw [hl]; exact List.idxOf_lt_length_of_mem hx.1)]
  omega
theorem bilOk_all {ids : List Int} : ∀ {t : List Bil} {last : Int}, bilsOk ids last t = true → ∀ x ∈ t, bilOk ids x = true
 | [], _, _, _, h => by cases h
 | y :: t, last, h, x, hx => by
  simp only [bilsOk, Bool.and_eq_true] at h
  rcases List.mem_cons.1 hx with rfl | hx
  ·exact h.1.2
  ·exact bilOk_all h.2 x hx
theorem flo_bills {f : Flo} (h : floOk f = true) : ∀ x ∈ f.bs, bilOk f.ids x = true := by
 simp only [floOk, Bool.and_eq_true] at h
 exact bilOk_all h.1.2
theorem owed_sum {f : Flo} (h : floOk f = true) : (owed8 f).sum = 0 := by
 have hF := flo_f h
 unfold owed8
 rw [sum_pays _ _ (fun x hx => ⟨(hF.pay x hx).1, (hF.pay x hx).2.1⟩) (by rw [bilFold_len _ _ (by simp)]), sum_bills (rises_of_ok h) _ _ (flo_bills h) (by simp)]
 simp
theorem sha_at {f : Flo} (h : floOk f = true) {k : Nat} (hk : k < f.bs.length) : shaR f f.bs[k].no = (sharesR f.ids f.bs[k], 0) := by
 have hb : bilsOk f.ids 0 f.bs = true := by
  simp only [floOk, Bool.and_eq_true] at h
  exact h.1.2
 have hs := (bils_sorted hb).2
 unfold shaR
 rw [if_pos h]
 have hf : f.bs.find? (fun x => decide (x.no = f.bs[k].no)) = some f.bs[k] := by
  rw [List.find?_eq_some_iff_getElem]
  refine ⟨by simp, k, hk, rfl, fun j hj => ?_⟩
  have := List.pairwise_iff_getElem.1 hs j k (by omega) hk hj
  simp; omega
 rw [hf]
theorem ptL_step {id a : Int} {st : List Stk} {j : Nat} (hj : j < st.length) : ptL id a (st.drop j) = ptL id (if st[j].fl = id then st[j].pt else a) (st.drop (j + 1)) := by
 unfold ptL
 rw [List.drop_eq_getElem_cons hj, List.foldl_cons]
theorem sum_take {l : List Int} {j : Nat} (hj : j < l.length) : (l.take (j + 1)).sum = (l.take j).sum + l[j] := by
 rw [List.take_succ_eq_append_getElem hj, List.sum_append]; simp
set_option maxRecDepth 40000 in
set_option maxHeartbeats 32000000 in
theorem floorShares_con (f : Flo) : Con Tryz.prog 4 [.agg (flC f)] [tab8, HA.tab] (Is (.val (.bool true)) []) := by
 refine con_of Tryz.func4 rfl (enters_of Tryz.func4 (by kernel_rfl) rfl) rfl ?_; intro n w0 F0 G0
 (refine goSt ?_; (repeat (refine goAl ?_; intro p hp; refine goSt ?_)))
 (apply wl_callP (alive_con); exact rfl; exact goCutl; exact rfl)
 rintro _ _ ⟨rfl, rfl⟩
 (refine goSt ?_; (repeat (refine goAl ?_; intro p hp; refine goSt ?_)))
 (first | (apply wl_call (ready_con f); exact rfl; exact rfl) | (apply wl_callR (ready_con f); exact rfl; exact goAtm; exact rfl))
 (refine goSt ?_; (repeat (refine goAl ?_; intro p hp; refine goSt ?_)))
 cases hR : (!greatF f && floOk f) with
 | false =>
  (refine goSt ?_; (repeat (refine goAl ?_; intro p hp; refine goSt ?_)))
  (apply res1; exact rfl; exact rfl; exact ⟨rfl, rfl⟩)
 | true =>
  obtain ⟨hS, hok⟩ := ready_ok hR
  have hF := flo_f hok
  have hr := rises_of_ok hok
  have hidl := hF.ids
  have hbsl := hF.bs
  have hpsl := hF.ps
  have hol := owed8_len f
  have hob := owed8_btw hF hS
  have hos := owed_sum hok
  have NC := Net_con f hS
  rw [show netR f = (owed8 f, 0) by unfold netR; rw [if_pos hok]] at NC
  dsimp only at NC
  have hOW : owed8 f = payFold f.ids f.ps (bilFold f.ids f.bs (List.replicate f.ids.length 0)) := rfl
  generalize owed8 f = owed at NC hol hob hos hOW
  have hnn : (!decide ((owed.length : Int) = (f.ids.length : Int))) = false := by rw [hol]; simp
  (refine goSt ?_; (repeat (refine goAl ?_; intro p hp; refine goSt ?_)))
  (first | (apply wl_call (NC); exact rfl; exact rfl) | (apply wl_callR (NC); exact rfl; exact goAtm; exact rfl))
  (refine goSt ?_; (repeat (refine goAl ?_; intro p hp; refine goSt ?_)))
  rw [hnn]
  (refine goSt ?_; (repeat (refine goAl ?_; intro p hp; refine goSt ?_)))
  (apply wl_make iC; exact inferInstance; exact inferInstance; exact inferInstance; exact inferInstance; exact rfl; exact rfl; exact rfl; (first | omega | (simp; omega)); exact rfl)
  intro v
  (refine goSt ?_; (repeat (refine goAl ?_; intro p hp; refine goSt ?_)))
  refine W_loopJ (fun (b : Nat × List Int) => ⟨[(1, .val p), (3, .val (.bool true)), (4, .sl 1 iC owed), (6, .val v), (54, .sl 4 biC f.bs), (55, .val (.int .i64 f.bs.length)), (56, .val (.int .i64 b.1))], [.row v 3 1 iC b.2, .box p (flC f) 27, tab8]⟩)
   (fun b => b.1 ≤ f.bs.length ∧ b.2.length = f.ids.length ∧ bilFold f.ids (f.bs.drop b.1) b.2 = bilFold f.ids f.bs (List.replicate f.ids.length 0) ∧ Btw (-(10000000 * b.1)) (10000000 * b.1) b.2) (fun b => f.bs.length - b.1) (0, List.replicate f.ids.length 0) (fun _ _ st => st_sub2 st goSubr goSubp) ⟨Nat.zero_le _, by simp, rfl, Btw.rep _ (by dsimp only; omega) (by dsimp only; omega)⟩ ?_
  rintro ⟨k, cur⟩ ⟨hk, hcl, hnf, hbt⟩
  dsimp only at hk hcl hnf hbt ⊢
  (refine goSt ?_; (repeat (refine goAl ?_; intro p hp; refine goSt ?_)))
  refine w_cond rfl (fun hlt => ?_) (fun hlt => ?_)
  ·have hlt' : k < f.bs.length := by simpa using hlt
   have hB := hF.bil _ (List.getElem_mem hlt')
   have hBo := flo_bills hok _ (List.getElem_mem hlt')
   have hsl := hS.st _ (List.getElem_mem hlt')
   have hpe0 := hB.pe0
   have hpe1 := hB.pe1
   rw [drop_step hlt', bilFold_step hcl] at hnf
   have SHC := Shares_con f f.bs[k].no hS
   rw [sha_at hok hlt'] at SHC
   dsimp only at SHC
   have hshl := shares_len f.ids f.bs[k]
   have hsb := shares_btw hB hsl
   have hssum := share_sum hr hBo
   have hsat := fun i hi hs => share_at hr hBo (i := i) hi hs
   generalize sharesR f.ids f.bs[k] = sh at *
   (refine goSt ?_; (repeat (refine goAl ?_; intro p hp; refine goSt ?_)))
   rename_i pf hpf
   generalize f.bs[k] = x at *
   (first | (apply wl_call (SHC); exact rfl; exact rfl) | (apply wl_callR (SHC); exact rfl; exact goAtm; exact rfl))
   (refine goSt ?_; (repeat (refine goAl ?_; intro p hp; refine goSt ?_)))
   rw [show (!decide ((sh.length : Int) = (f.ids.length : Int))) = false by rw [hshl]; simp]
   (refine goSt ?_; (repeat (refine goAl ?_; intro p hp; refine goSt ?_)))
   obtain ⟨pb, hpb⟩ : ∃ q, q = p := ⟨p, rfl⟩
   rw [← hpb]
   have hstp := fun s hs => (hB.st s hs).2
   have hsb2 := sumPt_bounds hstp
   refine W_loopJ (fun (b : Nat × Int) => ⟨[(1, .val pf), (3, .val (.bool true)), (4, .sl 1 iC owed), (6, .val v), (54, .sl 4 biC f.bs), (55, .val (.int .i64 f.bs.length)), (56, .val (.int .i64 k)), (8, .val pb), (9, .sl 1 iC sh), (11, .val (.int .i64 b.2)), (12, .val (.int .i64 0)), (78, .sl 2 stC x.st), (79, .val (.int .i64 x.st.length)), (80, .val (.int .i64 b.1))], [.row v 3 1 iC cur, .box pb (biC x) 49, .box pf (flC f) 27, tab8]⟩) (fun b => b.1 ≤ x.st.length ∧ b.2 + sumPt (x.st.drop b.1) = sumPt x.st ∧ 0 ≤ b.2 ∧ b.2 ≤ 9 * b.1) (fun b => x.st.length - b.1) (0, 0) (fun _ _ st => st_sub2 st goSubr goSubp) ⟨Nat.zero_le _, by simp, by simp, by simp⟩ ?_
   rintro ⟨j, acc⟩ ⟨hj, hno, ha0, ha1⟩
   dsimp only at hj hno ha0 ha1 ⊢
   (refine goSt ?_; (repeat (refine goAl ?_; intro p hp; refine goSt ?_)))
   refine w_cond rfl (fun hltj => ?_) (fun hltj => ?_)
   ·have hj' : j < x.st.length := by simpa using hltj
    have hp2 := hstp _ (List.getElem_mem hj')
    rw [drop_step hj', sumPt] at hno
    (refine goSt ?_; (repeat (refine goAl ?_; intro p hp; refine goSt ?_)))
    (refine ⟨(j + 1, acc + x.st[j].pt), fun _ _ st => st_sub2 st ?_ ?_, ?_, ?_⟩; exact goSubr; exact goSubp)
    ·exact ⟨hj', by dsimp only; omega, by dsimp only; omega, by dsimp only; omega⟩
    ·dsimp only; omega
   ·have hjj : j = x.st.length := by simp at hltj; omega
    subst hjj
    rw [List.drop_length, sumPt, Int.add_zero] at hno
    subst hno
    clear hltj ha0 ha1
    have hst1 : 0 < x.st.length := List.length_pos_iff.2 hB.ne
    have hall : 0 < sumPt x.st := by omega
    have hc1l : cur.length = sh.length := by rw [hshl, hcl]
    generalize hAll : sumPt x.st = all at *
    (refine goSt ?_; (repeat (refine goAl ?_; intro p hp; refine goSt ?_)))
    refine W_loopJ (fun (b : Nat × Int) => ⟨[(1, .val pf), (3, .val (.bool true)), (4, .sl 1 iC owed), (6, .val v), (54, .sl 4 biC f.bs), (55, .val (.int .i64 f.bs.length)), (56, .val (.int .i64 k)), (8, .val pb), (9, .sl 1 iC sh), (11, .val (.int .i64 all)), (12, .val (.int .i64 b.2)), (90, .sl 1 iC f.ids), (91, .val (.int .i64 f.ids.length)), (92, .val (.int .i64 b.1))], [.row v 3 1 iC (subTo cur sh b.1), .box pb (biC x) 49, .box pf (flC f) 27, tab8]⟩) (fun b => b.1 ≤ f.ids.length ∧ b.2 = (sh.take b.1).sum ∧ 0 ≤ b.2 ∧ b.2 ≤ 9001000 * b.1) (fun b => f.ids.length - b.1) (0, 0) (fun _ _ st => st_sub2 st goSubr goSubp) ⟨Nat.zero_le _, by simp, by simp, by simp⟩ ?_
    rintro ⟨i, sm⟩ ⟨hi, hsm, hs0, hs1⟩
    dsimp only at hi hsm hs0 hs1 ⊢
    (refine goSt ?_; (repeat (refine goAl ?_; intro p hp; refine goSt ?_)))
    refine w_cond rfl (fun hlti => ?_) (fun hlti => ?_)
    ·have hi' : i < f.ids.length := by simpa using hlti
     have his : i < sh.length := by omega
     have hmc : i < cur.length := by omega
     have hmk : i < (subTo cur sh i).length := by rw [subTo_len hc1l]; exact hmc
     have hv : (subTo cur sh i)[i] = cur[i] := by
      have := subTo_get hc1l hmc
      rw [List.getElem?_eq_getElem hmk] at this
      exact Option.some.inj this
     have hb2 := hbt.at hmc
     have hb3 := hsb.at his
     have hqi : f.ids[i]? = some f.ids[i] := List.getElem?_eq_getElem hi'
     have hqs : sh[i]? = some sh[i] := List.getElem?_eq_getElem his
     have hqu : (subTo cur sh i)[i]? = some (subTo cur sh i)[i] := List.getElem?_eq_getElem hmk
     obtain ⟨c, hc1, hcs, hc0⟩ := hsat i hi' his
     (refine goSt ?_; (repeat (refine goAl ?_; intro p hp; refine goSt ?_)))
     refine W_loopJ (fun (b : Nat × Int) => ⟨[(1, .val pf), (3, .val (.bool true)), (4, .sl 1 iC owed), (6, .val v), (54, .sl 4 biC f.bs), (55, .val (.int .i64 f.bs.length)), (56, .val (.int .i64 k)), (8, .val pb), (9, .sl 1 iC sh), (11, .val (.int .i64 all)), (12, .val (.int .i64 sm)), (90, .sl 1 iC f.ids), (91, .val (.int .i64 f.ids.length)), (92, .val (.int .i64 i)), (15, .val (.int .i64 i)), (16, .val (.int .i64 f.ids[i])), (17, .val (.int .i64 b.2)), (98, .sl 2 stC x.st), (99, .val (.int .i64 x.st.length)), (100, .val (.int .i64 b.1))], [.row v 3 1 iC (subTo cur sh i), .box pb (biC x) 49, .box pf (flC f) 27, tab8]⟩) (fun b => b.1 ≤ x.st.length ∧ ptL f.ids[i] b.2 (x.st.drop b.1) = ptL f.ids[i] 0 x.st) (fun b => x.st.length - b.1) (0, 0) (fun _ _ st => st_sub2 st goSubr goSubp) ⟨Nat.zero_le _, rfl⟩ ?_
     rintro ⟨j, pt⟩ ⟨hj, hpt⟩
     dsimp only at hj hpt ⊢
     (refine goSt ?_; (repeat (refine goAl ?_; intro p hp; refine goSt ?_)))
     refine w_cond rfl (fun hltj => ?_) (fun hltj => ?_)
     ·have hj' : j < x.st.length := by simpa using hltj
      rw [ptL_step hj'] at hpt
      (refine goSt ?_; (repeat (refine goAl ?_; intro p hp; refine goSt ?_)))
      refine w_cond rfl (fun he => ?_) (fun he => ?_)
      ·rw [if_pos (of_decide_eq_true he)] at hpt
       (refine goSt ?_; (repeat (refine goAl ?_; intro p hp; refine goSt ?_)))
       (refine ⟨(j + 1, x.st[j].pt), fun _ _ st => st_sub2 st ?_ ?_, ?_, ?_⟩; exact goSubr; exact goSubp)
       ·exact ⟨hj', hpt⟩
       ·dsimp only; omega
      ·rw [if_neg (of_decide_eq_false he)] at hpt
       (refine goSt ?_; (repeat (refine goAl ?_; intro p hp; refine goSt ?_)))
       (refine ⟨(j + 1, pt), fun _ _ st => st_sub2 st ?_ ?_, ?_, ?_⟩; exact goSubr; exact goSubp)
       ·exact ⟨hj', hpt⟩
       ·dsimp only; omega
     ·have hjj : j = x.st.length := by simp at hltj; omega
      subst hjj
      rw [List.drop_length] at hpt
      have hpt2 : pt = ptL f.ids[i] 0 x.st := hpt
      rw [← hpt2] at hcs hc0
      have hpb := ptL_nn (id := f.ids[i]) (a := 0) hstp (by omega) (by omega)
      rw [← hpt2] at hpb
      have m0 : 0 ≤ x.pe * pt := Int.mul_nonneg (by omega) hpb.1
      have m1 : x.pe * pt ≤ 1000000 * 9 := Int.mul_le_mul hpe1 hpb.2 hpb.1 (by omega)
      have d0 : 0 ≤ x.pe * pt / all := Int.ediv_nonneg m0 (by omega)
      have d1 : x.pe * pt / all ≤ x.pe * pt := Int.ediv_le_self all m0
      have hlo : decide (sh[i] < x.pe * pt / all) = false := decide_eq_false (by omega)
      have hhi : decide (x.pe * pt / all + 1 < sh[i]) = false := decide_eq_false (by omega)
      (refine goSt ?_; (repeat (refine goAl ?_; intro p hp; refine goSt ?_)))
      by_cases hp0 : pt = 0
      ·have hz := hc0 hp0
       have hpd : decide (pt = 0) = true := decide_eq_true hp0
       have hzz : (!decide (sh[i] = 0)) = false := by rw [hz]; rfl
       refine W_run 34 [111, 112, 113, 114, 115, 116, 117, 118, 119, 120, 121, 122, 123, 124, 125, 126, 127, 128, 129, 130, 131, 132, 133, 134, 135, 136, 137, 138, 139, 140, 141, 142, 143, 144] [0, 1, 2, 3, 4, 5, 6, 7, 8, 9, 10, 11, 12, 13, 14, 15, 16, 17, 18, 19, 20, 21, 22, 23, 24, 25, 26, 27, 28, 29, 30, 31, 32, 33] Cut.nil rfl goFlt mixedS (by kernel_rfl) rfl ?_
       refine rpv [] [] ?_
       refine rpv [] [] ?_
       refine rpv [0, 1] [] ?_
       refine rpv [2] [] ?_
       refine rpv [] [] ?_
       refine rpv [4] [] ?_
       refine rpv [] [] ?_
       refine rpv [5, 6] [] ?_
       refine rpv [] [] ?_
       refine Run.pv [7, 8] [] rfl (fun vs => by apply ltr_pk; exact goPk; (refine ltr ?_; apply lt_quo; exact rfl; exact rfl; omega; omega; omega)) goApp ?_
       refine Run.pv [3, 9] [] rfl (fun vs => by apply ltr_pk; exact goPk; (refine ltr ?_; apply LT_bool false; apply lt_lss; exact rfl; exact rfl; exact hlo)) goApp ?_
       refine rpv [10] [] ?_
       refine Run.yes [11] [] rfl rfl (fun vs => by apply look_pk; exact goPk; exact rfl) (fun vs => by apply ltr_pk; exact goPk; exact goLtr) goApp ?_
       refine Run.yes [11] [] rfl rfl (fun vs => by apply look_pk; exact goPk; exact rfl) (fun vs => by apply ltr_pk; exact goPk; exact goLtr) goApp ?_
       refine Run.yes [11, 12, 13] [] rfl rfl (fun vs => by apply look_pk; exact goPk; exact rfl) (fun vs => by apply ltr_pk; exact goPk; exact goLtr) goApp ?_
       refine Run.yes [11, 14] [] rfl rfl (fun vs => by apply look_pk; exact goPk; exact rfl) (fun vs => by apply ltr_pk; exact goPk; exact goLtr) goApp ?_
       refine Run.yes [11] [] rfl rfl (fun vs => by apply look_pk; exact goPk; exact rfl) (fun vs => by apply ltr_pk; exact goPk; exact goLtr) goApp ?_
       refine Run.yes [11, 16] [] rfl rfl (fun vs => by apply look_pk; exact goPk; exact rfl) (fun vs => by apply ltr_pk; exact goPk; exact goLtr) goApp ?_
       refine Run.yes [11] [] rfl rfl (fun vs => by apply look_pk; exact goPk; exact rfl) (fun vs => by apply ltr_pk; exact goPk; exact goLtr) goApp ?_
       refine Run.yes [11, 17, 18] [] rfl rfl (fun vs => by apply look_pk; exact goPk; exact rfl) (fun vs => by apply ltr_pk; exact goPk; exact goLtr) goApp ?_
       refine Run.yes [11] [] rfl rfl (fun vs => by apply look_pk; exact goPk; exact rfl) (fun vs => by apply ltr_pk; exact goPk; exact goLtr) goApp ?_
       refine Run.yes [11, 19, 20] [] rfl rfl (fun vs => by apply look_pk; exact goPk; exact rfl) (fun vs => by apply ltr_pk; exact goPk; (refine ltr ?_; apply lt_quo; exact rfl; exact rfl; omega; omega; omega)) goApp ?_
       refine Run.yes [11, 21] [] rfl rfl (fun vs => by apply look_pk; exact goPk; exact rfl) (fun vs => by apply ltr_pk; exact goPk; exact goLtr) goApp ?_
       refine Run.yes [11, 15, 22] [] rfl rfl (fun vs => by apply look_pk; exact goPk; exact rfl) (fun vs => by apply ltr_pk; exact goPk; (refine ltr ?_; apply LT_bool false; apply lt_gtr; exact rfl; exact rfl; exact hhi)) goApp ?_
       refine rpv [11, 23] [] ?_
       refine rpv [24] [] ?_
       refine Run.yes [25] [] rfl rfl (fun vs => by apply look_pk; exact goPk; exact rfl) (fun vs => by apply ltr_pk; exact goPk; exact goLtr) goApp ?_
       refine Run.yes [25, 26] [] rfl rfl (fun vs => by apply look_pk; exact goPk; exact rfl) (fun vs => by apply ltr_pk; exact goPk; (refine ltr ?_; apply LT_bool true; apply lt_eql; exact rfl; exact rfl; exact hpd)) goApp ?_
       refine Run.yes [25, 27] [] rfl rfl (fun vs => by apply look_pk; exact goPk; exact rfl) (fun vs => by apply ltr_pk; exact goPk; exact goLtr) goApp ?_
       refine Run.yes [28] [] rfl rfl (fun vs => by apply look_pk; exact goPk; exact rfl) (fun vs => by apply ltr_pk; exact goPk; exact goLtr) goApp ?_
       refine Run.yes [28] [] rfl rfl (fun vs => by apply look_pk; exact goPk; exact rfl) (fun vs => by apply ltr_pk; exact goPk; exact goLtr) goApp ?_
       refine Run.yes [28, 29, 30] [] rfl rfl (fun vs => by apply look_pk; exact goPk; exact rfl) (fun vs => by apply ltr_pk; exact goPk; exact goLtr) goApp ?_
       refine Run.yes [28, 31] [] rfl rfl (fun vs => by apply look_pk; exact goPk; exact rfl) (fun vs => by apply ltr_pk; exact goPk; exact goLtr) goApp ?_
       refine Run.yes [28, 32] [] rfl rfl (fun vs => by apply look_pk; exact goPk; exact rfl) (fun vs => by apply ltr_pk; exact goPk; (refine ltr ?_; apply LT_bool false; apply lt_neq; exact rfl; exact rfl; exact hzz)) goApp ?_
       refine ⟨⟨by kernel_rfl, by kernel_rfl⟩, fun vs => ?_⟩
       apply WL_auto [25, 28, 33]
       ·exact goPk
       ·exact goNrm
       ·kernel_rfl
       ·kernel_rfl
       (refine goSt ?_; (repeat (refine goAl ?_; intro p hp; refine goSt ?_)))
       (refine goSt ?_; (repeat (refine goAl ?_; intro p hp; refine goSt ?_)))
       refine W_run 8 [153, 154, 155, 156, 157, 158, 159, 160] [0, 1, 2, 3, 4, 5, 6, 7] Cut.nil rfl goFlt mixedS (by kernel_rfl) rfl ?_
       refine rpv [] [] ?_
       refine rpv [] [] ?_
       refine rpv [0, 1] [] ?_
       refine rpv [2] [] ?_
       refine rpv [] [] ?_
       refine rpv [] [] ?_
       refine rpv [4, 5] [] ?_
       refine rpv [6] [] ?_
       refine ⟨⟨by kernel_rfl, by kernel_rfl⟩, fun vs => ?_⟩
       apply WL_auto [0, 1, 3, 7]
       ·exact goPk
       ·exact goNrm
       ·kernel_rfl
       ·kernel_rfl
       (refine goSt ?_; (repeat (refine goAl ?_; intro p hp; refine goSt ?_)))
       rw [hv, subTo_set hc1l hmc]
       (refine goSt ?_; (repeat (refine goAl ?_; intro p hp; refine goSt ?_)))
       (refine ⟨(i + 1, sm + sh[i]), fun _ _ st => st_sub2 st ?_ ?_, ?_, ?_⟩; exact goSubr; exact goSubp)
       ·exact ⟨hi', by rw [sum_take his, hsm], by omega, by omega⟩
       ·dsimp only; omega
      ·have hpd : decide (pt = 0) = false := decide_eq_false hp0
       refine W_run 34 [111, 112, 113, 114, 115, 116, 117, 118, 119, 120, 121, 122, 123, 124, 125, 126, 127, 128, 129, 130, 131, 132, 133, 134, 135, 136, 137, 138, 139, 140, 141, 142, 143, 144] [0, 1, 2, 3, 4, 5, 6, 7, 8, 9, 10, 11, 12, 13, 14, 15, 16, 17, 18, 19, 20, 21, 22, 23, 24, 25, 26, 27, 28, 29, 30, 31, 32, 33] Cut.nil rfl goFlt mixedS (by kernel_rfl) rfl ?_
       refine rpv [] [] ?_
       refine rpv [] [] ?_
       refine rpv [0, 1] [] ?_
       refine rpv [2] [] ?_
       refine rpv [] [] ?_
       refine rpv [4] [] ?_
       refine rpv [] [] ?_
       refine rpv [5, 6] [] ?_
       refine rpv [] [] ?_
       refine Run.pv [7, 8] [] rfl (fun vs => by apply ltr_pk; exact goPk; (refine ltr ?_; apply lt_quo; exact rfl; exact rfl; omega; omega; omega)) goApp ?_
       refine Run.pv [3, 9] [] rfl (fun vs => by apply ltr_pk; exact goPk; (refine ltr ?_; apply LT_bool false; apply lt_lss; exact rfl; exact rfl; exact hlo)) goApp ?_
       refine rpv [10] [] ?_
       refine Run.yes [11] [] rfl rfl (fun vs => by apply look_pk; exact goPk; exact rfl) (fun vs => by apply ltr_pk; exact goPk; exact goLtr) goApp ?_
       refine Run.yes [11] [] rfl rfl (fun vs => by apply look_pk; exact goPk; exact rfl) (fun vs => by apply ltr_pk; exact goPk; exact goLtr) goApp ?_
       refine Run.yes [11, 12, 13] [] rfl rfl (fun vs => by apply look_pk; exact goPk; exact rfl) (fun vs => by apply ltr_pk; exact goPk; exact goLtr) goApp ?_
       refine Run.yes [11, 14] [] rfl rfl (fun vs => by apply look_pk; exact goPk; exact rfl) (fun vs => by apply ltr_pk; exact goPk; exact goLtr) goApp ?_
       refine Run.yes [11] [] rfl rfl (fun vs => by apply look_pk; exact goPk; exact rfl) (fun vs => by apply ltr_pk; exact goPk; exact goLtr) goApp ?_
       refine Run.yes [11, 16] [] rfl rfl (fun vs => by apply look_pk; exact goPk; exact rfl) (fun vs => by apply ltr_pk; exact goPk; exact goLtr) goApp ?_
       refine Run.yes [11] [] rfl rfl (fun vs => by apply look_pk; exact goPk; exact rfl) (fun vs => by apply ltr_pk; exact goPk; exact goLtr) goApp ?_
       refine Run.yes [11, 17, 18] [] rfl rfl (fun vs => by apply look_pk; exact goPk; exact rfl) (fun vs => by apply ltr_pk; exact goPk; exact goLtr) goApp ?_
       refine Run.yes [11] [] rfl rfl (fun vs => by apply look_pk; exact goPk; exact rfl) (fun vs => by apply ltr_pk; exact goPk; exact goLtr) goApp ?_
       refine Run.yes [11, 19, 20] [] rfl rfl (fun vs => by apply look_pk; exact goPk; exact rfl) (fun vs => by apply ltr_pk; exact goPk; (refine ltr ?_; apply lt_quo; exact rfl; exact rfl; omega; omega; omega)) goApp ?_
       refine Run.yes [11, 21] [] rfl rfl (fun vs => by apply look_pk; exact goPk; exact rfl) (fun vs => by apply ltr_pk; exact goPk; exact goLtr) goApp ?_
       refine Run.yes [11, 15, 22] [] rfl rfl (fun vs => by apply look_pk; exact goPk; exact rfl) (fun vs => by apply ltr_pk; exact goPk; (refine ltr ?_; apply LT_bool false; apply lt_gtr; exact rfl; exact rfl; exact hhi)) goApp ?_
       refine rpv [11, 23] [] ?_
       refine rpv [24] [] ?_
       refine Run.yes [25] [] rfl rfl (fun vs => by apply look_pk; exact goPk; exact rfl) (fun vs => by apply ltr_pk; exact goPk; exact goLtr) goApp ?_
       refine Run.yes [25, 26] [] rfl rfl (fun vs => by apply look_pk; exact goPk; exact rfl) (fun vs => by apply ltr_pk; exact goPk; (refine ltr ?_; apply LT_bool false; apply lt_eql; exact rfl; exact rfl; exact hpd)) goApp ?_
       refine Run.yes [25, 27] [] rfl rfl (fun vs => by apply look_pk; exact goPk; exact rfl) (fun vs => by apply ltr_pk; exact goPk; exact goLtr) goApp ?_
       refine Run.no [28] [] rfl rfl (fun vs => by apply look_pk; exact goPk; exact rfl) (by exact rfl) goApp ?_
       refine Run.no [28] [] rfl rfl (fun vs => by apply look_pk; exact goPk; exact rfl) (by exact rfl) goApp ?_
       refine Run.no [28, 29, 30] [] rfl rfl (fun vs => by apply look_pk; exact goPk; exact rfl) (by exact rfl) goApp ?_
       refine Run.no [28, 31] [] rfl rfl (fun vs => by apply look_pk; exact goPk; exact rfl) (by exact rfl) goApp ?_
       refine Run.no [28, 32] [] rfl rfl (fun vs => by apply look_pk; exact goPk; exact rfl) (by exact rfl) goApp ?_
       refine ⟨⟨by kernel_rfl, by kernel_rfl⟩, fun vs => ?_⟩
       apply WL_auto [25, 28, 33]
       ·exact goPk
       ·exact goNrm
       ·kernel_rfl
       ·kernel_rfl
       (refine goSt ?_; (repeat (refine goAl ?_; intro p hp; refine goSt ?_)))
       (refine goSt ?_; (repeat (refine goAl ?_; intro p hp; refine goSt ?_)))
       refine W_run 8 [153, 154, 155, 156, 157, 158, 159, 160] [0, 1, 2, 3, 4, 5, 6, 7] Cut.nil rfl goFlt mixedS (by kernel_rfl) rfl ?_
       refine rpv [] [] ?_
       refine rpv [] [] ?_
       refine rpv [0, 1] [] ?_
       refine rpv [2] [] ?_
       refine rpv [] [] ?_
       refine rpv [] [] ?_
       refine rpv [4, 5] [] ?_
       refine rpv [6] [] ?_
       refine ⟨⟨by kernel_rfl, by kernel_rfl⟩, fun vs => ?_⟩
       apply WL_auto [0, 1, 3, 7]
       ·exact goPk
       ·exact goNrm
       ·kernel_rfl
       ·kernel_rfl
       (refine goSt ?_; (repeat (refine goAl ?_; intro p hp; refine goSt ?_)))
       rw [hv, subTo_set hc1l hmc]
       (refine goSt ?_; (repeat (refine goAl ?_; intro p hp; refine goSt ?_)))
       (refine ⟨(i + 1, sm + sh[i]), fun _ _ st => st_sub2 st ?_ ?_, ?_, ?_⟩; exact goSubr; exact goSubp)
       ·exact ⟨hi', by rw [sum_take his, hsm], by omega, by omega⟩
       ·dsimp only; omega
    ·have hii : i = f.ids.length := by simp at hlti; omega
     subst hii
     have hsum : sm = x.pe := by rw [hsm, ← hshl, List.take_length]; exact hssum
     subst hsum
     rw [show subTo cur sh f.ids.length = subL cur sh from by rw [← hcl]; exact subTo_all hc1l]
     have hb1 := hbt.subL hsb
     have hcn : (subL cur sh).length = f.ids.length := by rw [subL_len hc1l, hcl]
     generalize subL cur sh = c1 at *
     have hix : f.ids.idxOf x.py < c1.length := by rw [hcn]; exact List.idxOf_lt_length_of_mem hB.py
     have hq2 : c1[f.ids.idxOf x.py]? = some c1[f.ids.idxOf x.py] := List.getElem?_eq_getElem hix
     have hce := hb1.at hix
     have hb2 := hb1.addAt (f.ids.idxOf x.py) (d := x.pe) (a := 0) (b := 1000000) (by omega) (by omega) (by omega) (by omega) (by omega) (by omega)
     rw [addAt_at hix] at hb2 hnf
     (refine goSt ?_; (repeat (refine goAl ?_; intro p hp; refine goSt ?_)))
     rw [show (!decide (x.pe = x.pe)) = false by simp]
     (refine goSt ?_; (repeat (refine goAl ?_; intro p hp; refine goSt ?_)))
     refine W_run 9 [168, 169, 170, 171, 172, 173, 174, 175, 176] [0, 1, 2, 3, 4, 5, 6, 7, 8] Cut.nil rfl goFlt mixedS (by kernel_rfl) rfl ?_
     refine rpv [] [] ?_
     refine rpv [] [] ?_
     refine rpv [] [] ?_
     refine rpv [2] [] ?_
     refine Run.pv [1, 3] [] rfl (fun vs => by apply ltr_pk; exact goPk; (refine ltr ?_; refine lt_call ?_ ((floorAt_con f _ (by omega) hB.py)); exact rfl)) goApp ?_
     refine rpv [0, 4] [] ?_
     refine rpv [5] [] ?_
     refine rpv [] [] ?_
     refine rpv [7] [] ?_
     refine ⟨⟨by kernel_rfl, by kernel_rfl⟩, fun vs => ?_⟩
     apply WL_auto [0, 4, 6, 8]
     ·exact goPk
     ·exact goNrm
     ·kernel_rfl
     ·kernel_rfl
     (refine goSt ?_; (repeat (refine goAl ?_; intro p hp; refine goSt ?_)))
     (refine goSt ?_; (repeat (refine goAl ?_; intro p hp; refine goSt ?_)))
     (refine ⟨(k + 1, c1.set (f.ids.idxOf x.py) (c1[f.ids.idxOf x.py] + x.pe)), fun _ _ st => st_sub2 st ?_ ?_, ?_, ?_⟩; exact goSubr; exact goSubp)
     ·exact ⟨hlt', by dsimp only; rw [List.length_set]; exact hcn, hnf, hb2.mono (by dsimp only; omega) (by dsimp only; omega)⟩
     ·dsimp only; omega
  ·have hkk : k = f.bs.length := by simp at hlt; omega
   subst hkk
   rw [List.drop_length, bilFold] at hnf
   rw [← hnf] at hOW
   clear hnf hlt hk
   (refine goSt ?_; (repeat (refine goAl ?_; intro p hp; refine goSt ?_)))
   refine W_loopJ (fun (b : Nat × List Int) => ⟨[(1, .val p), (3, .val (.bool true)), (4, .sl 1 iC owed), (6, .val v), (20, .val (.int .i64 0)), (181, .sl 3 payC f.ps), (182, .val (.int .i64 f.ps.length)), (183, .val (.int .i64 b.1))], [.row v 3 1 iC b.2, .box p (flC f) 27]⟩)
    (fun b => b.1 ≤ f.ps.length ∧ b.2.length = f.ids.length ∧ payFold f.ids (f.ps.drop b.1) b.2 = payFold f.ids f.ps cur ∧ Btw (-(200000000 + 2000000 * b.1)) (200000000 + 2000000 * b.1) b.2) (fun b => f.ps.length - b.1) (0, cur) (fun _ _ st => st_sub2 st goSubr goSubp) ⟨Nat.zero_le _, hcl, rfl, hbt.mono (by dsimp only; omega) (by dsimp only; omega)⟩ ?_
   clear hbt hcl
   rintro ⟨k, cu⟩ ⟨hk, hcl, hno, hbt⟩
   dsimp only at hk hcl hno hbt ⊢
   (refine goSt ?_; (repeat (refine goAl ?_; intro p hp; refine goSt ?_)))
   refine w_cond rfl (fun hlt => ?_) (fun hlt => ?_)
   ·have hlt' : k < f.ps.length := by simpa using hlt
    have hP := hF.pay _ (List.getElem_mem hlt')
    have hix : f.ids.idxOf f.ps[k].a < cu.length := by rw [hcl]; exact List.idxOf_lt_length_of_mem hP.1
    have hq2 : cu[f.ids.idxOf f.ps[k].a]? = some cu[f.ids.idxOf f.ps[k].a] := List.getElem?_eq_getElem hix
    have hce := hbt.at hix
    have hp1 := hP.2.2.2.1
    have hp2 := hP.2.2.2.2
    rw [drop_step hlt', payFold, payStep, addAt_at hix] at hno
    have hb1 := hbt.addAt (f.ids.idxOf f.ps[k].a) (d := f.ps[k].p) (a := 0) (b := 1000000) (by omega) (by omega) (by omega) (by omega) (by omega) (by omega)
    rw [addAt_at hix] at hb1
    (refine goSt ?_; (repeat (refine goAl ?_; intro p hp; refine goSt ?_)))
    refine W_run 9 [187, 188, 189, 190, 191, 192, 193, 194, 195] [0, 1, 2, 3, 4, 5, 6, 7, 8] Cut.nil rfl goFlt mixedS (by kernel_rfl) rfl ?_
    refine rpv [] [] ?_
    refine rpv [] [] ?_
    refine rpv [] [] ?_
    refine rpv [2] [] ?_
    refine Run.pv [1, 3] [] rfl (fun vs => by apply ltr_pk; exact goPk; (refine ltr ?_; refine lt_call ?_ ((floorAt_con f _ (by omega) hP.1)); exact rfl)) goApp ?_
    refine rpv [0, 4] [] ?_
    refine rpv [5] [] ?_
    refine rpv [] [] ?_
    refine rpv [7] [] ?_
    refine ⟨⟨by kernel_rfl, by kernel_rfl⟩, fun vs => ?_⟩
    apply WL_auto [0, 4, 6, 8]
    ·exact goPk
    ·exact goNrm
    ·kernel_rfl
    ·kernel_rfl
    (refine goSt ?_; (repeat (refine goAl ?_; intro p hp; refine goSt ?_)))
    generalize hc1 : cu.set (f.ids.idxOf f.ps[k].a) (cu[f.ids.idxOf f.ps[k].a] + f.ps[k].p) = c1 at *
    have hc1l : c1.length = f.ids.length := by rw [← hc1, List.length_set, hcl]
    have hix2 : f.ids.idxOf f.ps[k].b < c1.length := by rw [hc1l]; exact List.idxOf_lt_length_of_mem hP.2.1
    have hq3 : c1[f.ids.idxOf f.ps[k].b]? = some c1[f.ids.idxOf f.ps[k].b] := List.getElem?_eq_getElem hix2
    have hce2 := hb1.at hix2
    rw [addAt_at hix2] at hno
    have hb2 := hb1.addAt (f.ids.idxOf f.ps[k].b) (d := -f.ps[k].p) (a := -1000000) (b := 0) (by omega) (by omega) (by omega) (by omega) (by omega) (by omega)
    rw [addAt_at hix2] at hb2
    refine W_run 9 [198, 199, 200, 201, 202, 203, 204, 205, 206] [0, 1, 2, 3, 4, 5, 6, 7, 8] Cut.nil rfl goFlt mixedS (by kernel_rfl) rfl ?_
    refine rpv [] [] ?_
    refine rpv [] [] ?_
    refine rpv [] [] ?_
    refine rpv [2] [] ?_
    refine Run.pv [1, 3] [] rfl (fun vs => by apply ltr_pk; exact goPk; (refine ltr ?_; refine lt_call ?_ ((floorAt_con f _ (by omega) hP.2.1)); exact rfl)) goApp ?_
    refine rpv [0, 4] [] ?_
    refine rpv [5] [] ?_
    refine rpv [] [] ?_
    refine rpv [7] [] ?_
    refine ⟨⟨by kernel_rfl, by kernel_rfl⟩, fun vs => ?_⟩
    apply WL_auto [0, 4, 6, 8]
    ·exact goPk
    ·exact goNrm
    ·kernel_rfl
    ·kernel_rfl
    (refine goSt ?_; (repeat (refine goAl ?_; intro p hp; refine goSt ?_)))
    (refine goSt ?_; (repeat (refine goAl ?_; intro p hp; refine goSt ?_)))
    (refine ⟨(k + 1, c1.set (f.ids.idxOf f.ps[k].b) (c1[f.ids.idxOf f.ps[k].b] + -f.ps[k].p)), fun _ _ st => st_sub2 st ?_ ?_, ?_, ?_⟩; exact goSubr; exact goSubp)
    ·exact ⟨hlt', by dsimp only; rw [List.length_set]; exact hc1l, hno, hb2.mono (by dsimp only; omega) (by dsimp only; omega)⟩
    ·dsimp only; omega
   ·have hkk : k = f.ps.length := by simp at hlt; omega
    subst hkk
    rw [List.drop_length, payFold] at hno
    rw [← hno] at hOW
    subst hOW
    clear hno hlt hk hbt
    (refine goSt ?_; (repeat (refine goAl ?_; intro p hp; refine goSt ?_)))
    refine W_loopJ (fun (b : Nat × Int) => ⟨[(3, .val (.bool true)), (4, .sl 1 iC owed), (6, .val v), (20, .val (.int .i64 b.2)), (210, .sl 1 iC owed), (211, .val (.int .i64 owed.length)), (212, .val (.int .i64 b.1))], [.row v 3 1 iC owed]⟩) (fun b => b.1 ≤ owed.length ∧ b.2 = (owed.take b.1).sum ∧ -(200000000 * (b.1 : Int)) ≤ b.2 ∧ b.2 ≤ 200000000 * b.1) (fun b => owed.length - b.1) (0, 0) (fun _ _ st => st_sub2 st goSubr goSubp) ⟨Nat.zero_le _, by simp, by simp, by simp⟩ ?_
    rintro ⟨j, acc⟩ ⟨hj, hacc, ha0, ha1⟩
    dsimp only at hj hacc ha0 ha1 ⊢
    (refine goSt ?_; (repeat (refine goAl ?_; intro p hp; refine goSt ?_)))
    refine w_cond rfl (fun hltj => ?_) (fun hltj => ?_)
    ·have hj' : j < owed.length := by simpa using hltj
     have hb := hob.at hj'
     have hqj : owed[j]? = some owed[j] := List.getElem?_eq_getElem hj'
     (refine goSt ?_; (repeat (refine goAl ?_; intro p hp; refine goSt ?_)))
     (refine ⟨(j + 1, acc + owed[j]), fun _ _ st => st_sub2 st ?_ ?_, ?_, ?_⟩; exact goSubr; exact goSubp)
     ·exact ⟨hj', by dsimp only; rw [sum_take hj', hacc], by dsimp only; omega, by dsimp only; omega⟩
     ·dsimp only; omega
    ·have hjj : j = owed.length := by simp at hltj; omega
     subst hjj
     rw [List.take_length, hos] at hacc
     subst hacc
     (refine goSt ?_; (repeat (refine goAl ?_; intro p hp; refine goSt ?_)))
     (apply WL_frz 227; exact rfl; exact goRm)
     (first | (apply wl_call (sameInts8_con owed owed (by omega) (by omega)); exact rfl; exact rfl) | (apply wl_callR (sameInts8_con owed owed (by omega) (by omega)); exact rfl; exact goAtm; exact rfl))
     (refine goSt ?_; (repeat (refine goAl ?_; intro p hp; refine goSt ?_)))
     rw [show decide (owed = owed) = true by simp]
     (apply res1; exact rfl; exact rfl; exact ⟨rfl, rfl⟩)
end Go.Proofs.YtihonljdanjfmaaGreatDoor.Sw
