/- Proofs for one card: Reg, RegIn, Sw, SwOps, SwAny, App, SwOps2, SwOps3, SwR, SwF, SwG, SwH, DoorG, FloorC, Row, Steps, Left, Best, EdL, Comes, FloorY, FloorM, Gr3, SwI, SwL, SwM, SwB, FloorTg, FloorCa, FloorLb, SwS, FloorCe, FloorCg, FloorLk, SwN, FloorPc, FloorCj, SwQ, OAa, OQa, OQb, FloorPays, OSa, FloorSure. No condition of its own. -/
import Derived.WalkKit
import Derived.Handy
import Derived.Deep.AppendSrc
import Derived.OrdersHeld
import Derived.Deep.RegionHeld
import Derived.OrdersIn
import Derived.RangeFuncCalls
import Derived.RangeFuncNested
import Derived.RangeFuncLeaves
import Derived.IntWalk
import Derived.WalkSpells
import Derived.Maps.AppendAt
import Derived.Deep.AppendLies
import Derived.OwnWalk
import Derived.LoopNIn
import Derived.RangeFuncBound
import Derived.Test.YtihonljdanjfmaaGreatDoorProg
import Derived.Test.YtihonljdanjfmaaGreatDoorCards
import Derived.Test.YtihonljdanjfmaaGreatDoorTie
import Derived.ProofKit
import Derived.OpenShut
import Derived.LaidMore
import Derived.LaidOnce
import Derived.ChangeOld
import Derived.Below
import Derived.Stop.Joined
import Derived.Lib.SmallJoins
import Derived.Deep.Slices
import Derived.WalkSmall
import Derived.Shelf.Abstract
import Derived.Laws.EntriesVeiled
import Derived.ChangeSame
import Derived.Deep.Strs
import Derived.Outline
import Derived.Deep.QuietTactic
import Derived.BigQuiet
import Derived.Deep.RegionHeld3
import Derived.DeepKeys4
import Derived.Maps.OwnIn
import Derived.OwnWalkIn
import Derived.Shelf.RegionOpen
import Derived.TacticsInMore
import Derived.Sort.BigQuietIn
import Derived.LoopIn
import Derived.WalkMore
import Derived.Maps.Views
import Derived.Lib.AppendZerosOnto
import Derived.Lib.Walk
import Derived.Lib.SliceRun
import Derived.Laws.MakeOwn
import Derived.Deep.Cut
import Derived.Lib.LazyBuf
import Derived.Scope
import Derived.WideKeyEntry
import Derived.Test.YtihonljdanjfmaaGreatDoorZb9
set_option linter.unusedVariables false
set_option linter.unusedSimpArgs false
namespace Go.Proofs.YtihonljdanjfmaaGreatDoor
open Go.RowKit Go
section
variable {P : Program} {ops : Array Oper} {Q : Exit → Act → World → Prop} {S : World → Prop} {held : List Nat}
end
section
variable {F : Fence} {n : Nat} {P : Program} {ops : Array Oper} {Q : Exit → Act → World → Prop} {S : World → Prop} {held : List Nat}
end
end Go.Proofs.YtihonljdanjfmaaGreatDoor
namespace Go.Proofs.YtihonljdanjfmaaGreatDoor.Sw
open Go.RowKit Go
section
variable {c : Cx} {s : S} {Q : Exit → S → Prop}
end
section
variable {c : Cx} {s : S} {Q : Exit → S → Prop} {ops : Array Oper} {tl : List Oper}
end
section
variable {c : Cx} {s : S} {Q : Exit → S → Prop} {ops : Array Oper} {tl : List Oper}
end
section
variable {P : Program} {rs : List (Nat × AV)} {d : Option Nat} {ty : TypeId} {pos : String} {af : Array Edge} {g : Option (Nat × Bool)}
end
section
variable {c : Cx} {s : S} {Q : Exit → S → Prop} {ops : Array Oper} {tl : List Oper}
end
section
variable {c : Cx} {rs : List (Nat × AV)} {hs : List HA} {Q : Exit → S → Prop} {ops : Array Oper} {tl : List Oper} {d : Nat} {op : Op} {ty : TypeId} {pos : String} {af : Array Edge}
end
section
variable {c : Cx} {rs : List (Nat × AV)} {hs : List HA} {Q : Exit → S → Prop} {ops : Array Oper} {tl : List Oper} {d : Nat} {ty : TypeId} {pos : String} {af : Array Edge} {x y : Operand} {t tb : TypeId} {p : Value} {j : Nat} {cs : List AV} {f : HA → List HA}
end
section
variable (ops : Array Oper) (m : Nat) (sp : List Sp) (hs0 : List HA)
end
section
variable {c : Cx} {ops : Array Oper} {m : Nat} {sp : List Sp} {hs0 hsR : List HA} {rsB : List (Nat × AV)} {Q : Exit → S → Prop}
end
section
variable {P : Program} {rs : List (Nat × AV)} {hsR : List HA} {d : Option Nat} {ty : TypeId} {pos : String} {af : Array Edge} {g : Option (Nat × Bool)} {x : Operand} {t tb : TypeId} {p : Value} {j : Nat} {cs : List AV} {f : HA → List HA}
end
end Go.Proofs.YtihonljdanjfmaaGreatDoor.Sw
namespace Go.Proofs.YtihonljdanjfmaaGreatDoor
open Go.RowKit Go
section
variable {P : Program} (w : World)
end
end Go.Proofs.YtihonljdanjfmaaGreatDoor
namespace Go.Proofs.YtihonljdanjfmaaGreatDoor.Sw
open Go.RowKit Go
section
variable {P : Program} {rs : List (Nat × AV)} {d : Option Nat} {ty : TypeId} {pos : String} {af : Array Edge} {g : Option (Nat × Bool)}
end
section
variable {P : Program} {rs : List (Nat × AV)} {d : Option Nat} {ty : TypeId} {pos : String} {af : Array Edge} {g : Option (Nat × Bool)}
end
section
variable {c : Cx} {rs : List (Nat × AV)} {hs : List HA} {Q : Exit → S → Prop} {ops : Array Oper} {tl : List Oper} {d : Nat} {ty : TypeId} {pos : String} {af : Array Edge}
end
section
variable {c : Cx} {rs : List (Nat × AV)} {hs : List HA} {Q : Exit → S → Prop} {ops : Array Oper} {tl : List Oper} {d : Nat} {ty : TypeId} {pos : String} {af : Array Edge}
end
section
variable {P : Program} {rs : List (Nat × AV)} {d : Option Nat} {ty : TypeId} {pos : String} {af : Array Edge} {g : Option (Nat × Bool)}
end
section
variable {c : Cx} {rs : List (Nat × AV)} {hs : List HA} {Q : Exit → S → Prop} {ops : Array Oper} {tl : List Oper} {d : Nat} {ty : TypeId} {pos : String} {af : Array Edge}
end
section
variable {P : Program} {rs : List (Nat × AV)} {hsR : List HA} {d : Option Nat} {ty : TypeId} {pos : String} {af : Array Edge} {g : Option (Nat × Bool)}
end
section
variable {P : Program} {rs : List (Nat × AV)} {hsR : List HA} {d : Option Nat} {ty : TypeId} {pos : String} {af : Array Edge} {g : Option (Nat × Bool)}
end
section
variable {c : Cx} {rs : List (Nat × AV)} {hs : List HA} {Q : Exit → S → Prop} {ops : Array Oper} {tl : List Oper} {d : Nat} {ty : TypeId} {pos : String} {af : Array Edge}
end
section
variable {c : Cx} {rs : List (Nat × AV)} {hs : List HA} {Q : Exit → S → Prop} {g : Operand} {ps : Array Tmp} {assign body : Code} {gf : FuncId} {caps : List AV} {own r : List HA} {α β τ : Type} {f : α → τ → List AV} {t : α → τ → List HA} {xs : List α}
end
section
variable {P : Program} {rs : List (Nat × AV)} {hsR : List HA} {d : Option Nat} {ty : TypeId} {pos : String} {af : Array Edge} {g : Option (Nat × Bool)}
end
section
variable {c : Cx} {rs : List (Nat × AV)} {hs : List HA} {Q : Exit → S → Prop} {ops : Array Oper} {tl : List Oper} {d : Nat} {ty : TypeId} {pos : String} {af : Array Edge}
end
end Go.Proofs.YtihonljdanjfmaaGreatDoor.Sw
namespace Go.Proofs.YtihonljdanjfmaaGreatDoor.Sw
open Go Go.RowKit Go.ChangeShapes Go.WideShapes Go.ChangeAt
end Go.Proofs.YtihonljdanjfmaaGreatDoor.Sw
namespace Go.Proofs.YtihonljdanjfmaaGreatDoor
open Go Go.ChangeShapes Go.WideShapes Go.ChangeAt Go.RowKit
theorem laidOut : laidOutB Tryz.prog = true := by kernel_rfl
end Go.Proofs.YtihonljdanjfmaaGreatDoor
namespace Go.Proofs.YtihonljdanjfmaaGreatDoor.Sw
open Go Go.RowKit Go.ChangeShapes Go.WideShapes Go.ChangeAt
set_option maxRecDepth 100000
end Go.Proofs.YtihonljdanjfmaaGreatDoor.Sw
namespace Go.Proofs.YtihonljdanjfmaaGreatDoor.Sw
open Go.RowKit Go Go.Shelf Go.Proofs
end Go.Proofs.YtihonljdanjfmaaGreatDoor.Sw
namespace Go.Proofs.YtihonljdanjfmaaGreatDoor
open Go.RowKit Go
section
variable {α : Type} {f : α → List Value} {n : Nat}
end
end Go.Proofs.YtihonljdanjfmaaGreatDoor
namespace Go.Proofs.YtihonljdanjfmaaGreatDoor
open Go.RowKit Go.Proofs Go.Shelf
attribute [local go_sem] Oper.semAt_some
attribute [local go_sem] Oper.semAt_some
attribute [local go_sem] eqPlace
attribute [local go_sem] Oper.semAt_some
def nxt (st fo : List Int) (i k : Nat) : Nx :=
 if h : i < st.length ∧ k < fo.length then
  if st[i]'h.1 = fo[k]'h.2 then ⟨i + 1, k + 1, []⟩
  else if dd st fo i k = dd st fo (i + 1) (k + 1) + 1 then ⟨i + 1, k + 1, [⟨3, k, fo[k]'h.2⟩]⟩
  else if dd st fo i k = dd st fo (i + 1) k + 1 then ⟨i + 1, k, [⟨1, k, 0⟩]⟩
  else ⟨i, k + 1, [⟨2, k, fo[k]'h.2⟩]⟩
 else if i < st.length then ⟨i + 1, k, [⟨1, k, 0⟩]⟩
 else if h : k < fo.length then ⟨i, k + 1, [⟨2, k, fo[k]⟩]⟩
 else ⟨i, k, []⟩
attribute [local go_sem] Oper.semAt_some
end Go.Proofs.YtihonljdanjfmaaGreatDoor
namespace Go.Proofs.YtihonljdanjfmaaGreatDoor.Sw
open Go.RowKit Go Go.Shelf Go.Proofs
set_option maxRecDepth 20000 in
theorem speak8_con (f : Flo) (a b : Int) (hl : f.qs.length ≤ 1000) : Con Tryz.prog 20 [.agg (flC f), .val (.int .i64 a), .val (.int .i64 b)] [] (Is (.val (.bool (speakR f.qs a b))) []) := by
 refine con_of Tryz.func20 rfl (enters_of Tryz.func20 (by kernel_rfl) rfl) rfl ?_; intro n w0 F0 G0
 (refine goSt ?_; (repeat (refine goAl ?_; intro p hp; refine goSt ?_)))
 refine W_loopJ (fun (k : Nat) => ⟨[(1, .val (.int .i64 a)), (2, .val (.int .i64 b)), (10, .sl 2 quC f.qs), (11, .val (.int .i64 f.qs.length)), (12, .val (.int .i64 k))], []⟩) (fun k => k ≤ f.qs.length ∧ (f.qs.take k).any (hits a b) = false) (fun k => f.qs.length - k) 0 (fun _ _ st => st_sub2 st goSubr goSubp) ?hj0 ?round
 case hj0 => simp
 case round =>
  rintro k ⟨hk, hno⟩
  (refine goSt ?_; (repeat (refine goAl ?_; intro p hp; refine goSt ?_)))
  refine w_cond rfl (fun hlt => ?_) (fun hlt => ?_)
  ·have hlt' : k < f.qs.length := by simpa using hlt
   have htk : f.qs.take (k + 1) = f.qs.take k ++ [f.qs[k]] := List.take_succ_eq_append_getElem hlt'
   (refine goSt ?_; (repeat (refine goAl ?_; intro p hp; refine goSt ?_)))
   have fin : hits a b f.qs[k] = true → speakR f.qs a b = false := fun h => by
    have : f.qs.any (hits a b) = true := List.any_eq_true.2 ⟨_, List.getElem_mem hlt', h⟩
    simp [speakR, this]
   have nxt : hits a b f.qs[k] = false → (f.qs.take (k + 1)).any (hits a b) = false := fun h => by rw [htk, List.any_append, hno]; simpa using h
   refine wl_part rfl rfl (fun g1 => ?_) (fun g1 => ?_)
   ·(refine goSt ?_; (repeat (refine goAl ?_; intro p hp; refine goSt ?_)))
    refine w_cond rfl (fun g2 => ?_) (fun g2 => ?_)
    ·have := fin (by unfold hits; rw [g1, g2]; rfl)
     (refine goSt ?_; (repeat (refine goAl ?_; intro p hp; refine goSt ?_)))
     (apply res1; exact rfl; exact rfl; exact ⟨(congrArg (fun b => AV.val (Value.bool b)) this.symm), rfl⟩)
    ·have := nxt (by unfold hits; rw [g1, g2]; rfl)
     (refine goSt ?_; (repeat (refine goAl ?_; intro p hp; refine goSt ?_)))
     (refine ⟨k + 1, fun _ _ st => st_sub2 st ?_ ?_, ?_, ?_⟩; exact goSubr; exact goSubp)
     ·exact ⟨by omega, this⟩
     ·omega
   ·have := nxt (by unfold hits; rw [g1]; rfl)
    (refine goSt ?_; (repeat (refine goAl ?_; intro p hp; refine goSt ?_)))
    (refine ⟨k + 1, fun _ _ st => st_sub2 st ?_ ?_, ?_, ?_⟩; exact goSubr; exact goSubp)
    ·exact ⟨by omega, this⟩
    ·omega
  ·(refine goSt ?_; (repeat (refine goAl ?_; intro p hp; refine goSt ?_)))
   have hkk : k = f.qs.length := by simp at hlt; omega
   subst hkk
   rw [List.take_length] at hno
   (apply res1; exact rfl; exact rfl; exact ⟨(congrArg (fun b => AV.val (Value.bool b)) (by simp [speakR, hno])), rfl⟩)
end Go.Proofs.YtihonljdanjfmaaGreatDoor.Sw
namespace Go.Proofs.YtihonljdanjfmaaGreatDoor.Gr
open Go.Proofs.YtihonljdanjfmaaGreatDoor.Sw (Pay)
end Go.Proofs.YtihonljdanjfmaaGreatDoor.Gr
namespace Go.Proofs.YtihonljdanjfmaaGreatDoor.Sw
open Go.RowKit Go
section
variable {P : Program} {rs : List (Nat × AV)} {hsR : List HA} {d : Option Nat} {ty : TypeId} {pos : String} {af : Array Edge} {g : Option (Nat × Bool)}
end
section
variable {c : Cx} {rs : List (Nat × AV)} {hs : List HA} {Q : Exit → S → Prop} {ops : Array Oper} {tl : List Oper} {d : Nat} {ty : TypeId} {pos : String} {af : Array Edge}
end
section
variable {P : Program} {rs : List (Nat × AV)} {d : Option Nat} {ty : TypeId} {pos : String} {af : Array Edge} {g : Option (Nat × Bool)}
end
section
variable {c : Cx} {rs : List (Nat × AV)} {hs : List HA} {Q : Exit → S → Prop} {ops : Array Oper} {tl : List Oper} {d : Nat} {ty : TypeId} {pos : String} {af : Array Edge}
end
section
variable {P : Program} {rs : List (Nat × AV)} {d : Option Nat} {ty : TypeId} {pos : String} {af : Array Edge} {g : Option (Nat × Bool)}
end
section
variable {c : Cx} {rs : List (Nat × AV)} {hs : List HA} {Q : Exit → S → Prop} {ops : Array Oper} {tl : List Oper} {d : Nat} {ty : TypeId} {pos : String} {af : Array Edge}
end
end Go.Proofs.YtihonljdanjfmaaGreatDoor.Sw
namespace Go.Proofs.YtihonljdanjfmaaGreatDoor.Sw
open Go.RowKit Go
open Go.WideElems (Fit)
open Go.ChangeMaps (setBlock heap_setBlock_same heap_setBlock_other)
section
variable {κ α : Type} [DecidableEq κ]
end
section
variable {κ α : Type} (kv : κ → Value) (g : α → AV)
variable {kv g}
variable (kv g)
variable {kv g}
end
section
variable {P : Program} {κ α : Type} [DecidableEq κ] {t : TypeId} {kv : κ → Value} {ok : κ → Prop} {g : α → AV} {l : List (κ × α)} {G : Nat → Option Obj} {F : List Nat} {w : World} {v : Value}
variable {rs : List (Nat × AV)} {d : Option Nat} {ty : TypeId} {pos : String} {af : Array Edge} {gd : Option (Nat × Bool)}
end
section
variable {c : Cx} {rs : List (Nat × AV)} {hs : List HA} {Q : Exit → S → Prop} {ops : Array Oper} {tl : List Oper} {d : Nat} {ty : TypeId} {pos : String} {af : Array Edge} {κ α : Type} [DecidableEq κ] {t : TypeId} {kv : κ → Value} {ok : κ → Prop} {g : α → AV} {l : List (κ × α)} {v : Value}
end
end Go.Proofs.YtihonljdanjfmaaGreatDoor.Sw
namespace Go.Proofs.YtihonljdanjfmaaGreatDoor.Sw
open Go.RowKit Go
section
variable {P : Program} {rs : List (Nat × AV)} {d : Option Nat} {ty : TypeId} {pos : String} {af : Array Edge} {g : Option (Nat × Bool)}
end
section
variable {c : Cx} {rs : List (Nat × AV)} {hs : List HA} {Q : Exit → S → Prop} {ops : Array Oper} {tl : List Oper} {d : Nat} {ty : TypeId} {pos : String} {af : Array Edge}
end
end Go.Proofs.YtihonljdanjfmaaGreatDoor.Sw
namespace Go.Proofs.YtihonljdanjfmaaGreatDoor.Sw
open Go.RowKit Go Go.Shelf Go.Proofs
open Go.Proofs.YtihonljdanjfmaaGreatDoor.Gr (treeR pick Ok)
theorem allTo_succ (ids : List Int) (l : List (Nat × Nat)) (owed : List Int) (S k : Nat) : allTo ids l owed (S + 1) k = allTo ids l owed S k ++ (if (pick l S).length = k then treeR ids (pick l S) owed else none).toList := by
 unfold allTo
 rw [List.range_succ, List.filterMap_append]
 cases h : (if (pick l S).length = k then treeR ids (pick l S) owed else none) <;> simp [h]
end Go.Proofs.YtihonljdanjfmaaGreatDoor.Sw
namespace Go.Proofs.YtihonljdanjfmaaGreatDoor.Sw
open Go.RowKit Go Go.Shelf Go.Proofs
end Go.Proofs.YtihonljdanjfmaaGreatDoor.Sw
namespace Go.Proofs.YtihonljdanjfmaaGreatDoor.Sw
open Go.RowKit Go Go.Shelf Go.Proofs
open Go.Proofs.YtihonljdanjfmaaGreatDoor.Gr (payLt)
section
variable {P : Program} {rs : List (Nat × AV)} {d : Option Nat} {ty : TypeId} {pos : String} {af : Array Edge} {g : Option (Nat × Bool)}
end
section
variable {c : Cx} {rs : List (Nat × AV)} {hs : List HA} {Q : Exit → S → Prop} {ops : Array Oper} {tl : List Oper} {d : Nat} {ty : TypeId} {pos : String} {af : Array Edge}
end
end Go.Proofs.YtihonljdanjfmaaGreatDoor.Sw
namespace Go.Proofs.YtihonljdanjfmaaGreatDoor.Sw
open Go.RowKit Go
section
variable {P : Program} {rs : List (Nat × AV)} {d : Option Nat} {ty : TypeId} {pos : String} {af : Array Edge} {g : Option (Nat × Bool)}
end
section
variable {c : Cx} {rs : List (Nat × AV)} {hs r : List HA} {Q : Exit → S → Prop} {ops : Array Oper} {tl : List Oper} {d : Nat} {ty : TypeId} {pos : String} {af : Array Edge}
end
end Go.Proofs.YtihonljdanjfmaaGreatDoor.Sw
namespace Go.Proofs.YtihonljdanjfmaaGreatDoor.Sw
open Go.RowKit Go Go.Shelf Go.Proofs
end Go.Proofs.YtihonljdanjfmaaGreatDoor.Sw
namespace Go.Proofs.YtihonljdanjfmaaGreatDoor.Sw
open Go.RowKit Go Go.Shelf Go.Proofs
open Go.Proofs.YtihonljdanjfmaaGreatDoor.Gr (payLt)
theorem bst8_mem {xs : List (List Pay)} {b y : List Pay} (h : xs.foldl (fun b x => if befR x b = true then x else b) b = y) : y ∈ xs ∨ y = b := by
 induction xs generalizing b with
 | nil => exact .inr h.symm
 | cons x t ih =>
  rcases ih h with h1 | h1
  ·exact .inl (by simp [h1])
  ·dsimp only at h1
   split at h1
   ·exact .inl (by simp [h1])
   ·exact .inr h1
set_option maxRecDepth 20000 in
theorem Has8_con (l : List Pay) (x : Pay) (hl : l.length ≤ 1000000) : Con Tryz.prog 32 [.sl 3 payC l, .agg (payC x)] [] (Is (.val (.bool (hasP l x))) []) := by
 refine con_of Tryz.func32 rfl (enters_of Tryz.func32 (by kernel_rfl) rfl) rfl ?_; intro n w0 F0 G0
 (refine goSt ?_; (repeat (refine goAl ?_; intro p hp; refine goSt ?_)))
 refine W_loopJ (fun (k : Nat) => ⟨[(3, .val p), (7, .sl 3 payC l), (8, .val (.int .i64 l.length)), (9, .val (.int .i64 k))], [.box p (payC x) 42]⟩) (fun k => k ≤ l.length ∧ hasP (l.take k) x = false) (fun k => l.length - k) 0 (fun _ _ st => st_sub2 st goSubr goSubp) ⟨Nat.zero_le _, rfl⟩ ?_
 rintro k ⟨hk, hno⟩
 (refine goSt ?_; (repeat (refine goAl ?_; intro p hp; refine goSt ?_)))
 refine w_cond rfl (fun hlt => ?_) (fun hlt => ?_)
 ·have hlt' : k < l.length := by simpa using hlt
  have hst : hasP (l.take (k + 1)) x = (decide (x = l[k])) := by unfold hasP at hno ⊢; rw [List.take_succ_eq_append_getElem hlt', List.any_append, hno]; simp
  (refine goSt ?_; (repeat (refine goAl ?_; intro p hp; refine goSt ?_)))
  refine w_cond rfl (fun hg => ?_) (fun hg => ?_)
  ·have e : x = l[k] := pay_eq (by simpa using hg)
   have hy : hasP l x = true := List.any_eq_true.2 ⟨l[k], List.getElem_mem hlt', decide_eq_true e⟩
   rw [hy]
   (refine goSt ?_; (repeat (refine goAl ?_; intro p hp; refine goSt ?_)))
   (apply res1; exact rfl; exact rfl; exact ⟨rfl, rfl⟩)
  ·have e : x ≠ l[k] := fun e => by rw [← e] at hg; simp at hg
   (refine goSt ?_; (repeat (refine goAl ?_; intro p hp; refine goSt ?_)))
   (refine ⟨k + 1, fun _ _ st => st_sub2 st ?_ ?_, ?_, ?_⟩; exact goSubr; exact goSubp)
   ·exact ⟨hlt', by rw [hst]; exact decide_eq_false e⟩
   ·omega
 ·have hkk : k = l.length := by simp at hlt; omega
  subst hkk
  rw [List.take_length] at hno
  rw [hno]
  (refine goSt ?_; (repeat (refine goAl ?_; intro p hp; refine goSt ?_)))
  (apply res1; exact rfl; exact rfl; exact ⟨rfl, rfl⟩)
end Go.Proofs.YtihonljdanjfmaaGreatDoor.Sw
namespace Go.Proofs.YtihonljdanjfmaaGreatDoor.Sw
open Go.RowKit Go
open Go.WideElems (Fit)
open Go.ChangeMaps (setBlock heap_setBlock_same heap_setBlock_other)
section
variable {P : Program} {κ α : Type} [DecidableEq κ] {t : TypeId} {kv : κ → Value} {ok : κ → Prop} {g : α → AV} {l : List (κ × α)} {G : Nat → Option Obj} {F : List Nat} {w : World} {v : Value}
variable {rs : List (Nat × AV)} {d : Option Nat} {ty : TypeId} {pos : String} {af : Array Edge} {gd : Option (Nat × Bool)}
end
section
variable {c : Cx} {rs : List (Nat × AV)} {hs : List HA} {Q : Exit → S → Prop} {ops : Array Oper} {tl : List Oper} {d : Nat} {ty : TypeId} {pos : String} {af : Array Edge} {κ α : Type} [DecidableEq κ] {t : TypeId} {kv : κ → Value} {ok : κ → Prop} {g : α → AV} {l : List (κ × α)} {v : Value}
end
end Go.Proofs.YtihonljdanjfmaaGreatDoor.Sw
namespace Go.Proofs.YtihonljdanjfmaaGreatDoor.Sw
open Go.RowKit Go Go.Shelf Go.Proofs
open Go.Proofs.YtihonljdanjfmaaGreatDoor.Gr (headsR hf mergeH hf_merge Lab lab_all Cl)
end Go.Proofs.YtihonljdanjfmaaGreatDoor.Sw
namespace Go.Proofs.YtihonljdanjfmaaGreatDoor.Sw
open Go.RowKit Go Go.Shelf Go.Proofs
end Go.Proofs.YtihonljdanjfmaaGreatDoor.Sw
namespace Go.Proofs.YtihonljdanjfmaaGreatDoor.Sw
open Go.RowKit Go
section
variable {P : Program} {rs : List (Nat × AV)} {d : Option Nat} {ty : TypeId} {pos : String} {af : Array Edge} {g : Option (Nat × Bool)}
end
end Go.Proofs.YtihonljdanjfmaaGreatDoor.Sw
namespace Go.Proofs.YtihonljdanjfmaaGreatDoor.Sw
open Go.RowKit Go Go.Shelf Go.Proofs
open Go.Proofs.YtihonljdanjfmaaGreatDoor.Gr (Zr sumP Cl lf)
theorem speakR_comm (qs : List Qu) (a b : Int) : speakR qs a b = speakR qs b a := by
 have h : hits a b = hits b a := by
  funext q
  unfold hits
  rw [Int.min_comm, Int.max_comm]
 unfold speakR
 rw [h]
 congr 1
 exact decide_eq_decide.2 ⟨fun h e => h e.symm, fun h e => h e.symm⟩
end Go.Proofs.YtihonljdanjfmaaGreatDoor.Sw
namespace Go.Proofs.YtihonljdanjfmaaGreatDoor.Sw
open Go.RowKit Go Go.Shelf Go.Proofs
open Go.Proofs.YtihonljdanjfmaaGreatDoor.Gr (treeR pick sub_pick pick_sub)
theorem few_first {α : Type} {g : Nat → List α} : ∀ {m : Nat}, fewTo g m ≠ [] → ∃ k, k < m ∧ fewTo g m = g k ∧ ∀ j, j < k → g j = []
 | 0, h => absurd rfl h
 | m + 1, h => by
  rw [fewTo] at h ⊢
  by_cases he : (fewTo g m).isEmpty = true
  ·rw [if_pos he] at h ⊢
   refine ⟨m, by omega, rfl, fun j hj => ?_⟩
   cases hg : g j with
   | nil => rfl
   | cons x t =>
    exfalso
    have : ∀ m, j < m → fewTo g m ≠ [] := by
     intro m hm
     induction m with
     | zero => omega
     | succ m ih =>
      rw [fewTo]
      by_cases hj2 : j < m
      ·have := ih hj2
       rw [if_neg (by cases hq : fewTo g m with | nil => exact absurd hq this | cons a b => simp)]
       exact this
      ·have hjm : j = m := by omega
       subst hjm
       split
       ·rw [hg]; simp
       ·rename_i h2; intro e; rw [e] at h2; exact h2 rfl
    exact this m hj (List.isEmpty_iff.1 he)
  ·rw [if_neg he] at h ⊢
   obtain ⟨k, hk, e, h3⟩ := few_first h
   exact ⟨k, by omega, e, h3⟩
end Go.Proofs.YtihonljdanjfmaaGreatDoor.Sw
namespace Go.Proofs.YtihonljdanjfmaaGreatDoor.Sw
open Go.RowKit Go Go.Shelf Go.Proofs
theorem stl_told {f : Flo} (hS : Sml f) (hf : floOk f = true) (h0 : (stlN f).2 = 0) : ∃ k, k < 6 ∧ (stlN f).1 ∈ allR f k ∧ (∀ j, j < k → allR f j = []) ∧ (stlN f).1.length = k := by
 rw [stl_eq hS] at h0 ⊢
 have ha : (askR f).2.2 = 0 := by
  unfold stlN8 at h0
  split at h0
  ·assumption
  ·exact h0
 have hne : fewTo (allR f) 6 ≠ [] := fun e => by
  unfold askR at ha
  rw [if_pos hf, e] at ha
  simp at ha
 obtain ⟨k, hk, ek, hm⟩ := few_first hne
 have hal : (askR f).1 = fewTo (allR f) 6 := by
  unfold askR
  rw [if_pos hf, if_neg]
  intro e; exact hne (List.isEmpty_iff.1 e)
 have hin : (stlN8 f).1 ∈ allR f k := by
  unfold stlN8 bst8
  rw [if_pos ha, hal]
  dsimp only
  rw [ek] at hne ⊢
  rcases bst8_mem (xs := allR f k) (b := (allR f k).headD []) rfl with h | h
  ·exact h
  ·rw [h]; exact head_mem hne
 exact ⟨k, hk, hin, hm, (told (flo_f hf) hS (rises_of_ok hf) hin).len⟩
theorem lsB2 {f : Flo} (hS : Sml f) : errL f = 0 → ∀ x ∈ lsF f, PayB x := fun he x hx => by
 obtain ⟨k, hk, hb⟩ := lsF_told hS he
 exact (hb x hx).payB (by omega)
end Go.Proofs.YtihonljdanjfmaaGreatDoor.Sw
namespace Go.Proofs.YtihonljdanjfmaaGreatDoor.Sw
open Go.RowKit Go Go.Shelf Go.Proofs
open Go.Proofs.YtihonljdanjfmaaGreatDoor.Gr (treeR pick Zr Cl Forest Side sumP lf amt amt_side amt_swap payE SortedP payLt payLt_no)
theorem sumP_one {n : Nat} {x : Nat → Int} {i : Nat} : ∀ {m : Nat}, sumP m x (fun v => decide (v = i)) = if i < m then x i else 0
 | 0 => rfl
 | m + 1 => by
  show sumP m x (fun v => decide (v = i)) + (if decide (m = i) = true then x m else 0) = _
  rw [sumP_one (n := n) (m := m)]
  by_cases h : m = i
  ·subst h; simp
  ·rw [decide_eq_false h]
   by_cases h2 : i < m
   ·rw [if_pos h2, if_pos (show i < m + 1 by omega)]; simp
   ·rw [if_neg h2, if_neg (show ¬ i < m + 1 by omega)]; simp
theorem cl_alone {L : List (Nat × Nat)} {i : Nat} (h : ∀ p ∈ L, p.1 ≠ i ∧ p.2 ≠ i) : Cl L (fun v => decide (v = i)) := fun p hp => by
 have := h p hp
 dsimp only
 rw [decide_eq_false this.1, decide_eq_false this.2]
theorem no_choice {f : Flo} (hf : floOk f = true) {k k' : Nat} {l l' : List Pay} (hl : l ∈ allR f k) (hl' : l' ∈ allR f k') {x : Pay} (hx : x ∈ l) (ho : ∀ id ∈ f.ids, id = x.a ∨ id = x.b ∨ speakR f.qs id x.a = false) : x ∈ l' := by
 have hr := rises_of_ok hf
 obtain ⟨L, hL⟩ := allR_mem.1 hl
 obtain ⟨M, hM⟩ := allR_mem.1 hl'
 obtain ⟨e, he, rfl⟩ := List.mem_map.1 (hL.pe.mem_iff.1 hx)
 have hm := hL.mem e he
 have hnz := hL.nz e he
 have hn1 : e.1 < f.ids.length := Nat.lt_trans hm.1 hm.2.1
 have hn2 := hm.2.1
 have inj := fun i j hi hj => ids_inj hr (i := i) (j := j) hi hj
 have hg : ∀ i, i < f.ids.length → f.ids.getD i 0 ∈ f.ids := fun i hi => by
  rw [List.getD_eq_getElem?_getD, List.getElem?_eq_getElem hi]; exact List.getElem_mem hi
 -- whichever end it is
 have key : ∀ i o, ((i = e.1 ∧ o = e.2) ∨ (i = e.2 ∧ o = e.1)) → (payE f.ids (lf (owed8 f)) L e).a = f.ids.getD i 0 → (payE f.ids (lf (owed8 f)) L e).b = f.ids.getD o 0 → ∀ p, PrS f p → (p.1 = i ∨ p.2 = i) → p = e := by
  intro i o hio ha hb p hp hpi
  have hil : i < f.ids.length := by rcases hio with ⟨rfl, _⟩ | ⟨rfl, _⟩ <;> assumption
  have hol : o < f.ids.length := by rcases hio with ⟨_, rfl⟩ | ⟨_, rfl⟩ <;> assumption
  rw [ha, hb] at ho
  obtain ⟨p1, p2, p3⟩ := hp
  have p3' : speakR f.qs (f.ids.getD p.1 0) (f.ids.getD p.2 0) = true := p3
  rcases hpi with h | h
  ·subst h
   have := ho _ (hg _ p2)
   rcases this with h | h | h
   ·have := inj _ _ p2 hil h; omega
   ·have := inj _ _ p2 hol h
    rcases hio with ⟨h1, h2⟩ | ⟨h1, h2⟩
    ·exact Prod.ext h1 (this.trans h2)
    ·have := hm.1; omega
   ·rw [speakR_comm, p3'] at h; cases h
  ·subst h
   have := ho _ (hg _ (show p.1 < f.ids.length by omega))
   rcases this with h | h | h
   ·have := inj _ _ (by omega) hil h; omega
   ·have := inj _ _ (by omega) hol h
    rcases hio with ⟨h1, h2⟩ | ⟨h1, h2⟩
    ·have := hm.1; omega
    ·exact Prod.ext (this.trans h2) h1
   ·rw [p3'] at h; cases h
 have two : ∀ i o, ((i = e.1 ∧ o = e.2) ∨ (i = e.2 ∧ o = e.1)) → (payE f.ids (lf (owed8 f)) L e).a = f.ids.getD i 0 → (payE f.ids (lf (owed8 f)) L e).b = f.ids.getD o 0 → e ∈ M ∧ amt f.ids.length (lf (owed8 f)) M e = amt f.ids.length (lf (owed8 f)) L e := by
  intro i o hio ha hb
  have K := key i o hio ha hb
  have hil : i < f.ids.length := by rcases hio with ⟨rfl, _⟩ | ⟨rfl, _⟩ <;> assumption
  have hei : i = e.1 ∨ i = e.2 := hio.elim (fun h => .inl h.1) (fun h => .inr h.1)
  have cl : ∀ N : List (Nat × Nat), N.Nodup → (∀ p ∈ N, PrS f p) → Cl (N.erase e) (fun v => decide (v = i)) := fun N hn hp => cl_alone fun p hpN => by
   have h2 := hn.mem_erase_iff.1 hpN
   exact ⟨fun h => h2.1 (K p (hp p h2.2) (.inl h)), fun h => h2.1 (K p (hp p h2.2) (.inr h))⟩
  have c1 := cl L hL.nd hL.mem
  have c2 := cl M hM.nd hM.mem
  have hsum := sumP_one (n := 0) (x := lf (owed8 f)) (i := i) (m := f.ids.length)
  rw [if_pos hil] at hsum
  have s1 : ∀ N : List (Nat × Nat), Cl (N.erase e) (fun v => decide (v = i)) → (i = e.2 → Side N e e.2 e.1 fun v => decide (v = i)) ∧ (i = e.1 → Side N e e.1 e.2 fun v => decide (v = i)) := fun N hc =>
   ⟨fun h => ⟨hc, by simp [h], by have := hm.1; simp; omega⟩, fun h => ⟨hc, by simp [h], by have := hm.1; simp; omega⟩⟩
  have aL : (i = e.2 → amt f.ids.length (lf (owed8 f)) L e = lf (owed8 f) i) ∧ (i = e.1 → amt f.ids.length (lf (owed8 f)) L e = - lf (owed8 f) i) :=
   ⟨fun h => by rw [amt_side hL.nd hL.zr ((s1 L c1).1 h), hsum], fun h => by rw [amt_swap hL.nd hL.zr ((s1 L c1).2 h), hsum]⟩
  have hoi : lf (owed8 f) i ≠ 0 := fun h0 => by
   rcases hei with h | h
   ·exact hnz (by rw [aL.2 h, h0]; rfl)
   ·exact hnz (by rw [aL.1 h, h0])
  have heM : e ∈ M := by
   by_cases h : e ∈ M
   ·exact h
   ·exfalso
    rw [List.erase_of_not_mem h] at c2
    have := hM.zr _ c2
    rw [hsum] at this
    exact hoi this
  refine ⟨heM, ?_⟩
  rcases hei with h | h
  ·rw [aL.2 h, amt_swap hM.nd hM.zr ((s1 M c2).2 h), hsum]
  ·rw [aL.1 h, amt_side hM.nd hM.zr ((s1 M c2).1 h), hsum]
 have fin : e ∈ M ∧ amt f.ids.length (lf (owed8 f)) M e = amt f.ids.length (lf (owed8 f)) L e := by
  rcases payE_ends f.ids (lf (owed8 f)) L e with ⟨a1, a2⟩ | ⟨a1, a2⟩
  ·exact two e.1 e.2 (.inl ⟨rfl, rfl⟩) a1 a2
  ·exact two e.2 e.1 (.inr ⟨rfl, rfl⟩) a1 a2
 refine hM.pe.mem_iff.2 (List.mem_map.2 ⟨e, fin.1, ?_⟩)
 unfold payE
 rw [fin.2]
theorem told_pairs {f : Flo} (hf : floOk f = true) {k : Nat} {l : List Pay} (hl : l ∈ allR f k) {x y : Pay} (hx : x ∈ l) (hy : y ∈ l) (ha : x.a = y.a) (hb : x.b = y.b) : x = y := by
 have hr := rises_of_ok hf
 obtain ⟨L, hL⟩ := allR_mem.1 hl
 obtain ⟨e, he, rfl⟩ := List.mem_map.1 (hL.pe.mem_iff.1 hx)
 obtain ⟨e', he', rfl⟩ := List.mem_map.1 (hL.pe.mem_iff.1 hy)
 have h1 := hL.mem e he
 have h2 := hL.mem e' he'
 have inj := fun i j hi hj => ids_inj hr (i := i) (j := j) hi hj
 obtain ⟨b1, b2, _⟩ := h1
 obtain ⟨b3, b4, _⟩ := h2
 have : e = e' := by
  rcases payE_ends f.ids (lf (owed8 f)) L e with ⟨c1, c2⟩ | ⟨c1, c2⟩ <;> rcases payE_ends f.ids (lf (owed8 f)) L e' with ⟨d1, d2⟩ | ⟨d1, d2⟩ <;> rw [c1, d1] at ha <;> rw [c2, d2] at hb
  ·exact Prod.ext (inj _ _ (by omega) (by omega) ha) (inj _ _ (by omega) (by omega) hb)
  ·have := inj _ _ (by omega) (by omega) ha; have := inj _ _ (by omega) (by omega) hb; omega
  ·have := inj _ _ (by omega) (by omega) ha; have := inj _ _ (by omega) (by omega) hb; omega
  ·exact Prod.ext (inj _ _ (by omega) (by omega) hb) (inj _ _ (by omega) (by omega) ha)
 rw [this]
theorem pick_some : ∀ {l : List (Nat × Nat)} {s : Nat}, s < 2 ^ l.length → s ≠ 0 → pick l s ≠ []
 | [], s, h, h0 => by simp at h; omega
 | p :: t, s, h, h0 => by
  unfold pick
  split
  ·simp
  ·exact pick_some (l := t) (s := s / 2) (by rw [List.length_cons, Nat.pow_succ] at h; omega) (by omega)
theorem all_none (ids : List Int) (L : List (Nat × Nat)) (owed : List Int) : ∀ S, S ≤ 2 ^ L.length → (allTo ids L owed S 0).length ≤ 1
 | 0, _ => by simp [allTo]
 | S + 1, h => by
  rw [allTo_succ]
  by_cases h0 : S = 0
  ·subst h0
   rw [show allTo ids L owed 0 0 = [] by simp [allTo], List.nil_append]
   split
   ·cases treeR ids (pick L 0) owed <;> simp
   ·simp
  ·have := all_none ids L owed S (by omega)
   have hp := pick_some (l := L) (s := S) (by omega) h0
   rw [if_neg (by intro e; exact hp (List.eq_nil_of_length_eq_zero e))]
   simpa using this
theorem allR_none (f : Flo) : (allR f 0).length ≤ 1 := all_none _ _ _ _ (Nat.le_refl _)
end Go.Proofs.YtihonljdanjfmaaGreatDoor.Sw
namespace Go.Proofs.YtihonljdanjfmaaGreatDoor.Sw
open Go.RowKit Go Go.Shelf Go.Proofs
open Go.Proofs.YtihonljdanjfmaaGreatDoor.Gr (SortedP payLt payLt_no)
theorem sure_facts {f : Flo} (hS : Sml f) (hf : floOk f = true) (h0 : (askR f).2.2 = 0) : SureF f (askR f).1 (sur8 (askR f).1) (stlN8 f).1 := by
 have hst : (stlN f).2 = 0 := by rw [stl_eq hS]; unfold stlN8; rw [if_pos h0]
 obtain ⟨k, hk, hin, hm, hlen⟩ := stl_told hS hf hst
 have hll := stlN_len hS
 rw [stl_eq hS] at hin hlen hll
 have hne : fewTo (allR f) 6 ≠ [] := fun e => by
  unfold askR at h0
  rw [if_pos hf, e] at h0
  simp at h0
 have hal : (askR f).1 = fewTo (allR f) 6 := by
  unfold askR
  rw [if_pos hf, if_neg]
  intro e; exact hne (List.isEmpty_iff.1 e)
 obtain ⟨j, hj, ej, hjm⟩ := few_first hne
 have hjk : j = k := by
  have hkne : allR f k ≠ [] := fun e => by rw [e] at hin; cases hin
  rcases Nat.lt_trichotomy j k with h | h | h
  ·rw [ej, hm j h] at hne; exact absurd rfl hne
  ·exact h
  ·exact absurd (hjm k h) hkne
 subst hjk
 rw [hal, ej]
 rw [ej] at hne
 have hstl : (stlN8 f).1 = bst8 (allR f j) := by unfold stlN8; rw [if_pos h0, hal, ej]
 generalize (stlN8 f).1 = l at hin hlen hll hstl
 have hhd := head_mem hne
 have hsub : (sur8 (allR f j)).Sublist ((allR f j).headD []) := List.filter_sublist
 have hT := told (flo_f hf) hS (rises_of_ok hf) hhd
 have hmem : ∀ x, x ∈ sur8 (allR f j) ↔ x ∈ (allR f j).headD [] ∧ ∀ y ∈ allR f j, x ∈ y := fun x => by
  unfold sur8
  rw [List.mem_filter, List.all_eq_true]
  exact ⟨fun h => ⟨h.1, fun y hy => hasP_iff.1 (h.2 y hy)⟩, fun h => ⟨h.1, fun y hy => hasP_iff.2 (h.2 y hy)⟩⟩
 refine ⟨fun x hx => ((hmem x).1 hx).2 l hin, fun i hi h1 hi0 => ?_, fun x hx ho => ?_, List.length_pos_iff.2 hne, fun h1 => ?_, fun hl0 => ?_, ?_, hll⟩
 ·have hso := hT.so.sublist hsub
  have hnd := hT.nd.sublist hsub
  have p1 : payLt (sur8 (allR f j))[i] (sur8 (allR f j))[i - 1] = false := List.pairwise_iff_getElem.1 hso (i - 1) i h1 hi (by omega)
  have q1 := payLt_no.1 p1
  refine ⟨by omega, fun he => ?_⟩
  have hbne : (sur8 (allR f j))[i - 1].b ≠ (sur8 (allR f j))[i].b := fun hb => by
   have := told_pairs hf hhd (hsub.subset (List.getElem_mem h1)) (hsub.subset (List.getElem_mem hi)) he hb
   exact List.pairwise_iff_getElem.1 hnd (i - 1) i h1 hi (by omega) this
  omega
 ·have hal2 : ∀ id ∈ f.ids, id = x.a ∨ id = x.b ∨ speakR f.qs id x.a = false := fun id hid => by
   have := List.all_eq_true.1 ho id hid
   unfold onlyB at this
   simpa using this
  have hall : ∀ y ∈ allR f j, x ∈ y := fun y hy => no_choice hf hin hy hx hal2
  exact (hmem x).2 ⟨hall _ hhd, hall⟩
 ·obtain ⟨a, ha⟩ := List.length_eq_one_iff.1 h1
  have hla : l = a := by rw [ha] at hin; simpa using hin
  unfold sur8
  rw [ha, hla]
  simp only [List.headD_cons]
  refine List.filter_eq_self.2 fun x hx => ?_
  simp only [List.all_cons, List.all_nil, Bool.and_true]
  exact hasP_iff.2 hx
 ·have hj0 : j = 0 := by omega
  subst hj0
  have := allR_none f
  have := List.length_pos_iff.2 hne
  omega
 ·exact Nat.le_trans hsub.length_le (by rw [hT.len]; omega)
theorem askR_two {f : Flo} (hf : floOk f = true) : (askR f).2.2 = 0 ∨ askR f = ([], 0, 8) := by
 unfold askR
 rw [if_pos hf]
 split
 ·exact .inr rfl
 ·exact .inl rfl
theorem lsD {f : Flo} (hS : Sml f) : errL f = 0 → ∀ l ∈ lsF f, l.length ≤ 5 ∧ ∀ x ∈ l, OkP x := fun he l hl => by
 obtain ⟨k, hk, hb⟩ := lsF_told hS he
 exact ⟨by rw [(hb l hl).len]; omega, fun x hx => ((hb l hl).ok x hx).1⟩
set_option maxRecDepth 40000 in
set_option maxHeartbeats 16000000 in
theorem floorSure_con (f : Flo) : Con Tryz.prog 7 [.agg (flC f)] [tab8, HA.tab] (Is (.val (.bool true)) []) := by
 refine con_of Tryz.func7 rfl (enters_of Tryz.func7 (by kernel_rfl) rfl) rfl ?_; intro n w0 F0 G0
 (refine goSt ?_; (repeat (refine goAl ?_; intro p hp; refine goSt ?_)))
 (apply wl_callP (alive_con); exact rfl; exact goCutl; exact rfl)
 rintro _ _ ⟨rfl, rfl⟩
 (refine goSt ?_; (repeat (refine goAl ?_; intro p hp; refine goSt ?_)))
 (first | (apply wl_call (ready_con f); exact rfl; exact rfl) | (apply wl_callR (ready_con f); exact rfl; exact goAtm; exact rfl))
 (refine goSt ?_; (repeat (refine goAl ?_; intro p hp; refine goSt ?_)))
 cases hR : (!greatF f && floOk f) with
 | false =>
  (refine goSt ?_; (repeat (refine goAl ?_; intro p hp; refine goSt ?_)))
  (apply res1; exact rfl; exact rfl; exact ⟨rfl, rfl⟩)
 | true =>
  obtain ⟨hS, hok⟩ := ready_ok hR
  have hidl := (flo_f hok).ids
  have hqsl := hS.qs
  have NC := Count_con f hS
  have UC := Sure_con f hS (lsD hS)
  have SC := Settle_con f hS (lsB2 hS)
  have hF := sure_facts hS hok
  rw [cnt_eq hS] at NC
  rw [sur_eq hS] at UC
  rw [stl_eq hS] at SC
  rcases askR_two hok with h0 | h0
  ·have hF := hF h0
   have e1 : cntN8 f = (((askR f).1.length : Int), 0) := by unfold cntN8; rw [h0]
   have e2 : surN8 f = (sur8 (askR f).1, 0) := by unfold surN8; rw [if_pos h0]
   have e3 : stlN8 f = ((stlN8 f).1, 0) := by unfold stlN8; rw [if_pos h0]
   rw [e1] at NC
   rw [e2] at UC
   rw [e3] at SC
   generalize sur8 (askR f).1 = s at UC hF
   generalize (stlN8 f).1 = l at SC hF
   generalize (askR f).1 = xs at NC hF
   dsimp only at NC UC SC
   have hsl := hF.sn
   have hll := hF.ln
   (refine goSt ?_; (repeat (refine goAl ?_; intro p hp; refine goSt ?_)))
   (first | (apply wl_call (NC); exact rfl; exact rfl) | (apply wl_callR (NC); exact rfl; exact goAtm; exact rfl))
   (refine goSt ?_; (repeat (refine goAl ?_; intro p hp; refine goSt ?_)))
   (first | (apply wl_call (UC); exact rfl; exact rfl) | (apply wl_callR (UC); exact rfl; exact goAtm; exact rfl))
   (refine goSt ?_; (repeat (refine goAl ?_; intro p hp; refine goSt ?_)))
   (first | (apply wl_call (SC); exact rfl; exact rfl) | (apply wl_callR (SC); exact rfl; exact goAtm; exact rfl))
   (refine goSt ?_; (repeat (refine goAl ?_; intro p hp; refine goSt ?_)))
   refine W_loopJ (fun (k : Nat) => ⟨[(1, .val p), (3, .val (.bool true)), (4, .val (.int .i64 xs.length)), (6, .sl 3 payC s), (8, .sl 3 payC l), (72, .sl 3 payC s), (73, .val (.int .i64 s.length)), (74, .val (.int .i64 k))], [.box p (flC f) 27]⟩) (fun k => k ≤ s.length) (fun k => s.length - k) 0 (fun _ _ st => st_sub2 st goSubr goSubp) (Nat.zero_le _) ?_
   rintro k hk
   (refine goSt ?_; (repeat (refine goAl ?_; intro p hp; refine goSt ?_)))
   refine w_cond rfl (fun hlt => ?_) (fun hlt => ?_)
   ·have hlt' : k < s.length := by simpa using hlt
    have hkm : k - 1 < s.length := by omega
    have q1 : s[k]? = some s[k] := List.getElem?_eq_getElem hlt'
    have q2 : s[k - 1]? = some s[k - 1] := List.getElem?_eq_getElem hkm
    have HC := Has8_con l s[k] (by omega)
    rw [hasP_iff.2 (hF.sl _ (List.getElem_mem hlt'))] at HC
    have hod := hF.od k hlt' hkm
    (refine goSt ?_; (repeat (refine goAl ?_; intro p hp; refine goSt ?_)))
    by_cases hk0' : 0 < k
    ·obtain ⟨o1', o2'⟩ := hod hk0'
     have hk0 : decide ((0 : Int) < (k : Int)) = true := decide_eq_true (by omega)
     have o1 : decide (s[k].a < s[k - 1].a) = false := decide_eq_false o1'
     by_cases o2q : s[k - 1].a = s[k].a
     ·have o2 : decide (s[k - 1].a = s[k].a) = true := decide_eq_true o2q
      have o3 : decide (s[k].b ≤ s[k - 1].b) = false := decide_eq_false (by have := o2' o2q; omega)
      refine W_run 41 [79, 80, 81, 82, 83, 84, 85, 86, 87, 88, 89, 90, 91, 92, 93, 94, 95, 96, 97, 98, 99, 100, 101, 102, 103, 104, 105, 106, 107, 108, 109, 110, 111, 112, 113, 114, 115, 116, 117, 118, 119] [0, 1, 2, 3, 4, 5, 6, 7, 8, 9, 10, 11, 12, 13, 14, 15, 16, 17, 18, 19, 20, 21, 22, 23, 24, 25, 26, 27, 28, 29, 30, 31, 32, 33, 34, 35, 36, 37, 38, 39, 40] Cut.nil rfl goFlt mixedS (by kernel_rfl) rfl ?_
      refine rpv [] [] ?_
      refine rpv [] [] ?_
      refine Run.pv [0, 1] [] rfl (fun vs => by apply ltr_pk; exact goPk; (refine ltr ?_; refine lt_call ?_ ((HC)); exact rfl)) goApp ?_
      refine rpv [2] [] ?_
      refine rpv [3] [] ?_
      refine Run.yes [4] [] rfl rfl (fun vs => by apply look_pk; exact goPk; exact rfl) (fun vs => by apply ltr_pk; exact goPk; exact goLtr) goApp ?_
      refine Run.yes [4, 5] [] rfl rfl (fun vs => by apply look_pk; exact goPk; exact rfl) (fun vs => by apply ltr_pk; exact goPk; (refine ltr ?_; apply LT_bool true; apply lt_gtr; exact rfl; exact rfl; exact hk0)) goApp ?_
      refine Run.yes [4, 6] [] rfl rfl (fun vs => by apply look_pk; exact goPk; exact rfl) (fun vs => by apply ltr_pk; exact goPk; exact goLtr) goApp ?_
      refine Run.yes [7] [] rfl rfl (fun vs => by apply look_pk; exact goPk; exact rfl) (fun vs => by apply ltr_pk; exact goPk; exact goLtr) goApp ?_
      refine Run.yes [7] [] rfl rfl (fun vs => by apply look_pk; exact goPk; exact rfl) (fun vs => by apply ltr_pk; exact goPk; exact goLtr) goApp ?_
      refine Run.yes [7, 9] [] rfl rfl (fun vs => by apply look_pk; exact goPk; exact rfl) (fun vs => by apply ltr_pk; exact goPk; (refine ltr ?_; apply LT_int ((k - 1 : Nat) : Int); apply lt_sub; exact rfl; exact rfl; omega; omega; omega)) goApp ?_
      refine Run.yes [7, 8, 10] [] rfl rfl (fun vs => by apply look_pk; exact goPk; exact rfl) (fun vs => by apply ltr_pk; exact goPk; exact goLtr) goApp ?_
      refine Run.yes [7, 11] [] rfl rfl (fun vs => by apply look_pk; exact goPk; exact rfl) (fun vs => by apply ltr_pk; exact goPk; exact goLtr) goApp ?_
      refine Run.yes [7, 12] [] rfl rfl (fun vs => by apply look_pk; exact goPk; exact rfl) (fun vs => by apply ltr_pk; exact goPk; exact goLtr) goApp ?_
      refine Run.yes [7] [] rfl rfl (fun vs => by apply look_pk; exact goPk; exact rfl) (fun vs => by apply ltr_pk; exact goPk; exact goLtr) goApp ?_
      refine Run.yes [7, 14] [] rfl rfl (fun vs => by apply look_pk; exact goPk; exact rfl) (fun vs => by apply ltr_pk; exact goPk; exact goLtr) goApp ?_
      refine Run.yes [7, 13, 15] [] rfl rfl (fun vs => by apply look_pk; exact goPk; exact rfl) (fun vs => by apply ltr_pk; exact goPk; (refine ltr ?_; apply LT_bool false; apply lt_gtr; exact rfl; exact rfl; exact o1)) goApp ?_
      refine Run.yes [7, 16] [] rfl rfl (fun vs => by apply look_pk; exact goPk; exact rfl) (fun vs => by apply ltr_pk; exact goPk; exact goLtr) goApp ?_
      refine Run.yes [17] [] rfl rfl (fun vs => by apply look_pk; exact goPk; exact rfl) (fun vs => by apply ltr_pk; exact goPk; exact goLtr) goApp ?_
      refine Run.yes [17] [] rfl rfl (fun vs => by apply look_pk; exact goPk; exact rfl) (fun vs => by apply ltr_pk; exact goPk; exact goLtr) goApp ?_
      refine Run.yes [17, 19] [] rfl rfl (fun vs => by apply look_pk; exact goPk; exact rfl) (fun vs => by apply ltr_pk; exact goPk; (refine ltr ?_; apply LT_int ((k - 1 : Nat) : Int); apply lt_sub; exact rfl; exact rfl; omega; omega; omega)) goApp ?_
      refine Run.yes [17, 18, 20] [] rfl rfl (fun vs => by apply look_pk; exact goPk; exact rfl) (fun vs => by apply ltr_pk; exact goPk; exact goLtr) goApp ?_
      refine Run.yes [17, 21] [] rfl rfl (fun vs => by apply look_pk; exact goPk; exact rfl) (fun vs => by apply ltr_pk; exact goPk; exact goLtr) goApp ?_
      refine Run.yes [17, 22] [] rfl rfl (fun vs => by apply look_pk; exact goPk; exact rfl) (fun vs => by apply ltr_pk; exact goPk; exact goLtr) goApp ?_
      refine Run.yes [17] [] rfl rfl (fun vs => by apply look_pk; exact goPk; exact rfl) (fun vs => by apply ltr_pk; exact goPk; exact goLtr) goApp ?_
      refine Run.yes [17, 24] [] rfl rfl (fun vs => by apply look_pk; exact goPk; exact rfl) (fun vs => by apply ltr_pk; exact goPk; exact goLtr) goApp ?_
      refine Run.yes [17, 23, 25] [] rfl rfl (fun vs => by apply look_pk; exact goPk; exact rfl) (fun vs => by apply ltr_pk; exact goPk; (refine ltr ?_; apply LT_bool true; apply lt_eql; exact rfl; exact rfl; exact o2)) goApp ?_
      refine Run.yes [17, 26] [] rfl rfl (fun vs => by apply look_pk; exact goPk; exact rfl) (fun vs => by apply ltr_pk; exact goPk; exact goLtr) goApp ?_
      refine Run.yes [27] [] rfl rfl (fun vs => by apply look_pk; exact goPk; exact rfl) (fun vs => by apply ltr_pk; exact goPk; exact goLtr) goApp ?_
      refine Run.yes [27] [] rfl rfl (fun vs => by apply look_pk; exact goPk; exact rfl) (fun vs => by apply ltr_pk; exact goPk; exact goLtr) goApp ?_
      refine Run.yes [27, 29] [] rfl rfl (fun vs => by apply look_pk; exact goPk; exact rfl) (fun vs => by apply ltr_pk; exact goPk; (refine ltr ?_; apply LT_int ((k - 1 : Nat) : Int); apply lt_sub; exact rfl; exact rfl; omega; omega; omega)) goApp ?_
      refine Run.yes [27, 28, 30] [] rfl rfl (fun vs => by apply look_pk; exact goPk; exact rfl) (fun vs => by apply ltr_pk; exact goPk; exact goLtr) goApp ?_
      refine Run.yes [27, 31] [] rfl rfl (fun vs => by apply look_pk; exact goPk; exact rfl) (fun vs => by apply ltr_pk; exact goPk; exact goLtr) goApp ?_
      refine Run.yes [27, 32] [] rfl rfl (fun vs => by apply look_pk; exact goPk; exact rfl) (fun vs => by apply ltr_pk; exact goPk; exact goLtr) goApp ?_
      refine Run.yes [27] [] rfl rfl (fun vs => by apply look_pk; exact goPk; exact rfl) (fun vs => by apply ltr_pk; exact goPk; exact goLtr) goApp ?_
      refine Run.yes [27, 34] [] rfl rfl (fun vs => by apply look_pk; exact goPk; exact rfl) (fun vs => by apply ltr_pk; exact goPk; exact goLtr) goApp ?_
      refine Run.yes [27, 33, 35] [] rfl rfl (fun vs => by apply look_pk; exact goPk; exact rfl) (fun vs => by apply ltr_pk; exact goPk; (refine ltr ?_; apply LT_bool false; apply lt_geq; exact rfl; exact rfl; exact o3)) goApp ?_
      refine Run.yes [17, 27, 36] [] rfl rfl (fun vs => by apply look_pk; exact goPk; exact rfl) (fun vs => by apply ltr_pk; exact goPk; exact goLtr) goApp ?_
      refine Run.yes [7, 17, 37] [] rfl rfl (fun vs => by apply look_pk; exact goPk; exact rfl) (fun vs => by apply ltr_pk; exact goPk; exact goLtr) goApp ?_
      refine Run.yes [4, 7, 38] [] rfl rfl (fun vs => by apply look_pk; exact goPk; exact rfl) (fun vs => by apply ltr_pk; exact goPk; exact goLtr) goApp ?_
      refine rpv [4, 39] [] ?_
      refine ⟨⟨by kernel_rfl, by kernel_rfl⟩, fun vs => ?_⟩
      apply WL_auto [40]
      ·exact goPk
      ·exact goNrm
      ·kernel_rfl
      ·kernel_rfl
      (refine goSt ?_; (repeat (refine goAl ?_; intro p hp; refine goSt ?_)))
      (refine goSt ?_; (repeat (refine goAl ?_; intro p hp; refine goSt ?_)))
      (refine ⟨k + 1, fun _ _ st => st_sub2 st ?_ ?_, ?_, ?_⟩; exact goSubr; exact goSubp)
      ·exact hlt'
      ·omega
     ·have o2 : decide (s[k - 1].a = s[k].a) = false := decide_eq_false o2q
      refine W_run 41 [79, 80, 81, 82, 83, 84, 85, 86, 87, 88, 89, 90, 91, 92, 93, 94, 95, 96, 97, 98, 99, 100, 101, 102, 103, 104, 105, 106, 107, 108, 109, 110, 111, 112, 113, 114, 115, 116, 117, 118, 119] [0, 1, 2, 3, 4, 5, 6, 7, 8, 9, 10, 11, 12, 13, 14, 15, 16, 17, 18, 19, 20, 21, 22, 23, 24, 25, 26, 27, 28, 29, 30, 31, 32, 33, 34, 35, 36, 37, 38, 39, 40] Cut.nil rfl goFlt mixedS (by kernel_rfl) rfl ?_
      refine rpv [] [] ?_
      refine rpv [] [] ?_
      refine Run.pv [0, 1] [] rfl (fun vs => by apply ltr_pk; exact goPk; (refine ltr ?_; refine lt_call ?_ ((HC)); exact rfl)) goApp ?_
      refine rpv [2] [] ?_
      refine rpv [3] [] ?_
      refine Run.yes [4] [] rfl rfl (fun vs => by apply look_pk; exact goPk; exact rfl) (fun vs => by apply ltr_pk; exact goPk; exact goLtr) goApp ?_
      refine Run.yes [4, 5] [] rfl rfl (fun vs => by apply look_pk; exact goPk; exact rfl) (fun vs => by apply ltr_pk; exact goPk; (refine ltr ?_; apply LT_bool true; apply lt_gtr; exact rfl; exact rfl; exact hk0)) goApp ?_
      refine Run.yes [4, 6] [] rfl rfl (fun vs => by apply look_pk; exact goPk; exact rfl) (fun vs => by apply ltr_pk; exact goPk; exact goLtr) goApp ?_
      refine Run.yes [7] [] rfl rfl (fun vs => by apply look_pk; exact goPk; exact rfl) (fun vs => by apply ltr_pk; exact goPk; exact goLtr) goApp ?_
      refine Run.yes [7] [] rfl rfl (fun vs => by apply look_pk; exact goPk; exact rfl) (fun vs => by apply ltr_pk; exact goPk; exact goLtr) goApp ?_
      refine Run.yes [7, 9] [] rfl rfl (fun vs => by apply look_pk; exact goPk; exact rfl) (fun vs => by apply ltr_pk; exact goPk; (refine ltr ?_; apply LT_int ((k - 1 : Nat) : Int); apply lt_sub; exact rfl; exact rfl; omega; omega; omega)) goApp ?_
      refine Run.yes [7, 8, 10] [] rfl rfl (fun vs => by apply look_pk; exact goPk; exact rfl) (fun vs => by apply ltr_pk; exact goPk; exact goLtr) goApp ?_
      refine Run.yes [7, 11] [] rfl rfl (fun vs => by apply look_pk; exact goPk; exact rfl) (fun vs => by apply ltr_pk; exact goPk; exact goLtr) goApp ?_
      refine Run.yes [7, 12] [] rfl rfl (fun vs => by apply look_pk; exact goPk; exact rfl) (fun vs => by apply ltr_pk; exact goPk; exact goLtr) goApp ?_
      refine Run.yes [7] [] rfl rfl (fun vs => by apply look_pk; exact goPk; exact rfl) (fun vs => by apply ltr_pk; exact goPk; exact goLtr) goApp ?_
      refine Run.yes [7, 14] [] rfl rfl (fun vs => by apply look_pk; exact goPk; exact rfl) (fun vs => by apply ltr_pk; exact goPk; exact goLtr) goApp ?_
      refine Run.yes [7, 13, 15] [] rfl rfl (fun vs => by apply look_pk; exact goPk; exact rfl) (fun vs => by apply ltr_pk; exact goPk; (refine ltr ?_; apply LT_bool false; apply lt_gtr; exact rfl; exact rfl; exact o1)) goApp ?_
      refine Run.yes [7, 16] [] rfl rfl (fun vs => by apply look_pk; exact goPk; exact rfl) (fun vs => by apply ltr_pk; exact goPk; exact goLtr) goApp ?_
      refine Run.yes [17] [] rfl rfl (fun vs => by apply look_pk; exact goPk; exact rfl) (fun vs => by apply ltr_pk; exact goPk; exact goLtr) goApp ?_
      refine Run.yes [17] [] rfl rfl (fun vs => by apply look_pk; exact goPk; exact rfl) (fun vs => by apply ltr_pk; exact goPk; exact goLtr) goApp ?_
      refine Run.yes [17, 19] [] rfl rfl (fun vs => by apply look_pk; exact goPk; exact rfl) (fun vs => by apply ltr_pk; exact goPk; (refine ltr ?_; apply LT_int ((k - 1 : Nat) : Int); apply lt_sub; exact rfl; exact rfl; omega; omega; omega)) goApp ?_
      refine Run.yes [17, 18, 20] [] rfl rfl (fun vs => by apply look_pk; exact goPk; exact rfl) (fun vs => by apply ltr_pk; exact goPk; exact goLtr) goApp ?_
      refine Run.yes [17, 21] [] rfl rfl (fun vs => by apply look_pk; exact goPk; exact rfl) (fun vs => by apply ltr_pk; exact goPk; exact goLtr) goApp ?_
      refine Run.yes [17, 22] [] rfl rfl (fun vs => by apply look_pk; exact goPk; exact rfl) (fun vs => by apply ltr_pk; exact goPk; exact goLtr) goApp ?_
      refine Run.yes [17] [] rfl rfl (fun vs => by apply look_pk; exact goPk; exact rfl) (fun vs => by apply ltr_pk; exact goPk; exact goLtr) goApp ?_
      refine Run.yes [17, 24] [] rfl rfl (fun vs => by apply look_pk; exact goPk; exact rfl) (fun vs => by apply ltr_pk; exact goPk; exact goLtr) goApp ?_
      refine Run.yes [17, 23, 25] [] rfl rfl (fun vs => by apply look_pk; exact goPk; exact rfl) (fun vs => by apply ltr_pk; exact goPk; (refine ltr ?_; apply LT_bool false; apply lt_eql; exact rfl; exact rfl; exact o2)) goApp ?_
      refine Run.yes [17, 26] [] rfl rfl (fun vs => by apply look_pk; exact goPk; exact rfl) (fun vs => by apply ltr_pk; exact goPk; exact goLtr) goApp ?_
      refine Run.no [27] [] rfl rfl (fun vs => by apply look_pk; exact goPk; exact rfl) (by exact rfl) goApp ?_
      refine Run.no [27] [] rfl rfl (fun vs => by apply look_pk; exact goPk; exact rfl) (by exact rfl) goApp ?_
      refine Run.no [27, 29] [] rfl rfl (fun vs => by apply look_pk; exact goPk; exact rfl) (by exact rfl) goApp ?_
      refine Run.no [27, 28, 30] [] rfl rfl (fun vs => by apply look_pk; exact goPk; exact rfl) (by exact rfl) goApp ?_
      refine Run.no [27, 31] [] rfl rfl (fun vs => by apply look_pk; exact goPk; exact rfl) (by exact rfl) goApp ?_
      refine Run.no [27, 32] [] rfl rfl (fun vs => by apply look_pk; exact goPk; exact rfl) (by exact rfl) goApp ?_
      refine Run.no [27] [] rfl rfl (fun vs => by apply look_pk; exact goPk; exact rfl) (by exact rfl) goApp ?_
      refine Run.no [27, 34] [] rfl rfl (fun vs => by apply look_pk; exact goPk; exact rfl) (by exact rfl) goApp ?_
      refine Run.no [27, 33, 35] [] rfl rfl (fun vs => by apply look_pk; exact goPk; exact rfl) (by exact rfl) goApp ?_
      refine Run.yes [17, 27, 36] [] rfl rfl (fun vs => by apply look_pk; exact goPk; exact rfl) (fun vs => by apply ltr_pk; exact goPk; exact goLtr) goApp ?_
      refine Run.yes [7, 17, 37] [] rfl rfl (fun vs => by apply look_pk; exact goPk; exact rfl) (fun vs => by apply ltr_pk; exact goPk; exact goLtr) goApp ?_
      refine Run.yes [4, 7, 38] [] rfl rfl (fun vs => by apply look_pk; exact goPk; exact rfl) (fun vs => by apply ltr_pk; exact goPk; exact goLtr) goApp ?_
      refine rpv [4, 39] [] ?_
      refine ⟨⟨by kernel_rfl, by kernel_rfl⟩, fun vs => ?_⟩
      apply WL_auto [40]
      ·exact goPk
      ·exact goNrm
      ·kernel_rfl
      ·kernel_rfl
      (refine goSt ?_; (repeat (refine goAl ?_; intro p hp; refine goSt ?_)))
      (refine goSt ?_; (repeat (refine goAl ?_; intro p hp; refine goSt ?_)))
      (refine ⟨k + 1, fun _ _ st => st_sub2 st ?_ ?_, ?_, ?_⟩; exact goSubr; exact goSubp)
      ·exact hlt'
      ·omega
    ·have hk0 : decide ((0 : Int) < (k : Int)) = false := decide_eq_false (by omega)
     refine W_run 41 [79, 80, 81, 82, 83, 84, 85, 86, 87, 88, 89, 90, 91, 92, 93, 94, 95, 96, 97, 98, 99, 100, 101, 102, 103, 104, 105, 106, 107, 108, 109, 110, 111, 112, 113, 114, 115, 116, 117, 118, 119] [0, 1, 2, 3, 4, 5, 6, 7, 8, 9, 10, 11, 12, 13, 14, 15, 16, 17, 18, 19, 20, 21, 22, 23, 24, 25, 26, 27, 28, 29, 30, 31, 32, 33, 34, 35, 36, 37, 38, 39, 40] Cut.nil rfl goFlt mixedS (by kernel_rfl) rfl ?_
     refine rpv [] [] ?_
     refine rpv [] [] ?_
     refine Run.pv [0, 1] [] rfl (fun vs => by apply ltr_pk; exact goPk; (refine ltr ?_; refine lt_call ?_ ((HC)); exact rfl)) goApp ?_
     refine rpv [2] [] ?_
     refine rpv [3] [] ?_
     refine Run.yes [4] [] rfl rfl (fun vs => by apply look_pk; exact goPk; exact rfl) (fun vs => by apply ltr_pk; exact goPk; exact goLtr) goApp ?_
     refine Run.yes [4, 5] [] rfl rfl (fun vs => by apply look_pk; exact goPk; exact rfl) (fun vs => by apply ltr_pk; exact goPk; (refine ltr ?_; apply LT_bool false; apply lt_gtr; exact rfl; exact rfl; exact hk0)) goApp ?_
     refine Run.yes [4, 6] [] rfl rfl (fun vs => by apply look_pk; exact goPk; exact rfl) (fun vs => by apply ltr_pk; exact goPk; exact goLtr) goApp ?_
     refine Run.no [7] [] rfl rfl (fun vs => by apply look_pk; exact goPk; exact rfl) (by exact rfl) goApp ?_
     refine Run.no [7] [] rfl rfl (fun vs => by apply look_pk; exact goPk; exact rfl) (by exact rfl) goApp ?_
     refine Run.no [7, 9] [] rfl rfl (fun vs => by apply look_pk; exact goPk; exact rfl) (by exact rfl) goApp ?_
     refine Run.no [7, 8, 10] [] rfl rfl (fun vs => by apply look_pk; exact goPk; exact rfl) (by exact rfl) goApp ?_
     refine Run.no [7, 11] [] rfl rfl (fun vs => by apply look_pk; exact goPk; exact rfl) (by exact rfl) goApp ?_
     refine Run.no [7, 12] [] rfl rfl (fun vs => by apply look_pk; exact goPk; exact rfl) (by exact rfl) goApp ?_
     refine Run.no [7] [] rfl rfl (fun vs => by apply look_pk; exact goPk; exact rfl) (by exact rfl) goApp ?_
     refine Run.no [7, 14] [] rfl rfl (fun vs => by apply look_pk; exact goPk; exact rfl) (by exact rfl) goApp ?_
     refine Run.no [7, 13, 15] [] rfl rfl (fun vs => by apply look_pk; exact goPk; exact rfl) (by exact rfl) goApp ?_
     refine Run.no [7, 16] [] rfl rfl (fun vs => by apply look_pk; exact goPk; exact rfl) (by exact rfl) goApp ?_
     refine Run.noU [17] [] rfl rfl (fun vs => by apply look_pk; exact goPk; exact rfl) goApp ?_
     refine Run.noU [17] [] rfl rfl (fun vs => by apply look_pk; exact goPk; exact rfl) goApp ?_
     refine Run.noU [17, 19] [] rfl rfl (fun vs => by apply look_pk; exact goPk; exact rfl) goApp ?_
     refine Run.noU [17, 18, 20] [] rfl rfl (fun vs => by apply look_pk; exact goPk; exact rfl) goApp ?_
     refine Run.noU [17, 21] [] rfl rfl (fun vs => by apply look_pk; exact goPk; exact rfl) goApp ?_
     refine Run.noU [17, 22] [] rfl rfl (fun vs => by apply look_pk; exact goPk; exact rfl) goApp ?_
     refine Run.noU [17] [] rfl rfl (fun vs => by apply look_pk; exact goPk; exact rfl) goApp ?_
     refine Run.noU [17, 24] [] rfl rfl (fun vs => by apply look_pk; exact goPk; exact rfl) goApp ?_
     refine Run.noU [17, 23, 25] [] rfl rfl (fun vs => by apply look_pk; exact goPk; exact rfl) goApp ?_
     refine Run.noU [17, 26] [] rfl rfl (fun vs => by apply look_pk; exact goPk; exact rfl) goApp ?_
     refine Run.noU [27] [] rfl rfl (fun vs => by apply look_pk; exact goPk; exact rfl) goApp ?_
     refine Run.noU [27] [] rfl rfl (fun vs => by apply look_pk; exact goPk; exact rfl) goApp ?_
     refine Run.noU [27, 29] [] rfl rfl (fun vs => by apply look_pk; exact goPk; exact rfl) goApp ?_
     refine Run.noU [27, 28, 30] [] rfl rfl (fun vs => by apply look_pk; exact goPk; exact rfl) goApp ?_
     refine Run.noU [27, 31] [] rfl rfl (fun vs => by apply look_pk; exact goPk; exact rfl) goApp ?_
     refine Run.noU [27, 32] [] rfl rfl (fun vs => by apply look_pk; exact goPk; exact rfl) goApp ?_
     refine Run.noU [27] [] rfl rfl (fun vs => by apply look_pk; exact goPk; exact rfl) goApp ?_
     refine Run.noU [27, 34] [] rfl rfl (fun vs => by apply look_pk; exact goPk; exact rfl) goApp ?_
     refine Run.noU [27, 33, 35] [] rfl rfl (fun vs => by apply look_pk; exact goPk; exact rfl) goApp ?_
     refine Run.noU [17, 27, 36] [] rfl rfl (fun vs => by apply look_pk; exact goPk; exact rfl) goApp ?_
     refine Run.no [7, 17, 37] [] rfl rfl (fun vs => by apply look_pk; exact goPk; exact rfl) (by exact rfl) goApp ?_
     refine Run.yes [4, 7, 38] [] rfl rfl (fun vs => by apply look_pk; exact goPk; exact rfl) (fun vs => by apply ltr_pk; exact goPk; exact goLtr) goApp ?_
     refine rpv [4, 39] [] ?_
     refine ⟨⟨by kernel_rfl, by kernel_rfl⟩, fun vs => ?_⟩
     apply WL_auto [40]
     ·exact goPk
     ·exact goNrm
     ·kernel_rfl
     ·kernel_rfl
     (refine goSt ?_; (repeat (refine goAl ?_; intro p hp; refine goSt ?_)))
     (refine goSt ?_; (repeat (refine goAl ?_; intro p hp; refine goSt ?_)))
     (refine ⟨k + 1, fun _ _ st => st_sub2 st ?_ ?_, ?_, ?_⟩; exact goSubr; exact goSubp)
     ·exact hlt'
     ·omega
   ·clear hlt hk
    (refine goSt ?_; (repeat (refine goAl ?_; intro p hp; refine goSt ?_)))
    refine W_loopJ (fun (m : Nat) => ⟨[(1, .val p), (3, .val (.bool true)), (4, .val (.int .i64 xs.length)), (6, .sl 3 payC s), (8, .sl 3 payC l), (121, .sl 3 payC l), (122, .val (.int .i64 l.length)), (123, .val (.int .i64 m))], [.box p (flC f) 27]⟩) (fun m => m ≤ l.length) (fun m => l.length - m) 0 (fun _ _ st => st_sub2 st goSubr goSubp) (Nat.zero_le _) ?_
    rintro m hm
    (refine goSt ?_; (repeat (refine goAl ?_; intro p hp; refine goSt ?_)))
    refine w_cond rfl (fun hlt => ?_) (fun hlt => ?_)
    ·have hlt' : m < l.length := by simpa using hlt
     have hxm := hF.on _ (List.getElem_mem hlt')
     have hq : l[m]? = some l[m] := List.getElem?_eq_getElem hlt'
     (refine goSt ?_; (repeat (refine goAl ?_; intro p hp; refine goSt ?_)))
     rename_i pf hpf hF0
     generalize l[m] = x at hxm hq ⊢
     refine W_loopJ (fun (b : Nat × Bool) => ⟨[(1, .val pf), (3, .val (.bool true)), (4, .val (.int .i64 xs.length)), (6, .sl 3 payC s), (8, .sl 3 payC l), (13, .val p), (14, .val (.bool b.2)), (121, .sl 3 payC l), (122, .val (.int .i64 l.length)), (123, .val (.int .i64 m)), (128, .sl 1 iC f.ids), (129, .val (.int .i64 f.ids.length)), (130, .val (.int .i64 b.1))], [.box p (payC x) 42, .box pf (flC f) 27]⟩) (fun b => b.1 ≤ f.ids.length ∧ b.2 = (f.ids.take b.1).all (onlyB f x)) (fun b => f.ids.length - b.1) (0, true) (fun _ _ st => st_sub2 st goSubr goSubp) ⟨Nat.zero_le _, by simp⟩ ?_
     rintro ⟨j, on⟩ ⟨hj, hon⟩
     dsimp only at hj hon ⊢
     (refine goSt ?_; (repeat (refine goAl ?_; intro p hp; refine goSt ?_)))
     refine w_cond rfl (fun hlt2 => ?_) (fun hlt2 => ?_)
     ·have hj' : j < f.ids.length := by simpa using hlt2
      have hqj : f.ids[j]? = some f.ids[j] := List.getElem?_eq_getElem hj'
      have hst : (f.ids.take (j + 1)).all (onlyB f x) = (on && onlyB f x f.ids[j]) := by
       rw [List.take_succ_eq_append_getElem hj', List.all_append, ← hon]
       simp
      have SK := speak8_con f f.ids[j] x.a (by omega)
      unfold onlyB at hst
      cases on with
      | false =>
       rw [Bool.false_and] at hst
       (refine goSt ?_; (repeat (refine goAl ?_; intro p hp; refine goSt ?_)))
       (refine ⟨(j + 1, false), fun _ _ st => st_sub2 st ?_ ?_, ?_, ?_⟩; exact goSubr; exact goSubp)
       ·exact ⟨hj', hst.symm⟩
       ·dsimp only; omega
      | true =>
       rw [Bool.true_and] at hst
       (refine goSt ?_; (repeat (refine goAl ?_; intro p hp; refine goSt ?_)))
       generalize f.ids[j] = id at hst SK hqj ⊢
       cases hb1 : decide (id = x.a) with
       | true =>
        rw [hb1, Bool.true_or] at hst
        (refine goSt ?_; (repeat (refine goAl ?_; intro p hp; refine goSt ?_)))
        (refine ⟨(j + 1, true), fun _ _ st => st_sub2 st ?_ ?_, ?_, ?_⟩; exact goSubr; exact goSubp)
        ·exact ⟨hj', hst.symm⟩
        ·dsimp only; omega
       | false =>
        rw [hb1, Bool.false_or] at hst
        (refine goSt ?_; (repeat (refine goAl ?_; intro p hp; refine goSt ?_)))
        cases hb2 : decide (id = x.b) with
        | true =>
         rw [hb2, Bool.true_or] at hst
         (refine goSt ?_; (repeat (refine goAl ?_; intro p hp; refine goSt ?_)))
         (refine ⟨(j + 1, true), fun _ _ st => st_sub2 st ?_ ?_, ?_, ?_⟩; exact goSubr; exact goSubp)
         ·exact ⟨hj', hst.symm⟩
         ·dsimp only; omega
        | false =>
         rw [hb2, Bool.false_or] at hst
         (refine goSt ?_; (repeat (refine goAl ?_; intro p hp; refine goSt ?_)))
         (first | (apply wl_call (SK); exact rfl; exact rfl) | (apply wl_callR (SK); exact rfl; exact goAtm; exact rfl))
         (refine goSt ?_; (repeat (refine goAl ?_; intro p hp; refine goSt ?_)))
         (refine ⟨(j + 1, !speakR f.qs id x.a), fun _ _ st => st_sub2 st ?_ ?_, ?_, ?_⟩; exact goSubr; exact goSubp)
         ·exact ⟨hj', hst.symm⟩
         ·dsimp only; omega
     ·have hjj : j = f.ids.length := by simp at hlt2; omega
      subst hjj
      rw [List.take_length] at hon
      have HC := Has8_con s x (by omega)
      cases on with
      | true =>
       rw [hasP_iff.2 (hxm hon.symm)] at HC
       (refine goSt ?_; (repeat (refine goAl ?_; intro p hp; refine goSt ?_)))
       (first | (apply wl_call (HC); exact rfl; exact rfl) | (apply wl_callR (HC); exact rfl; exact goAtm; exact rfl))
       (refine goSt ?_; (repeat (refine goAl ?_; intro p hp; refine goSt ?_)))
       (refine ⟨m + 1, fun _ _ st => st_sub2 st ?_ ?_, ?_, ?_⟩; exact goSubr; exact goSubp)
       ·exact hlt'
       ·omega
      | false =>
       (refine goSt ?_; (repeat (refine goAl ?_; intro p hp; refine goSt ?_)))
       (refine ⟨m + 1, fun _ _ st => st_sub2 st ?_ ?_, ?_, ?_⟩; exact goSubr; exact goSubp)
       ·exact hlt'
       ·omega
    ·clear hlt hm
     have z1 : decide ((1 : Int) ≤ (xs.length : Int)) = true := decide_eq_true (by have := hF.ne; omega)
     (refine goSt ?_; (repeat (refine goAl ?_; intro p hp; refine goSt ?_)))
     rw [z1]
     (refine goSt ?_; (repeat (refine goAl ?_; intro p hp; refine goSt ?_)))
     by_cases hone : xs.length = 1
     ·have hsl2 := hF.one hone
      subst hsl2
      rw [show decide ((1 : Int) < (xs.length : Int)) = false from decide_eq_false (by omega)]
      (refine goSt ?_; (repeat (refine goAl ?_; intro p hp; refine goSt ?_)))
      (first | (apply wl_call (samePays_con s s (by omega) (by omega)); exact rfl; exact rfl) | (apply wl_callR (samePays_con s s (by omega) (by omega)); exact rfl; exact goAtm; exact rfl))
      (refine goSt ?_; (repeat (refine goAl ?_; intro p hp; refine goSt ?_)))
      rw [show decide (s = s) = true by simp]
      (refine goSt ?_; (repeat (refine goAl ?_; intro p hp; refine goSt ?_)))
      cases decide ((0 : Int) < (s.length : Int)) with
      | true =>
       (refine goSt ?_; (repeat (refine goAl ?_; intro p hp; refine goSt ?_)))
       (apply res1; exact rfl; exact rfl; exact ⟨rfl, rfl⟩)
      | false =>
       (refine goSt ?_; (repeat (refine goAl ?_; intro p hp; refine goSt ?_)))
       rw [show decide ((xs.length : Int) = 1) = true from decide_eq_true (by omega)]
       (apply res1; exact rfl; exact rfl; exact ⟨rfl, rfl⟩)
     ·have hn := hF.ne
      rw [show decide ((1 : Int) < (xs.length : Int)) = true from decide_eq_true (by omega)]
      (refine goSt ?_; (repeat (refine goAl ?_; intro p hp; refine goSt ?_)))
      have hl0 : 0 < l.length := by
       rcases Nat.eq_zero_or_pos l.length with h | h
       ·exact absurd (hF.none h) hone
       ·exact h
      rw [show decide ((0 : Int) < (l.length : Int)) = true from decide_eq_true (by omega)]
      (refine goSt ?_; (repeat (refine goAl ?_; intro p hp; refine goSt ?_)))
      (apply res1; exact rfl; exact rfl; exact ⟨rfl, rfl⟩)
  ·have e1 : cntN8 f = (0, 8) := by unfold cntN8; rw [h0]; rfl
   have e2 : surN8 f = ([], 8) := by unfold surN8; rw [h0]; rfl
   have e3 : stlN8 f = ([], 8) := by unfold stlN8; rw [h0]; rfl
   rw [e1] at NC
   rw [e2] at UC
   rw [e3] at SC
   dsimp only at NC UC SC
   (refine goSt ?_; (repeat (refine goAl ?_; intro p hp; refine goSt ?_)))
   (first | (apply wl_call (NC); exact rfl; exact rfl) | (apply wl_callR (NC); exact rfl; exact goAtm; exact rfl))
   (refine goSt ?_; (repeat (refine goAl ?_; intro p hp; refine goSt ?_)))
   (first | (apply wl_call (UC); exact rfl; exact rfl) | (apply wl_callR (UC); exact rfl; exact goAtm; exact rfl))
   (refine goSt ?_; (repeat (refine goAl ?_; intro p hp; refine goSt ?_)))
   (first | (apply wl_call (SC); exact rfl; exact rfl) | (apply wl_callR (SC); exact rfl; exact goAtm; exact rfl))
   (refine goSt ?_; (repeat (refine goAl ?_; intro p hp; refine goSt ?_)))
   (apply res1; exact rfl; exact rfl; exact ⟨rfl, rfl⟩)
end Go.Proofs.YtihonljdanjfmaaGreatDoor.Sw
