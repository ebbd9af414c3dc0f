/- Proofs for one card: Reg, RegIn, Sw, SwOps, SwAny, App, SwOps2, SwOps3, SwR, SwF, SwG, SwH, DoorG, FloorC, Row, Steps, Left, Best, EdL, Comes, FloorY, FloorM, Gr2, Gr3, SwI, SwL, SwM, SwB, FloorCa, FloorLb, SwS, FloorCe, FloorCg, FloorLk, SwN, FloorPc, FloorCj, SwQ, OAa, OQa, OQb, OPa, FloorPays, OSa, OTa, OHa, OTb, OTc, OTd, OGa, OCa, FloorQuarrel, FloorCheapest. No condition of its own. -/
import Derived.WalkKit
import Derived.Handy
import Derived.Deep.AppendSrc
import Derived.OrdersHeld
import Derived.Deep.RegionHeld
import Derived.OrdersIn
import Derived.RangeFuncCalls
import Derived.RangeFuncNested
import Derived.RangeFuncLeaves
import Derived.IntWalk
import Derived.WalkSpells
import Derived.Maps.AppendAt
import Derived.Deep.AppendLies
import Derived.OwnWalk
import Derived.LoopNIn
import Derived.RangeFuncBound
import Derived.Test.YtihonljdanjfmaaGreatDoorProg
import Derived.Test.YtihonljdanjfmaaGreatDoorCards
import Derived.Test.YtihonljdanjfmaaGreatDoorTie
import Derived.ProofKit
import Derived.OpenShut
import Derived.LaidMore
import Derived.LaidOnce
import Derived.ChangeOld
import Derived.Below
import Derived.Stop.Joined
import Derived.Lib.SmallJoins
import Derived.Deep.Slices
import Derived.WalkSmall
import Derived.Shelf.Abstract
import Derived.Laws.EntriesVeiled
import Derived.ChangeSame
import Derived.Deep.Strs
import Derived.Outline
import Derived.Deep.QuietTactic
import Derived.BigQuiet
import Derived.Deep.RegionHeld3
import Derived.DeepKeys4
import Derived.Maps.OwnIn
import Derived.OwnWalkIn
import Derived.Shelf.RegionOpen
import Derived.TacticsInMore
import Derived.Sort.BigQuietIn
import Derived.LoopIn
import Derived.WalkMore
import Derived.Maps.Views
import Derived.Lib.AppendZerosOnto
import Derived.Lib.Walk
import Derived.Lib.SliceRun
import Derived.Laws.MakeOwn
import Derived.Deep.Cut
import Derived.Lib.LazyBuf
import Derived.Scope
import Derived.WideKeyEntry
import Derived.Test.YtihonljdanjfmaaGreatDoorZd9
set_option linter.unusedVariables false
set_option linter.unusedSimpArgs false
set_option maxRecDepth 40000
set_option maxHeartbeats 32000000
namespace Go.Proofs.YtihonljdanjfmaaGreatDoor
open Go.RowKit Go
section
variable {P : Program} {ops : Array Oper} {Q : Exit → Act → World → Prop} {S : World → Prop} {held : List Nat}
end
section
variable {F : Fence} {n : Nat} {P : Program} {ops : Array Oper} {Q : Exit → Act → World → Prop} {S : World → Prop} {held : List Nat}
end
end Go.Proofs.YtihonljdanjfmaaGreatDoor
namespace Go.Proofs.YtihonljdanjfmaaGreatDoor.Sw
open Go.RowKit Go
section
variable {c : Cx} {s : S} {Q : Exit → S → Prop}
end
section
variable {c : Cx} {s : S} {Q : Exit → S → Prop} {ops : Array Oper} {tl : List Oper}
end
section
variable {c : Cx} {s : S} {Q : Exit → S → Prop} {ops : Array Oper} {tl : List Oper}
end
section
variable {P : Program} {rs : List (Nat × AV)} {d : Option Nat} {ty : TypeId} {pos : String} {af : Array Edge} {g : Option (Nat × Bool)}
end
section
variable {c : Cx} {s : S} {Q : Exit → S → Prop} {ops : Array Oper} {tl : List Oper}
end
section
variable {c : Cx} {rs : List (Nat × AV)} {hs : List HA} {Q : Exit → S → Prop} {ops : Array Oper} {tl : List Oper} {d : Nat} {op : Op} {ty : TypeId} {pos : String} {af : Array Edge}
end
section
variable {c : Cx} {rs : List (Nat × AV)} {hs : List HA} {Q : Exit → S → Prop} {ops : Array Oper} {tl : List Oper} {d : Nat} {ty : TypeId} {pos : String} {af : Array Edge} {x y : Operand} {t tb : TypeId} {p : Value} {j : Nat} {cs : List AV} {f : HA → List HA}
end
section
variable (ops : Array Oper) (m : Nat) (sp : List Sp) (hs0 : List HA)
end
section
variable {c : Cx} {ops : Array Oper} {m : Nat} {sp : List Sp} {hs0 hsR : List HA} {rsB : List (Nat × AV)} {Q : Exit → S → Prop}
end
section
variable {P : Program} {rs : List (Nat × AV)} {hsR : List HA} {d : Option Nat} {ty : TypeId} {pos : String} {af : Array Edge} {g : Option (Nat × Bool)} {x : Operand} {t tb : TypeId} {p : Value} {j : Nat} {cs : List AV} {f : HA → List HA}
end
end Go.Proofs.YtihonljdanjfmaaGreatDoor.Sw
namespace Go.Proofs.YtihonljdanjfmaaGreatDoor
open Go.RowKit Go
section
variable {P : Program} (w : World)
end
end Go.Proofs.YtihonljdanjfmaaGreatDoor
namespace Go.Proofs.YtihonljdanjfmaaGreatDoor.Sw
open Go.RowKit Go
section
variable {P : Program} {rs : List (Nat × AV)} {d : Option Nat} {ty : TypeId} {pos : String} {af : Array Edge} {g : Option (Nat × Bool)}
end
section
variable {P : Program} {rs : List (Nat × AV)} {d : Option Nat} {ty : TypeId} {pos : String} {af : Array Edge} {g : Option (Nat × Bool)}
end
section
variable {c : Cx} {rs : List (Nat × AV)} {hs : List HA} {Q : Exit → S → Prop} {ops : Array Oper} {tl : List Oper} {d : Nat} {ty : TypeId} {pos : String} {af : Array Edge}
end
section
variable {c : Cx} {rs : List (Nat × AV)} {hs : List HA} {Q : Exit → S → Prop} {ops : Array Oper} {tl : List Oper} {d : Nat} {ty : TypeId} {pos : String} {af : Array Edge}
end
section
variable {P : Program} {rs : List (Nat × AV)} {d : Option Nat} {ty : TypeId} {pos : String} {af : Array Edge} {g : Option (Nat × Bool)}
end
section
variable {c : Cx} {rs : List (Nat × AV)} {hs : List HA} {Q : Exit → S → Prop} {ops : Array Oper} {tl : List Oper} {d : Nat} {ty : TypeId} {pos : String} {af : Array Edge}
end
section
variable {P : Program} {rs : List (Nat × AV)} {hsR : List HA} {d : Option Nat} {ty : TypeId} {pos : String} {af : Array Edge} {g : Option (Nat × Bool)}
end
section
variable {P : Program} {rs : List (Nat × AV)} {hsR : List HA} {d : Option Nat} {ty : TypeId} {pos : String} {af : Array Edge} {g : Option (Nat × Bool)}
end
section
variable {c : Cx} {rs : List (Nat × AV)} {hs : List HA} {Q : Exit → S → Prop} {ops : Array Oper} {tl : List Oper} {d : Nat} {ty : TypeId} {pos : String} {af : Array Edge}
end
section
variable {c : Cx} {rs : List (Nat × AV)} {hs : List HA} {Q : Exit → S → Prop} {g : Operand} {ps : Array Tmp} {assign body : Code} {gf : FuncId} {caps : List AV} {own r : List HA} {α β τ : Type} {f : α → τ → List AV} {t : α → τ → List HA} {xs : List α}
end
section
variable {P : Program} {rs : List (Nat × AV)} {hsR : List HA} {d : Option Nat} {ty : TypeId} {pos : String} {af : Array Edge} {g : Option (Nat × Bool)}
end
section
variable {c : Cx} {rs : List (Nat × AV)} {hs : List HA} {Q : Exit → S → Prop} {ops : Array Oper} {tl : List Oper} {d : Nat} {ty : TypeId} {pos : String} {af : Array Edge}
end
end Go.Proofs.YtihonljdanjfmaaGreatDoor.Sw
namespace Go.Proofs.YtihonljdanjfmaaGreatDoor.Sw
open Go Go.RowKit Go.ChangeShapes Go.WideShapes Go.ChangeAt
end Go.Proofs.YtihonljdanjfmaaGreatDoor.Sw
namespace Go.Proofs.YtihonljdanjfmaaGreatDoor
open Go Go.ChangeShapes Go.WideShapes Go.ChangeAt Go.RowKit
theorem laidOut : laidOutB Tryz.prog = true := by kernel_rfl
end Go.Proofs.YtihonljdanjfmaaGreatDoor
namespace Go.Proofs.YtihonljdanjfmaaGreatDoor.Sw
open Go Go.RowKit Go.ChangeShapes Go.WideShapes Go.ChangeAt
set_option maxRecDepth 100000
end Go.Proofs.YtihonljdanjfmaaGreatDoor.Sw
namespace Go.Proofs.YtihonljdanjfmaaGreatDoor.Sw
open Go.RowKit Go Go.Shelf Go.Proofs
end Go.Proofs.YtihonljdanjfmaaGreatDoor.Sw
namespace Go.Proofs.YtihonljdanjfmaaGreatDoor
open Go.RowKit Go
section
variable {α : Type} {f : α → List Value} {n : Nat}
end
end Go.Proofs.YtihonljdanjfmaaGreatDoor
namespace Go.Proofs.YtihonljdanjfmaaGreatDoor
open Go.RowKit Go.Proofs Go.Shelf
attribute [local go_sem] Oper.semAt_some
attribute [local go_sem] Oper.semAt_some
attribute [local go_sem] eqPlace
attribute [local go_sem] Oper.semAt_some
def nxt (st fo : List Int) (i k : Nat) : Nx :=
 if h : i < st.length ∧ k < fo.length then
  if st[i]'h.1 = fo[k]'h.2 then ⟨i + 1, k + 1, []⟩
  else if dd st fo i k = dd st fo (i + 1) (k + 1) + 1 then ⟨i + 1, k + 1, [⟨3, k, fo[k]'h.2⟩]⟩
  else if dd st fo i k = dd st fo (i + 1) k + 1 then ⟨i + 1, k, [⟨1, k, 0⟩]⟩
  else ⟨i, k + 1, [⟨2, k, fo[k]'h.2⟩]⟩
 else if i < st.length then ⟨i + 1, k, [⟨1, k, 0⟩]⟩
 else if h : k < fo.length then ⟨i, k + 1, [⟨2, k, fo[k]⟩]⟩
 else ⟨i, k, []⟩
attribute [local go_sem] Oper.semAt_some
end Go.Proofs.YtihonljdanjfmaaGreatDoor
namespace Go.Proofs.YtihonljdanjfmaaGreatDoor.Sw
open Go.RowKit Go Go.Shelf Go.Proofs
theorem speak8_con (f : Flo) (a b : Int) (hl : f.qs.length ≤ 1000) : Con Tryz.prog 20 [.agg (flC f), .val (.int .i64 a), .val (.int .i64 b)] [] (Is (.val (.bool (speakR f.qs a b))) []) := by
 refine con_of Tryz.func20 rfl (enters_of Tryz.func20 (by kernel_rfl) rfl) rfl ?_; intro n w0 F0 G0
 refine zS ?_;repeat(refine yA ?_;intro p hp;refine zS ?_)
 refine W_loopJ (fun (k : Nat) => ⟨[(1, .val (.int .i64 a)), (2, .val (.int .i64 b)), (10, .sl 2 quC f.qs), (11, .val (.int .i64 f.qs.length)), (12, .val (.int .i64 k))], []⟩) (fun k => k ≤ f.qs.length ∧ (f.qs.take k).any (hits a b) = false) (fun k => f.qs.length - k) 0 (fun _ _ st => st_sub2 st zR zP) ?hj0 ?round
 case hj0 => simp
 case round =>
  rintro k ⟨hk, hno⟩
  refine zS ?_;repeat(refine yA ?_;intro p hp;refine zS ?_)
  refine w_cond rfl (fun hlt => ?_) (fun hlt => ?_)
  ·have hlt' : k < f.qs.length := by simpa using hlt
   have htk : f.qs.take (k + 1) = f.qs.take k ++ [f.qs[k]] := List.take_succ_eq_append_getElem hlt'
   refine zS ?_;repeat(refine yA ?_;intro p hp;refine zS ?_)
   have fin : hits a b f.qs[k] = true → speakR f.qs a b = false := fun h => by
    have : f.qs.any (hits a b) = true := List.any_eq_true.2 ⟨_, List.getElem_mem hlt', h⟩
    simp [speakR, this]
   have nxt : hits a b f.qs[k] = false → (f.qs.take (k + 1)).any (hits a b) = false := fun h => by rw [htk, List.any_append, hno]; simpa using h
   refine wl_part rfl rfl (fun g1 => ?_) (fun g1 => ?_)
   ·refine zS ?_;repeat(refine yA ?_;intro p hp;refine zS ?_)
    refine w_cond rfl (fun g2 => ?_) (fun g2 => ?_)
    ·have := fin (by unfold hits; rw [g1, g2]; rfl)
     refine zS ?_;repeat(refine yA ?_;intro p hp;refine zS ?_)
     (apply res1; exact rfl; exact rfl; exact ⟨(congrArg (fun b => AV.val (Value.bool b)) this.symm), rfl⟩)
    ·have := nxt (by unfold hits; rw [g1, g2]; rfl)
     refine zS ?_;repeat(refine yA ?_;intro p hp;refine zS ?_)
     (refine ⟨k + 1, fun _ _ st => st_sub2 st ?_ ?_, ?_, ?_⟩; exact zR; exact zP)
     ·exact ⟨by omega, this⟩
     ·omega
   ·have := nxt (by unfold hits; rw [g1]; rfl)
    refine zS ?_;repeat(refine yA ?_;intro p hp;refine zS ?_)
    (refine ⟨k + 1, fun _ _ st => st_sub2 st ?_ ?_, ?_, ?_⟩; exact zR; exact zP)
    ·exact ⟨by omega, this⟩
    ·omega
  ·refine zS ?_;repeat(refine yA ?_;intro p hp;refine zS ?_)
   have hkk : k = f.qs.length := by simp at hlt; omega
   subst hkk
   rw [List.take_length] at hno
   (apply res1; exact rfl; exact rfl; exact ⟨(congrArg (fun b => AV.val (Value.bool b)) (by simp [speakR, hno])), rfl⟩)
end Go.Proofs.YtihonljdanjfmaaGreatDoor.Sw
namespace Go.Proofs.YtihonljdanjfmaaGreatDoor.Gr
open Go.Proofs.YtihonljdanjfmaaGreatDoor.Sw (Pay)
theorem treeGo_ok {ids : List Int} : ∀ {m : Nat} {L : List (Nat × Nat)} {left : List Int} {out : List Pay}, L.length = m → Ok ids.length L → left.length = ids.length → Zr ids.length L (lf left) → Min ids.length L (lf left) → ∃ r, treeGo ids m L left out = some r ∧ ∀ v, v < ids.length → lf r.1 v = 0
 | 0, L, left, out, hl, hok, hlen, hz, hm => by
  have : L = [] := List.eq_nil_of_length_eq_zero hl
  subst this
  exact ⟨(left, out), rfl, zr_nil hz⟩
 | m + 1, L, left, out, hl, hok, hlen, hz, hm => by
  obtain ⟨i0, e0, hi0, hl0⟩ := hm.leaf hok hz (by intro h; rw [h] at hl; simp at hl)
  obtain ⟨⟨i, e⟩, hf⟩ := findLeaf_of hok.nd hi0 hl0
  obtain ⟨hi, hle⟩ := findLeaf_some hf
  obtain ⟨hon, hne, _, _⟩ := oth_spec hok hle.1 hle.2.1
  have hx := hm.left hok hz hle
  unfold treeGo
  rw [hf]
  dsimp only
  rw [if_neg (by exact hx)]
  refine treeGo_ok (by rw [List.length_erase_of_mem hle.1]; omega) (hok.erase e) (by rw [mvL_len, hlen]) ?_ ?_
  ·rw [lf_mvL (by omega) (by omega)]; exact step_zr hok hz hle
  ·rw [lf_mvL (by omega) (by omega)]; exact step_min hok hm hle
theorem treeR_ok {ids : List Int} {L : List (Nat × Nat)} {owed : List Int} (hok : Ok ids.length L) (hlen : owed.length = ids.length) (hz : Zr ids.length L (lf owed)) (hm : Min ids.length L (lf owed)) : ∃ out, treeR ids L owed = some out := by
 obtain ⟨r, hr, h0⟩ := treeGo_ok (out := []) rfl hok hlen hz hm
 refine ⟨r.2, ?_⟩
 unfold treeR
 rw [hr]
 dsimp only
 rw [if_pos (all_zero.2 (by rw [treeGo_len hr, hlen]; exact h0))]
theorem Zr.sup {n : Nat} {L S : List (Nat × Nat)} {x : Nat → Int} (h : Zr n S x) (hs : ∀ p ∈ S, p ∈ L) : Zr n L x := fun P hP => h P fun p hp => hP p (hs p hp)
end Go.Proofs.YtihonljdanjfmaaGreatDoor.Gr
namespace Go.Proofs.YtihonljdanjfmaaGreatDoor.Sw
open Go.RowKit Go
section
variable {P : Program} {rs : List (Nat × AV)} {hsR : List HA} {d : Option Nat} {ty : TypeId} {pos : String} {af : Array Edge} {g : Option (Nat × Bool)}
end
section
variable {c : Cx} {rs : List (Nat × AV)} {hs : List HA} {Q : Exit → S → Prop} {ops : Array Oper} {tl : List Oper} {d : Nat} {ty : TypeId} {pos : String} {af : Array Edge}
end
section
variable {P : Program} {rs : List (Nat × AV)} {d : Option Nat} {ty : TypeId} {pos : String} {af : Array Edge} {g : Option (Nat × Bool)}
end
section
variable {c : Cx} {rs : List (Nat × AV)} {hs : List HA} {Q : Exit → S → Prop} {ops : Array Oper} {tl : List Oper} {d : Nat} {ty : TypeId} {pos : String} {af : Array Edge}
end
section
variable {P : Program} {rs : List (Nat × AV)} {d : Option Nat} {ty : TypeId} {pos : String} {af : Array Edge} {g : Option (Nat × Bool)}
end
section
variable {c : Cx} {rs : List (Nat × AV)} {hs : List HA} {Q : Exit → S → Prop} {ops : Array Oper} {tl : List Oper} {d : Nat} {ty : TypeId} {pos : String} {af : Array Edge}
end
end Go.Proofs.YtihonljdanjfmaaGreatDoor.Sw
namespace Go.Proofs.YtihonljdanjfmaaGreatDoor.Sw
open Go.RowKit Go
open Go.WideElems (Fit)
open Go.ChangeMaps (setBlock heap_setBlock_same heap_setBlock_other)
section
variable {κ α : Type} [DecidableEq κ]
end
section
variable {κ α : Type} (kv : κ → Value) (g : α → AV)
variable {kv g}
variable (kv g)
variable {kv g}
end
section
variable {P : Program} {κ α : Type} [DecidableEq κ] {t : TypeId} {kv : κ → Value} {ok : κ → Prop} {g : α → AV} {l : List (κ × α)} {G : Nat → Option Obj} {F : List Nat} {w : World} {v : Value}
variable {rs : List (Nat × AV)} {d : Option Nat} {ty : TypeId} {pos : String} {af : Array Edge} {gd : Option (Nat × Bool)}
end
section
variable {c : Cx} {rs : List (Nat × AV)} {hs : List HA} {Q : Exit → S → Prop} {ops : Array Oper} {tl : List Oper} {d : Nat} {ty : TypeId} {pos : String} {af : Array Edge} {κ α : Type} [DecidableEq κ] {t : TypeId} {kv : κ → Value} {ok : κ → Prop} {g : α → AV} {l : List (κ × α)} {v : Value}
end
end Go.Proofs.YtihonljdanjfmaaGreatDoor.Sw
namespace Go.Proofs.YtihonljdanjfmaaGreatDoor.Sw
open Go.RowKit Go
section
variable {P : Program} {rs : List (Nat × AV)} {d : Option Nat} {ty : TypeId} {pos : String} {af : Array Edge} {g : Option (Nat × Bool)}
end
section
variable {c : Cx} {rs : List (Nat × AV)} {hs : List HA} {Q : Exit → S → Prop} {ops : Array Oper} {tl : List Oper} {d : Nat} {ty : TypeId} {pos : String} {af : Array Edge}
end
end Go.Proofs.YtihonljdanjfmaaGreatDoor.Sw
namespace Go.Proofs.YtihonljdanjfmaaGreatDoor.Sw
open Go.RowKit Go Go.Shelf Go.Proofs
end Go.Proofs.YtihonljdanjfmaaGreatDoor.Sw
namespace Go.Proofs.YtihonljdanjfmaaGreatDoor.Sw
open Go.RowKit Go Go.Shelf Go.Proofs
open Go.Proofs.YtihonljdanjfmaaGreatDoor.Gr (payLt)
section
variable {P : Program} {rs : List (Nat × AV)} {d : Option Nat} {ty : TypeId} {pos : String} {af : Array Edge} {g : Option (Nat × Bool)}
end
section
variable {c : Cx} {rs : List (Nat × AV)} {hs : List HA} {Q : Exit → S → Prop} {ops : Array Oper} {tl : List Oper} {d : Nat} {ty : TypeId} {pos : String} {af : Array Edge}
end
end Go.Proofs.YtihonljdanjfmaaGreatDoor.Sw
namespace Go.Proofs.YtihonljdanjfmaaGreatDoor.Sw
open Go.RowKit Go
section
variable {P : Program} {rs : List (Nat × AV)} {d : Option Nat} {ty : TypeId} {pos : String} {af : Array Edge} {g : Option (Nat × Bool)}
end
section
variable {c : Cx} {rs : List (Nat × AV)} {hs r : List HA} {Q : Exit → S → Prop} {ops : Array Oper} {tl : List Oper} {d : Nat} {ty : TypeId} {pos : String} {af : Array Edge}
end
end Go.Proofs.YtihonljdanjfmaaGreatDoor.Sw
namespace Go.Proofs.YtihonljdanjfmaaGreatDoor.Sw
open Go.RowKit Go Go.Shelf Go.Proofs
end Go.Proofs.YtihonljdanjfmaaGreatDoor.Sw
namespace Go.Proofs.YtihonljdanjfmaaGreatDoor.Sw
open Go.RowKit Go Go.Shelf Go.Proofs
open Go.Proofs.YtihonljdanjfmaaGreatDoor.Gr (payLt)
theorem bst8_mem {xs : List (List Pay)} {b y : List Pay} (h : xs.foldl (fun b x => if befR x b = true then x else b) b = y) : y ∈ xs ∨ y = b := by
 induction xs generalizing b with
 | nil => exact .inr h.symm
 | cons x t ih =>
  rcases ih h with h1 | h1
  ·exact .inl (by simp [h1])
  ·dsimp only at h1
   split at h1
   ·exact .inl (by simp [h1])
   ·exact .inr h1
end Go.Proofs.YtihonljdanjfmaaGreatDoor.Sw
namespace Go.Proofs.YtihonljdanjfmaaGreatDoor.Sw
open Go.RowKit Go
open Go.WideElems (Fit)
open Go.ChangeMaps (setBlock heap_setBlock_same heap_setBlock_other)
section
variable {P : Program} {κ α : Type} [DecidableEq κ] {t : TypeId} {kv : κ → Value} {ok : κ → Prop} {g : α → AV} {l : List (κ × α)} {G : Nat → Option Obj} {F : List Nat} {w : World} {v : Value}
variable {rs : List (Nat × AV)} {d : Option Nat} {ty : TypeId} {pos : String} {af : Array Edge} {gd : Option (Nat × Bool)}
end
section
variable {c : Cx} {rs : List (Nat × AV)} {hs : List HA} {Q : Exit → S → Prop} {ops : Array Oper} {tl : List Oper} {d : Nat} {ty : TypeId} {pos : String} {af : Array Edge} {κ α : Type} [DecidableEq κ] {t : TypeId} {kv : κ → Value} {ok : κ → Prop} {g : α → AV} {l : List (κ × α)} {v : Value}
end
end Go.Proofs.YtihonljdanjfmaaGreatDoor.Sw
namespace Go.Proofs.YtihonljdanjfmaaGreatDoor.Sw
open Go.RowKit Go Go.Shelf Go.Proofs
open Go.Proofs.YtihonljdanjfmaaGreatDoor.Gr (headsR hf mergeH hf_merge Lab lab_all Cl)
end Go.Proofs.YtihonljdanjfmaaGreatDoor.Sw
namespace Go.Proofs.YtihonljdanjfmaaGreatDoor.Sw
open Go.RowKit Go Go.Shelf Go.Proofs
end Go.Proofs.YtihonljdanjfmaaGreatDoor.Sw
namespace Go.Proofs.YtihonljdanjfmaaGreatDoor.Sw
open Go.RowKit Go
section
variable {P : Program} {rs : List (Nat × AV)} {d : Option Nat} {ty : TypeId} {pos : String} {af : Array Edge} {g : Option (Nat × Bool)}
end
end Go.Proofs.YtihonljdanjfmaaGreatDoor.Sw
namespace Go.Proofs.YtihonljdanjfmaaGreatDoor.Sw
open Go.RowKit Go Go.Shelf Go.Proofs
open Go.Proofs.YtihonljdanjfmaaGreatDoor.Gr (Zr sumP Cl lf)
theorem idx_at {ids : List Int} (hr : rises 0 ids = true) {i : Nat} (hi : i < ids.length) : ids.idxOf ids[i] = i := by
 have hm := List.getElem_mem hi
 have hj := List.idxOf_lt_length_of_mem hm
 have he : ids[ids.idxOf ids[i]] = ids[i] := List.getElem_idxOf hj
 rcases Nat.lt_trichotomy (ids.idxOf ids[i]) i with h | h | h
 ·have := rises_sorted hr _ _ hj hi h; omega
 ·exact h
 ·have := rises_sorted hr _ _ hi hj h; omega
theorem speakR_comm (qs : List Qu) (a b : Int) : speakR qs a b = speakR qs b a := by
 have h : hits a b = hits b a := by
  funext q
  unfold hits
  rw [Int.min_comm, Int.max_comm]
 unfold speakR
 rw [h]
 congr 1
 exact decide_eq_decide.2 ⟨fun h e => h e.symm, fun h e => h e.symm⟩
end Go.Proofs.YtihonljdanjfmaaGreatDoor.Sw
namespace Go.Proofs.YtihonljdanjfmaaGreatDoor.Sw
open Go.RowKit Go Go.Shelf Go.Proofs
open Go.Proofs.YtihonljdanjfmaaGreatDoor.Gr (treeR pick sub_pick pick_sub)
theorem speak_in {qs : List Qu} {a b : Int} (h : a < b) : speakR qs a b = !decide ((⟨a, b⟩ : Qu) ∈ qs) := by
 unfold speakR
 have e : qs.any (hits a b) = decide ((⟨a, b⟩ : Qu) ∈ qs) := by
  refine Bool.eq_iff_iff.2 ?_
  rw [List.any_eq_true, decide_eq_true_iff]
  constructor
  ·rintro ⟨q, hq, hh⟩
   unfold hits at hh
   simp only [Bool.and_eq_true, decide_eq_true_eq] at hh
   have : q = ⟨a, b⟩ := by cases q; simp only [Qu.mk.injEq] at *; omega
   exact this ▸ hq
  ·intro hq
   refine ⟨_, hq, ?_⟩
   unfold hits
   simp only [Bool.and_eq_true, decide_eq_true_eq]
   omega
 rw [e, decide_eq_true (show a ≠ b by omega), Bool.and_true]
theorem few_first {α : Type} {g : Nat → List α} : ∀ {m : Nat}, fewTo g m ≠ [] → ∃ k, k < m ∧ fewTo g m = g k ∧ ∀ j, j < k → g j = []
 | 0, h => absurd rfl h
 | m + 1, h => by
  rw [fewTo] at h ⊢
  by_cases he : (fewTo g m).isEmpty = true
  ·rw [if_pos he] at h ⊢
   refine ⟨m, by omega, rfl, fun j hj => ?_⟩
   cases hg : g j with
   | nil => rfl
   | cons x t =>
    exfalso
    have : ∀ m, j < m → fewTo g m ≠ [] := by
     intro m hm
     induction m with
     | zero => omega
     | succ m ih =>
      rw [fewTo]
      by_cases hj2 : j < m
      ·have := ih hj2
       rw [if_neg (by cases hq : fewTo g m with | nil => exact absurd hq this | cons a b => simp)]
       exact this
      ·have hjm : j = m := by omega
       subst hjm
       split
       ·rw [hg]; simp
       ·rename_i h2; intro e; rw [e] at h2; exact h2 rfl
    exact this m hj (List.isEmpty_iff.1 he)
  ·rw [if_neg he] at h ⊢
   obtain ⟨k, hk, e, h3⟩ := few_first h
   exact ⟨k, by omega, e, h3⟩
theorem few_some {α : Type} {g : Nat → List α} {j : Nat} (hj : g j ≠ []) : ∀ {m : Nat}, j < m → fewTo g m ≠ []
 | m + 1, hm => by
  rw [fewTo]
  by_cases hj2 : j < m
  ·have := few_some hj hj2
   rw [if_neg (by cases hq : fewTo g m with | nil => exact absurd hq this | cons a b => simp)]
   exact this
  ·have hjm : j = m := by omega
   subst hjm
   split
   ·exact hj
   ·rename_i h2; intro e; rw [e] at h2; exact h2 rfl
theorem chS_all : ∀ {xs : List (List Pay)} {c : Int}, (∀ l ∈ xs, 0 ≤ sumPay l) → (xs.foldl chS c = c ∨ ∃ l ∈ xs, xs.foldl chS c = sumPay l) ∧ (0 ≤ c → xs.foldl chS c ≤ c) ∧ (∀ l ∈ xs, xs.foldl chS c ≤ sumPay l) ∧ (0 ≤ c → 0 ≤ xs.foldl chS c)
 | [], c, _ => ⟨.inl rfl, fun _ => Int.le_refl _, fun _ h => (by cases h), fun h => h⟩
 | x :: t, c, h => by
  have hx := h x (by simp)
  have ht : ∀ l ∈ t, 0 ≤ sumPay l := fun l hl => h l (by simp [hl])
  rw [List.foldl_cons]
  have hc : 0 ≤ chS c x ∧ chS c x ≤ sumPay x ∧ (0 ≤ c → chS c x ≤ c) ∧ (chS c x = c ∨ chS c x = sumPay x) := by
   unfold chS
   split
   ·exact ⟨hx, Int.le_refl _, fun _ => by omega, .inr rfl⟩
   ·exact ⟨by omega, by omega, fun _ => Int.le_refl _, .inl rfl⟩
  obtain ⟨k1, k2, k3, k4⟩ := chS_all (c := chS c x) ht
  refine ⟨?_, fun h0 => by have := k2 hc.1; have := hc.2.2.1 h0; omega, fun l hl => ?_, fun _ => k4 hc.1⟩
  ·rcases k1 with k1 | ⟨l, hl, k1⟩
   ·rcases hc.2.2.2 with h1 | h1
    ·exact .inl (k1.trans h1)
    ·exact .inr ⟨x, by simp, k1.trans h1⟩
   ·exact .inr ⟨l, by simp [hl], k1⟩
  ·rcases List.mem_cons.1 hl with rfl | hl
   ·have := k2 hc.1; omega
   ·exact k3 l hl
theorem chTo_min {g : Nat → List (List Pay)} : ∀ {m : Nat}, (∀ j, j < m → ∀ l ∈ g j, 0 ≤ sumPay l) → ((chTo g m = -1 ∧ ∀ j, j < m → g j = []) ∨ (0 ≤ chTo g m ∧ ∃ j, j < m ∧ ∃ l ∈ g j, chTo g m = sumPay l)) ∧ ∀ j, j < m → ∀ l ∈ g j, chTo g m ≤ sumPay l
 | 0, _ => ⟨.inl ⟨rfl, fun j hj => by omega⟩, fun j hj => by omega⟩
 | m + 1, h => by
  obtain ⟨k1, k2⟩ := chTo_min (m := m) fun j hj => h j (by omega)
  have hc : chTo g (m + 1) = (g m).foldl chS (chTo g m) := rfl
  rw [hc]
  obtain ⟨c1, c2, c3, c4⟩ := chS_all (xs := g m) (c := chTo g m) (h m (by omega))
  constructor
  ·rcases k1 with ⟨k1, k3⟩ | ⟨k1, j, hj, l, hl, k3⟩
   ·cases hg : g m with
    | nil =>
     refine .inl ⟨by simpa using k1, fun j hj => ?_⟩
     by_cases e : j = m
     ·rw [e, hg]
     ·exact k3 j (by omega)
    | cons x t =>
     rw [hg] at c1 c3
     refine .inr ?_
     rcases c1 with c1 | ⟨l, hl, c1⟩
     ·exfalso
      have hx : x ∈ g m := by rw [hg]; simp
      have h0 := h m (by omega) x hx
      have : chS (-1) x = sumPay x := by unfold chS; rw [if_pos (by omega)]
      rw [k1, List.foldl_cons, this] at c1
      have := (chS_all (xs := t) (c := sumPay x) fun l hl => h m (by omega) l (by rw [hg]; simp [hl])).2.2.2 h0
      omega
     ·refine ⟨?_, m, by omega, l, by rw [hg]; exact hl, c1⟩
      rw [c1]; exact h m (by omega) l (by rw [hg]; exact hl)
   ·refine .inr ⟨c4 k1, ?_⟩
    rcases c1 with c1 | ⟨l', hl', c1⟩
    ·exact ⟨j, by omega, l, hl, c1.trans k3⟩
    ·exact ⟨m, by omega, l', hl', c1⟩
  ·intro j hj l hl
   by_cases e : j = m
   ·subst e; exact c3 l hl
   ·have h1 := k2 j (by omega) l hl
    rcases k1 with ⟨_, k3⟩ | ⟨k1, _⟩
    ·rw [k3 j (by omega)] at hl; cases hl
    ·have := c2 k1; omega
theorem sumPay_nn1 {l : List Pay} (h : ∀ x ∈ l, 1 ≤ x.p) : 0 ≤ sumPay l := by
 induction l with
 | nil => simp [sumPay]
 | cons x t ih =>
  rw [sumPay_cons]
  have := h x (by simp)
  have := ih fun y hy => h y (by simp [hy])
  omega
end Go.Proofs.YtihonljdanjfmaaGreatDoor.Sw
namespace Go.Proofs.YtihonljdanjfmaaGreatDoor.Sw
open Go.RowKit Go Go.Shelf Go.Proofs
open Go.Proofs.YtihonljdanjfmaaGreatDoor.Gr (treeR treeR_ok pick sub_pick pick_sub Zr Cl Ok Forest Side Min sumP sumP_upd sumP_congr upd lf amt amt_side amt_swap payE cl_of_erase)
theorem allR_of {f : Flo} {S : List (Nat × Nat)} {out : List Pay} (hS : S.Sublist (prR (spk f) f.ids.length f.ids.length)) (h : treeR f.ids S (owed8 f) = some out) : out ∈ allR f S.length := by
 obtain ⟨t, ht, e⟩ := sub_pick hS
 unfold allR allTo
 refine List.mem_filterMap.2 ⟨t, List.mem_range.2 ht, ?_⟩
 rw [e, if_pos rfl]; exact h
def gone (x : Nat → Int) (i o : Nat) (c : Int) : Nat → Int := upd (upd x i (x i + c)) o ((upd x i (x i + c)) o - c)
theorem sumP_gone {n : Nat} {x : Nat → Int} {i o : Nat} {c : Int} (hi : i < n) (ho : o < n) (P : Nat → Bool) : sumP n (gone x i o c) P = sumP n x P + (if P i then c else 0) - (if P o then c else 0) := by
 unfold gone
 rw [sumP_upd ho, sumP_upd hi]
 cases P i <;> cases P o <;> simp <;> omega
theorem gone_less {n : Nat} {L : List (Nat × Nat)} {x : Nat → Int} (hn : L.Nodup) (hz : Zr n L x) {e : Nat × Nat} (h1 : e.1 < n) (h2 : e.2 < n) : Zr n (L.erase e) (gone x e.1 e.2 (amt n x L e)) := fun P hP => by
 rw [sumP_gone h1 h2]
 cases a : P e.1 with
 | true =>
  cases b : P e.2 with
  | true =>
   have := hz P (cl_of_erase hn hP fun _ => by rw [a, b])
   simp; omega
  | false =>
   have := amt_swap (n := n) (x := x) hn hz (e := e) (Q := P) ⟨hP, a, b⟩
   simp; omega
 | false =>
  cases b : P e.2 with
  | true =>
   have := amt_side (n := n) (x := x) hn hz (e := e) (Q := P) ⟨hP, b, a⟩
   simp; omega
  | false =>
   have := hz P (cl_of_erase hn hP fun _ => by rw [a, b])
   simp; omega
theorem gone_more {n : Nat} {L : List (Nat × Nat)} {x : Nat → Int} {e : Nat × Nat} {c : Int} (h1 : e.1 < n) (h2 : e.2 < n) (hz : Zr n L (gone x e.1 e.2 c)) {T : List (Nat × Nat)} (hT : ∀ p ∈ L, p ∈ T) (he : e ∈ T) : Zr n T x := fun P hP => by
 have h := hz P fun p hp => hP p (hT p hp)
 rw [sumP_gone h1 h2] at h
 have := hP e he
 rw [this] at h
 cases P e.2 <;> simp at h <;> omega
theorem lf_set {l : List Int} {i : Nat} (hi : i < l.length) (d : Int) : lf (addAt l i d) = upd (lf l) i (lf l i + d) := by
 funext v
 unfold addAt lf upd
 simp only [List.getD_eq_getElem?_getD, List.getElem?_set]
 by_cases h : i = v
 ·subst h; simp [hi]
 ·rw [if_neg h, if_neg fun e => h e.symm]
theorem idx_getD {ids : List Int} (hr : rises 0 ids = true) {i : Nat} (hi : i < ids.length) : ids.idxOf (ids.getD i 0) = i := by
 rw [List.getD_eq_getElem?_getD, List.getElem?_eq_getElem hi]; exact idx_at hr hi
theorem upd_comm {x : Nat → Int} {i o : Nat} {a b : Int} (h : i ≠ o) : upd (upd x i a) o b = upd (upd x o b) i a := by
 funext v
 unfold upd
 by_cases h1 : v = o
 ·subst h1
  rw [if_pos rfl, if_neg (fun e => h e.symm), if_pos rfl]
 ·by_cases h2 : v = i
  ·subst h2; simp [h1]
  ·simp [h1, h2]
end Go.Proofs.YtihonljdanjfmaaGreatDoor.Sw
namespace Go.Proofs.YtihonljdanjfmaaGreatDoor.Sw
open Go.RowKit Go Go.Shelf Go.Proofs
theorem stl_told {f : Flo} (hS : Sml f) (hf : floOk f = true) (h0 : (stlN f).2 = 0) : ∃ k, k < 6 ∧ (stlN f).1 ∈ allR f k ∧ (∀ j, j < k → allR f j = []) ∧ (stlN f).1.length = k := by
 rw [stl_eq hS] at h0 ⊢
 have ha : (askR f).2.2 = 0 := by
  unfold stlN8 at h0
  split at h0
  ·assumption
  ·exact h0
 have hne : fewTo (allR f) 6 ≠ [] := fun e => by
  unfold askR at ha
  rw [if_pos hf, e] at ha
  simp at ha
 obtain ⟨k, hk, ek, hm⟩ := few_first hne
 have hal : (askR f).1 = fewTo (allR f) 6 := by
  unfold askR
  rw [if_pos hf, if_neg]
  intro e; exact hne (List.isEmpty_iff.1 e)
 have hin : (stlN8 f).1 ∈ allR f k := by
  unfold stlN8 bst8
  rw [if_pos ha, hal]
  dsimp only
  rw [ek] at hne ⊢
  rcases bst8_mem (xs := allR f k) (b := (allR f k).headD []) rfl with h | h
  ·exact h
  ·rw [h]; exact head_mem hne
 exact ⟨k, hk, hin, hm, (told (flo_f hf) hS (rises_of_ok hf) hin).len⟩
theorem told_speak {f : Flo} {k : Nat} {l : List Pay} (h : l ∈ allR f k) {x : Pay} (hx : x ∈ l) : speakR f.qs x.a x.b = true ∧ x.a ∈ f.ids ∧ x.b ∈ f.ids := by
 obtain ⟨L, hL⟩ := allR_mem.1 h
 obtain ⟨e, he, rfl⟩ := List.mem_map.1 (hL.pe.mem_iff.1 hx)
 have hm := hL.mem e he
 have hb : ∀ i, i < f.ids.length → f.ids.getD i 0 ∈ f.ids := fun i hi => by
  rw [List.getD_eq_getElem?_getD, List.getElem?_eq_getElem hi]; exact List.getElem_mem hi
 have b1 := hb e.1 (Nat.lt_trans hm.1 hm.2.1)
 have b2 := hb e.2 hm.2.1
 have hs : speakR f.qs (f.ids.getD e.1 0) (f.ids.getD e.2 0) = true := hm.2.2
 rcases payE_ends f.ids (Gr.lf (owed8 f)) L e with ⟨c1, c2⟩ | ⟨c1, c2⟩
 ·rw [c1, c2]; exact ⟨hs, b1, b2⟩
 ·rw [c1, c2]; exact ⟨by rw [speakR_comm]; exact hs, b2, b1⟩
theorem stlN_err {f : Flo} (hf : floOk f = true) : (stlN f).2 = 0 ∨ (stlN f).2 = 8 := by
 unfold stlN
 split
 ·exact .inl rfl
 ·rename_i h
  unfold errL at h ⊢
  rw [if_pos hf] at h ⊢
  split at h
  ·rename_i h2; right; dsimp only; rw [if_pos h2]
  ·exact absurd rfl h
theorem lsB2 {f : Flo} (hS : Sml f) : errL f = 0 → ∀ x ∈ lsF f, PayB x := fun he x hx => by
 obtain ⟨k, hk, hb⟩ := lsF_told hS he
 exact (hb x hx).payB (by omega)
end Go.Proofs.YtihonljdanjfmaaGreatDoor.Sw
namespace Go.Proofs.YtihonljdanjfmaaGreatDoor.Sw
open Go.RowKit Go Go.Shelf Go.Proofs
open Go.Proofs.YtihonljdanjfmaaGreatDoor.Gr (treeR pick Zr Cl Forest Side sumP lf amt amt_side amt_swap payE SortedP payLt payLt_no)
theorem sumP_one {n : Nat} {x : Nat → Int} {i : Nat} : ∀ {m : Nat}, sumP m x (fun v => decide (v = i)) = if i < m then x i else 0
 | 0 => rfl
 | m + 1 => by
  show sumP m x (fun v => decide (v = i)) + (if decide (m = i) = true then x m else 0) = _
  rw [sumP_one (n := n) (m := m)]
  by_cases h : m = i
  ·subst h; simp
  ·rw [decide_eq_false h]
   by_cases h2 : i < m
   ·rw [if_pos h2, if_pos (show i < m + 1 by omega)]; simp
   ·rw [if_neg h2, if_neg (show ¬ i < m + 1 by omega)]; simp
theorem cl_alone {L : List (Nat × Nat)} {i : Nat} (h : ∀ p ∈ L, p.1 ≠ i ∧ p.2 ≠ i) : Cl L (fun v => decide (v = i)) := fun p hp => by
 have := h p hp
 dsimp only
 rw [decide_eq_false this.1, decide_eq_false this.2]
end Go.Proofs.YtihonljdanjfmaaGreatDoor.Sw
namespace Go.Proofs.YtihonljdanjfmaaGreatDoor.Sw
open Go.RowKit Go Go.Shelf Go.Proofs
open Go.Proofs.YtihonljdanjfmaaGreatDoor.Gr (treeR treeR_ok pick Zr Cl Ok Forest Side Min sumP lf amt payE headsR hf Lab lab_all even_iff)
def dP (ids : List Int) (x : Pay) (v : Nat) : Int := (if ids.idxOf x.a = v then x.p else 0) - (if ids.idxOf x.b = v then x.p else 0)
theorem lf_step {ids : List Int} {x : Pay} {cu : List Int} (h1 : ids.idxOf x.a < cu.length) (h2 : ids.idxOf x.b < cu.length) (v : Nat) : lf (payStep ids x cu) v = lf cu v + dP ids x v := by
 unfold payStep dP
 rw [lf_set (by rw [addAt_len]; exact h2), lf_set h1]
 clear h1 h2
 generalize ids.idxOf x.a = i
 generalize ids.idxOf x.b = o
 simp only [Gr.upd]
 by_cases a : o = v
 ·subst a
  by_cases b : i = o
  ·subst b; simp <;> omega
  ·have b' : ¬ o = i := fun e => b e.symm
   simp [b, b'] <;> omega
 ·have a' : ¬ v = o := fun e => a e.symm
  by_cases b : i = v
  ·subst b; simp [a, a']
  ·have b' : ¬ v = i := fun e => b e.symm
   simp [a, a', b, b']
def sumD (ids : List Int) (v : Nat) : List Pay → Int
 | [] => 0
 | x :: t => dP ids x v + sumD ids v t
theorem lf_fold {ids : List Int} (v : Nat) : ∀ (l : List Pay) (cu : List Int), cu.length = ids.length → (∀ x ∈ l, x.a ∈ ids ∧ x.b ∈ ids) → lf (payFold ids l cu) v = lf cu v + sumD ids v l
 | [], cu, _, _ => by simp [payFold, sumD]
 | x :: t, cu, hl, h => by
  have hx := h x (by simp)
  rw [payFold, lf_fold v t _ (by unfold payStep; rw [addAt_len, addAt_len]; exact hl) (fun y hy => h y (by simp [hy])), lf_step (by rw [hl]; exact List.idxOf_lt_length_of_mem hx.1) (by rw [hl]; exact List.idxOf_lt_length_of_mem hx.2), sumD]
  omega
theorem sumD_perm {ids : List Int} {v : Nat} {l l' : List Pay} (h : l.Perm l') : sumD ids v l = sumD ids v l' := by
 induction h with
 | nil => rfl
 | cons x _ ih => rw [sumD, sumD, ih]
 | swap x y l => simp only [sumD]; omega
 | trans _ _ h1 h2 => exact h1.trans h2
def goneL (a : Nat × Nat → Int) : List (Nat × Nat) → (Nat → Int) → (Nat → Int)
 | [], x => x
 | e :: t, x => goneL a t (gone x e.1 e.2 (a e))
theorem amt_gone {n : Nat} {L : List (Nat × Nat)} {x : Nat → Int} (hn : L.Nodup) (hf : Forest L) (hz : Zr n L x) {e e' : Nat × Nat} (he : e ∈ L) (he' : e' ∈ L) (hne : e ≠ e') (h1 : e.1 < n) (h2 : e.2 < n) : amt n (gone x e.1 e.2 (amt n x L e)) (L.erase e) e' = amt n x L e' := by
 obtain ⟨Q, hQ⟩ := Gr.side_of hf he' (.inr ⟨rfl, rfl⟩ : Gr.Ends e' e'.2 e'.1)
 have hQe : Q e.1 = Q e.2 := hQ.cl e ((List.mem_erase_of_ne hne).2 he)
 have hQ2 : Side (L.erase e) e' e'.2 e'.1 Q := ⟨fun p hp => hQ.cl p (by
  have h3 := (hn.erase e).mem_erase_iff.1 hp
  exact hn.mem_erase_iff.2 ⟨h3.1, List.mem_of_mem_erase h3.2⟩), hQ.inn, hQ.out⟩
 rw [Gr.amt_side hn hz hQ, Gr.amt_side (hn.erase e) (gone_less hn hz h1 h2) hQ2, sumP_gone h1 h2, hQe]
 cases Q e.2 <;> simp
theorem goneL_zero {n : Nat} : ∀ (m : Nat) {L : List (Nat × Nat)} {x : Nat → Int} {a : Nat × Nat → Int}, L.length = m → L.Nodup → Forest L → Zr n L x → (∀ e ∈ L, e.1 < n ∧ e.2 < n) → (∀ e ∈ L, a e = amt n x L e) → ∀ v, v < n → goneL a L x v = 0
 | _, [], x, a, _, _, _, hz, _, _ => Gr.zr_nil hz
 | m + 1, e :: t, x, a, hl, hn, hf, hz, hb, ha => by
  have he := hb e (by simp)
  have hte : (e :: t).erase e = t := by simp
  have hnt := (List.nodup_cons.1 hn)
  have hz2 := gone_less hn hz he.1 he.2
  rw [hte] at hz2
  rw [goneL, ha e (by simp)]
  refine goneL_zero m (by simpa using hl) hnt.2 (hf.sub hn hnt.2 fun p hp => by simp [hp]) hz2 (fun p hp => hb p (by simp [hp])) fun e' he' => ?_
  have hne : e ≠ e' := fun h => hnt.1 (h ▸ he')
  have := amt_gone hn hf hz (e := e) (e' := e') (by simp) (by simp [he']) hne he.1 he.2
  rw [hte] at this
  rw [ha e' (by simp [he']), this]
 | 0, _ :: _, _, _, h, _, _, _, _, _ => by simp at h
end Go.Proofs.YtihonljdanjfmaaGreatDoor.Sw
namespace Go.Proofs.YtihonljdanjfmaaGreatDoor.Sw
open Go.RowKit Go Go.Shelf Go.Proofs
theorem putAll_lenH {ids : List Int} {pe all : Int} : ∀ (st : List Stk) (l : List Int), (putAll ids pe all st l).length = l.length
 | [], _ => rfl
 | s :: t, l => by rw [putAll, putAll_lenH t, List.length_set]
theorem stks_nodup {ids : List Int} : ∀ {t : List Stk} {last : Int}, stksOk ids last t = true → (t.map (·.fl)).Nodup ∧ ∀ s ∈ t, last < s.fl
 | [], _, _ => ⟨by simp, fun _ h => (by cases h)⟩
 | x :: t, last, h => by
  simp only [stksOk, Bool.and_eq_true, decide_eq_true_eq] at h
  obtain ⟨k1, k2⟩ := stks_nodup h.2
  refine ⟨?_, fun s hs => ?_⟩
  ·rw [List.map_cons]
   refine List.nodup_cons.2 ⟨fun hm => ?_, k1⟩
   obtain ⟨u, hu, e⟩ := List.mem_map.1 hm
   have := k2 u hu
   omega
  ·rcases List.mem_cons.1 hs with rfl | hs
   ·exact h.1.1.1
   ·have := k2 s hs; omega
theorem sum_set : ∀ (l : List Int) (i : Nat) (v : Int), i < l.length → (l.set i v).sum = l.sum - l.getD i 0 + v
 | x :: t, 0, v, _ => by simp; omega
 | x :: t, i + 1, v, h => by
  rw [List.set_cons_succ, List.sum_cons, sum_set t i v (by simpa using h), List.sum_cons, List.getD_cons_succ]; omega
 | [], _, _, h => by simp at h
theorem sum_addAt {l : List Int} {i : Nat} (hi : i < l.length) (d : Int) : (addAt l i d).sum = l.sum + d := by
 unfold addAt
 rw [sum_set l i _ hi, List.getD_eq_getElem?_getD]; omega
theorem sum_inc {ids : List Int} : ∀ (st : List Stk) (l : List Int), (∀ s ∈ st, s.fl ∈ ids) → l.length = ids.length → (incAll ids st l).sum = l.sum + st.length
 | [], l, _, _ => by simp [incAll]
 | s :: t, l, h, hl => by
  rw [incAll, sum_inc t _ (fun u hu => h u (by simp [hu])) (by rw [addAt_len]; exact hl), sum_addAt (by rw [hl]; exact List.idxOf_lt_length_of_mem (h s (by simp))), List.length_cons]
  omega
theorem sum_put {ids : List Int} {pe all : Int} (hr : rises 0 ids = true) : ∀ (st : List Stk) (l : List Int), (∀ s ∈ st, s.fl ∈ ids) → (st.map (·.fl)).Nodup → l.length = ids.length → (∀ s ∈ st, l.getD (ids.idxOf s.fl) 0 = 0) → (putAll ids pe all st l).sum = l.sum + quots pe all st
 | [], l, _, _, _, _ => by simp [putAll, quots]
 | s :: t, l, h, hn, hl, hz => by
  obtain ⟨n1, n2⟩ := List.nodup_cons.1 (by simpa using hn : (s.fl :: t.map (·.fl)).Nodup)
  have hsi : ids.idxOf s.fl < l.length := by rw [hl]; exact List.idxOf_lt_length_of_mem (h s (by simp))
  rw [putAll, sum_put hr t _ (fun u hu => h u (by simp [hu])) n2 (by rw [List.length_set]; exact hl) (fun u hu => ?_), sum_set _ _ _ hsi, hz s (by simp), quots]
  ·omega
  ·have hne : ids.idxOf s.fl ≠ ids.idxOf u.fl := fun e => by
    have hu1 := h u (by simp [hu])
    have h1 := List.getElem_idxOf (List.idxOf_lt_length_of_mem (h s (by simp)))
    have h2 := List.getElem_idxOf (List.idxOf_lt_length_of_mem hu1)
    have : s.fl = u.fl := by rw [← h1, ← h2]; simp only [e]
    exact n1 (by rw [this]; exact List.mem_map_of_mem hu)
   rw [List.getD_eq_getElem?_getD, List.getElem?_set, if_neg hne, ← List.getD_eq_getElem?_getD]
   exact hz u (by simp [hu])
theorem share_sum {ids : List Int} (hr : rises 0 ids = true) {x : Bil} (hx : bilOk ids x = true) : (sharesR ids x).sum = x.pe := by
 have hB := bil_f hx
 have hst : stksOk ids 0 x.st = true := by simp only [bilOk, Bool.and_eq_true] at hx; exact hx.2
 obtain ⟨hnd, _⟩ := stks_nodup hst
 have hmem : ∀ s ∈ x.st, s.fl ∈ ids := fun s h => (hB.st s h).1
 have hlb := left_bounds hB
 have hz : ∀ n i, (List.replicate n (0 : Int)).getD i 0 = 0 := fun n i => by
  rw [List.getD_eq_getElem?_getD, List.getElem?_replicate]; split <;> rfl
 unfold sharesR
 rw [sum_inc _ _ (fun s h => hmem s (List.mem_of_mem_take h)) (by rw [putAll_lenH]; simp), sum_put hr _ _ hmem hnd (by simp) (fun s _ => hz _ _), List.length_take]
 rw [leftQ_eq] at hlb ⊢
 have h0 : (List.replicate ids.length (0 : Int)).sum = 0 := by simp
 rw [h0]
 omega
theorem sum_sub : ∀ {l m : List Int}, l.length = m.length → (subL l m).sum = l.sum - m.sum
 | [], [], _ => rfl
 | x :: t, y :: u, h => by
  have ih := sum_sub (l := t) (m := u) (by simpa using h)
  unfold subL at ih ⊢
  rw [List.zipWith_cons_cons, List.sum_cons, ih, List.sum_cons, List.sum_cons]; omega
 | [], _ :: _, h => by simp at h
 | _ :: _, [], h => by simp at h
theorem sum_bills {ids : List Int} (hr : rises 0 ids = true) : ∀ (t : List Bil) (l : List Int), (∀ x ∈ t, bilOk ids x = true) → l.length = ids.length → (bilFold ids t l).sum = l.sum
 | [], _, _, _ => rfl
 | x :: t, l, h, hl => by
  have hx := h x (by simp)
  have hB := bil_f hx
  rw [bilFold, sum_bills hr t _ (fun y hy => h y (by simp [hy])) (by rw [subL_len (by rw [addAt_len, hl, shares_len]), addAt_len]; exact hl), sum_sub (by rw [addAt_len, hl, shares_len]), sum_addAt (by rw [hl]; exact List.idxOf_lt_length_of_mem hB.py), share_sum hr hx]
  omega
theorem sum_pays {ids : List Int} : ∀ (t : List Pay) (l : List Int), (∀ x ∈ t, x.a ∈ ids ∧ x.b ∈ ids) → l.length = ids.length → (payFold ids t l).sum = l.sum
 | [], _, _, _ => rfl
 | x :: t, l, h, hl => by
  have hx := h x (by simp)
  rw [payFold, sum_pays t _ (fun y hy => h y (by simp [hy])) (by unfold payStep; rw [addAt_len, addAt_len]; exact hl)]
  unfold payStep
  rw [sum_addAt (by rw [addAt_len, hl]; exact List.idxOf_lt_length_of_mem hx.2), sum_addAt (by rw [hl]; exact List.idxOf_lt_length_of_mem hx.1)]
  omega
theorem bilOk_all {ids : List Int} : ∀ {t : List Bil} {last : Int}, bilsOk ids last t = true → ∀ x ∈ t, bilOk ids x = true
 | [], _, _, _, h => by cases h
 | y :: t, last, h, x, hx => by
  simp only [bilsOk, Bool.and_eq_true] at h
  rcases List.mem_cons.1 hx with rfl | hx
  ·exact h.1.2
  ·exact bilOk_all h.2 x hx
theorem flo_bills {f : Flo} (h : floOk f = true) : ∀ x ∈ f.bs, bilOk f.ids x = true := by
 simp only [floOk, Bool.and_eq_true] at h
 exact bilOk_all h.1.2
theorem owed_sum {f : Flo} (h : floOk f = true) : (owed8 f).sum = 0 := by
 have hF := flo_f h
 unfold owed8
 rw [sum_pays _ _ (fun x hx => ⟨(hF.pay x hx).1, (hF.pay x hx).2.1⟩) (by rw [bilFold_len _ _ (by simp)]), sum_bills (rises_of_ok h) _ _ (flo_bills h) (by simp)]
 simp
end Go.Proofs.YtihonljdanjfmaaGreatDoor.Sw
namespace Go.Proofs.YtihonljdanjfmaaGreatDoor.Sw
open Go.RowKit Go Go.Shelf Go.Proofs
open Go.Proofs.YtihonljdanjfmaaGreatDoor.Gr (Zr Cl Forest sumP lf amt payE headsR hf Lab lab_all even_iff)
theorem paid_goneW {ids : List Int} (hr : rises 0 ids = true) {cu : List Int} (hol : cu.length = ids.length) {x : Nat → Int} {L : List (Nat × Nat)} {e : Nat × Nat} (h1 : e.1 < e.2) (h2 : e.2 < ids.length) : lf (payStep ids (payE ids x L e) cu) = gone (lf cu) e.1 e.2 (amt ids.length x L e) := by
 have i1 := idx_getD hr (show e.1 < ids.length by omega)
 have i2 := idx_getD hr h2
 unfold payStep payE
 generalize amt ids.length x L e = c
 have hl : ∀ (i : Nat) (d : Int), (addAt cu i d).length = cu.length := fun i d => addAt_len _ _ _
 split
 ·dsimp only
  rw [i1, i2, lf_set (by rw [hl]; omega), lf_set (by omega)]
  unfold gone
  have e1 : ∀ a, Gr.upd (lf cu) e.2 a e.1 = lf cu e.1 := fun a => by unfold Gr.upd; rw [if_neg (by omega)]
  have e2 : ∀ a, Gr.upd (lf cu) e.1 a e.2 = lf cu e.2 := fun a => by unfold Gr.upd; rw [if_neg (by omega)]
  rw [e1, e2, upd_comm (by omega)]
  congr 1
  congr 1
  omega
 ·dsimp only
  rw [i1, i2, lf_set (by rw [hl]; omega), lf_set (by omega)]
  unfold gone
  have e2 : ∀ a, Gr.upd (lf cu) e.1 a e.2 = lf cu e.2 := fun a => by unfold Gr.upd; rw [if_neg (by omega)]
  rw [e2]
  rfl
theorem fold_gone {ids : List Int} (hr : rises 0 ids = true) {x : Nat → Int} {L0 : List (Nat × Nat)} : ∀ (L : List (Nat × Nat)) (cu : List Int), cu.length = ids.length → (∀ e ∈ L, e.1 < e.2 ∧ e.2 < ids.length) → lf (payFold ids (L.map (payE ids x L0)) cu) = goneL (amt ids.length x L0) L (lf cu)
 | [], _, _, _ => rfl
 | e :: t, cu, hl, h => by
  have he := h e (by simp)
  rw [List.map_cons, payFold, fold_gone hr t _ (by unfold payStep; rw [addAt_len, addAt_len]; exact hl) (fun p hp => h p (by simp [hp])), paid_goneW hr hl he.1 he.2, goneL]
theorem settles {f : Flo} (hf : floOk f = true) {k : Nat} {l : List Pay} (hl : l ∈ allR f k) : ∀ v, v < f.ids.length → lf (payFold f.ids l (owed8 f)) v = 0 := by
 have hr := rises_of_ok hf
 have hol := owed8_len f
 obtain ⟨L, hL⟩ := allR_mem.1 hl
 intro v hv
 have hmem : ∀ x ∈ l, x.a ∈ f.ids ∧ x.b ∈ f.ids := fun x hx => (told_speak hl hx).2
 rw [lf_fold v l _ hol hmem, sumD_perm hL.pe, ← lf_fold v _ _ hol (fun x hx => hmem x (hL.pe.mem_iff.2 hx)), fold_gone hr L _ hol (fun e he => ⟨(hL.mem e he).1, (hL.mem e he).2.1⟩)]
 exact goneL_zero L.length rfl hL.nd hL.fo hL.zr (fun e he => ⟨Nat.lt_trans (hL.mem e he).1 (hL.mem e he).2.1, (hL.mem e he).2.1⟩) (fun _ _ => rfl) v hv
theorem sum_filter (g : Nat → Int) (p : Nat → Bool) : ∀ m, (((List.range m).filter p).map g).sum = sumP m g p
 | 0 => rfl
 | m + 1 => by
  rw [List.range_succ, List.filter_append, List.map_append, List.sum_append, sum_filter g p m]
  show _ = sumP m g p + (if p m then g m else 0)
  by_cases h : p m = true
  ·rw [List.filter_cons_of_pos h, if_pos h]; simp
  ·rw [List.filter_cons_of_neg h, if_neg h]; simp
def zerG (f : Flo) (cu : List Int) (l : List Pay) : Bool := (grG f l).all fun g => decide ((g.map fun id => cu.getD (f.ids.idxOf id) 0).sum = 0)
theorem sumP_addAt {n : Nat} {l : List Int} {i : Nat} (hi : i < l.length) (hin : i < n) (d : Int) (P : Nat → Bool) : sumP n (lf (addAt l i d)) P = sumP n (lf l) P + if P i then d else 0 := by
 rw [lf_set hi, Gr.sumP_upd hin]
 cases P i <;> simp <;> omega
theorem sumP_subL {l m : List Int} (h : l.length = m.length) (P : Nat → Bool) : ∀ n, sumP n (lf (subL l m)) P = sumP n (lf l) P - sumP n (lf m) P
 | 0 => rfl
 | n + 1 => by
  show sumP n (lf (subL l m)) P + (if P n then lf (subL l m) n else 0) = sumP n (lf l) P + (if P n then lf l n else 0) - (sumP n (lf m) P + if P n then lf m n else 0)
  have e : lf (subL l m) n = lf l n - lf m n := by
   unfold lf subL
   simp only [List.getD_eq_getElem?_getD]
   by_cases hn : n < l.length
   ·rw [List.getElem?_eq_getElem (by simp; omega), List.getElem?_eq_getElem hn, List.getElem?_eq_getElem (by omega), List.getElem_zipWith]; rfl
   ·rw [List.getElem?_eq_none (by simp; omega), List.getElem?_eq_none (by omega), List.getElem?_eq_none (by omega)]; rfl
  rw [sumP_subL h P n, e]
  cases P n <;> simp <;> omega
theorem sumP_nn {x : Nat → Int} {P : Nat → Bool} : ∀ {n : Nat}, (∀ v, v < n → 0 ≤ x v) → 0 ≤ sumP n x P ∧ sumP n x P ≤ sumP n x (fun _ => true)
 | 0, _ => ⟨Int.le_refl _, Int.le_refl _⟩
 | n + 1, h => by
  obtain ⟨h1, h2⟩ := sumP_nn (x := x) (P := P) (n := n) fun v hv => h v (by omega)
  have h3 := h n (by omega)
  show 0 ≤ sumP n x P + (if P n then x n else 0) ∧ sumP n x P + (if P n then x n else 0) ≤ sumP n x (fun _ => true) + (if true then x n else 0)
  cases P n <;> simp <;> omega
theorem sumP_sum : ∀ (l : List Int), sumP l.length (lf l) (fun _ => true) = l.sum := fun l => by
 rw [← sum_filter]
 rw [List.filter_eq_self.2 (fun _ _ => rfl)]
 congr 1
 refine List.ext_getElem (by simp) fun i h1 h2 => ?_
 rw [List.getElem_map, List.getElem_range]
 unfold lf
 rw [List.getD_eq_getElem?_getD, List.getElem?_eq_getElem h2]; rfl
theorem bills_part {ids : List Int} (hr : rises 0 ids = true) (P : Nat → Bool) : ∀ (t : List Bil) (l : List Int), (∀ x ∈ t, bilOk ids x = true ∧ x.st.length ≤ 1000) → l.length = ids.length → sumP ids.length (lf l) P - 1000000 * t.length ≤ sumP ids.length (lf (bilFold ids t l)) P ∧ sumP ids.length (lf (bilFold ids t l)) P ≤ sumP ids.length (lf l) P + 1000000 * t.length
 | [], l, _, _ => by simp [bilFold]
 | x :: t, l, h, hl => by
  have hx := h x (by simp)
  have hB := bil_f hx.1
  have hpi : ids.idxOf x.py < ids.length := List.idxOf_lt_length_of_mem hB.py
  have hsl := shares_len ids x
  have ih := bills_part hr P t (subL (addAt l (ids.idxOf x.py) x.pe) (sharesR ids x)) (fun y hy => h y (by simp [hy])) (by rw [subL_len (by rw [addAt_len, hl, shares_len]), addAt_len]; exact hl)
  rw [sumP_subL (by rw [addAt_len, hl, shares_len]), sumP_addAt (by omega) hpi] at ih
  have hsb := shares_btw hB hx.2
  have hn := sumP_nn (x := lf (sharesR ids x)) (P := P) (n := ids.length) fun v hv => by
   unfold lf
   rw [List.getD_eq_getElem?_getD, List.getElem?_eq_getElem (by omega)]
   exact (hsb _ (List.getElem_mem _)).1
  have hs := sumP_sum (sharesR ids x)
  rw [hsl, share_sum hr hx.1] at hs
  rw [hs] at hn
  have hp0 := hB.pe0
  have hp1 := hB.pe1
  rw [bilFold, List.length_cons]
  generalize P (ids.idxOf x.py) = b at ih
  cases b <;> simp at ih <;> omega
theorem pays_part {ids : List Int} (P : Nat → Bool) : ∀ (t : List Pay) (l : List Int), (∀ x ∈ t, x.a ∈ ids ∧ x.b ∈ ids ∧ 1 ≤ x.p ∧ x.p ≤ 1000000) → l.length = ids.length → sumP ids.length (lf l) P - 1000000 * t.length ≤ sumP ids.length (lf (payFold ids t l)) P ∧ sumP ids.length (lf (payFold ids t l)) P ≤ sumP ids.length (lf l) P + 1000000 * t.length
 | [], l, _, _ => by simp [payFold]
 | x :: t, l, h, hl => by
  have hx := h x (by simp)
  have i1 : ids.idxOf x.a < ids.length := List.idxOf_lt_length_of_mem hx.1
  have i2 : ids.idxOf x.b < ids.length := List.idxOf_lt_length_of_mem hx.2.1
  have ih := pays_part P t (payStep ids x l) (fun y hy => h y (by simp [hy])) (by unfold payStep; rw [addAt_len, addAt_len]; exact hl)
  unfold payStep at ih
  rw [sumP_addAt (by rw [addAt_len]; omega) i2, sumP_addAt (by omega) i1] at ih
  have hp := hx.2.2
  rw [payFold, List.length_cons]
  unfold payStep
  generalize P (ids.idxOf x.a) = b at ih
  generalize P (ids.idxOf x.b) = c at ih
  cases b <;> cases c <;> simp at ih <;> omega
theorem owed_part {f : Flo} (hf : floOk f = true) (hS : Sml f) (P : Nat → Bool) : -22000000 ≤ sumP f.ids.length (lf (owed8 f)) P ∧ sumP f.ids.length (lf (owed8 f)) P ≤ 22000000 := by
 have hF := flo_f hf
 have hr := rises_of_ok hf
 have h1 := bills_part hr P f.bs (List.replicate f.ids.length 0) (fun x hx => ⟨flo_bills hf x hx, hS.st x hx⟩) (by simp)
 have h0 : sumP f.ids.length (lf (List.replicate f.ids.length 0)) P = 0 := by
  have hz : ∀ v, v < f.ids.length → lf (List.replicate f.ids.length 0) v = (fun _ => (0 : Int)) v := fun v hv => by unfold lf; simp [List.getD_eq_getElem?_getD, hv]
  rw [Gr.sumP_congr hz (fun _ _ => rfl)]
  have : ∀ n, sumP n (fun _ => 0) P = 0 := fun n => by
   induction n with
   | zero => rfl
   | succ n ih => show sumP n (fun _ => 0) P + (if P n then 0 else 0) = 0; rw [ih]; simp
  exact this _
 have h2 := pays_part P f.ps (bilFold f.ids f.bs (List.replicate f.ids.length 0)) (fun x hx => ⟨(hF.pay x hx).1, (hF.pay x hx).2.1, (hF.pay x hx).2.2.2⟩) (by rw [bilFold_len _ _ (by simp)])
 have hb := hF.bs
 have hp := hF.ps
 show -22000000 ≤ sumP f.ids.length (lf (payFold f.ids f.ps (bilFold f.ids f.bs (List.replicate f.ids.length 0)))) P ∧ _ ≤ _
 unfold owed8
 omega
theorem pence_bound {f : Flo} (hf : floOk f = true) (hS : Sml f) {k : Nat} {l : List Pay} (hl : l ∈ allR f k) {x : Pay} (hx : x ∈ l) : x.p ≤ 22000000 := by
 obtain ⟨L, hL⟩ := allR_mem.1 hl
 obtain ⟨e, he, rfl⟩ := List.mem_map.1 (hL.pe.mem_iff.1 hx)
 obtain ⟨Q, hQ⟩ := Gr.side_of hL.fo he (.inr ⟨rfl, rfl⟩ : Gr.Ends e e.2 e.1)
 have ha := Gr.amt_side hL.nd hL.zr hQ
 have hb := owed_part hf hS Q
 unfold payE
 rw [ha]
 split
 ·dsimp only; omega
 ·dsimp only; omega
end Go.Proofs.YtihonljdanjfmaaGreatDoor.Sw
namespace Go.Proofs.YtihonljdanjfmaaGreatDoor.Sw
open Go.RowKit Go Go.Shelf Go.Proofs
section
variable {P : Program} {rs : List (Nat × AV)} {d : Option Nat} {ty : TypeId} {pos : String} {af : Array Edge} {g : Option (Nat × Bool)}
end
end Go.Proofs.YtihonljdanjfmaaGreatDoor.Sw
namespace Go.Proofs.YtihonljdanjfmaaGreatDoor.Sw
open Go.RowKit Go Go.Shelf Go.Proofs
open Go.Proofs.YtihonljdanjfmaaGreatDoor.Gr (Zr lf payLt payLt_no)
def PP (f : Flo) (x : Pay) : Prop := ∃ i j, i < j ∧ j < f.ids.length ∧ spk f i j = true ∧ x.a = f.ids.getD i 0 ∧ x.b = f.ids.getD j 0
theorem PP.mem {f : Flo} {x : Pay} (h : PP f x) : x.a ∈ f.ids ∧ x.b ∈ f.ids := by
 obtain ⟨i, j, h1, h2, _, h4, h5⟩ := h
 rw [h4, h5, List.getD_eq_getElem?_getD, List.getD_eq_getElem?_getD, List.getElem?_eq_getElem (by omega), List.getElem?_eq_getElem h2]
 exact ⟨List.getElem_mem _, List.getElem_mem _⟩
structure StF (f : Flo) (l : List Pay) : Prop where
 len : l.length ≤ 5
 few : fewN8 f = ((l.length : Int), 0)
 sp : ∀ x ∈ l, speakR f.qs x.a x.b = true ∧ x.a ∈ f.ids ∧ x.b ∈ f.ids
 pe : ∀ x ∈ l, 1 ≤ x.p ∧ x.p ≤ 22000000
 od : ∀ i (h : i < l.length) (h1 : i - 1 < l.length), 0 < i → ¬ l[i].a < l[i - 1].a ∧ (l[i - 1].a = l[i].a → l[i - 1].b < l[i].b)
 ze : ∀ v, v < f.ids.length → lf (payFold f.ids l (owed8 f)) v = 0
 no : ∀ so : List Pay, (∀ x ∈ so, PP f x) → so.length < l.length → zerG f (owed8 f) so = false
end Go.Proofs.YtihonljdanjfmaaGreatDoor.Sw
namespace Go.Proofs.YtihonljdanjfmaaGreatDoor.Sw
open Go.RowKit Go Go.Shelf Go.Proofs
open Go.Proofs.YtihonljdanjfmaaGreatDoor.Gr (Zr Cl Ok Forest sumP lf headsR headsR_snoc hf_merge mergeH Lab lab_all treeR_ok payE)
theorem sumI_perm {l m : List Int} (h : l.Perm m) : l.sum = m.sum := by
 induction h with
 | nil => rfl
 | cons x _ ih => rw [List.sum_cons, List.sum_cons, ih]
 | swap x y l => simp only [List.sum_cons]; omega
 | trans _ _ a b => exact a.trans b
def OwnZ (f : Flo) (js : List Nat) : Prop := ∀ P : Nat → Bool, (∀ a b, a < b → b < js.length → spk f (js.getD a 0) (js.getD b 0) = true → P a = P b) → sumP js.length (fun i => lf (owed8 f) (js.getD i 0)) P = 0
theorem getD_in {l : List Int} {j : Nat} (h : j < l.length) : l.getD j 0 = l[j] := by rw [List.getD_eq_getElem?_getD, List.getElem?_eq_getElem h]; rfl
structure GrF (f : Flo) (gs : List (List Int)) : Prop where
 fit : ∀ g ∈ gs, g.length ≤ f.ids.length ∧ ∀ id ∈ g, id ∈ f.ids
 al : ∀ g ∈ gs, aloR f g = (true, 0)
 ne : ∀ g ∈ gs, 0 < g.length
 od : ∀ i (h : i < gs.length) (h1 : i - 1 < gs.length), 0 < i → gs[i - 1].getD 0 0 < gs[i].getD 0 0
 pe : gs.flatten.Perm f.ids
 few : fewN8 f = ((f.ids.length : Int) - (gs.length : Int), 0)
 cnt : gs.length ≤ f.ids.length
 pt : ∀ (c : Nat → Nat) (m : Nat), (∀ v, v < f.ids.length → c v < m) → (∀ i, OwnZ f ((List.range f.ids.length).filter fun v => decide (c v = i))) → ∀ vals : List Nat, vals.Nodup → (∀ k ∈ vals, ∃ v, v < f.ids.length ∧ c v = k) → vals.length ≤ gs.length
end Go.Proofs.YtihonljdanjfmaaGreatDoor.Sw
namespace Go.Proofs.YtihonljdanjfmaaGreatDoor.Sw
open Go.RowKit Go Go.Shelf Go.Proofs
open Go.Proofs.YtihonljdanjfmaaGreatDoor.Gr (Zr Cl Ok Forest Side sumP lf amt payE treeR_ok treeR_iff)
theorem forest_cons {L : List (Nat × Nat)} (hn : L.Nodup) (hf : Forest L) {e : Nat × Nat} {z o : Nat} (he : Gr.Ends e z o) (hzo : z ≠ o) (hz : ∀ p ∈ L, p.1 ≠ z ∧ p.2 ≠ z) : e ∉ L ∧ Forest (e :: L) := by
 have hne : e ∉ L := fun h => by
  have := hz e h
  rcases he with ⟨a, _⟩ | ⟨_, a⟩
  ·exact this.1 a
  ·exact this.2 a
 refine ⟨hne, fun p hp => ?_⟩
 by_cases hpe : p = e
 ·subst hpe
  refine ⟨fun v => decide (v = z), ?_, ?_⟩
  ·rw [List.erase_cons_head]; exact cl_alone hz
  ·rcases he with ⟨a, b⟩ | ⟨a, b⟩
   ·rw [a, b]; simp [Ne.symm hzo]
   ·rw [a, b]; simp [Ne.symm hzo]
 ·have hpL : p ∈ L := by
   rcases List.mem_cons.1 hp with h | h
   ·exact absurd h hpe
   ·exact h
  obtain ⟨P, hP, hPne⟩ := hf p hpL
  have hb := hz p hpL
  refine ⟨fun v => if v = z then P o else P v, fun q hq => ?_, ?_⟩
  ·have hq2 := List.mem_of_mem_erase hq
   rcases List.mem_cons.1 hq2 with h | h
   ·subst h
    rcases he with ⟨a, b⟩ | ⟨a, b⟩
    ·rw [a, b]; simp [Ne.symm hzo]
    ·rw [a, b]; simp [Ne.symm hzo]
   ·have := hz q h
    have hnd : (e :: L).Nodup := List.nodup_cons.2 ⟨hne, hn⟩
    have hqp := (hnd.mem_erase_iff.1 hq).1
    simp only [this.1, this.2, if_false]
    exact hP q (hn.mem_erase_iff.2 ⟨hqp, h⟩)
  ·simp only [hb.1, hb.2, if_false]; exact hPne
def posP (n : Nat) (x : Nat → Int) : Int := sumP n (fun v => max 0 (x v)) fun _ => true
theorem sumP_sign {x : Nat → Int} : ∀ {n : Nat}, (∀ v, v < n → 0 ≤ x v) → 0 ≤ sumP n x (fun _ => true) ∧ (sumP n x (fun _ => true) = 0 → ∀ v, v < n → x v = 0)
 | 0, _ => ⟨Int.le_refl _, fun _ v hv => by omega⟩
 | n + 1, h => by
  obtain ⟨h1, h2⟩ := sumP_sign (x := x) (n := n) fun v hv => h v (by omega)
  have h3 := h n (by omega)
  have e : sumP (n + 1) x (fun _ => true) = sumP n x (fun _ => true) + x n := rfl
  refine ⟨by omega, fun h0 v hv => ?_⟩
  by_cases e' : v = n
  ·subst e'; omega
  ·exact h2 (by omega) v (by omega)
theorem sumP_neg {x : Nat → Int} {P : Nat → Bool} : ∀ {n : Nat}, sumP n (fun v => - x v) P = - sumP n x P
 | 0 => rfl
 | n + 1 => by
  show sumP n (fun v => - x v) P + (if P n then - x n else 0) = - (sumP n x P + if P n then x n else 0)
  rw [sumP_neg]
  cases P n <;> simp <;> omega
theorem both_signs {n : Nat} {x : Nat → Int} (h0 : sumP n x (fun _ => true) = 0) {v : Nat} (hv : v < n) (hx : x v ≠ 0) : (∃ c, c < n ∧ 0 < x c) ∧ ∃ d, d < n ∧ x d < 0 := by
 constructor
 ·by_cases h : ∃ c, c < n ∧ 0 < x c
  ·exact h
  ·have h1 : ∀ v, v < n → 0 ≤ (fun v => - x v) v := fun v hv => by
    have : ¬ 0 < x v := fun q => h ⟨v, hv, q⟩
    show 0 ≤ - x v; omega
   have := (sumP_sign h1).2 (by rw [sumP_neg, h0]; rfl) v hv
   have : - x v = 0 := this
   omega
 ·by_cases h : ∃ c, c < n ∧ x c < 0
  ·exact h
  ·have h1 : ∀ v, v < n → 0 ≤ x v := fun v hv => by
    have : ¬ x v < 0 := fun q => h ⟨v, hv, q⟩
    omega
   have := (sumP_sign h1).2 h0 v hv
   omega
noncomputable def carr (n : Nat) (x : Nat → Int) (L : List (Nat × Nat)) : Int := (L.map fun e => ((amt n x L e).natAbs : Int)).sum
theorem pay_off {n : Nat} : ∀ (m : Nat) (x : Nat → Int), Gr.cnt n (fun v => decide (x v ≠ 0)) ≤ m → sumP n x (fun _ => true) = 0 → ∃ L : List (Nat × Nat), L.Nodup ∧ (∀ e ∈ L, e.1 < e.2 ∧ e.2 < n ∧ x e.1 ≠ 0 ∧ x e.2 ≠ 0) ∧ Forest L ∧ Zr n L x ∧ carr n x L ≤ posP n x := by
 intro m
 induction m with
 | zero =>
  intro x hc h0
  have hz : ∀ v, v < n → x v = 0 := fun v hv => by
   by_cases h : x v = 0
   ·exact h
   ·have := Gr.cnt_pos (P := fun v => decide (x v ≠ 0)) (t := v) (by simpa using h) hv
    omega
  refine ⟨[], List.nodup_nil, fun _ h => absurd h List.not_mem_nil, fun _ h => absurd h List.not_mem_nil, Gr.zr_zero hz, ?_⟩
  exact (sumP_sign (x := fun v => max 0 (x v)) (n := n) fun v _ => by show 0 ≤ max 0 (x v); omega).1
 | succ m ih =>
  intro x hc h0
  by_cases hall : ∀ v, v < n → x v = 0
  ·refine ⟨[], List.nodup_nil, fun _ h => absurd h List.not_mem_nil, fun _ h => absurd h List.not_mem_nil, Gr.zr_zero hall, ?_⟩
   exact (sumP_sign (x := fun v => max 0 (x v)) (n := n) fun v _ => by show 0 ≤ max 0 (x v); omega).1
  ·obtain ⟨v, hv, hxv⟩ : ∃ v, v < n ∧ x v ≠ 0 := by
    by_cases h : ∃ v, v < n ∧ x v ≠ 0
    ·exact h
    ·exact absurd (fun v hv => by
      by_cases e : x v = 0
      ·exact e
      ·exact absurd ⟨v, hv, e⟩ h) hall
   obtain ⟨⟨c, hcn, hxc⟩, d, hdn, hxd⟩ := both_signs h0 hv hxv
   have hcd : c ≠ d := fun e => by rw [e] at hxc; omega
   obtain ⟨q, hq⟩ : ∃ q, q = min (x c) (- x d) := ⟨_, rfl⟩
   obtain ⟨e, a, he, ha⟩ : ∃ (e : Nat × Nat) (a : Int), e.1 < e.2 ∧ ((e.1 = d ∧ e.2 = c ∧ a = q) ∨ (e.1 = c ∧ e.2 = d ∧ a = - q)) := by
    rcases Nat.lt_or_gt_of_ne hcd with h | h
    ·exact ⟨(c, d), - q, h, .inr ⟨rfl, rfl, rfl⟩⟩
    ·exact ⟨(d, c), q, h, .inl ⟨rfl, rfl, rfl⟩⟩
   have h1n : e.1 < n := by rcases ha with ⟨h1, h2, _⟩ | ⟨h1, h2, _⟩ <;> omega
   have h2n : e.2 < n := by rcases ha with ⟨h1, h2, _⟩ | ⟨h1, h2, _⟩ <;> omega
   have gc : gone x e.1 e.2 a c = x c - q := by
    unfold gone Gr.upd
    rcases ha with ⟨h1, h2, h3⟩ | ⟨h1, h2, h3⟩
    ·rw [h1, h2, h3]; simp [hcd]
    ·rw [h1, h2, h3]; simp [hcd] <;> omega
   have gd : gone x e.1 e.2 a d = x d + q := by
    unfold gone Gr.upd
    rcases ha with ⟨h1, h2, h3⟩ | ⟨h1, h2, h3⟩
    ·rw [h1, h2, h3]; simp [Ne.symm hcd]
    ·rw [h1, h2, h3]; simp [Ne.symm hcd] <;> omega
   have go : ∀ v, v ≠ c → v ≠ d → gone x e.1 e.2 a v = x v := fun v h1 h2 => by
    unfold gone Gr.upd
    rcases ha with ⟨h3, h4, h5⟩ | ⟨h3, h4, h5⟩
    ·rw [h3, h4]; simp [h1, h2]
    ·rw [h3, h4]; simp [h1, h2]
   have gs : sumP n (gone x e.1 e.2 a) (fun _ => true) = 0 := by
    rw [sumP_gone h1n h2n, h0]; simp
   have gpos : posP n (gone x e.1 e.2 a) = posP n x - q := by
    have := Gr.sumP_upd (x := fun v => max 0 (x v)) (P := fun _ => true) (i := c) (c := max 0 (x c) - q) hcn
    have e2 : posP n (gone x e.1 e.2 a) = sumP n (Gr.upd (fun v => max 0 (x v)) c (max 0 (x c) - q)) (fun _ => true) := by
     refine Gr.sumP_congr (fun v _ => ?_) fun _ _ => rfl
     show max 0 (gone x e.1 e.2 a v) = if v = c then max 0 (x c) - q else max 0 (x v)
     by_cases hvc : v = c
     ·subst hvc; rw [gc, if_pos rfl]; omega
     ·rw [if_neg hvc]
      by_cases hvd : v = d
      ·subst hvd; rw [gd]; omega
      ·rw [go v hvc hvd]
    rw [e2, this]
    show posP n x + _ = _
    rw [if_pos rfl]; omega
   have gnz : ∀ v, gone x e.1 e.2 a v ≠ 0 → x v ≠ 0 := fun v h => by
    by_cases hvc : v = c
    ·subst hvc; omega
    ·by_cases hvd : v = d
     ·subst hvd; omega
     ·rwa [go v hvc hvd] at h
   obtain ⟨z, o, hzo, hez, hz0, hzn⟩ : ∃ z o, z ≠ o ∧ Gr.Ends e z o ∧ gone x e.1 e.2 a z = 0 ∧ z < n := by
    by_cases h : x c = q
    ·refine ⟨c, d, hcd, ?_, by rw [gc]; omega, hcn⟩
     rcases ha with ⟨h1, h2, _⟩ | ⟨h1, h2, _⟩
     ·exact .inr ⟨h1, h2⟩
     ·exact .inl ⟨h1, h2⟩
    ·refine ⟨d, c, Ne.symm hcd, ?_, by rw [gd]; omega, hdn⟩
     rcases ha with ⟨h1, h2, _⟩ | ⟨h1, h2, _⟩
     ·exact .inl ⟨h1, h2⟩
     ·exact .inr ⟨h1, h2⟩
   have hxz : x z ≠ 0 := by
    rcases hez with ⟨h1, h2⟩ | ⟨h1, h2⟩ <;> rcases ha with ⟨h3, h4, _⟩ | ⟨h3, h4, _⟩
    ·rw [show z = d by omega]; omega
    ·rw [show z = c by omega]; omega
    ·rw [show z = c by omega]; omega
    ·rw [show z = d by omega]; omega
   have hcnt : Gr.cnt n (fun v => decide (gone x e.1 e.2 a v ≠ 0)) < Gr.cnt n (fun v => decide (x v ≠ 0)) :=
    Gr.cnt_lt (t := z) (fun v hv => by simpa using gnz v (by simpa using hv)) (by simpa using hxz) (by simpa using hz0) hzn
   obtain ⟨L, hnd, hm, hf, hzr, hca⟩ := ih (gone x e.1 e.2 a) (by omega) gs
   have hzL : ∀ p ∈ L, p.1 ≠ z ∧ p.2 ≠ z := fun p hp => by
    have := hm p hp
    exact ⟨fun h => this.2.2.1 (by rw [h, hz0]), fun h => this.2.2.2 (by rw [h, hz0])⟩
   obtain ⟨hne, hfo⟩ := forest_cons hnd hf hez hzo hzL
   have hnd2 : (e :: L).Nodup := List.nodup_cons.2 ⟨hne, hnd⟩
   have hz2 : Zr n (e :: L) x := gone_more h1n h2n hzr (fun p hp => by simp [hp]) (by simp)
   have hcl : Cl ((e :: L).erase e) fun v => decide (v = z) := by rw [List.erase_cons_head]; exact cl_alone hzL
   have hxq : x z = q ∨ x z = - q := by
    rcases hez with ⟨h1, h2⟩ | ⟨h1, h2⟩ <;> rcases ha with ⟨h3, h4, _⟩ | ⟨h3, h4, _⟩
    ·rw [show z = d by omega] at hz0 ⊢; rw [gd] at hz0; omega
    ·rw [show z = c by omega] at hz0 ⊢; rw [gc] at hz0; omega
    ·rw [show z = c by omega] at hz0 ⊢; rw [gc] at hz0; omega
    ·rw [show z = d by omega] at hz0 ⊢; rw [gd] at hz0; omega
   have hxz1 : sumP n x (fun v => decide (v = z)) = x z := by rw [sumP_one (n := 0), if_pos hzn]
   have hae : amt n x (e :: L) e = a := by
    rcases hez with ⟨h1, h2⟩ | ⟨h1, h2⟩
    ·have hs : Side (e :: L) e e.1 e.2 (fun v => decide (v = z)) := ⟨hcl, by simp [h1], by rw [h2]; simp [Ne.symm hzo]⟩
     rw [Gr.amt_swap hnd2 hz2 hs, hxz1]
     rcases ha with ⟨h3, h4, h5⟩ | ⟨h3, h4, h5⟩
     ·rw [show z = d by omega] at hz0 ⊢; rw [gd] at hz0; omega
     ·rw [show z = c by omega] at hz0 ⊢; rw [gc] at hz0; omega
    ·have hs : Side (e :: L) e e.2 e.1 (fun v => decide (v = z)) := ⟨hcl, by simp [h2], by rw [h1]; simp [Ne.symm hzo]⟩
     rw [Gr.amt_side hnd2 hz2 hs, hxz1]
     rcases ha with ⟨h3, h4, h5⟩ | ⟨h3, h4, h5⟩
     ·rw [show z = c by omega] at hz0 ⊢; rw [gc] at hz0; omega
     ·rw [show z = d by omega] at hz0 ⊢; rw [gd] at hz0; omega
   refine ⟨e :: L, hnd2, fun p hp => ?_, hfo, hz2, ?_⟩
   ·rcases List.mem_cons.1 hp with rfl | h
    ·refine ⟨he, h2n, ?_, ?_⟩
     ·rcases ha with ⟨h3, h4, h5⟩ | ⟨h3, h4, h5⟩ <;> rw [h3] <;> omega
     ·rcases ha with ⟨h3, h4, h5⟩ | ⟨h3, h4, h5⟩ <;> rw [h4] <;> omega
    ·have := hm p h
     exact ⟨this.1, this.2.1, gnz _ this.2.2.1, gnz _ this.2.2.2⟩
   ·have hrest : (L.map fun p => ((amt n x (e :: L) p).natAbs : Int)) = L.map fun p => ((amt n (gone x e.1 e.2 a) L p).natAbs : Int) := by
     refine List.map_congr_left fun p hp => ?_
     have hpe : e ≠ p := fun h => hne (h ▸ hp)
     have := amt_gone hnd2 hfo hz2 (e := e) (e' := p) (by simp) (by simp [hp]) hpe h1n h2n
     rw [hae, List.erase_cons_head] at this
     rw [this]
    unfold carr at hca ⊢
    rw [List.map_cons, List.sum_cons, hae, hrest]
    have hqa : (a.natAbs : Int) = q := by rcases ha with ⟨_, _, h⟩ | ⟨_, _, h⟩ <;> omega
    omega
def starL (n i : Nat) : List (Nat × Nat) := ((List.range n).filter fun k => decide (k ≠ i)).map fun k => (min i k, max i k)
def sumX (n i : Nat) (x : Nat → Int) : Int := ((((List.range n).filter fun k => decide (k ≠ i)).map fun k => ((x k).natAbs : Int))).sum
theorem star_mem {n i : Nat} {e : Nat × Nat} : e ∈ starL n i ↔ ∃ k, k < n ∧ k ≠ i ∧ e = (min i k, max i k) := by
 unfold starL
 simp only [List.mem_map, List.mem_filter, List.mem_range, decide_eq_true_eq]
 constructor
 ·rintro ⟨k, ⟨h1, h2⟩, rfl⟩; exact ⟨k, h1, h2, rfl⟩
 ·rintro ⟨k, h1, h2, rfl⟩; exact ⟨k, ⟨h1, h2⟩, rfl⟩
theorem star_nd (n i : Nat) : (starL n i).Nodup := by
 unfold starL
 refine List.pairwise_map.2 (List.Pairwise.imp_of_mem (R := (· ≠ ·)) (fun {a b} ha hb hab hE => hab ?_) (List.nodup_range.filter _))
 have h1 := congrArg Prod.fst hE
 have h2 := congrArg Prod.snd hE
 dsimp only at h1 h2
 omega
theorem star_cl {n i k : Nat} (hki : k ≠ i) : Cl ((starL n i).erase (min i k, max i k)) fun v => decide (v = k) := fun p hp => by
 have hp := ((star_nd n i).mem_erase_iff.1 hp)
 obtain ⟨j, _, h2, rfl⟩ := star_mem.1 hp.2
 have hjk : j ≠ k := fun e => hp.1 (by rw [e])
 have a : ¬ min i j = k := by omega
 have b : ¬ max i j = k := by omega
 simp [a, b]
theorem star_forest (n i : Nat) : Forest (starL n i) := fun e he => by
 obtain ⟨k, h1, h2, rfl⟩ := star_mem.1 he
 refine ⟨fun v => decide (v = k), star_cl h2, ?_⟩
 dsimp only
 rcases Nat.le_total i k with h | h
 ·rw [Nat.min_eq_left h, Nat.max_eq_right h]; simp [Ne.symm h2]
 ·rw [Nat.min_eq_right h, Nat.max_eq_left h]; simp [Ne.symm h2]
theorem star_zr {n i : Nat} {x : Nat → Int} (h0 : sumP n x (fun _ => true) = 0) : Zr n (starL n i) x := fun P hP => by
 have hc : ∀ v, v < n → P v = P i := fun v hv => by
  by_cases e : v = i
  ·rw [e]
  ·have := hP _ (star_mem.2 ⟨v, hv, e, rfl⟩)
   dsimp only at this
   rcases Nat.le_total i v with h | h
   ·rw [Nat.min_eq_left h, Nat.max_eq_right h] at this; exact this.symm
   ·rw [Nat.min_eq_right h, Nat.max_eq_left h] at this; exact this
 rw [Gr.sumP_congr (Q := fun _ => P i) (fun _ _ => rfl) hc]
 cases P i with
 | true => exact h0
 | false => exact Gr.sumP_none _ _
theorem star_amt {n i k : Nat} {x : Nat → Int} (h0 : sumP n x (fun _ => true) = 0) (hk : k < n) (hki : k ≠ i) : (amt n x (starL n i) (min i k, max i k)).natAbs = (x k).natAbs := by
 have hx : sumP n x (fun v => decide (v = k)) = x k := by rw [sumP_one (n := 0), if_pos hk]
 rcases Nat.le_total i k with h | h
 ·have hs : Side (starL n i) (min i k, max i k) (min i k, max i k).2 (min i k, max i k).1 (fun v => decide (v = k)) := ⟨star_cl hki, by simp [Nat.max_eq_right h], by simp [Nat.min_eq_left h, Ne.symm hki]⟩
  rw [Gr.amt_side (star_nd n i) (star_zr h0) hs, hx]
 ·have hs : Side (starL n i) (min i k, max i k) (min i k, max i k).1 (min i k, max i k).2 (fun v => decide (v = k)) := ⟨star_cl hki, by simp [Nat.min_eq_right h], by simp [Nat.max_eq_left h, Ne.symm hki]⟩
  rw [Gr.amt_swap (star_nd n i) (star_zr h0) hs, hx, Int.natAbs_neg]
theorem star_carr {n i : Nat} {x : Nat → Int} (h0 : sumP n x (fun _ => true) = 0) : carr n x (starL n i) = sumX n i x := by
 unfold carr sumX
 rw [starL, List.map_map]
 refine congrArg List.sum (List.map_congr_left fun k hk => ?_)
 have hk := List.mem_filter.1 hk
 have := star_amt (i := i) h0 (List.mem_range.1 hk.1) (by simpa using hk.2)
 simp only [Function.comp]
 rw [← this]; rfl
theorem sub_sum {α : Type} {g : α → Int} (hg : ∀ a, 0 ≤ g a) {l m : List α} (h : l.Sublist m) : (l.map g).sum ≤ (m.map g).sum := by
 induction h with
 | slnil => exact Int.le_refl _
 | cons a _ ih => rw [List.map_cons, List.sum_cons]; have := hg a; omega
 | cons_cons a _ ih => rw [List.map_cons, List.map_cons, List.sum_cons, List.sum_cons]; omega
theorem sumPay_payE (ids : List Int) (x : Nat → Int) (L : List (Nat × Nat)) : ∀ R : List (Nat × Nat), sumPay (R.map (payE ids x L)) = (R.map fun e => ((amt ids.length x L e).natAbs : Int)).sum
 | [] => rfl
 | e :: t => by
  rw [List.map_cons, sumPay_cons, sumPay_payE ids x L t, List.map_cons, List.sum_cons]
  congr 1
  unfold payE
  split
  ·show - amt ids.length x L e = _; omega
  ·show amt ids.length x L e = _; omega
theorem sumPay_permL {l m : List Pay} (h : l.Perm m) : sumPay l = sumPay m := sumI_perm (h.map _)
theorem from_forest {f : Flo} (hf : floOk f = true) {L : List (Nat × Nat)} (hn : L.Nodup) (hfo : Forest L) (hz : Zr f.ids.length L (lf (owed8 f))) (hm : ∀ e ∈ L, PrS f e) : ∃ k, k < 6 ∧ ∃ out ∈ allR f k, sumPay out ≤ carr f.ids.length (lf (owed8 f)) L := by
 have hok := prR_ok (spk f) f.ids.length
 obtain ⟨T, hT, hTn, hTe⟩ := sub_of_set hn hok.nd fun e he => (prR_mem (Nat.le_refl _)).2 ⟨Nat.lt_trans (hm e he).1 (hm e he).2.1, (hm e he).1, (hm e he).2.1, (hm e he).2.2⟩
 have hzT : Zr f.ids.length T (lf (owed8 f)) := hz.sup fun p hp => (hTe p).1 hp
 have hpT : T.Perm L := ((List.perm_ext_iff_of_nodup hn hTn).2 hTe).symm
 obtain ⟨R, hR, hRo, hRz, hRm⟩ := Gr.exists_min _ rfl (hok.sub hT) hzT
 obtain ⟨out, ho⟩ := treeR_ok hRo (owed8_len f) hRz hRm
 have hin := allR_of (hR.trans hT) ho
 have hids := (flo_f hf).ids
 refine ⟨R.length, ?_, out, hin, ?_⟩
 ·rcases hRm.small hRo hRz with h | h <;> omega
 ·obtain ⟨_, _, _, _, hpe⟩ := (treeR_iff hRo (owed8_len f)).1 ho
  have e1 : (R.map fun e => ((amt f.ids.length (lf (owed8 f)) R e).natAbs : Int)) = R.map fun e => ((amt f.ids.length (lf (owed8 f)) L e).natAbs : Int) := by
   refine List.map_congr_left fun e he => ?_
   have heL : e ∈ L := hpT.mem_iff.1 (hR.subset he)
   obtain ⟨Q, hQ⟩ := Gr.side_of hfo heL (.inr ⟨rfl, rfl⟩ : Gr.Ends e e.2 e.1)
   have hQR : Side R e e.2 e.1 Q := ⟨fun p hp => by
    have h3 := hRo.nd.mem_erase_iff.1 hp
    exact hQ.cl p (hn.mem_erase_iff.2 ⟨h3.1, hpT.mem_iff.1 (hR.subset h3.2)⟩), hQ.inn, hQ.out⟩
   rw [Gr.amt_side hn hz hQ, Gr.amt_side hRo.nd hRz hQR]
  rw [sumPay_permL hpe, sumPay_payE, e1]
  unfold carr
  rw [← sumI_perm (hpT.map fun e => ((amt f.ids.length (lf (owed8 f)) L e).natAbs : Int))]
  exact sub_sum (fun _ => Int.natCast_nonneg _) hR
theorem pays_down {ids : List Int} (P : Nat → Bool) : ∀ (t : List Pay) (l : List Int), (∀ x ∈ t, (x.a ∈ ids ∧ x.b ∈ ids) ∧ 1 ≤ x.p) → l.length = ids.length → sumP ids.length (lf l) P - sumPay t ≤ sumP ids.length (lf (payFold ids t l)) P
 | [], l, _, _ => by simp [payFold, sumPay]
 | x :: t, l, h, hl => by
  have hx := h x (by simp)
  have i1 : ids.idxOf x.a < ids.length := List.idxOf_lt_length_of_mem hx.1.1
  have i2 : ids.idxOf x.b < ids.length := List.idxOf_lt_length_of_mem hx.1.2
  have ih := pays_down P t (payStep ids x l) (fun y hy => h y (by simp [hy])) (by unfold payStep; rw [addAt_len, addAt_len]; exact hl)
  unfold payStep at ih
  rw [sumP_addAt (by rw [addAt_len]; omega) i2, sumP_addAt (by omega) i1] at ih
  have hp := hx.2
  rw [payFold, sumPay_cons]
  unfold payStep
  generalize P (ids.idxOf x.a) = b at ih
  generalize P (ids.idxOf x.b) = c at ih
  cases b <;> cases c <;> simp at ih <;> omega
theorem posP_sign (x : Nat → Int) : ∀ n, sumP n x (fun v => decide (0 < x v)) = posP n x
 | 0 => rfl
 | n + 1 => by
  have ih := posP_sign x n
  show sumP n x (fun v => decide (0 < x v)) + (if decide (0 < x n) = true then x n else 0) = posP n x + max 0 (x n)
  rw [ih]
  by_cases h : 0 < x n
  ·rw [if_pos (by simpa using h)]; omega
  ·rw [if_neg (by simpa using h)]; omega
theorem all_le {f : Flo} (hS : Sml f) (hf : floOk f = true) {k : Nat} {l : List Pay} (hl : l ∈ allR f k) : posP f.ids.length (lf (owed8 f)) ≤ sumPay l := by
 have hT := told (flo_f hf) hS (rises_of_ok hf) hl
 have h1 := pays_down (ids := f.ids) (fun v => decide (0 < lf (owed8 f) v)) l (owed8 f) (fun x hx => ⟨(told_speak hl hx).2, (hT.ok x hx).2⟩) (owed8_len f)
 rw [posP_sign] at h1
 have hz := settles hf hl
 have h2 : sumP f.ids.length (lf (payFold f.ids l (owed8 f))) (fun v => decide (0 < lf (owed8 f) v)) = 0 := by
  have := Gr.zr_zero (L := ([] : List (Nat × Nat))) hz
  exact this _ fun p hp => absurd hp List.not_mem_nil
 omega
theorem owed_zero {f : Flo} (hf : floOk f = true) : sumP f.ids.length (lf (owed8 f)) (fun _ => true) = 0 := by
 have := sumP_sum (owed8 f)
 rw [owed8_len] at this
 rw [this, owed_sum hf]
def posS (l : List Int) : Int := (l.map fun m => max 0 m).sum
theorem posS_eq (l : List Int) : posP l.length (lf l) = posS l := by
 have := sumP_sum (l.map fun m => max 0 m)
 rw [List.length_map] at this
 unfold posS
 rw [← this]
 refine Gr.sumP_congr (fun v hv => ?_) fun _ _ => rfl
 show max 0 (lf l v) = _
 unfold lf
 simp [List.getD_eq_getElem?_getD, hv]
def hubB (f : Flo) (i k : Nat) : Bool := (List.range k).all fun j => decide (j = i) || speakR f.qs (f.ids.getD i 0) (f.ids.getD j 0)
theorem hubB_succ (f : Flo) (i k : Nat) : hubB f i (k + 1) = (hubB f i k && (decide (k = i) || speakR f.qs (f.ids.getD i 0) (f.ids.getD k 0))) := by
 unfold hubB
 rw [List.range_succ, List.all_append]; simp
theorem sumX_succ (n i : Nat) (x : Nat → Int) : sumX (n + 1) i x = sumX n i x + if n = i then 0 else ((x n).natAbs : Int) := by
 unfold sumX
 rw [List.range_succ, List.filter_append, List.map_append, List.sum_append]
 by_cases e : n = i
 ·simp [e]
 ·simp [e]
structure ChF (f : Flo) (n : Int) (l : List Pay) : Prop where
 all : posS (owed8 f) ≤ n
 tol : n ≤ sumPay l
 eq : f.qs = [] → n = posS (owed8 f)
 hub : ∀ i, i < f.ids.length → hubB f i f.ids.length = true → n ≤ sumX f.ids.length i (lf (owed8 f))
 len : l.length ≤ 5
 pe : ∀ x ∈ l, 1 ≤ x.p ∧ x.p ≤ 22000000
 n0 : 0 ≤ n ∧ n ≤ 1000000000
theorem spk_all {f : Flo} (hr : rises 0 f.ids = true) (hq : f.qs = []) {a b : Nat} (hab : a < b) (hb : b < f.ids.length) : spk f a b = true := by
 unfold spk
 rw [hq, getD_in hb, getD_in (show a < f.ids.length by omega), speak_in (rises_sorted hr _ _ _ hb hab)]
 simp
theorem ch_facts {f : Flo} (hS : Sml f) (hf : floOk f = true) (h0 : (stlN f).2 = 0) : ChF f (chpN8 f).1 (stlN f).1 ∧ (chpN8 f).2 = 0 := by
 obtain ⟨k, hk, hin, hm, hlen⟩ := stl_told hS hf h0
 have hr := rises_of_ok hf
 have hol := owed8_len f
 have hT := told (flo_f hf) hS hr hin
 have hne : allR f k ≠ [] := fun e => by rw [e] at hin; cases hin
 have hfne := few_some hne hk
 have af : askR f = (fewTo (allR f) 6, chTo (allR f) 6, 0) := by
  unfold askR
  rw [if_pos hf, if_neg]
  intro e; exact hfne (List.isEmpty_iff.1 e)
 have ech : chpN8 f = (chTo (allR f) 6, 0) := by
  unfold chpN8
  rw [af, if_pos rfl]
 have nf : ∀ j, j < 6 → ∀ l ∈ allR f j, 0 ≤ sumPay l := fun j _ l hl => sumPay_nn1 fun x hx => ((told (flo_f hf) hS hr hl).ok x hx).2
 obtain ⟨c1, c2⟩ := chTo_min nf
 rw [ech]
 have hpe : ∀ x ∈ (stlN f).1, 1 ≤ x.p ∧ x.p ≤ 22000000 := fun x hx => ⟨(hT.ok x hx).2, pence_bound hf hS hin hx⟩
 have hps := posS_eq (owed8 f)
 rw [hol] at hps
 obtain ⟨h1, j, hj, l, hl, e⟩ : 0 ≤ chTo (allR f) 6 ∧ ∃ j, j < 6 ∧ ∃ l ∈ allR f j, chTo (allR f) 6 = sumPay l := by
  rcases c1 with ⟨_, h⟩ | h
  ·exact absurd (h k hk) hne
  ·exact h
 have hall : posS (owed8 f) ≤ chTo (allR f) 6 := by rw [← hps, e]; exact all_le hS hf hl
 have hsb : ∀ t : List Pay, (∀ x ∈ t, x.p ≤ 22000000) → sumPay t ≤ 22000000 * (t.length : Int) := fun t => by
  induction t with
  | nil => intro _; simp [sumPay]
  | cons x t ih =>
   intro h
   have := h x (by simp)
   have := ih fun y hy => h y (by simp [hy])
   rw [sumPay_cons, List.length_cons]; omega
 have hb := hsb _ fun x hx => (hpe x hx).2
 have hto := c2 k hk _ hin
 refine ⟨⟨hall, hto, fun hq => ?_, fun i hi hh => ?_, by omega, hpe, h1, by dsimp only; omega⟩, rfl⟩
 ·obtain ⟨L, hn, hmL, hfo, hz, hc⟩ := pay_off _ (lf (owed8 f)) (Nat.le_refl _) (owed_zero hf)
  obtain ⟨j2, hj2, out, ho, hle⟩ := from_forest hf hn hfo hz fun p hp => ⟨(hmL p hp).1, (hmL p hp).2.1, spk_all hr hq (hmL p hp).1 (hmL p hp).2.1⟩
  have := c2 j2 hj2 out ho
  dsimp only
  omega
 ·obtain ⟨j2, hj2, out, ho, hle⟩ := from_forest hf (star_nd f.ids.length i) (star_forest f.ids.length i) (star_zr (owed_zero hf)) fun p hp => by
   obtain ⟨v, h2, h3, rfl⟩ := star_mem.1 hp
   have hsp := List.all_eq_true.1 hh v (List.mem_range.2 h2)
   rw [decide_eq_false h3, Bool.false_or] at hsp
   refine ⟨by dsimp only; omega, by dsimp only; omega, ?_⟩
   dsimp only
   unfold spk
   rcases Nat.le_total i v with h | h
   ·rw [Nat.min_eq_left h, Nat.max_eq_right h]; exact hsp
   ·rw [Nat.min_eq_right h, Nat.max_eq_left h, speakR_comm]; exact hsp
  have := c2 j2 hj2 out ho
  rw [star_carr (owed_zero hf)] at hle
  dsimp only
  omega
end Go.Proofs.YtihonljdanjfmaaGreatDoor.Sw
namespace Go.Proofs.YtihonljdanjfmaaGreatDoor.Sw
open Go.RowKit Go Go.Shelf Go.Proofs
theorem chpN8_2 (f : Flo) : (chpN8 f).2 = (askR f).2.2 := by
 unfold chpN8
 split
 ·rename_i h; exact h.symm
 ·rfl
theorem lsC3 {f : Flo} (hS : Sml f) : errL f = 0 → ∀ m, m ≤ 5 → ∀ l ∈ lstsR f (owed8 f) m, PayB l := fun he m hm l hl => by
 have hok := errL_ok he
 exact (told (flo_f hok) hS (rises_of_ok hok) ((lists_perm (rises_of_ok hok) m).mem_iff.1 hl)).payB (by omega)
end Go.Proofs.YtihonljdanjfmaaGreatDoor.Sw
namespace Go.Proofs.YtihonljdanjfmaaGreatDoor.Sw
open Go.RowKit Go Go.Shelf Go.Proofs
open Go.Proofs.YtihonljdanjfmaaGreatDoor.Gr (lf)
theorem posS_take {l : List Int} {k : Nat} (h : k < l.length) : posS (l.take (k + 1)) = posS (l.take k) + max 0 l[k] := by
 unfold posS
 rw [List.take_succ_eq_append_getElem h, List.map_append, List.sum_append]; simp
theorem posS_btw {c : Int} (hc : 0 ≤ c) : ∀ {l : List Int}, (∀ x ∈ l, x ≤ c) → 0 ≤ posS l ∧ posS l ≤ c * (l.length : Int)
 | [], _ => by simp [posS]
 | x :: t, h => by
  have ih := posS_btw hc (l := t) fun y hy => h y (by simp [hy])
  have hx := h x (by simp)
  have e : posS (x :: t) = max 0 x + posS t := by unfold posS; rw [List.map_cons, List.sum_cons]
  have e2 : c * ((t.length + 1 : Nat) : Int) = c * (t.length : Int) + c := by rw [Int.natCast_add, Int.mul_add]; simp
  rw [e, List.length_cons, e2]
  omega
theorem sumPay_take {l : List Pay} {k : Nat} (h : k < l.length) : sumPay (l.take (k + 1)) = sumPay (l.take k) + l[k].p := by
 unfold sumPay
 rw [List.take_succ_eq_append_getElem h, List.map_append, List.sum_append]; simp
theorem sumPay_btw : ∀ {l : List Pay}, (∀ x ∈ l, 1 ≤ x.p ∧ x.p ≤ 22000000) → 0 ≤ sumPay l ∧ sumPay l ≤ 22000000 * (l.length : Int)
 | [], _ => by simp [sumPay]
 | x :: t, h => by
  have ih := sumPay_btw (l := t) fun y hy => h y (by simp [hy])
  have hx := h x (by simp)
  rw [sumPay_cons, List.length_cons]
  omega
theorem sumX_btw (i : Nat) (x : Nat → Int) {c : Int} : ∀ {n : Nat}, (∀ v, v < n → ((x v).natAbs : Int) ≤ c) → 0 ≤ sumX n i x ∧ (0 ≤ c → sumX n i x ≤ c * (n : Int))
 | 0, _ => by simp [sumX]
 | n + 1, h => by
  have ih := sumX_btw i x (n := n) fun v hv => h v (by omega)
  have hn := h n (by omega)
  rw [sumX_succ]
  have e2 : c * ((n + 1 : Nat) : Int) = c * (n : Int) + c := by rw [Int.natCast_add, Int.mul_add]; simp
  rw [e2]
  split
  ·exact ⟨by omega, fun q => by have := ih.2 q; omega⟩
  ·exact ⟨by omega, fun q => by have := ih.2 q; omega⟩
theorem floorCheapest_con (f : Flo) : Con Tryz.prog 6 [.agg (flC f)] [tab8, HA.tab] (Is (.val (.bool true)) []) := by
 refine con_of Tryz.func6 rfl (enters_of Tryz.func6 (by kernel_rfl) rfl) rfl ?_; intro n w0 F0 G0
 refine zS ?_;repeat(refine yA ?_;intro p hp;refine zS ?_)
 (apply wl_callP (alive_con); exact rfl; exact yC; exact rfl)
 rintro _ _ ⟨rfl, rfl⟩
 refine zS ?_;repeat(refine yA ?_;intro p hp;refine zS ?_)
 (first | (apply wl_call (ready_con f); exact rfl; exact rfl) | (apply wl_callR (ready_con f); exact rfl; exact zM; exact rfl))
 refine zS ?_;repeat(refine yA ?_;intro p hp;refine zS ?_)
 cases hR : (!greatF f && floOk f) with
 | false =>
  refine zS ?_;repeat(refine yA ?_;intro p hp;refine zS ?_)
  (apply res1; exact rfl; exact rfl; exact ⟨rfl, rfl⟩)
 | true =>
  obtain ⟨hS, hok⟩ := ready_ok hR
  have hF := flo_f hok
  have hr := rises_of_ok hok
  have hidl := hF.ids
  have hqsl := hS.qs
  have hol := owed8_len f
  have hob := owed8_btw hF hS
  have NC := Net_con f hS
  rw [show netR f = (owed8 f, 0) by unfold netR; rw [if_pos hok]] at NC
  have KC := Cheapest_con f hS (lsC3 hS)
  rw [chp_eq hS] at KC
  have SC := Settle_con f hS (lsB2 hS)
  have he := stlN_err hok
  have hA := ch_facts hS hok
  have hc2 := chpN8_2 f
  have hs2 : (stlN f).2 = (askR f).2.2 := by
   rw [stl_eq hS]
   unfold stlN8
   split
   ·rename_i h; exact h.symm
   ·rfl
  dsimp only at NC
  rcases he with h0 | h0
  ·obtain ⟨hA, hA2⟩ := hA h0
   rw [hA2] at KC
   rw [h0] at SC
   clear hc2 hs2
   generalize (chpN8 f).1 = n at KC hA
   generalize (stlN f).1 = l at SC hA
   have hall := hA.all
   have htol := hA.tol
   have heq := hA.eq
   have hhub := hA.hub
   have hll := hA.len
   have hpe := hA.pe
   have hn0 := hA.n0
   clear hA
   have hpb := posS_btw (c := 200000000) (by omega) (l := owed8 f) fun x hx => by
    obtain ⟨i, hi, rfl⟩ := List.mem_iff_getElem.1 hx
    exact (hob.at hi).2
   generalize howed : owed8 f = owed at NC hol hob hall heq hhub hpb
   refine zS ?_;repeat(refine yA ?_;intro p hp;refine zS ?_)
   (first | (apply wl_call (NC); exact rfl; exact rfl) | (apply wl_callR (NC); exact rfl; exact zM; exact rfl))
   refine zS ?_;repeat(refine yA ?_;intro p hp;refine zS ?_)
   (first | (apply wl_call (KC); exact rfl; exact rfl) | (apply wl_callR (KC); exact rfl; exact zM; exact rfl))
   refine zS ?_;repeat(refine yA ?_;intro p hp;refine zS ?_)
   (first | (apply wl_call (SC); exact rfl; exact rfl) | (apply wl_callR (SC); exact rfl; exact zM; exact rfl))
   refine zS ?_;repeat(refine yA ?_;intro p hp;refine zS ?_)
   refine W_loopJ (fun (b : Nat × Int) => ⟨[(1, .val p), (3, .val (.bool true)), (4, .sl 1 iC owed), (6, .val (.int .i64 n)), (8, .sl 3 payC l), (10, .val (.int .i64 b.2)), (71, .sl 1 iC owed), (72, .val (.int .i64 owed.length)), (73, .val (.int .i64 b.1))], [.box p (flC f) 27]⟩) (fun b => b.1 ≤ owed.length ∧ b.2 = posS (owed.take b.1)) (fun b => owed.length - b.1) (0, 0) (fun _ _ st => st_sub2 st zR zP) ⟨Nat.zero_le _, rfl⟩ ?_
   rintro ⟨i, acc⟩ ⟨hi, hacc⟩
   dsimp only at hi hacc ⊢
   refine zS ?_;repeat(refine yA ?_;intro p hp;refine zS ?_)
   refine w_cond rfl (fun hlt => ?_) (fun hlt => ?_)
   ·have hi' : i < owed.length := by simpa using hlt
    have hq : owed[i]? = some owed[i] := List.getElem?_eq_getElem hi'
    have hb1 := hob.at hi'
    have hst := posS_take hi'
    have hpt := posS_btw (c := 200000000) (by omega) (l := owed.take i) fun x hx => by
     obtain ⟨j, hj, rfl⟩ := List.mem_iff_getElem.1 (List.mem_of_mem_take hx)
     exact (hob.at hj).2
    rw [List.length_take, Nat.min_eq_left hi] at hpt
    refine zS ?_;repeat(refine yA ?_;intro p hp;refine zS ?_)
    (refine ⟨(i + 1, acc + max 0 owed[i]), fun _ _ st => st_sub2 st ?_ ?_, ?_, ?_⟩; exact zR; exact zP)
    ·exact ⟨hi', by dsimp only; rw [hst, ← hacc]⟩
    ·dsimp only; omega
   ·have hii : i = owed.length := by simp at hlt; omega
    subst hii
    rw [List.take_length] at hacc
    subst hacc
    clear hi hlt
    refine zS ?_;repeat(refine yA ?_;intro p hp;refine zS ?_)
    refine W_loopJ (fun (b : Nat × Int) => ⟨[(1, .val p), (3, .val (.bool true)), (4, .sl 1 iC owed), (6, .val (.int .i64 n)), (10, .val (.int .i64 (posS owed))), (13, .val (.int .i64 b.2)), (82, .sl 3 payC l), (83, .val (.int .i64 l.length)), (84, .val (.int .i64 b.1))], [.box p (flC f) 27]⟩) (fun b => b.1 ≤ l.length ∧ b.2 = sumPay (l.take b.1)) (fun b => l.length - b.1) (0, 0) (fun _ _ st => st_sub2 st zR zP) ⟨Nat.zero_le _, rfl⟩ ?_
    rintro ⟨i, acc⟩ ⟨hi, hacc⟩
    dsimp only at hi hacc ⊢
    refine zS ?_;repeat(refine yA ?_;intro p hp;refine zS ?_)
    refine w_cond rfl (fun hlt => ?_) (fun hlt => ?_)
    ·have hi' : i < l.length := by simpa using hlt
     have hq : l[i]? = some l[i] := List.getElem?_eq_getElem hi'
     have hb1 := hpe _ (List.getElem_mem hi')
     have hst := sumPay_take hi'
     have hpt := sumPay_btw (l := l.take i) fun x hx => hpe x (List.mem_of_mem_take hx)
     rw [List.length_take, Nat.min_eq_left hi] at hpt
     refine zS ?_;repeat(refine yA ?_;intro p hp;refine zS ?_)
     generalize l[i] = x at hb1 hst hq ⊢
     rename_i pf hpf _
     (refine ⟨(i + 1, acc + x.p), fun _ _ st => st_sub2 st ?_ ?_, ?_, ?_⟩; exact zR; exact zP)
     ·exact ⟨hi', by dsimp only; rw [hst, ← hacc]⟩
     ·dsimp only; omega
    ·have hii : i = l.length := by simp at hlt; omega
     subst hii
     rw [List.take_length] at hacc
     subst hacc
     clear hi hlt
     refine zS ?_;repeat(refine yA ?_;intro p hp;refine zS ?_)
     refine W_loopJ (fun (i : Nat) => ⟨[(1, .val p), (3, .val (.bool true)), (4, .sl 1 iC owed), (6, .val (.int .i64 n)), (10, .val (.int .i64 (posS owed))), (13, .val (.int .i64 (sumPay l))), (94, .sl 1 iC f.ids), (95, .val (.int .i64 f.ids.length)), (96, .val (.int .i64 i))], [.box p (flC f) 27]⟩) (fun i => i ≤ f.ids.length) (fun i => f.ids.length - i) 0 (fun _ _ st => st_sub2 st zR zP) (Nat.zero_le _) ?_
     rintro i hi
     refine zS ?_;repeat(refine yA ?_;intro p hp;refine zS ?_)
     refine w_cond rfl (fun hlt => ?_) (fun hlt => ?_)
     ·have hi' : i < f.ids.length := by simpa using hlt
      have hq : f.ids[i]? = some f.ids[i] := List.getElem?_eq_getElem hi'
      refine zS ?_;repeat(refine yA ?_;intro p hp;refine zS ?_)
      refine W_loopJ (fun (k : Nat) => ⟨[(1, .val p), (3, .val (.bool true)), (4, .sl 1 iC owed), (6, .val (.int .i64 n)), (10, .val (.int .i64 (posS owed))), (13, .val (.int .i64 (sumPay l))), (16, .val (.int .i64 i)), (17, .val (.int .i64 f.ids[i])), (18, .val (.bool (hubB f i k))), (19, .val (.int .i64 (sumX k i (lf owed)))), (94, .sl 1 iC f.ids), (95, .val (.int .i64 f.ids.length)), (96, .val (.int .i64 i)), (102, .sl 1 iC f.ids), (103, .val (.int .i64 f.ids.length)), (104, .val (.int .i64 k))], [.box p (flC f) 27]⟩) (fun k => k ≤ f.ids.length) (fun k => f.ids.length - k) 0 (fun _ _ st => st_sub2 st zR zP) (Nat.zero_le _) ?_
      rintro k hk
      refine zS ?_;repeat(refine yA ?_;intro p hp;refine zS ?_)
      refine w_cond rfl (fun hltk => ?_) (fun hltk => ?_)
      ·have hk' : k < f.ids.length := by simpa using hltk
       have hqk : f.ids[k]? = some f.ids[k] := List.getElem?_eq_getElem hk'
       have hko : k < owed.length := by omega
       have hqo : owed[k]? = some owed[k] := List.getElem?_eq_getElem hko
       have hb1 := hob.at hko
       have hlo : lf owed k = owed[k] := by unfold lf; rw [List.getD_eq_getElem?_getD, hqo]; rfl
       have hxb := sumX_btw i (lf owed) (c := 200000000) (n := k) fun v hv => by
        have hv' : v < owed.length := by omega
        have := hob.at hv'
        have e : lf owed v = owed[v] := by unfold lf; rw [List.getD_eq_getElem?_getD, List.getElem?_eq_getElem hv']; rfl
        rw [e]; omega
       have hx2 := hxb.2 (by omega)
       have hsx := sumX_succ k i (lf owed)
       have hhb := hubB_succ f i k
       rw [getD_in hi', getD_in hk'] at hhb
       rw [hlo] at hsx
       have SK := speak8_con f f.ids[i] f.ids[k] (by omega)
       refine zS ?_;repeat(refine yA ?_;intro p hp;refine zS ?_)
       refine w_cond rfl (fun hne => ?_) (fun hne => ?_)
       ·have hki : ¬ k = i := by simp at hne; omega
        rw [if_neg hki] at hsx
        rw [decide_eq_false hki, Bool.false_or] at hhb
        refine zS ?_;repeat(refine yA ?_;intro p hp;refine zS ?_)
        generalize speakR f.qs f.ids[i] f.ids[k] = sp at SK hhb
        have hab : max owed[k] (-owed[k]) = ((owed[k].natAbs : Nat) : Int) := by omega
        cases hB : hubB f i k with
        | false =>
         rw [hB, Bool.false_and] at hhb
         refine zS ?_;repeat(refine yA ?_;intro p hp;refine zS ?_)
         refine W_run 11 [119, 120, 121, 122, 123, 124, 125, 126, 127, 128, 129] [0, 1, 2, 3, 4, 5, 6, 7, 8, 9, 10] Cut.nil rfl goFlt mixedS (by kernel_rfl) rfl ?_
         refine rpv [] [] ?_
         refine rpv [] [] ?_
         refine rpv [] [] ?_
         refine rpv [1, 2] [] ?_
         refine rpv [3] [] ?_
         refine rpv [] [] ?_
         refine rpv [] [] ?_
         refine rpv [5, 6] [] ?_
         refine rpv [7] [] ?_
         refine rpv [8] [] ?_
         refine rpv [4, 9] [] ?_
         refine ⟨⟨by kernel_rfl, by kernel_rfl⟩, fun vs => ?_⟩
         apply WL_auto [0, 10]
         ·exact goPk
         ·exact goNrm
         ·kernel_rfl
         ·kernel_rfl
         refine zS ?_;repeat(refine yA ?_;intro p hp;refine zS ?_)
         refine zS ?_;repeat(refine yA ?_;intro p hp;refine zS ?_)
         rw [hab]
         refine ⟨k + 1, ?_, hk', by omega⟩
         rw [hhb, hsx]
         exact fun _ _ st => st_sub2 st zR zP
        | true =>
         rw [hB, Bool.true_and] at hhb
         refine zS ?_;repeat(refine yA ?_;intro p hp;refine zS ?_)
         (first | (apply wl_call (SK); exact rfl; exact rfl) | (apply wl_callR (SK); exact rfl; exact zM; exact rfl))
         refine zS ?_;repeat(refine yA ?_;intro p hp;refine zS ?_)
         refine W_run 11 [119, 120, 121, 122, 123, 124, 125, 126, 127, 128, 129] [0, 1, 2, 3, 4, 5, 6, 7, 8, 9, 10] Cut.nil rfl goFlt mixedS (by kernel_rfl) rfl ?_
         refine rpv [] [] ?_
         refine rpv [] [] ?_
         refine rpv [] [] ?_
         refine rpv [1, 2] [] ?_
         refine rpv [3] [] ?_
         refine rpv [] [] ?_
         refine rpv [] [] ?_
         refine rpv [5, 6] [] ?_
         refine rpv [7] [] ?_
         refine rpv [8] [] ?_
         refine rpv [4, 9] [] ?_
         refine ⟨⟨by kernel_rfl, by kernel_rfl⟩, fun vs => ?_⟩
         apply WL_auto [0, 10]
         ·exact goPk
         ·exact goNrm
         ·kernel_rfl
         ·kernel_rfl
         refine zS ?_;repeat(refine yA ?_;intro p hp;refine zS ?_)
         refine zS ?_;repeat(refine yA ?_;intro p hp;refine zS ?_)
         rw [hab]
         refine ⟨k + 1, ?_, hk', by omega⟩
         rw [hhb, hsx]
         exact fun _ _ st => st_sub2 st zR zP
       ·have hki : k = i := by simp at hne; omega
        rw [if_pos hki, Int.add_zero] at hsx
        rw [decide_eq_true hki, Bool.true_or, Bool.and_true] at hhb
        rw [← hsx, ← hhb]
        refine zS ?_;repeat(refine yA ?_;intro p hp;refine zS ?_)
        (refine ⟨k + 1, fun _ _ st => st_sub2 st ?_ ?_, ?_, ?_⟩; exact zR; exact zP)
        ·exact hk'
        ·omega
      ·have hkk : k = f.ids.length := by simp at hltk; omega
       subst hkk
       have hh := hhub i hi'
       refine zS ?_;repeat(refine yA ?_;intro p hp;refine zS ?_)
       cases hb : hubB f i f.ids.length with
       | false =>
        refine zS ?_;repeat(refine yA ?_;intro p hp;refine zS ?_)
        (refine ⟨i + 1, fun _ _ st => st_sub2 st ?_ ?_, ?_, ?_⟩; exact zR; exact zP)
        ·exact hi'
        ·omega
       | true =>
        refine zS ?_;repeat(refine yA ?_;intro p hp;refine zS ?_)
        rw [show decide (sumX f.ids.length i (lf owed) < n) = false from decide_eq_false (by have := hh hb; omega)]
        refine zS ?_;repeat(refine yA ?_;intro p hp;refine zS ?_)
        (refine ⟨i + 1, fun _ _ st => st_sub2 st ?_ ?_, ?_, ?_⟩; exact zR; exact zP)
        ·exact hi'
        ·omega
     ·clear hlt
      have z1 : decide (posS owed ≤ n) = true := decide_eq_true hall
      have z2 : decide (n ≤ sumPay l) = true := decide_eq_true htol
      refine zS ?_;repeat(refine yA ?_;intro p hp;refine zS ?_)
      rw [z1]
      refine zS ?_;repeat(refine yA ?_;intro p hp;refine zS ?_)
      rw [z2]
      refine zS ?_;repeat(refine yA ?_;intro p hp;refine zS ?_)
      by_cases hq : f.qs.length = 0
      ·have hqn : f.qs = [] := List.eq_nil_of_length_eq_zero hq
       rw [show decide ((0 : Int) < (f.qs.length : Int)) = false from decide_eq_false (by omega)]
       refine zS ?_;repeat(refine yA ?_;intro p hp;refine zS ?_)
       rw [show decide (n = posS owed) = true from decide_eq_true (heq hqn)]
       refine zS ?_;repeat(refine yA ?_;intro p hp;refine zS ?_)
       (apply res1; exact rfl; exact rfl; exact ⟨rfl, rfl⟩)
      ·rw [show decide ((0 : Int) < (f.qs.length : Int)) = true from decide_eq_true (by omega)]
       refine zS ?_;repeat(refine yA ?_;intro p hp;refine zS ?_)
       (apply res1; exact rfl; exact rfl; exact ⟨rfl, rfl⟩)
  ·rw [h0] at SC
   rw [h0] at hs2
   rw [← hs2] at hc2
   rw [hc2] at KC
   refine zS ?_;repeat(refine yA ?_;intro p hp;refine zS ?_)
   (first | (apply wl_call (NC); exact rfl; exact rfl) | (apply wl_callR (NC); exact rfl; exact zM; exact rfl))
   refine zS ?_;repeat(refine yA ?_;intro p hp;refine zS ?_)
   (first | (apply wl_call (KC); exact rfl; exact rfl) | (apply wl_callR (KC); exact rfl; exact zM; exact rfl))
   refine zS ?_;repeat(refine yA ?_;intro p hp;refine zS ?_)
   (first | (apply wl_call (SC); exact rfl; exact rfl) | (apply wl_callR (SC); exact rfl; exact zM; exact rfl))
   refine zS ?_;repeat(refine yA ?_;intro p hp;refine zS ?_)
   (apply res1; exact rfl; exact rfl; exact ⟨rfl, rfl⟩)
end Go.Proofs.YtihonljdanjfmaaGreatDoor.Sw
