/- Proofs for one card: Reg, RegIn, Sw, SwOps, SwAny, App, SwOps2, SwOps3, SwR, SwF, SwG, SwH, Ty8, DoorG, FloorC, Row, Steps, Left, Best, EdL, Comes, FloorW, FloorY, FloorM, Gr2, Gr3, SwI, SwL, SwM, FloorTf, SwB, FloorCa, FloorLb, SwS, FloorCe, FloorCg, FloorLk, SwN, FloorPc, FloorCj, FloorPe, SwQ, OAa, OQa, OQb, OPa, FloorPays, OSa, OTa, OHa, OTb, OTc, OTd, FloorSettles, FloorSettlesI. No condition of its own. -/
import Derived.WalkKit
import Derived.Handy
import Derived.Deep.AppendSrc
import Derived.OrdersHeld
import Derived.Deep.RegionHeld
import Derived.OrdersIn
import Derived.RangeFuncCalls
import Derived.RangeFuncNested
import Derived.RangeFuncLeaves
import Derived.IntWalk
import Derived.WalkSpells
import Derived.Maps.AppendAt
import Derived.Deep.AppendLies
import Derived.OwnWalk
import Derived.LoopNIn
import Derived.RangeFuncBound
import Derived.Test.YtihonljdanjfmaaGreatDoorProg
import Derived.Test.YtihonljdanjfmaaGreatDoorCards
import Derived.Test.YtihonljdanjfmaaGreatDoorTie
import Derived.ProofKit
import Derived.OpenShut
import Derived.LaidMore
import Derived.LaidOnce
import Derived.ChangeOld
import Derived.Below
import Derived.Stop.Joined
import Derived.Lib.SmallJoins
import Derived.Deep.Slices
import Derived.WalkSmall
import Derived.Shelf.Abstract
import Derived.Laws.EntriesVeiled
import Derived.ChangeSame
import Derived.Deep.Strs
import Derived.Outline
import Derived.Deep.QuietTactic
import Derived.BigQuiet
import Derived.Deep.RegionHeld3
import Derived.DeepKeys4
import Derived.Maps.OwnIn
import Derived.OwnWalkIn
import Derived.Shelf.RegionOpen
import Derived.TacticsInMore
import Derived.Sort.BigQuietIn
import Derived.LoopIn
import Derived.WalkMore
import Derived.Maps.Views
import Derived.Lib.AppendZerosOnto
import Derived.Lib.Walk
import Derived.Lib.SliceRun
import Derived.Laws.MakeOwn
import Derived.Deep.Cut
import Derived.Lib.LazyBuf
import Derived.Scope
import Derived.WideKeyEntry
import Derived.Test.YtihonljdanjfmaaGreatDoorZd9
set_option linter.unusedVariables false
set_option linter.unusedSimpArgs false
set_option maxRecDepth 40000
set_option maxHeartbeats 32000000
namespace Go.Proofs.YtihonljdanjfmaaGreatDoor
open Go.RowKit Go
section
variable {P : Program} {ops : Array Oper} {Q : Exit → Act → World → Prop} {S : World → Prop} {held : List Nat}
end
section
variable {F : Fence} {n : Nat} {P : Program} {ops : Array Oper} {Q : Exit → Act → World → Prop} {S : World → Prop} {held : List Nat}
end
end Go.Proofs.YtihonljdanjfmaaGreatDoor
namespace Go.Proofs.YtihonljdanjfmaaGreatDoor.Sw
open Go.RowKit Go
section
variable {c : Cx} {s : S} {Q : Exit → S → Prop}
end
section
variable {c : Cx} {s : S} {Q : Exit → S → Prop} {ops : Array Oper} {tl : List Oper}
end
section
variable {c : Cx} {s : S} {Q : Exit → S → Prop} {ops : Array Oper} {tl : List Oper}
end
section
variable {P : Program} {rs : List (Nat × AV)} {d : Option Nat} {ty : TypeId} {pos : String} {af : Array Edge} {g : Option (Nat × Bool)}
end
section
variable {c : Cx} {s : S} {Q : Exit → S → Prop} {ops : Array Oper} {tl : List Oper}
end
section
variable {c : Cx} {rs : List (Nat × AV)} {hs : List HA} {Q : Exit → S → Prop} {ops : Array Oper} {tl : List Oper} {d : Nat} {op : Op} {ty : TypeId} {pos : String} {af : Array Edge}
end
section
variable {c : Cx} {rs : List (Nat × AV)} {hs : List HA} {Q : Exit → S → Prop} {ops : Array Oper} {tl : List Oper} {d : Nat} {ty : TypeId} {pos : String} {af : Array Edge} {x y : Operand} {t tb : TypeId} {p : Value} {j : Nat} {cs : List AV} {f : HA → List HA}
end
section
variable (ops : Array Oper) (m : Nat) (sp : List Sp) (hs0 : List HA)
end
section
variable {c : Cx} {ops : Array Oper} {m : Nat} {sp : List Sp} {hs0 hsR : List HA} {rsB : List (Nat × AV)} {Q : Exit → S → Prop}
end
section
variable {P : Program} {rs : List (Nat × AV)} {hsR : List HA} {d : Option Nat} {ty : TypeId} {pos : String} {af : Array Edge} {g : Option (Nat × Bool)} {x : Operand} {t tb : TypeId} {p : Value} {j : Nat} {cs : List AV} {f : HA → List HA}
end
end Go.Proofs.YtihonljdanjfmaaGreatDoor.Sw
namespace Go.Proofs.YtihonljdanjfmaaGreatDoor
open Go.RowKit Go
section
variable {P : Program} (w : World)
end
end Go.Proofs.YtihonljdanjfmaaGreatDoor
namespace Go.Proofs.YtihonljdanjfmaaGreatDoor.Sw
open Go.RowKit Go
section
variable {P : Program} {rs : List (Nat × AV)} {d : Option Nat} {ty : TypeId} {pos : String} {af : Array Edge} {g : Option (Nat × Bool)}
end
section
variable {P : Program} {rs : List (Nat × AV)} {d : Option Nat} {ty : TypeId} {pos : String} {af : Array Edge} {g : Option (Nat × Bool)}
end
section
variable {c : Cx} {rs : List (Nat × AV)} {hs : List HA} {Q : Exit → S → Prop} {ops : Array Oper} {tl : List Oper} {d : Nat} {ty : TypeId} {pos : String} {af : Array Edge}
end
section
variable {c : Cx} {rs : List (Nat × AV)} {hs : List HA} {Q : Exit → S → Prop} {ops : Array Oper} {tl : List Oper} {d : Nat} {ty : TypeId} {pos : String} {af : Array Edge}
end
section
variable {P : Program} {rs : List (Nat × AV)} {d : Option Nat} {ty : TypeId} {pos : String} {af : Array Edge} {g : Option (Nat × Bool)}
end
section
variable {c : Cx} {rs : List (Nat × AV)} {hs : List HA} {Q : Exit → S → Prop} {ops : Array Oper} {tl : List Oper} {d : Nat} {ty : TypeId} {pos : String} {af : Array Edge}
end
section
variable {P : Program} {rs : List (Nat × AV)} {hsR : List HA} {d : Option Nat} {ty : TypeId} {pos : String} {af : Array Edge} {g : Option (Nat × Bool)}
end
section
variable {P : Program} {rs : List (Nat × AV)} {hsR : List HA} {d : Option Nat} {ty : TypeId} {pos : String} {af : Array Edge} {g : Option (Nat × Bool)}
end
section
variable {c : Cx} {rs : List (Nat × AV)} {hs : List HA} {Q : Exit → S → Prop} {ops : Array Oper} {tl : List Oper} {d : Nat} {ty : TypeId} {pos : String} {af : Array Edge}
end
section
variable {c : Cx} {rs : List (Nat × AV)} {hs : List HA} {Q : Exit → S → Prop} {g : Operand} {ps : Array Tmp} {assign body : Code} {gf : FuncId} {caps : List AV} {own r : List HA} {α β τ : Type} {f : α → τ → List AV} {t : α → τ → List HA} {xs : List α}
end
section
variable {P : Program} {rs : List (Nat × AV)} {hsR : List HA} {d : Option Nat} {ty : TypeId} {pos : String} {af : Array Edge} {g : Option (Nat × Bool)}
end
section
variable {c : Cx} {rs : List (Nat × AV)} {hs : List HA} {Q : Exit → S → Prop} {ops : Array Oper} {tl : List Oper} {d : Nat} {ty : TypeId} {pos : String} {af : Array Edge}
theorem wl_slFrom {α : Type} {f : α → List AV} {xs : List α} {x y : Operand} {t e : TypeId} {n : Nat} {l : Nat} {li : Int} (hE : TyE c.P t e n) (hx : opv rs x = some (.sl n f xs)) (hy : opv rs y = some (.val (.int .i64 li))) (hl : li = (l : Int)) (h2 : l ≤ xs.length) (hd : Nat.blt d c.nt = true) (k : WL c ops tl ⟨(d, .sl n f (xs.drop l)) :: rs, hs⟩ Q) : WL c ops (⟨some d, .slice t x (some y) none none, ty, pos, af, none⟩ :: tl) ⟨rs, hs⟩ Q :=
 wl_slice (l := l) (h := xs.length) (hi' := (xs.length : Int)) hx (.inl (by rw [Option.map_some, hy])) hl (.inr ⟨rfl, rfl⟩) rfl h2 (Nat.le_refl _) hd (by rw [List.take_length]; exact k)
end
instance : TyE Tryz.prog 167 4 1 := tyE (z := .bool false) (b := 1) (by kernel_rfl) (by kernel_rfl) (by decide) rfl (by decide)
end Go.Proofs.YtihonljdanjfmaaGreatDoor.Sw
namespace Go.Proofs.YtihonljdanjfmaaGreatDoor.Sw
open Go Go.RowKit Go.ChangeShapes Go.WideShapes Go.ChangeAt
set_option maxRecDepth 100000 in
theorem arg_int {H : Type} {enc : TypeId × Value → H} {W : World} {t : TypeId} {k : IntKind} {v : Value} {d : DataW H} {p : List MemPlace} {base : Nat} (ht : Tryz.prog.underlying t = some (.int k)) (hv : Value.okWide Tryz.prog W .any base t v) (h : DataW.Trod enc Tryz.prog W 0 (fun _ => true) true t v d p) : ∃ i : Int, (AV.val (.int k i)).P (gh W) v ∧ (Lit.int k i).wf = true := by
 obtain ⟨n, rfl, _, _, hw⟩ := open_int ht hv h
 exact ⟨n, rfl, hw⟩
end Go.Proofs.YtihonljdanjfmaaGreatDoor.Sw
namespace Go.Proofs.YtihonljdanjfmaaGreatDoor
open Go Go.ChangeShapes Go.WideShapes Go.ChangeAt Go.RowKit
theorem laidOut : laidOutB Tryz.prog = true := by kernel_rfl
end Go.Proofs.YtihonljdanjfmaaGreatDoor
namespace Go.Proofs.YtihonljdanjfmaaGreatDoor.Sw
open Go Go.RowKit Go.ChangeShapes Go.WideShapes Go.ChangeAt
set_option maxRecDepth 100000
end Go.Proofs.YtihonljdanjfmaaGreatDoor.Sw
namespace Go.Proofs.YtihonljdanjfmaaGreatDoor.Sw
open Go.RowKit Go Go.Shelf Go.Proofs
end Go.Proofs.YtihonljdanjfmaaGreatDoor.Sw
namespace Go.Proofs.YtihonljdanjfmaaGreatDoor
open Go.RowKit Go
section
variable {α : Type} {f : α → List Value} {n : Nat}
end
end Go.Proofs.YtihonljdanjfmaaGreatDoor
namespace Go.Proofs.YtihonljdanjfmaaGreatDoor
open Go.RowKit Go.Proofs Go.Shelf
attribute [local go_sem] Oper.semAt_some
attribute [local go_sem] Oper.semAt_some
attribute [local go_sem] eqPlace
attribute [local go_sem] Oper.semAt_some
def nxt (st fo : List Int) (i k : Nat) : Nx :=
 if h : i < st.length ∧ k < fo.length then
  if st[i]'h.1 = fo[k]'h.2 then ⟨i + 1, k + 1, []⟩
  else if dd st fo i k = dd st fo (i + 1) (k + 1) + 1 then ⟨i + 1, k + 1, [⟨3, k, fo[k]'h.2⟩]⟩
  else if dd st fo i k = dd st fo (i + 1) k + 1 then ⟨i + 1, k, [⟨1, k, 0⟩]⟩
  else ⟨i, k + 1, [⟨2, k, fo[k]'h.2⟩]⟩
 else if i < st.length then ⟨i + 1, k, [⟨1, k, 0⟩]⟩
 else if h : k < fo.length then ⟨i, k + 1, [⟨2, k, fo[k]⟩]⟩
 else ⟨i, k, []⟩
attribute [local go_sem] Oper.semAt_some
end Go.Proofs.YtihonljdanjfmaaGreatDoor
namespace Go.Proofs.YtihonljdanjfmaaGreatDoor.Sw
open Go.RowKit Go Go.Shelf Go.Proofs
theorem floorAt_con (f : Flo) (id : Int) (hl : f.ids.length ≤ 1000000) (hm : id ∈ f.ids) : Con Tryz.prog 23 [.agg (flC f), .val (.int .i64 id)] [] (Is (.val (.int .i64 ((f.ids.idxOf id : Nat) : Int))) []) := by
 have := floor_con f id hl
 rwa [show ixOf f.ids id = ((f.ids.idxOf id : Nat) : Int) from if_pos hm] at this
theorem speak8_con (f : Flo) (a b : Int) (hl : f.qs.length ≤ 1000) : Con Tryz.prog 20 [.agg (flC f), .val (.int .i64 a), .val (.int .i64 b)] [] (Is (.val (.bool (speakR f.qs a b))) []) := by
 refine con_of Tryz.func20 rfl (enters_of Tryz.func20 (by kernel_rfl) rfl) rfl ?_; intro n w0 F0 G0
 refine zS ?_;repeat(refine yA ?_;intro p hp;refine zS ?_)
 refine W_loopJ (fun (k : Nat) => ⟨[(1, .val (.int .i64 a)), (2, .val (.int .i64 b)), (10, .sl 2 quC f.qs), (11, .val (.int .i64 f.qs.length)), (12, .val (.int .i64 k))], []⟩) (fun k => k ≤ f.qs.length ∧ (f.qs.take k).any (hits a b) = false) (fun k => f.qs.length - k) 0 (fun _ _ st => st_sub2 st zR zP) ?hj0 ?round
 case hj0 => simp
 case round =>
  rintro k ⟨hk, hno⟩
  refine zS ?_;repeat(refine yA ?_;intro p hp;refine zS ?_)
  refine w_cond rfl (fun hlt => ?_) (fun hlt => ?_)
  ·have hlt' : k < f.qs.length := by simpa using hlt
   have htk : f.qs.take (k + 1) = f.qs.take k ++ [f.qs[k]] := List.take_succ_eq_append_getElem hlt'
   refine zS ?_;repeat(refine yA ?_;intro p hp;refine zS ?_)
   have fin : hits a b f.qs[k] = true → speakR f.qs a b = false := fun h => by
    have : f.qs.any (hits a b) = true := List.any_eq_true.2 ⟨_, List.getElem_mem hlt', h⟩
    simp [speakR, this]
   have nxt : hits a b f.qs[k] = false → (f.qs.take (k + 1)).any (hits a b) = false := fun h => by rw [htk, List.any_append, hno]; simpa using h
   refine wl_part rfl rfl (fun g1 => ?_) (fun g1 => ?_)
   ·refine zS ?_;repeat(refine yA ?_;intro p hp;refine zS ?_)
    refine w_cond rfl (fun g2 => ?_) (fun g2 => ?_)
    ·have := fin (by unfold hits; rw [g1, g2]; rfl)
     refine zS ?_;repeat(refine yA ?_;intro p hp;refine zS ?_)
     (apply res1; exact rfl; exact rfl; exact ⟨(congrArg (fun b => AV.val (Value.bool b)) this.symm), rfl⟩)
    ·have := nxt (by unfold hits; rw [g1, g2]; rfl)
     refine zS ?_;repeat(refine yA ?_;intro p hp;refine zS ?_)
     (refine ⟨k + 1, fun _ _ st => st_sub2 st ?_ ?_, ?_, ?_⟩; exact zR; exact zP)
     ·exact ⟨by omega, this⟩
     ·omega
   ·have := nxt (by unfold hits; rw [g1]; rfl)
    refine zS ?_;repeat(refine yA ?_;intro p hp;refine zS ?_)
    (refine ⟨k + 1, fun _ _ st => st_sub2 st ?_ ?_, ?_, ?_⟩; exact zR; exact zP)
    ·exact ⟨by omega, this⟩
    ·omega
  ·refine zS ?_;repeat(refine yA ?_;intro p hp;refine zS ?_)
   have hkk : k = f.qs.length := by simp at hlt; omega
   subst hkk
   rw [List.take_length] at hno
   (apply res1; exact rfl; exact rfl; exact ⟨(congrArg (fun b => AV.val (Value.bool b)) (by simp [speakR, hno])), rfl⟩)
end Go.Proofs.YtihonljdanjfmaaGreatDoor.Sw
namespace Go.Proofs.YtihonljdanjfmaaGreatDoor.Gr
open Go.Proofs.YtihonljdanjfmaaGreatDoor.Sw (Pay)
theorem treeGo_ok {ids : List Int} : ∀ {m : Nat} {L : List (Nat × Nat)} {left : List Int} {out : List Pay}, L.length = m → Ok ids.length L → left.length = ids.length → Zr ids.length L (lf left) → Min ids.length L (lf left) → ∃ r, treeGo ids m L left out = some r ∧ ∀ v, v < ids.length → lf r.1 v = 0
 | 0, L, left, out, hl, hok, hlen, hz, hm => by
  have : L = [] := List.eq_nil_of_length_eq_zero hl
  subst this
  exact ⟨(left, out), rfl, zr_nil hz⟩
 | m + 1, L, left, out, hl, hok, hlen, hz, hm => by
  obtain ⟨i0, e0, hi0, hl0⟩ := hm.leaf hok hz (by intro h; rw [h] at hl; simp at hl)
  obtain ⟨⟨i, e⟩, hf⟩ := findLeaf_of hok.nd hi0 hl0
  obtain ⟨hi, hle⟩ := findLeaf_some hf
  obtain ⟨hon, hne, _, _⟩ := oth_spec hok hle.1 hle.2.1
  have hx := hm.left hok hz hle
  unfold treeGo
  rw [hf]
  dsimp only
  rw [if_neg (by exact hx)]
  refine treeGo_ok (by rw [List.length_erase_of_mem hle.1]; omega) (hok.erase e) (by rw [mvL_len, hlen]) ?_ ?_
  ·rw [lf_mvL (by omega) (by omega)]; exact step_zr hok hz hle
  ·rw [lf_mvL (by omega) (by omega)]; exact step_min hok hm hle
theorem treeR_ok {ids : List Int} {L : List (Nat × Nat)} {owed : List Int} (hok : Ok ids.length L) (hlen : owed.length = ids.length) (hz : Zr ids.length L (lf owed)) (hm : Min ids.length L (lf owed)) : ∃ out, treeR ids L owed = some out := by
 obtain ⟨r, hr, h0⟩ := treeGo_ok (out := []) rfl hok hlen hz hm
 refine ⟨r.2, ?_⟩
 unfold treeR
 rw [hr]
 dsimp only
 rw [if_pos (all_zero.2 (by rw [treeGo_len hr, hlen]; exact h0))]
theorem Zr.sup {n : Nat} {L S : List (Nat × Nat)} {x : Nat → Int} (h : Zr n S x) (hs : ∀ p ∈ S, p ∈ L) : Zr n L x := fun P hP => h P fun p hp => hP p (hs p hp)
end Go.Proofs.YtihonljdanjfmaaGreatDoor.Gr
namespace Go.Proofs.YtihonljdanjfmaaGreatDoor.Sw
open Go.RowKit Go
section
variable {P : Program} {rs : List (Nat × AV)} {hsR : List HA} {d : Option Nat} {ty : TypeId} {pos : String} {af : Array Edge} {g : Option (Nat × Bool)}
end
section
variable {c : Cx} {rs : List (Nat × AV)} {hs : List HA} {Q : Exit → S → Prop} {ops : Array Oper} {tl : List Oper} {d : Nat} {ty : TypeId} {pos : String} {af : Array Edge}
end
section
variable {P : Program} {rs : List (Nat × AV)} {d : Option Nat} {ty : TypeId} {pos : String} {af : Array Edge} {g : Option (Nat × Bool)}
end
section
variable {c : Cx} {rs : List (Nat × AV)} {hs : List HA} {Q : Exit → S → Prop} {ops : Array Oper} {tl : List Oper} {d : Nat} {ty : TypeId} {pos : String} {af : Array Edge}
end
section
variable {P : Program} {rs : List (Nat × AV)} {d : Option Nat} {ty : TypeId} {pos : String} {af : Array Edge} {g : Option (Nat × Bool)}
end
section
variable {c : Cx} {rs : List (Nat × AV)} {hs : List HA} {Q : Exit → S → Prop} {ops : Array Oper} {tl : List Oper} {d : Nat} {ty : TypeId} {pos : String} {af : Array Edge}
end
end Go.Proofs.YtihonljdanjfmaaGreatDoor.Sw
namespace Go.Proofs.YtihonljdanjfmaaGreatDoor.Sw
open Go.RowKit Go
open Go.WideElems (Fit)
open Go.ChangeMaps (setBlock heap_setBlock_same heap_setBlock_other)
section
variable {κ α : Type} [DecidableEq κ]
end
section
variable {κ α : Type} (kv : κ → Value) (g : α → AV)
variable {kv g}
variable (kv g)
variable {kv g}
end
section
variable {P : Program} {κ α : Type} [DecidableEq κ] {t : TypeId} {kv : κ → Value} {ok : κ → Prop} {g : α → AV} {l : List (κ × α)} {G : Nat → Option Obj} {F : List Nat} {w : World} {v : Value}
variable {rs : List (Nat × AV)} {d : Option Nat} {ty : TypeId} {pos : String} {af : Array Edge} {gd : Option (Nat × Bool)}
end
section
variable {c : Cx} {rs : List (Nat × AV)} {hs : List HA} {Q : Exit → S → Prop} {ops : Array Oper} {tl : List Oper} {d : Nat} {ty : TypeId} {pos : String} {af : Array Edge} {κ α : Type} [DecidableEq κ] {t : TypeId} {kv : κ → Value} {ok : κ → Prop} {g : α → AV} {l : List (κ × α)} {v : Value}
end
end Go.Proofs.YtihonljdanjfmaaGreatDoor.Sw
namespace Go.Proofs.YtihonljdanjfmaaGreatDoor.Sw
open Go.RowKit Go Go.Shelf Go.Proofs
open Go.Proofs.YtihonljdanjfmaaGreatDoor.Gr (payLt atP addP treeR treeGo leafAt findLeaf inc oth mvL payX)
instance {b : Bool} : OneL (bC b) := inferInstanceAs (OneL [_])
instance : OneF bC := ⟨fun _ => inferInstance⟩
instance : LenF bC 1 := ⟨fun _ => rfl⟩
instance zeroB : ZeroF Tryz.prog 4 bC false := zeroF (z := .bool false) (n := 1) (b := 1) (zs := [.bool false]) (by kernel_rfl) rfl (fun _ => ⟨rfl, trivial⟩)
end Go.Proofs.YtihonljdanjfmaaGreatDoor.Sw
namespace Go.Proofs.YtihonljdanjfmaaGreatDoor.Sw
open Go.RowKit Go
section
variable {P : Program} {rs : List (Nat × AV)} {d : Option Nat} {ty : TypeId} {pos : String} {af : Array Edge} {g : Option (Nat × Bool)}
end
section
variable {c : Cx} {rs : List (Nat × AV)} {hs : List HA} {Q : Exit → S → Prop} {ops : Array Oper} {tl : List Oper} {d : Nat} {ty : TypeId} {pos : String} {af : Array Edge}
end
end Go.Proofs.YtihonljdanjfmaaGreatDoor.Sw
namespace Go.Proofs.YtihonljdanjfmaaGreatDoor.Sw
open Go.RowKit Go Go.Shelf Go.Proofs
end Go.Proofs.YtihonljdanjfmaaGreatDoor.Sw
namespace Go.Proofs.YtihonljdanjfmaaGreatDoor.Sw
open Go.RowKit Go Go.Shelf Go.Proofs
open Go.Proofs.YtihonljdanjfmaaGreatDoor.Gr (payLt)
section
variable {P : Program} {rs : List (Nat × AV)} {d : Option Nat} {ty : TypeId} {pos : String} {af : Array Edge} {g : Option (Nat × Bool)}
end
section
variable {c : Cx} {rs : List (Nat × AV)} {hs : List HA} {Q : Exit → S → Prop} {ops : Array Oper} {tl : List Oper} {d : Nat} {ty : TypeId} {pos : String} {af : Array Edge}
end
end Go.Proofs.YtihonljdanjfmaaGreatDoor.Sw
namespace Go.Proofs.YtihonljdanjfmaaGreatDoor.Sw
open Go.RowKit Go
section
variable {P : Program} {rs : List (Nat × AV)} {d : Option Nat} {ty : TypeId} {pos : String} {af : Array Edge} {g : Option (Nat × Bool)}
end
section
variable {c : Cx} {rs : List (Nat × AV)} {hs r : List HA} {Q : Exit → S → Prop} {ops : Array Oper} {tl : List Oper} {d : Nat} {ty : TypeId} {pos : String} {af : Array Edge}
end
end Go.Proofs.YtihonljdanjfmaaGreatDoor.Sw
namespace Go.Proofs.YtihonljdanjfmaaGreatDoor.Sw
open Go.RowKit Go Go.Shelf Go.Proofs
end Go.Proofs.YtihonljdanjfmaaGreatDoor.Sw
namespace Go.Proofs.YtihonljdanjfmaaGreatDoor.Sw
open Go.RowKit Go Go.Shelf Go.Proofs
open Go.Proofs.YtihonljdanjfmaaGreatDoor.Gr (payLt)
theorem bst8_mem {xs : List (List Pay)} {b y : List Pay} (h : xs.foldl (fun b x => if befR x b = true then x else b) b = y) : y ∈ xs ∨ y = b := by
 induction xs generalizing b with
 | nil => exact .inr h.symm
 | cons x t ih =>
  rcases ih h with h1 | h1
  ·exact .inl (by simp [h1])
  ·dsimp only at h1
   split at h1
   ·exact .inl (by simp [h1])
   ·exact .inr h1
end Go.Proofs.YtihonljdanjfmaaGreatDoor.Sw
namespace Go.Proofs.YtihonljdanjfmaaGreatDoor.Sw
open Go.RowKit Go
open Go.WideElems (Fit)
open Go.ChangeMaps (setBlock heap_setBlock_same heap_setBlock_other)
section
variable {P : Program} {κ α : Type} [DecidableEq κ] {t : TypeId} {kv : κ → Value} {ok : κ → Prop} {g : α → AV} {l : List (κ × α)} {G : Nat → Option Obj} {F : List Nat} {w : World} {v : Value}
variable {rs : List (Nat × AV)} {d : Option Nat} {ty : TypeId} {pos : String} {af : Array Edge} {gd : Option (Nat × Bool)}
end
section
variable {c : Cx} {rs : List (Nat × AV)} {hs : List HA} {Q : Exit → S → Prop} {ops : Array Oper} {tl : List Oper} {d : Nat} {ty : TypeId} {pos : String} {af : Array Edge} {κ α : Type} [DecidableEq κ] {t : TypeId} {kv : κ → Value} {ok : κ → Prop} {g : α → AV} {l : List (κ × α)} {v : Value}
end
end Go.Proofs.YtihonljdanjfmaaGreatDoor.Sw
namespace Go.Proofs.YtihonljdanjfmaaGreatDoor.Sw
open Go.RowKit Go Go.Shelf Go.Proofs
open Go.Proofs.YtihonljdanjfmaaGreatDoor.Gr (headsR hf mergeH hf_merge Lab lab_all Cl)
def hitB (b : List Bool) (p : Nat × Nat) : List Bool := if (b.getD p.1 false || b.getD p.2 false) = true then (b.set p.1 true).set p.2 true else b
def itB (L : List (Nat × Nat)) : Nat → List Bool → List Bool
 | 0, b => b
 | k + 1, b => itB L k (L.foldl hitB b)
theorem cnt_set : ∀ {b : List Bool} {i : Nat}, i < b.length → (b.getD i false = true ∧ b.set i true = b) ∨ (b.getD i false = false ∧ cnt (b.set i true) = cnt b + 1)
 | true :: t, 0, _ => .inl ⟨rfl, rfl⟩
 | false :: t, 0, _ => .inr ⟨rfl, by simp [cnt]⟩
 | x :: t, i + 1, h => by
  rcases cnt_set (b := t) (i := i) (by simpa using h) with ⟨h1, h2⟩ | ⟨h1, h2⟩
  ·exact .inl ⟨by simpa using h1, by rw [List.set_cons_succ, h2]⟩
  ·refine .inr ⟨by simpa using h1, ?_⟩
   rw [List.set_cons_succ]
   cases x <;> simp [cnt] at h2 ⊢ <;> omega
theorem hitB_len (b : List Bool) (p : Nat × Nat) : (hitB b p).length = b.length := by unfold hitB; split <;> simp
theorem hitsB_len : ∀ (L : List (Nat × Nat)) (b : List Bool), (L.foldl hitB b).length = b.length
 | [], _ => rfl
 | p :: L, b => by rw [List.foldl_cons, hitsB_len L, hitB_len]
theorem hitB_cnt {b : List Bool} {p : Nat × Nat} (h1 : p.1 < b.length) (h2 : p.2 < b.length) : hitB b p = b ∨ cnt b + 1 ≤ cnt (hitB b p) := by
 unfold hitB
 split
 ·have e2 : p.2 < (b.set p.1 true).length := by simpa using h2
  rcases cnt_set h1 with ⟨_, a⟩ | ⟨_, a⟩ <;> rcases cnt_set e2 with ⟨_, c⟩ | ⟨_, c⟩
  ·left; rw [c, a]
  ·right; rw [a] at c ⊢; omega
  ·right; rw [c]; omega
  ·right; omega
 ·exact .inl rfl
theorem fixB {L : List (Nat × Nat)} {b : List Bool} (k : ∀ p ∈ L, hitB b p = b) : L.foldl hitB b = b := by
 induction L with
 | nil => rfl
 | cons q L ih2 => rw [List.foldl_cons, k q (by simp)]; exact ih2 fun r hr => k r (by simp [hr])
theorem hitsB_cnt : ∀ {L : List (Nat × Nat)} {b : List Bool}, (∀ p ∈ L, p.1 < b.length ∧ p.2 < b.length) → (∀ p ∈ L, hitB b p = b) ∨ cnt b + 1 ≤ cnt (L.foldl hitB b)
 | [], _, _ => .inl fun _ h => by cases h
 | p :: L, b, h => by
  have hp := h p (by simp)
  rw [List.foldl_cons]
  have ih := hitsB_cnt (L := L) (b := hitB b p) (by rw [hitB_len]; exact fun q hq => h q (by simp [hq]))
  rcases hitB_cnt hp.1 hp.2 with e | e
  ·rw [e] at ih ⊢
   rcases ih with k | k
   ·left
    intro q hq
    rcases List.mem_cons.1 hq with rfl | hq
    ·exact e
    ·exact k q hq
   ·exact .inr k
  ·right
   rcases ih with k | k
   ·have : L.foldl hitB (hitB b p) = hitB b p := fixB k
    rw [this]; exact e
   ·omega
theorem fixIt {L : List (Nat × Nat)} {b : List Bool} (k : ∀ p ∈ L, hitB b p = b) : ∀ m, itB L m b = b
 | 0 => rfl
 | m + 1 => by rw [itB, fixB k, fixIt k m]
theorem itB_len (L : List (Nat × Nat)) : ∀ (m : Nat) (b : List Bool), (itB L m b).length = b.length
 | 0, _ => rfl
 | m + 1, b => by rw [itB, itB_len L m, hitsB_len]
theorem itB_cnt {L : List (Nat × Nat)} : ∀ (m : Nat) {b : List Bool}, (∀ p ∈ L, p.1 < b.length ∧ p.2 < b.length) → (∀ p ∈ L, hitB (itB L m b) p = itB L m b) ∨ cnt b + m ≤ cnt (itB L m b)
 | 0, _, _ => .inr (Nat.le_refl _)
 | m + 1, b, h => by
  rcases hitsB_cnt h with k | k
  ·left; rw [fixIt k]; exact k
  ·rw [itB]
   rcases itB_cnt m (b := L.foldl hitB b) (by rw [hitsB_len]; exact h) with k2 | k2
   ·exact .inl k2
   ·right; omega
theorem getD_set (b : List Bool) (i j : Nat) (hi : i < b.length) : (b.set i true).getD j false = (decide (i = j) || b.getD j false) := by
 rw [List.getD_eq_getElem?_getD, List.getD_eq_getElem?_getD, List.getElem?_set]
 by_cases e : i = j
 ·subst e; simp [hi]
 ·simp [e]
theorem hitB_get {b : List Bool} {p : Nat × Nat} (h1 : p.1 < b.length) (h2 : p.2 < b.length) (j : Nat) : (hitB b p).getD j false = (b.getD j false || ((b.getD p.1 false || b.getD p.2 false) && (decide (p.1 = j) || decide (p.2 = j)))) := by
 unfold hitB
 split
 ·rename_i e
  rw [getD_set _ _ _ (by simpa using h2), getD_set _ _ _ h1, e]
  cases decide (p.2 = j) <;> cases decide (p.1 = j) <;> simp
 ·rename_i e
  have : (b.getD p.1 false || b.getD p.2 false) = false := by simpa using e
  rw [this]; simp
theorem hitsB_all {S : Nat → Bool} : ∀ {L : List (Nat × Nat)} {b : List Bool}, (∀ p ∈ L, p.1 < b.length ∧ p.2 < b.length) → (∀ p ∈ L, S p.1 = S p.2) → (∀ j, b.getD j false = true → S j = true) → ∀ j, (L.foldl hitB b).getD j false = true → S j = true
 | [], _, _, _, h => h
 | p :: L, b, hl, hS, h => by
  have hp := hl p (by simp)
  have hs := hS p (by simp)
  rw [List.foldl_cons]
  refine hitsB_all (by rw [hitB_len]; exact fun q hq => hl q (by simp [hq])) (fun q hq => hS q (by simp [hq])) fun j hj => ?_
  rw [hitB_get hp.1 hp.2] at hj
  simp only [Bool.or_eq_true, Bool.and_eq_true, decide_eq_true_eq] at hj
  rcases hj with hj | ⟨hj | hj, rfl | rfl⟩
  ·exact h j hj
  ·exact h _ hj
  ·rw [← hs]; exact h _ hj
  ·rw [hs]; exact h _ hj
  ·exact h _ hj
theorem hitsB_keep {j : Nat} : ∀ {L : List (Nat × Nat)} {b : List Bool}, (∀ p ∈ L, p.1 < b.length ∧ p.2 < b.length) → b.getD j false = true → (L.foldl hitB b).getD j false = true
 | [], _, _, h => h
 | p :: L, b, hl, h => by
  have hp := hl p (by simp)
  rw [List.foldl_cons]
  refine hitsB_keep (by rw [hitB_len]; exact fun q hq => hl q (by simp [hq])) ?_
  rw [hitB_get hp.1 hp.2, h]; rfl
theorem itB_all {S : Nat → Bool} {L : List (Nat × Nat)} (hS : ∀ p ∈ L, S p.1 = S p.2) : ∀ (m : Nat) {b : List Bool}, (∀ p ∈ L, p.1 < b.length ∧ p.2 < b.length) → (∀ j, b.getD j false = true → S j = true) → ∀ j, (itB L m b).getD j false = true → S j = true
 | 0, _, _, h => h
 | m + 1, b, hl, h => itB_all hS m (b := L.foldl hitB b) (by rw [hitsB_len]; exact hl) (hitsB_all hl hS h)
theorem itB_keep {j : Nat} {L : List (Nat × Nat)} : ∀ (m : Nat) {b : List Bool}, (∀ p ∈ L, p.1 < b.length ∧ p.2 < b.length) → b.getD j false = true → (itB L m b).getD j false = true
 | 0, _, _, h => h
 | m + 1, b, hl, h => itB_keep m (b := L.foldl hitB b) (by rw [hitsB_len]; exact hl) (hitsB_keep hl h)
theorem itB_eq {n : Nat} {L : List (Nat × Nat)} {h : List Nat} (hl : ∀ p ∈ L, p.1 < n ∧ p.2 < n) (hL : Lab n L h) {i : Nat} (hi : i < n) :
  itB L n ((List.replicate n false).set i true) = (List.range n).map fun k => decide (hf h k = hf h i) := by
 have hb0 : ((List.replicate n false).set i true).length = n := by simp
 have hg : ∀ j, ((List.replicate n false).set i true).getD j false = decide (i = j) := fun j => by
  rw [getD_set _ _ _ (by simpa using hi)]
  by_cases hj : j < n <;> simp [List.getD_eq_getElem?_getD, List.getElem?_replicate, hj]
 have hc : 1 ≤ cnt ((List.replicate n false).set i true) := by
  rcases cnt_set (b := List.replicate n false) (i := i) (by simpa using hi) with ⟨a, _⟩ | ⟨_, a⟩
  ·simp [List.getD_eq_getElem?_getD, List.getElem?_replicate, hi] at a
  ·omega
 generalize (List.replicate n false).set i true = b0 at hb0 hg hc ⊢
 have hl' : ∀ p ∈ L, p.1 < b0.length ∧ p.2 < b0.length := by rw [hb0]; exact hl
 have hlen := itB_len L n b0
 have hfix : ∀ p ∈ L, hitB (itB L n b0) p = itB L n b0 := by
  rcases itB_cnt n hl' with k | k
  ·exact k
  ·have := cnt_le (itB L n b0); omega
 have hall := itB_all (S := fun k => decide (hf h k = hf h i)) (fun p hp => by show decide _ = decide _; rw [hL.one p hp]) n hl' (fun j hj => by rw [hg] at hj; have := of_decide_eq_true hj; subst this; simp)
 have hkeep := itB_keep (j := i) n hl' (by rw [hg]; simp)
 generalize itB L n b0 = b at hlen hfix hall hkeep ⊢
 have hcl : Cl L fun k => b.getD k false := fun p hp => by
  have hp' := hl p hp
  have h1 := hitB_get (b := b) (p := p) (by omega) (by omega) p.1
  have h2 := hitB_get (b := b) (p := p) (by omega) (by omega) p.2
  rw [hfix p hp] at h1 h2
  simp only [decide_true, Bool.true_or, Bool.or_true, Bool.and_true] at h1 h2
  show b.getD p.1 false = b.getD p.2 false
  revert h1 h2
  generalize b.getD p.1 false = x
  generalize b.getD p.2 false = y
  intro h1 h2
  cases x <;> cases y <;> first | rfl | exact absurd h1 (by decide) | exact absurd h2 (by decide)
 refine List.ext_getElem (by simp; omega) fun k h1 h2 => ?_
 have hk : k < n := by omega
 have hbk : b.getD k false = b[k] := by rw [List.getD_eq_getElem?_getD, List.getElem?_eq_getElem h1]; rfl
 rw [List.getElem_map, List.getElem_range, ← hbk]
 cases e : decide (hf h k = hf h i) with
 | true =>
  have e' := of_decide_eq_true e
  have a := hL.cl _ hcl k hk
  have c := hL.cl _ hcl i hi
  have a' : b.getD (hf h k) false = b.getD k false := a
  have c' : b.getD (hf h i) false = b.getD i false := c
  rw [← a', e', c']; exact hkeep
 | false =>
  cases e2 : b.getD k false with
  | false => rfl
  | true => have := hall k e2; rw [e] at this; cases this
def dnG (h : List Nat) (n i k : Nat) : List Bool := (List.range n).map fun j => decide (hf h j < i) || (decide (j < k) && decide (hf h j = i))
theorem dnG_len (h : List Nat) (n i k : Nat) : (dnG h n i k).length = n := by simp [dnG]
theorem dnG_set {n : Nat} {h : List Nat} (i : Nat) {k : Nat} (hk : hf h k = i) : (dnG h n i k).set k true = dnG h n i (k + 1) := by
 refine List.ext_getElem (by simp [dnG]) fun j h1 h2 => ?_
 rw [List.getElem_set]
 simp only [dnG, List.getElem_map, List.getElem_range]
 by_cases e : k = j
 ·subst e; rw [if_pos rfl]; simp [hk]
 ·rw [if_neg e]
  have : decide (j < k) = decide (j < k + 1) := decide_eq_decide.2 (by omega)
  rw [this]
theorem dnG_pass {n : Nat} {h : List Nat} (i : Nat) {k : Nat} (hk : hf h k ≠ i) : dnG h n i k = dnG h n i (k + 1) := by
 refine List.ext_getElem (by simp [dnG]) fun j h1 h2 => ?_
 simp only [dnG, List.getElem_map, List.getElem_range]
 by_cases e : k = j
 ·subst e; simp [hk]
 ·have : decide (j < k) = decide (j < k + 1) := decide_eq_decide.2 (by omega)
  rw [this]
theorem dnG_all {n : Nat} {h : List Nat} (i : Nat) : dnG h n i n = dnG h n (i + 1) 0 := by
 refine List.ext_getElem (by simp [dnG]) fun j h1 h2 => ?_
 simp only [dnG, List.length_map, List.length_range] at h1
 simp only [dnG, List.getElem_map, List.getElem_range, decide_eq_true h1, Bool.true_and, Nat.not_lt_zero, decide_false, Bool.false_and, Bool.or_false]
 rw [← Bool.decide_or]
 exact decide_eq_decide.2 (by omega)
theorem dnG_skip {n : Nat} {h : List Nat} (H : Hd n h) {i : Nat} (hi : i < n) (hh : hf h i < i) : dnG h n i 0 = dnG h n (i + 1) 0 := by
 refine List.ext_getElem (by simp [dnG]) fun j h1 h2 => ?_
 simp only [dnG, List.length_map, List.length_range] at h1
 simp only [dnG, List.getElem_map, List.getElem_range, Nat.not_lt_zero, decide_false, Bool.false_and, Bool.or_false]
 refine decide_eq_decide.2 ⟨fun h => by omega, fun h' => ?_⟩
 have h2 := H.rt j h1
 by_cases e : hf h j = i
 ·rw [e] at h2; omega
 ·omega
theorem dnG_upto {n : Nat} {h : List Nat} (H : Hd n h) {i : Nat} (hi : i < n) : dnG h n i 0 = dnG h n i i := by
 refine List.ext_getElem (by simp [dnG]) fun j h1 h2 => ?_
 simp only [dnG, List.length_map, List.length_range] at h1
 simp only [dnG, List.getElem_map, List.getElem_range]
 by_cases e : j < i
 ·have := H.le j h1
  have e' : hf h j < i := by omega
  simp [e']
 ·simp [e]
end Go.Proofs.YtihonljdanjfmaaGreatDoor.Sw
namespace Go.Proofs.YtihonljdanjfmaaGreatDoor.Sw
open Go.RowKit Go Go.Shelf Go.Proofs
end Go.Proofs.YtihonljdanjfmaaGreatDoor.Sw
namespace Go.Proofs.YtihonljdanjfmaaGreatDoor.Sw
open Go.RowKit Go Go.Shelf Go.Proofs
open Go.Proofs.YtihonljdanjfmaaGreatDoor.Gr (headsR hf Lab lab_all)
theorem prsG_drop {f : Flo} {l : List Pay} {k : Nat} (h : k < l.length) : (prsG f l).drop k = (f.ids.idxOf l[k].a, f.ids.idxOf l[k].b) :: (prsG f l).drop (k + 1) := by
 have hl : k < (prsG f l).length := by simpa [prsG] using h
 rw [List.drop_eq_getElem_cons hl]
 simp [prsG]
theorem dnG_zero (h : List Nat) (n : Nat) : dnG h n 0 0 = List.replicate n false := by
 refine List.ext_getElem (by simp [dnG]) fun j h1 h2 => ?_
 simp [dnG]
theorem hitB_no {b : List Bool} {i j : Nat} (hi : i < b.length) (hj : j < b.length) (h1 : b[i] = false) (h2 : b[j] = false) : hitB b (i, j) = b := by
 unfold hitB
 rw [if_neg]
 simp [List.getD_eq_getElem?_getD, hi, hj, h1, h2]
theorem hitB_a {b : List Bool} {i j : Nat} (hi : i < b.length) (h1 : b[i] = true) : hitB b (i, j) = (b.set i true).set j true := by
 unfold hitB
 rw [if_pos]
 simp [List.getD_eq_getElem?_getD, hi, h1]
theorem hitB_b {b : List Bool} {i j : Nat} (hj : j < b.length) (h1 : b[j] = true) : hitB b (i, j) = (b.set i true).set j true := by
 unfold hitB
 rw [if_pos]
 simp [List.getD_eq_getElem?_getD, hj, h1]
theorem Grouped_con (f : Flo) (l : List Pay) (hn : f.ids.length ≤ 6) (hl : l.length ≤ 1000) (hm : ∀ x ∈ l, x.a ∈ f.ids ∧ x.b ∈ f.ids) : Con Tryz.prog 64 [.agg (flC f), .sl 3 payC l] [] (Is (.sl 1 (slC 1 iC) (grG f l)) []) := by
 have hlt0 := prsG_lt hm
 have H : Hd f.ids.length (headsR f.ids.length (prsG f l)) := hd_heads hlt0
 have HL : Lab f.ids.length (prsG f l) (headsR f.ids.length (prsG f l)) := lab_all hlt0
 unfold grG
 generalize headsR f.ids.length (prsG f l) = h at H HL ⊢
 refine con_of Tryz.func64 rfl (enters_of Tryz.func64 (by kernel_rfl) rfl) rfl ?_; intro n w0 F0 G0
 refine zS ?_;repeat(refine yA ?_;intro p hp;refine zS ?_)
 (apply wl_make bC; exact inferInstance; exact inferInstance; exact inferInstance; exact inferInstance; exact rfl; exact rfl; exact rfl; (first | omega | (simp; omega)); exact rfl)
 intro vd
 rw [← dnG_zero h]
 refine zS ?_;repeat(refine yA ?_;intro p hp;refine zS ?_)
 refine W_loopJ (fun (b : Nat × Value) => ⟨[(1, .sl 3 payC l), (2, .val p), (5, .val b.2), (6, .val vd), (21, .sl 1 iC f.ids), (22, .val (.int .i64 f.ids.length)), (23, .val (.int .i64 b.1))], [.row b.2 22 1 (slC 1 iC) ((rtsG h b.1).map (grpG h f.ids f.ids.length)), .row vd 4 1 bC (dnG h f.ids.length b.1 0), .box p (flC f) 27]⟩) (fun b => b.1 ≤ f.ids.length) (fun b => f.ids.length - b.1) (0, .slice none 0 0) (fun _ _ st => st_sub2 (st_nil 22 1 (slC 1 iC) st) zR zP) (Nat.zero_le _) ?_
 rintro ⟨i, w⟩ hi
 dsimp only at hi ⊢
 have hdl := dnG_len h f.ids.length i 0
 refine zS ?_;repeat(refine yA ?_;intro p hp;refine zS ?_)
 refine w_cond rfl (fun hlt => ?_) (fun hlt => ?_)
 ·have hlt' : i < f.ids.length := by simpa using hlt
  have hsk := dnG_skip H hlt'
  have hup := dnG_upto H hlt'
  have hrs := rtsG_succ h i
  have hdi : ∀ hh : i < (dnG h f.ids.length i 0).length, (dnG h f.ids.length i 0)[i] = decide (hf h i < i) := fun hh => by simp [dnG]
  have hle := H.le i hlt'
  generalize dnG h f.ids.length i 0 = dn at hdl hsk hup hdi ⊢
  have hdl' : i < dn.length := by omega
  refine zS ?_;repeat(refine yA ?_;intro p hp;refine zS ?_)
  rw [hdi hdl']
  refine w_cond rfl (fun hd => ?_) (fun hd => ?_)
  ·have hd' : hf h i < i := by simpa using hd
   have hsk' := hsk hd'
   rw [if_neg (by omega), List.append_nil] at hrs
   rw [hsk', ← hrs]
   refine zS ?_;repeat(refine yA ?_;intro p hp;refine zS ?_)
   (refine ⟨(i + 1, w), fun _ _ st => st_sub2 st ?_ ?_, ?_, ?_⟩; exact zR; exact zP)
   ·dsimp only; omega
   ·dsimp only; omega
  ·have hd' : hf h i = i := by simp at hd; omega
   rw [if_pos hd'] at hrs
   rw [hup]
   clear hsk hup hd hdi hdl hdl'
   clear dn
   refine zS ?_;repeat(refine yA ?_;intro p hp;refine zS ?_)
   (apply wl_make bC; exact inferInstance; exact inferInstance; exact inferInstance; exact inferInstance; exact rfl; exact rfl; exact rfl; (first | omega | (simp; omega)); exact rfl)
   intro vi
   have hrl : i < (List.replicate f.ids.length false).length := by simpa using hlt'
   refine zS ?_;repeat(refine yA ?_;intro p hp;refine zS ?_)
   have hib := itB_eq hlt0 HL hlt'
   have hb0 : ((List.replicate f.ids.length false).set i true).length = f.ids.length := by simp
   rw [hd'] at hib
   generalize (List.replicate f.ids.length false).set i true = b0 at hib hb0 ⊢
   refine W_loopJ (fun (b : Nat × List Bool) => ⟨[(1, .sl 3 payC l), (2, .val p), (5, .val w), (6, .val vd), (7, .val (.int .i64 i)), (8, .val (.int .i64 f.ids[i])), (9, .val vi), (21, .sl 1 iC f.ids), (22, .val (.int .i64 f.ids.length)), (23, .val (.int .i64 i)), (41, .val (.int .i64 f.ids.length)), (42, .val (.int .i64 b.1))], [.row vi 4 1 bC b.2, .row w 22 1 (slC 1 iC) ((rtsG h i).map (grpG h f.ids f.ids.length)), .row vd 4 1 bC (dnG h f.ids.length i i), .box p (flC f) 27]⟩)
    (fun b => b.1 ≤ f.ids.length ∧ b.2.length = f.ids.length ∧ itB (prsG f l) (f.ids.length - b.1) b.2 = itB (prsG f l) f.ids.length b0) (fun b => f.ids.length - b.1) (0, b0) (fun _ _ st => st_sub2 st zR zP) ⟨Nat.zero_le _, hb0, rfl⟩ ?_
   rintro ⟨r, b⟩ ⟨hr, hbl, hit⟩
   dsimp only at hr hbl hit ⊢
   refine zS ?_;repeat(refine yA ?_;intro p hp;refine zS ?_)
   refine w_cond rfl (fun hlt2 => ?_) (fun hlt2 => ?_)
   ·have hr' : r < f.ids.length := by simpa using hlt2
    rw [show f.ids.length - r = (f.ids.length - (r + 1)) + 1 by omega, itB] at hit
    refine zS ?_;repeat(refine yA ?_;intro p hp;refine zS ?_)
    refine W_loopJ (fun (x : Nat × List Bool) => ⟨[(1, .sl 3 payC l), (2, .val p), (5, .val w), (6, .val vd), (7, .val (.int .i64 i)), (8, .val (.int .i64 f.ids[i])), (9, .val vi), (21, .sl 1 iC f.ids), (22, .val (.int .i64 f.ids.length)), (23, .val (.int .i64 i)), (41, .val (.int .i64 f.ids.length)), (42, .val (.int .i64 r)), (44, .sl 3 payC l), (45, .val (.int .i64 l.length)), (46, .val (.int .i64 x.1))], [.row vi 4 1 bC x.2, .row w 22 1 (slC 1 iC) ((rtsG h i).map (grpG h f.ids f.ids.length)), .row vd 4 1 bC (dnG h f.ids.length i i), .box p (flC f) 27]⟩)
     (fun x => x.1 ≤ l.length ∧ x.2.length = f.ids.length ∧ ((prsG f l).drop x.1).foldl hitB x.2 = (prsG f l).foldl hitB b) (fun x => l.length - x.1) (0, b) (fun _ _ st => st_sub2 st zR zP) ⟨Nat.zero_le _, hbl, rfl⟩ ?_
    rintro ⟨q, c⟩ ⟨hq, hcl, hfo⟩
    dsimp only at hq hcl hfo ⊢
    refine zS ?_;repeat(refine yA ?_;intro p hp;refine zS ?_)
    refine w_cond rfl (fun hlt3 => ?_) (fun hlt3 => ?_)
    ·have hq' : q < l.length := by simpa using hlt3
     have hx := hm _ (List.getElem_mem hq')
     rw [prsG_drop hq', List.foldl_cons] at hfo
     have hia : f.ids.idxOf l[q].a < c.length := by rw [hcl]; exact List.idxOf_lt_length_of_mem hx.1
     have hib2 : f.ids.idxOf l[q].b < c.length := by rw [hcl]; exact List.idxOf_lt_length_of_mem hx.2
     have hib3 : f.ids.idxOf l[q].b < (c.set (f.ids.idxOf l[q].a) true).length := by simpa using hib2
     refine zS ?_;repeat(refine yA ?_;intro p hp;refine zS ?_)
     refine W_run 7 [50, 51, 52, 53, 54, 55, 56] [0, 1, 2, 3, 4, 5, 6] Cut.nil rfl goFlt mixedS (by kernel_rfl) rfl ?_
     refine rpv [] [] ?_
     refine rpv [] [] ?_
     refine rpv [1] [] ?_
     refine Run.pv [0, 2] [] rfl (fun vs => by apply ltr_pk; exact goPk; (refine ltr ?_; refine lt_call ?_ ((floorAt_con f _ (by omega) hx.1)); exact rfl)) goApp ?_
     refine rpv [] [] ?_
     refine rpv [] [] ?_
     refine rpv [5] [] ?_
     refine ⟨⟨by kernel_rfl, by kernel_rfl⟩, fun vs => ?_⟩
     apply WL_auto [3, 4, 6]
     ·exact goPk
     ·exact goNrm
     ·kernel_rfl
     ·kernel_rfl
     refine zS ?_;repeat(refine yA ?_;intro p hp;refine zS ?_)
     (first | (apply wl_call (floorAt_con f _ (by omega) hx.2); exact rfl; exact rfl) | (apply wl_callR (floorAt_con f _ (by omega) hx.2); exact rfl; exact zM; exact rfl))
     refine zS ?_;repeat(refine yA ?_;intro p hp;refine zS ?_)
     cases ha : c[f.ids.idxOf l[q].a] with
     | true =>
      rw [hitB_a hia ha] at hfo
      refine zS ?_;repeat(refine yA ?_;intro p hp;refine zS ?_)
      (refine ⟨(q + 1, (c.set (f.ids.idxOf l[q].a) true).set (f.ids.idxOf l[q].b) true), fun _ _ st => st_sub2 st ?_ ?_, ?_, ?_⟩; exact zR; exact zP)
      ·exact ⟨hq', by simpa using hcl, hfo⟩
      ·dsimp only; omega
     | false =>
      refine zS ?_;repeat(refine yA ?_;intro p hp;refine zS ?_)
      cases hb : c[f.ids.idxOf l[q].b] with
      | true =>
       rw [hitB_b hib2 hb] at hfo
       refine zS ?_;repeat(refine yA ?_;intro p hp;refine zS ?_)
       (refine ⟨(q + 1, (c.set (f.ids.idxOf l[q].a) true).set (f.ids.idxOf l[q].b) true), fun _ _ st => st_sub2 st ?_ ?_, ?_, ?_⟩; exact zR; exact zP)
       ·exact ⟨hq', by simpa using hcl, hfo⟩
       ·dsimp only; omega
      | false =>
       rw [hitB_no hia hib2 ha hb] at hfo
       refine zS ?_;repeat(refine yA ?_;intro p hp;refine zS ?_)
       (refine ⟨(q + 1, c), fun _ _ st => st_sub2 st ?_ ?_, ?_, ?_⟩; exact zR; exact zP)
       ·exact ⟨hq', hcl, hfo⟩
       ·dsimp only; omega
    ·have hqq : q = l.length := by simp at hlt3; omega
     subst hqq
     rw [show (prsG f l).drop l.length = [] from List.drop_eq_nil_of_le (by simp [prsG]), List.foldl_nil] at hfo
     rw [← hfo] at hit
     refine zS ?_;repeat(refine yA ?_;intro p hp;refine zS ?_)
     (refine ⟨(r + 1, c), fun _ _ st => st_sub2 st ?_ ?_, ?_, ?_⟩; exact zR; exact zP)
     ·exact ⟨hr', hcl, hit⟩
     ·dsimp only; omega
   ·have hrr : r = f.ids.length := by simp at hlt2; omega
    subst hrr
    rw [Nat.sub_self, itB, hib] at hit
    have hin : ∀ k (hk : k < b.length), b[k] = decide (hf h k = i) := fun k hk => by simp [hit]
    clear hit hib
    have hds := dnG_set (n := f.ids.length) i hd'
    have hdl : i < (dnG h f.ids.length i i).length := by rw [dnG_len]; exact hlt'
    generalize dnG h f.ids.length i i = dn at hds hdl ⊢
    refine zS ?_;repeat(refine yA ?_;intro p hp;refine zS ?_)
    (apply wl_lit iC; exact inferInstance; exact inferInstance; exact inferInstance; exact zE; exact rfl; (first | exact (of_decide_eq_true rfl) | decide | (simp; done) | (simp; omega)); exact rfl)
    intro vg
    refine zS ?_;repeat(refine yA ?_;intro p hp;refine zS ?_)
    rw [hds]
    refine W_loopJ (fun (b2 : Nat × Value) => ⟨[(1, .sl 3 payC l), (2, .val p), (5, .val w), (6, .val vd), (9, .val vi), (14, .val b2.2), (15, .val (.int .i64 b2.1)), (21, .sl 1 iC f.ids), (22, .val (.int .i64 f.ids.length)), (23, .val (.int .i64 i))], [.row b2.2 3 1 iC (grpG h f.ids b2.1 i), .row vd 4 1 bC (dnG h f.ids.length i b2.1), .row vi 4 1 bC b, .row w 22 1 (slC 1 iC) ((rtsG h i).map (grpG h f.ids f.ids.length)), .box p (flC f) 27]⟩)
     (fun b2 => b2.1 ≤ f.ids.length) (fun b2 => f.ids.length - b2.1) (i + 1, vg) (fun _ _ st => st_sub2 st zR (by rw [grpG_succ, grpG_new H f.ids (by omega) (Nat.le_refl _), if_pos hd', List.nil_append, List.getD_eq_getElem?_getD, List.getElem?_eq_getElem hlt']; exact zP)) hlt' ?_
    rintro ⟨k, vg⟩ hk
    dsimp only at hk ⊢
    refine zS ?_;repeat(refine yA ?_;intro p hp;refine zS ?_)
    refine w_cond rfl (fun hlt4 => ?_) (fun hlt4 => ?_)
    ·have hk' : k < f.ids.length := by simpa using hlt4
     have hbk : k < b.length := by omega
     have hdk : k < (dnG h f.ids.length i k).length := by rw [dnG_len]; exact hk'
     have hgs := grpG_succ h f.ids k i
     have hgl := grpG_len h f.ids k i
     have hds2 := dnG_set (n := f.ids.length) (h := h) i (k := k)
     have hdp := dnG_pass (n := f.ids.length) (h := h) i (k := k)
     rw [List.getD_eq_getElem?_getD, List.getElem?_eq_getElem hk', Option.getD_some] at hgs
     generalize dnG h f.ids.length i k = dn2 at hdk hds2 hdp ⊢
     refine zS ?_;repeat(refine yA ?_;intro p hp;refine zS ?_)
     rw [hin k hbk]
     refine w_cond rfl (fun he => ?_) (fun he => ?_)
     ·have he' : hf h k = i := by simpa using he
      rw [if_pos he'] at hgs
      refine zS ?_;repeat(refine yA ?_;intro p hp;refine zS ?_)
      (apply wl_litF iC; exact inferInstance; exact inferInstance; exact inferInstance; exact zE; exact rfl; (first | exact (of_decide_eq_true rfl) | decide | (simp; done) | (simp; omega)); exact rfl)
      (first | (apply wl_append; exact rfl; exact rfl; exact zN; exact inferInstance; exact inferInstance; (first | omega | (simp; omega)); exact rfl) | (apply wl_appendN; exact rfl; exact rfl; exact inferInstance; exact inferInstance; (first | omega | (simp; omega)); exact rfl))
      intro vg2
      rw [← hgs]
      refine zS ?_;repeat(refine yA ?_;intro p hp;refine zS ?_)
      rw [hds2 he']
      (refine ⟨(k + 1, vg2), fun _ _ st => st_sub2 st ?_ ?_, ?_, ?_⟩; exact zR; exact zP)
      ·dsimp only; omega
      ·dsimp only; omega
     ·have he' : hf h k ≠ i := by simpa using he
      rw [if_neg he', List.append_nil] at hgs
      rw [← hgs, hdp he']
      refine zS ?_;repeat(refine yA ?_;intro p hp;refine zS ?_)
      (refine ⟨(k + 1, vg), fun _ _ st => st_sub2 st ?_ ?_, ?_, ?_⟩; exact zR; exact zP)
      ·dsimp only; omega
      ·dsimp only; omega
    ·have hkk : k = f.ids.length := by simp at hlt4; omega
     subst hkk
     have hst : (rtsG h (i + 1)).map (grpG h f.ids f.ids.length) = (rtsG h i).map (grpG h f.ids f.ids.length) ++ [grpG h f.ids f.ids.length i] := by rw [hrs, List.map_append, List.map_singleton]
     have hrl2 := rtsG_len h i
     rw [dnG_all]
     refine zS ?_;repeat(refine yA ?_;intro p hp;refine zS ?_)
     (apply WL_frz 106; exact rfl; exact zN)
     (apply wl_litF (slC 1 iC); exact inferInstance; exact inferInstance; exact inferInstance; exact zE; exact rfl; (first | exact (of_decide_eq_true rfl) | decide | (simp; done) | (simp; omega)); exact rfl)
     (first | (apply wl_append; exact rfl; exact rfl; exact zN; exact inferInstance; exact inferInstance; (first | omega | (simp; omega)); exact rfl) | (apply wl_appendN; exact rfl; exact rfl; exact inferInstance; exact inferInstance; (first | omega | (simp; omega)); exact rfl))
     intro w2
     rw [← hst]
     refine zS ?_;repeat(refine yA ?_;intro p hp;refine zS ?_)
     (refine ⟨(i + 1, w2), fun _ _ st => st_sub2 st ?_ ?_, ?_, ?_⟩; exact zR; exact zP)
     ·dsimp only; omega
     ·dsimp only; omega
 ·have hii : i = f.ids.length := by simp at hlt; omega
  subst hii
  refine zS ?_;repeat(refine yA ?_;intro p hp;refine zS ?_)
  (apply Res_frz 4; exact rfl; exact zN)
  (apply res1; exact rfl; exact rfl; exact ⟨rfl, rfl⟩)
end Go.Proofs.YtihonljdanjfmaaGreatDoor.Sw
namespace Go.Proofs.YtihonljdanjfmaaGreatDoor.Sw
open Go.RowKit Go
section
variable {P : Program} {rs : List (Nat × AV)} {d : Option Nat} {ty : TypeId} {pos : String} {af : Array Edge} {g : Option (Nat × Bool)}
end
end Go.Proofs.YtihonljdanjfmaaGreatDoor.Sw
namespace Go.Proofs.YtihonljdanjfmaaGreatDoor.Sw
open Go.RowKit Go Go.Shelf Go.Proofs
open Go.Proofs.YtihonljdanjfmaaGreatDoor.Gr (Zr sumP Cl lf)
theorem idx_at {ids : List Int} (hr : rises 0 ids = true) {i : Nat} (hi : i < ids.length) : ids.idxOf ids[i] = i := by
 have hm := List.getElem_mem hi
 have hj := List.idxOf_lt_length_of_mem hm
 have he : ids[ids.idxOf ids[i]] = ids[i] := List.getElem_idxOf hj
 rcases Nat.lt_trichotomy (ids.idxOf ids[i]) i with h | h | h
 ·have := rises_sorted hr _ _ hj hi h; omega
 ·exact h
 ·have := rises_sorted hr _ _ hi hj h; omega
theorem speakR_comm (qs : List Qu) (a b : Int) : speakR qs a b = speakR qs b a := by
 have h : hits a b = hits b a := by
  funext q
  unfold hits
  rw [Int.min_comm, Int.max_comm]
 unfold speakR
 rw [h]
 congr 1
 exact decide_eq_decide.2 ⟨fun h e => h e.symm, fun h e => h e.symm⟩
end Go.Proofs.YtihonljdanjfmaaGreatDoor.Sw
namespace Go.Proofs.YtihonljdanjfmaaGreatDoor.Sw
open Go.RowKit Go Go.Shelf Go.Proofs
open Go.Proofs.YtihonljdanjfmaaGreatDoor.Gr (treeR pick sub_pick pick_sub)
theorem few_first {α : Type} {g : Nat → List α} : ∀ {m : Nat}, fewTo g m ≠ [] → ∃ k, k < m ∧ fewTo g m = g k ∧ ∀ j, j < k → g j = []
 | 0, h => absurd rfl h
 | m + 1, h => by
  rw [fewTo] at h ⊢
  by_cases he : (fewTo g m).isEmpty = true
  ·rw [if_pos he] at h ⊢
   refine ⟨m, by omega, rfl, fun j hj => ?_⟩
   cases hg : g j with
   | nil => rfl
   | cons x t =>
    exfalso
    have : ∀ m, j < m → fewTo g m ≠ [] := by
     intro m hm
     induction m with
     | zero => omega
     | succ m ih =>
      rw [fewTo]
      by_cases hj2 : j < m
      ·have := ih hj2
       rw [if_neg (by cases hq : fewTo g m with | nil => exact absurd hq this | cons a b => simp)]
       exact this
      ·have hjm : j = m := by omega
       subst hjm
       split
       ·rw [hg]; simp
       ·rename_i h2; intro e; rw [e] at h2; exact h2 rfl
    exact this m hj (List.isEmpty_iff.1 he)
  ·rw [if_neg he] at h ⊢
   obtain ⟨k, hk, e, h3⟩ := few_first h
   exact ⟨k, by omega, e, h3⟩
theorem few_some {α : Type} {g : Nat → List α} {j : Nat} (hj : g j ≠ []) : ∀ {m : Nat}, j < m → fewTo g m ≠ []
 | m + 1, hm => by
  rw [fewTo]
  by_cases hj2 : j < m
  ·have := few_some hj hj2
   rw [if_neg (by cases hq : fewTo g m with | nil => exact absurd hq this | cons a b => simp)]
   exact this
  ·have hjm : j = m := by omega
   subst hjm
   split
   ·exact hj
   ·rename_i h2; intro e; rw [e] at h2; exact h2 rfl
end Go.Proofs.YtihonljdanjfmaaGreatDoor.Sw
namespace Go.Proofs.YtihonljdanjfmaaGreatDoor.Sw
open Go.RowKit Go Go.Shelf Go.Proofs
open Go.Proofs.YtihonljdanjfmaaGreatDoor.Gr (treeR treeR_ok pick sub_pick pick_sub Zr Cl Ok Forest Side Min sumP sumP_upd sumP_congr upd lf amt amt_side amt_swap payE cl_of_erase)
theorem allR_of {f : Flo} {S : List (Nat × Nat)} {out : List Pay} (hS : S.Sublist (prR (spk f) f.ids.length f.ids.length)) (h : treeR f.ids S (owed8 f) = some out) : out ∈ allR f S.length := by
 obtain ⟨t, ht, e⟩ := sub_pick hS
 unfold allR allTo
 refine List.mem_filterMap.2 ⟨t, List.mem_range.2 ht, ?_⟩
 rw [e, if_pos rfl]; exact h
theorem allR_zr {f : Flo} {S : List (Nat × Nat)} (hnd : S.Nodup) (hm : ∀ e ∈ S, PrS f e) (hz : Zr f.ids.length S (lf (owed8 f))) : ∃ k, k ≤ S.length ∧ allR f k ≠ [] := by
 have hok := prR_ok (spk f) f.ids.length
 obtain ⟨T, hT, hTn, hTe⟩ := sub_of_set hnd hok.nd fun e he => (prR_mem (Nat.le_refl _)).2 ⟨Nat.lt_trans (hm e he).1 (hm e he).2.1, (hm e he).1, (hm e he).2.1, (hm e he).2.2⟩
 have hzT : Zr f.ids.length T (lf (owed8 f)) := hz.sup fun p hp => (hTe p).1 hp
 have hlT : T.length = S.length := ((List.perm_ext_iff_of_nodup hnd hTn).2 hTe).length_eq.symm
 obtain ⟨R, hR, hRo, hRz, hRm⟩ := Gr.exists_min _ rfl (hok.sub hT) hzT
 obtain ⟨out, ho⟩ := treeR_ok hRo (owed8_len f) hRz hRm
 refine ⟨R.length, by rw [← hlT]; exact hR.length_le, fun e => ?_⟩
 have := allR_of (hR.trans hT) ho
 rw [e] at this; cases this
def gone (x : Nat → Int) (i o : Nat) (c : Int) : Nat → Int := upd (upd x i (x i + c)) o ((upd x i (x i + c)) o - c)
theorem sumP_gone {n : Nat} {x : Nat → Int} {i o : Nat} {c : Int} (hi : i < n) (ho : o < n) (P : Nat → Bool) : sumP n (gone x i o c) P = sumP n x P + (if P i then c else 0) - (if P o then c else 0) := by
 unfold gone
 rw [sumP_upd ho, sumP_upd hi]
 cases P i <;> cases P o <;> simp <;> omega
theorem gone_less {n : Nat} {L : List (Nat × Nat)} {x : Nat → Int} (hn : L.Nodup) (hz : Zr n L x) {e : Nat × Nat} (h1 : e.1 < n) (h2 : e.2 < n) : Zr n (L.erase e) (gone x e.1 e.2 (amt n x L e)) := fun P hP => by
 rw [sumP_gone h1 h2]
 cases a : P e.1 with
 | true =>
  cases b : P e.2 with
  | true =>
   have := hz P (cl_of_erase hn hP fun _ => by rw [a, b])
   simp; omega
  | false =>
   have := amt_swap (n := n) (x := x) hn hz (e := e) (Q := P) ⟨hP, a, b⟩
   simp; omega
 | false =>
  cases b : P e.2 with
  | true =>
   have := amt_side (n := n) (x := x) hn hz (e := e) (Q := P) ⟨hP, b, a⟩
   simp; omega
  | false =>
   have := hz P (cl_of_erase hn hP fun _ => by rw [a, b])
   simp; omega
theorem lf_set {l : List Int} {i : Nat} (hi : i < l.length) (d : Int) : lf (addAt l i d) = upd (lf l) i (lf l i + d) := by
 funext v
 unfold addAt lf upd
 simp only [List.getD_eq_getElem?_getD, List.getElem?_set]
 by_cases h : i = v
 ·subst h; simp [hi]
 ·rw [if_neg h, if_neg fun e => h e.symm]
theorem idx_getD {ids : List Int} (hr : rises 0 ids = true) {i : Nat} (hi : i < ids.length) : ids.idxOf (ids.getD i 0) = i := by
 rw [List.getD_eq_getElem?_getD, List.getElem?_eq_getElem hi]; exact idx_at hr hi
theorem upd_comm {x : Nat → Int} {i o : Nat} {a b : Int} (h : i ≠ o) : upd (upd x i a) o b = upd (upd x o b) i a := by
 funext v
 unfold upd
 by_cases h1 : v = o
 ·subst h1
  rw [if_pos rfl, if_neg (fun e => h e.symm), if_pos rfl]
 ·by_cases h2 : v = i
  ·subst h2; simp [h1]
  ·simp [h1, h2]
end Go.Proofs.YtihonljdanjfmaaGreatDoor.Sw
namespace Go.Proofs.YtihonljdanjfmaaGreatDoor.Sw
open Go.RowKit Go Go.Shelf Go.Proofs
theorem stl_told {f : Flo} (hS : Sml f) (hf : floOk f = true) (h0 : (stlN f).2 = 0) : ∃ k, k < 6 ∧ (stlN f).1 ∈ allR f k ∧ (∀ j, j < k → allR f j = []) ∧ (stlN f).1.length = k := by
 rw [stl_eq hS] at h0 ⊢
 have ha : (askR f).2.2 = 0 := by
  unfold stlN8 at h0
  split at h0
  ·assumption
  ·exact h0
 have hne : fewTo (allR f) 6 ≠ [] := fun e => by
  unfold askR at ha
  rw [if_pos hf, e] at ha
  simp at ha
 obtain ⟨k, hk, ek, hm⟩ := few_first hne
 have hal : (askR f).1 = fewTo (allR f) 6 := by
  unfold askR
  rw [if_pos hf, if_neg]
  intro e; exact hne (List.isEmpty_iff.1 e)
 have hin : (stlN8 f).1 ∈ allR f k := by
  unfold stlN8 bst8
  rw [if_pos ha, hal]
  dsimp only
  rw [ek] at hne ⊢
  rcases bst8_mem (xs := allR f k) (b := (allR f k).headD []) rfl with h | h
  ·exact h
  ·rw [h]; exact head_mem hne
 exact ⟨k, hk, hin, hm, (told (flo_f hf) hS (rises_of_ok hf) hin).len⟩
theorem fewN8_of {f : Flo} (hS : Sml f) (hf : floOk f = true) {k : Nat} (hk : k < 6) (h1 : allR f k ≠ []) (h2 : ∀ j, j < k → allR f j = []) : fewN8 f = ((k : Int), 0) := by
 have hne := few_some h1 hk
 obtain ⟨j, hj, ej, hjm⟩ := few_first hne
 have hjk : j = k := by
  rcases Nat.lt_trichotomy j k with h | h | h
  ·rw [ej, h2 j h] at hne; exact absurd rfl hne
  ·exact h
  ·exact absurd (hjm k h) h1
 subst hjk
 have ha : askR f = (fewTo (allR f) 6, chTo (allR f) 6, 0) := by
  unfold askR
  rw [if_pos hf, if_neg]
  intro e; exact hne (List.isEmpty_iff.1 e)
 unfold fewN8
 rw [ha, if_pos rfl]
 dsimp only
 rw [ej] at hne ⊢
 rw [(told (flo_f hf) hS (rises_of_ok hf) (head_mem hne)).len]
theorem told_speak {f : Flo} {k : Nat} {l : List Pay} (h : l ∈ allR f k) {x : Pay} (hx : x ∈ l) : speakR f.qs x.a x.b = true ∧ x.a ∈ f.ids ∧ x.b ∈ f.ids := by
 obtain ⟨L, hL⟩ := allR_mem.1 h
 obtain ⟨e, he, rfl⟩ := List.mem_map.1 (hL.pe.mem_iff.1 hx)
 have hm := hL.mem e he
 have hb : ∀ i, i < f.ids.length → f.ids.getD i 0 ∈ f.ids := fun i hi => by
  rw [List.getD_eq_getElem?_getD, List.getElem?_eq_getElem hi]; exact List.getElem_mem hi
 have b1 := hb e.1 (Nat.lt_trans hm.1 hm.2.1)
 have b2 := hb e.2 hm.2.1
 have hs : speakR f.qs (f.ids.getD e.1 0) (f.ids.getD e.2 0) = true := hm.2.2
 rcases payE_ends f.ids (Gr.lf (owed8 f)) L e with ⟨c1, c2⟩ | ⟨c1, c2⟩
 ·rw [c1, c2]; exact ⟨hs, b1, b2⟩
 ·rw [c1, c2]; exact ⟨by rw [speakR_comm]; exact hs, b2, b1⟩
theorem stlN_err {f : Flo} (hf : floOk f = true) : (stlN f).2 = 0 ∨ (stlN f).2 = 8 := by
 unfold stlN
 split
 ·exact .inl rfl
 ·rename_i h
  unfold errL at h ⊢
  rw [if_pos hf] at h ⊢
  split at h
  ·rename_i h2; right; dsimp only; rw [if_pos h2]
  ·exact absurd rfl h
theorem lsB2 {f : Flo} (hS : Sml f) : errL f = 0 → ∀ x ∈ lsF f, PayB x := fun he x hx => by
 obtain ⟨k, hk, hb⟩ := lsF_told hS he
 exact (hb x hx).payB (by omega)
end Go.Proofs.YtihonljdanjfmaaGreatDoor.Sw
namespace Go.Proofs.YtihonljdanjfmaaGreatDoor.Sw
open Go.RowKit Go Go.Shelf Go.Proofs
open Go.Proofs.YtihonljdanjfmaaGreatDoor.Gr (treeR pick Zr Cl Forest Side sumP lf amt amt_side amt_swap payE SortedP payLt payLt_no)
theorem told_pairs {f : Flo} (hf : floOk f = true) {k : Nat} {l : List Pay} (hl : l ∈ allR f k) {x y : Pay} (hx : x ∈ l) (hy : y ∈ l) (ha : x.a = y.a) (hb : x.b = y.b) : x = y := by
 have hr := rises_of_ok hf
 obtain ⟨L, hL⟩ := allR_mem.1 hl
 obtain ⟨e, he, rfl⟩ := List.mem_map.1 (hL.pe.mem_iff.1 hx)
 obtain ⟨e', he', rfl⟩ := List.mem_map.1 (hL.pe.mem_iff.1 hy)
 have h1 := hL.mem e he
 have h2 := hL.mem e' he'
 have inj := fun i j hi hj => ids_inj hr (i := i) (j := j) hi hj
 obtain ⟨b1, b2, _⟩ := h1
 obtain ⟨b3, b4, _⟩ := h2
 have : e = e' := by
  rcases payE_ends f.ids (lf (owed8 f)) L e with ⟨c1, c2⟩ | ⟨c1, c2⟩ <;> rcases payE_ends f.ids (lf (owed8 f)) L e' with ⟨d1, d2⟩ | ⟨d1, d2⟩ <;> rw [c1, d1] at ha <;> rw [c2, d2] at hb
  ·exact Prod.ext (inj _ _ (by omega) (by omega) ha) (inj _ _ (by omega) (by omega) hb)
  ·have := inj _ _ (by omega) (by omega) ha; have := inj _ _ (by omega) (by omega) hb; omega
  ·have := inj _ _ (by omega) (by omega) ha; have := inj _ _ (by omega) (by omega) hb; omega
  ·exact Prod.ext (inj _ _ (by omega) (by omega) hb) (inj _ _ (by omega) (by omega) ha)
 rw [this]
end Go.Proofs.YtihonljdanjfmaaGreatDoor.Sw
namespace Go.Proofs.YtihonljdanjfmaaGreatDoor.Sw
open Go.RowKit Go Go.Shelf Go.Proofs
open Go.Proofs.YtihonljdanjfmaaGreatDoor.Gr (treeR treeR_ok pick Zr Cl Ok Forest Side Min sumP lf amt payE headsR hf Lab lab_all even_iff)
theorem allR_zr6 {f : Flo} (hn : f.ids.length ≤ 6) {S : List (Nat × Nat)} (hnd : S.Nodup) (hm : ∀ e ∈ S, PrS f e) (hz : Zr f.ids.length S (lf (owed8 f))) : ∃ k, k ≤ S.length ∧ k < 6 ∧ allR f k ≠ [] := by
 have hok := prR_ok (spk f) f.ids.length
 obtain ⟨T, hT, hTn, hTe⟩ := sub_of_set hnd hok.nd fun e he => (prR_mem (Nat.le_refl _)).2 ⟨Nat.lt_trans (hm e he).1 (hm e he).2.1, (hm e he).1, (hm e he).2.1, (hm e he).2.2⟩
 have hzT : Zr f.ids.length T (lf (owed8 f)) := hz.sup fun p hp => (hTe p).1 hp
 have hlT : T.length = S.length := ((List.perm_ext_iff_of_nodup hnd hTn).2 hTe).length_eq.symm
 obtain ⟨R, hR, hRo, hRz, hRm⟩ := Gr.exists_min _ rfl (hok.sub hT) hzT
 obtain ⟨out, ho⟩ := treeR_ok hRo (owed8_len f) hRz hRm
 refine ⟨R.length, by rw [← hlT]; exact hR.length_le, ?_, fun e => ?_⟩
 ·rcases hRm.small hRo hRz with h | h <;> omega
 ·have := allR_of (hR.trans hT) ho
  rw [e] at this; cases this
theorem can_ask {f : Flo} (hf : floOk f = true) : canB f (owed8 f) = decide ((askR f).2.2 = 0) := by
 have hn := (flo_f hf).ids
 have hiff := evB_iff (n := f.ids.length) (L := prP (spk f) f.ids.length) (cu := owed8 f) fun p hp => by have := prP_mem.1 hp; omega
 refine Bool.eq_iff_iff.2 ?_
 rw [decide_eq_true_iff]
 show evB f.ids.length (prP (spk f) f.ids.length) (owed8 f) = true ↔ _
 rw [hiff]
 have hok := prR_ok (spk f) f.ids.length
 have hsame : ∀ p, p ∈ prP (spk f) f.ids.length ↔ p ∈ prR (spk f) f.ids.length f.ids.length := fun p => by
  rw [prP_mem, prR_mem (Nat.le_refl _)]
  constructor
  ·rintro ⟨h1, h2, h3⟩; exact ⟨by omega, h1, h2, h3⟩
  ·rintro ⟨_, h1, h2, h3⟩; exact ⟨h1, h2, h3⟩
 constructor
 ·intro hz
  obtain ⟨k, _, hk, h1⟩ := allR_zr6 hn hok.nd (fun e he => by have := (prR_mem (Nat.le_refl _)).1 he; exact ⟨this.2.1, this.2.2.1, this.2.2.2⟩) (hz.sup fun p hp => (hsame p).1 hp)
  have hne := few_some h1 hk
  unfold askR
  rw [if_pos hf, if_neg]
  intro e; exact hne (List.isEmpty_iff.1 e)
 ·intro h0
  have hne : fewTo (allR f) 6 ≠ [] := fun e => by
   unfold askR at h0
   rw [if_pos hf, e] at h0
   simp at h0
  obtain ⟨k, _, ek, _⟩ := few_first hne
  have hin := head_mem hne
  rw [ek] at hin
  obtain ⟨L, hL⟩ := allR_mem.1 hin
  exact hL.zr.sup fun p hp => prP_mem.2 (hL.mem p hp)
def dP (ids : List Int) (x : Pay) (v : Nat) : Int := (if ids.idxOf x.a = v then x.p else 0) - (if ids.idxOf x.b = v then x.p else 0)
theorem lf_step {ids : List Int} {x : Pay} {cu : List Int} (h1 : ids.idxOf x.a < cu.length) (h2 : ids.idxOf x.b < cu.length) (v : Nat) : lf (payStep ids x cu) v = lf cu v + dP ids x v := by
 unfold payStep dP
 rw [lf_set (by rw [addAt_len]; exact h2), lf_set h1]
 clear h1 h2
 generalize ids.idxOf x.a = i
 generalize ids.idxOf x.b = o
 simp only [Gr.upd]
 by_cases a : o = v
 ·subst a
  by_cases b : i = o
  ·subst b; simp <;> omega
  ·have b' : ¬ o = i := fun e => b e.symm
   simp [b, b'] <;> omega
 ·have a' : ¬ v = o := fun e => a e.symm
  by_cases b : i = v
  ·subst b; simp [a, a']
  ·have b' : ¬ v = i := fun e => b e.symm
   simp [a, a', b, b']
def sumD (ids : List Int) (v : Nat) : List Pay → Int
 | [] => 0
 | x :: t => dP ids x v + sumD ids v t
theorem lf_fold {ids : List Int} (v : Nat) : ∀ (l : List Pay) (cu : List Int), cu.length = ids.length → (∀ x ∈ l, x.a ∈ ids ∧ x.b ∈ ids) → lf (payFold ids l cu) v = lf cu v + sumD ids v l
 | [], cu, _, _ => by simp [payFold, sumD]
 | x :: t, cu, hl, h => by
  have hx := h x (by simp)
  rw [payFold, lf_fold v t _ (by unfold payStep; rw [addAt_len, addAt_len]; exact hl) (fun y hy => h y (by simp [hy])), lf_step (by rw [hl]; exact List.idxOf_lt_length_of_mem hx.1) (by rw [hl]; exact List.idxOf_lt_length_of_mem hx.2), sumD]
  omega
theorem sumD_perm {ids : List Int} {v : Nat} {l l' : List Pay} (h : l.Perm l') : sumD ids v l = sumD ids v l' := by
 induction h with
 | nil => rfl
 | cons x _ ih => rw [sumD, sumD, ih]
 | swap x y l => simp only [sumD]; omega
 | trans _ _ h1 h2 => exact h1.trans h2
def goneL (a : Nat × Nat → Int) : List (Nat × Nat) → (Nat → Int) → (Nat → Int)
 | [], x => x
 | e :: t, x => goneL a t (gone x e.1 e.2 (a e))
theorem amt_gone {n : Nat} {L : List (Nat × Nat)} {x : Nat → Int} (hn : L.Nodup) (hf : Forest L) (hz : Zr n L x) {e e' : Nat × Nat} (he : e ∈ L) (he' : e' ∈ L) (hne : e ≠ e') (h1 : e.1 < n) (h2 : e.2 < n) : amt n (gone x e.1 e.2 (amt n x L e)) (L.erase e) e' = amt n x L e' := by
 obtain ⟨Q, hQ⟩ := Gr.side_of hf he' (.inr ⟨rfl, rfl⟩ : Gr.Ends e' e'.2 e'.1)
 have hQe : Q e.1 = Q e.2 := hQ.cl e ((List.mem_erase_of_ne hne).2 he)
 have hQ2 : Side (L.erase e) e' e'.2 e'.1 Q := ⟨fun p hp => hQ.cl p (by
  have h3 := (hn.erase e).mem_erase_iff.1 hp
  exact hn.mem_erase_iff.2 ⟨h3.1, List.mem_of_mem_erase h3.2⟩), hQ.inn, hQ.out⟩
 rw [Gr.amt_side hn hz hQ, Gr.amt_side (hn.erase e) (gone_less hn hz h1 h2) hQ2, sumP_gone h1 h2, hQe]
 cases Q e.2 <;> simp
theorem goneL_zero {n : Nat} : ∀ (m : Nat) {L : List (Nat × Nat)} {x : Nat → Int} {a : Nat × Nat → Int}, L.length = m → L.Nodup → Forest L → Zr n L x → (∀ e ∈ L, e.1 < n ∧ e.2 < n) → (∀ e ∈ L, a e = amt n x L e) → ∀ v, v < n → goneL a L x v = 0
 | _, [], x, a, _, _, _, hz, _, _ => Gr.zr_nil hz
 | m + 1, e :: t, x, a, hl, hn, hf, hz, hb, ha => by
  have he := hb e (by simp)
  have hte : (e :: t).erase e = t := by simp
  have hnt := (List.nodup_cons.1 hn)
  have hz2 := gone_less hn hz he.1 he.2
  rw [hte] at hz2
  rw [goneL, ha e (by simp)]
  refine goneL_zero m (by simpa using hl) hnt.2 (hf.sub hn hnt.2 fun p hp => by simp [hp]) hz2 (fun p hp => hb p (by simp [hp])) fun e' he' => ?_
  have hne : e ≠ e' := fun h => hnt.1 (h ▸ he')
  have := amt_gone hn hf hz (e := e) (e' := e') (by simp) (by simp [he']) hne he.1 he.2
  rw [hte] at this
  rw [ha e' (by simp [he']), this]
 | 0, _ :: _, _, _, h, _, _, _, _, _ => by simp at h
end Go.Proofs.YtihonljdanjfmaaGreatDoor.Sw
namespace Go.Proofs.YtihonljdanjfmaaGreatDoor.Sw
open Go.RowKit Go Go.Shelf Go.Proofs
theorem putAll_lenH {ids : List Int} {pe all : Int} : ∀ (st : List Stk) (l : List Int), (putAll ids pe all st l).length = l.length
 | [], _ => rfl
 | s :: t, l => by rw [putAll, putAll_lenH t, List.length_set]
theorem stks_nodup {ids : List Int} : ∀ {t : List Stk} {last : Int}, stksOk ids last t = true → (t.map (·.fl)).Nodup ∧ ∀ s ∈ t, last < s.fl
 | [], _, _ => ⟨by simp, fun _ h => (by cases h)⟩
 | x :: t, last, h => by
  simp only [stksOk, Bool.and_eq_true, decide_eq_true_eq] at h
  obtain ⟨k1, k2⟩ := stks_nodup h.2
  refine ⟨?_, fun s hs => ?_⟩
  ·rw [List.map_cons]
   refine List.nodup_cons.2 ⟨fun hm => ?_, k1⟩
   obtain ⟨u, hu, e⟩ := List.mem_map.1 hm
   have := k2 u hu
   omega
  ·rcases List.mem_cons.1 hs with rfl | hs
   ·exact h.1.1.1
   ·have := k2 s hs; omega
theorem sum_set : ∀ (l : List Int) (i : Nat) (v : Int), i < l.length → (l.set i v).sum = l.sum - l.getD i 0 + v
 | x :: t, 0, v, _ => by simp; omega
 | x :: t, i + 1, v, h => by
  rw [List.set_cons_succ, List.sum_cons, sum_set t i v (by simpa using h), List.sum_cons, List.getD_cons_succ]; omega
 | [], _, _, h => by simp at h
theorem sum_addAt {l : List Int} {i : Nat} (hi : i < l.length) (d : Int) : (addAt l i d).sum = l.sum + d := by
 unfold addAt
 rw [sum_set l i _ hi, List.getD_eq_getElem?_getD]; omega
theorem sum_inc {ids : List Int} : ∀ (st : List Stk) (l : List Int), (∀ s ∈ st, s.fl ∈ ids) → l.length = ids.length → (incAll ids st l).sum = l.sum + st.length
 | [], l, _, _ => by simp [incAll]
 | s :: t, l, h, hl => by
  rw [incAll, sum_inc t _ (fun u hu => h u (by simp [hu])) (by rw [addAt_len]; exact hl), sum_addAt (by rw [hl]; exact List.idxOf_lt_length_of_mem (h s (by simp))), List.length_cons]
  omega
theorem sum_put {ids : List Int} {pe all : Int} (hr : rises 0 ids = true) : ∀ (st : List Stk) (l : List Int), (∀ s ∈ st, s.fl ∈ ids) → (st.map (·.fl)).Nodup → l.length = ids.length → (∀ s ∈ st, l.getD (ids.idxOf s.fl) 0 = 0) → (putAll ids pe all st l).sum = l.sum + quots pe all st
 | [], l, _, _, _, _ => by simp [putAll, quots]
 | s :: t, l, h, hn, hl, hz => by
  obtain ⟨n1, n2⟩ := List.nodup_cons.1 (by simpa using hn : (s.fl :: t.map (·.fl)).Nodup)
  have hsi : ids.idxOf s.fl < l.length := by rw [hl]; exact List.idxOf_lt_length_of_mem (h s (by simp))
  rw [putAll, sum_put hr t _ (fun u hu => h u (by simp [hu])) n2 (by rw [List.length_set]; exact hl) (fun u hu => ?_), sum_set _ _ _ hsi, hz s (by simp), quots]
  ·omega
  ·have hne : ids.idxOf s.fl ≠ ids.idxOf u.fl := fun e => by
    have hu1 := h u (by simp [hu])
    have h1 := List.getElem_idxOf (List.idxOf_lt_length_of_mem (h s (by simp)))
    have h2 := List.getElem_idxOf (List.idxOf_lt_length_of_mem hu1)
    have : s.fl = u.fl := by rw [← h1, ← h2]; simp only [e]
    exact n1 (by rw [this]; exact List.mem_map_of_mem hu)
   rw [List.getD_eq_getElem?_getD, List.getElem?_set, if_neg hne, ← List.getD_eq_getElem?_getD]
   exact hz u (by simp [hu])
theorem share_sum {ids : List Int} (hr : rises 0 ids = true) {x : Bil} (hx : bilOk ids x = true) : (sharesR ids x).sum = x.pe := by
 have hB := bil_f hx
 have hst : stksOk ids 0 x.st = true := by simp only [bilOk, Bool.and_eq_true] at hx; exact hx.2
 obtain ⟨hnd, _⟩ := stks_nodup hst
 have hmem : ∀ s ∈ x.st, s.fl ∈ ids := fun s h => (hB.st s h).1
 have hlb := left_bounds hB
 have hz : ∀ n i, (List.replicate n (0 : Int)).getD i 0 = 0 := fun n i => by
  rw [List.getD_eq_getElem?_getD, List.getElem?_replicate]; split <;> rfl
 unfold sharesR
 rw [sum_inc _ _ (fun s h => hmem s (List.mem_of_mem_take h)) (by rw [putAll_lenH]; simp), sum_put hr _ _ hmem hnd (by simp) (fun s _ => hz _ _), List.length_take]
 rw [leftQ_eq] at hlb ⊢
 have h0 : (List.replicate ids.length (0 : Int)).sum = 0 := by simp
 rw [h0]
 omega
theorem bilOk_all {ids : List Int} : ∀ {t : List Bil} {last : Int}, bilsOk ids last t = true → ∀ x ∈ t, bilOk ids x = true
 | [], _, _, _, h => by cases h
 | y :: t, last, h, x, hx => by
  simp only [bilsOk, Bool.and_eq_true] at h
  rcases List.mem_cons.1 hx with rfl | hx
  ·exact h.1.2
  ·exact bilOk_all h.2 x hx
theorem flo_bills {f : Flo} (h : floOk f = true) : ∀ x ∈ f.bs, bilOk f.ids x = true := by
 simp only [floOk, Bool.and_eq_true] at h
 exact bilOk_all h.1.2
end Go.Proofs.YtihonljdanjfmaaGreatDoor.Sw
namespace Go.Proofs.YtihonljdanjfmaaGreatDoor.Sw
open Go.RowKit Go Go.Shelf Go.Proofs
open Go.Proofs.YtihonljdanjfmaaGreatDoor.Gr (Zr Cl Forest sumP lf amt payE headsR hf Lab lab_all even_iff)
theorem paid_goneW {ids : List Int} (hr : rises 0 ids = true) {cu : List Int} (hol : cu.length = ids.length) {x : Nat → Int} {L : List (Nat × Nat)} {e : Nat × Nat} (h1 : e.1 < e.2) (h2 : e.2 < ids.length) : lf (payStep ids (payE ids x L e) cu) = gone (lf cu) e.1 e.2 (amt ids.length x L e) := by
 have i1 := idx_getD hr (show e.1 < ids.length by omega)
 have i2 := idx_getD hr h2
 unfold payStep payE
 generalize amt ids.length x L e = c
 have hl : ∀ (i : Nat) (d : Int), (addAt cu i d).length = cu.length := fun i d => addAt_len _ _ _
 split
 ·dsimp only
  rw [i1, i2, lf_set (by rw [hl]; omega), lf_set (by omega)]
  unfold gone
  have e1 : ∀ a, Gr.upd (lf cu) e.2 a e.1 = lf cu e.1 := fun a => by unfold Gr.upd; rw [if_neg (by omega)]
  have e2 : ∀ a, Gr.upd (lf cu) e.1 a e.2 = lf cu e.2 := fun a => by unfold Gr.upd; rw [if_neg (by omega)]
  rw [e1, e2, upd_comm (by omega)]
  congr 1
  congr 1
  omega
 ·dsimp only
  rw [i1, i2, lf_set (by rw [hl]; omega), lf_set (by omega)]
  unfold gone
  have e2 : ∀ a, Gr.upd (lf cu) e.1 a e.2 = lf cu e.2 := fun a => by unfold Gr.upd; rw [if_neg (by omega)]
  rw [e2]
  rfl
theorem fold_gone {ids : List Int} (hr : rises 0 ids = true) {x : Nat → Int} {L0 : List (Nat × Nat)} : ∀ (L : List (Nat × Nat)) (cu : List Int), cu.length = ids.length → (∀ e ∈ L, e.1 < e.2 ∧ e.2 < ids.length) → lf (payFold ids (L.map (payE ids x L0)) cu) = goneL (amt ids.length x L0) L (lf cu)
 | [], _, _, _ => rfl
 | e :: t, cu, hl, h => by
  have he := h e (by simp)
  rw [List.map_cons, payFold, fold_gone hr t _ (by unfold payStep; rw [addAt_len, addAt_len]; exact hl) (fun p hp => h p (by simp [hp])), paid_goneW hr hl he.1 he.2, goneL]
theorem settles {f : Flo} (hf : floOk f = true) {k : Nat} {l : List Pay} (hl : l ∈ allR f k) : ∀ v, v < f.ids.length → lf (payFold f.ids l (owed8 f)) v = 0 := by
 have hr := rises_of_ok hf
 have hol := owed8_len f
 obtain ⟨L, hL⟩ := allR_mem.1 hl
 intro v hv
 have hmem : ∀ x ∈ l, x.a ∈ f.ids ∧ x.b ∈ f.ids := fun x hx => (told_speak hl hx).2
 rw [lf_fold v l _ hol hmem, sumD_perm hL.pe, ← lf_fold v _ _ hol (fun x hx => hmem x (hL.pe.mem_iff.2 hx)), fold_gone hr L _ hol (fun e he => ⟨(hL.mem e he).1, (hL.mem e he).2.1⟩)]
 exact goneL_zero L.length rfl hL.nd hL.fo hL.zr (fun e he => ⟨Nat.lt_trans (hL.mem e he).1 (hL.mem e he).2.1, (hL.mem e he).2.1⟩) (fun _ _ => rfl) v hv
theorem sum_filter (g : Nat → Int) (p : Nat → Bool) : ∀ m, (((List.range m).filter p).map g).sum = sumP m g p
 | 0 => rfl
 | m + 1 => by
  rw [List.range_succ, List.filter_append, List.map_append, List.sum_append, sum_filter g p m]
  show _ = sumP m g p + (if p m then g m else 0)
  by_cases h : p m = true
  ·rw [List.filter_cons_of_pos h, if_pos h]; simp
  ·rw [List.filter_cons_of_neg h, if_neg h]; simp
def zerG (f : Flo) (cu : List Int) (l : List Pay) : Bool := (grG f l).all fun g => decide ((g.map fun id => cu.getD (f.ids.idxOf id) 0).sum = 0)
theorem zero_iff {f : Flo} (hr : rises 0 f.ids = true) {cu : List Int} {l : List Pay} (hm : ∀ x ∈ l, x.a ∈ f.ids ∧ x.b ∈ f.ids) : zerG f cu l = true ↔ Zr f.ids.length (prsG f l) (lf cu) := by
 have hlt := prsG_lt hm
 have HL := lab_all hlt
 have H := hd_heads hlt
 rw [← even_iff HL]
 unfold zerG grG allG
 generalize headsR f.ids.length (prsG f l) = h at HL H ⊢
 have hsum : ∀ k, ((grpG h f.ids f.ids.length k).map fun id => cu.getD (f.ids.idxOf id) 0).sum = sumP f.ids.length (lf cu) fun v => decide (hf h v = k) := fun k => by
  rw [← sum_filter (lf cu)]
  unfold grpG
  rw [List.map_map]
  congr 1
  refine List.map_congr_left fun j hj => ?_
  have hj' := List.mem_range.1 (List.mem_filter.1 hj).1
  simp only [Function.comp]
  rw [idx_getD hr hj']; rfl
 rw [List.all_eq_true]
 constructor
 ·intro ha j
  by_cases hj : j < f.ids.length ∧ hf h j = j
  ·have := ha _ (List.mem_map.2 ⟨j, mem_rtsG.2 hj, rfl⟩)
   rw [hsum] at this
   exact of_decide_eq_true this
  ·have hno : ∀ v, v < f.ids.length → decide (hf h v = j) = false := fun v hv => decide_eq_false fun e => by
    refine hj ⟨by rw [← e]; exact Nat.lt_of_le_of_lt (H.le v hv) hv, ?_⟩
    rw [← e]; exact H.rt v hv
   rw [Gr.sumP_congr (Q := fun _ => false) (fun _ _ => rfl) hno]
   exact Gr.sumP_none _ _
 ·intro ha g hg
  obtain ⟨k, _, rfl⟩ := List.mem_map.1 hg
  rw [hsum]
  exact decide_eq_true (ha k)
theorem sumP_addAt {n : Nat} {l : List Int} {i : Nat} (hi : i < l.length) (hin : i < n) (d : Int) (P : Nat → Bool) : sumP n (lf (addAt l i d)) P = sumP n (lf l) P + if P i then d else 0 := by
 rw [lf_set hi, Gr.sumP_upd hin]
 cases P i <;> simp <;> omega
theorem sumP_subL {l m : List Int} (h : l.length = m.length) (P : Nat → Bool) : ∀ n, sumP n (lf (subL l m)) P = sumP n (lf l) P - sumP n (lf m) P
 | 0 => rfl
 | n + 1 => by
  show sumP n (lf (subL l m)) P + (if P n then lf (subL l m) n else 0) = sumP n (lf l) P + (if P n then lf l n else 0) - (sumP n (lf m) P + if P n then lf m n else 0)
  have e : lf (subL l m) n = lf l n - lf m n := by
   unfold lf subL
   simp only [List.getD_eq_getElem?_getD]
   by_cases hn : n < l.length
   ·rw [List.getElem?_eq_getElem (by simp; omega), List.getElem?_eq_getElem hn, List.getElem?_eq_getElem (by omega), List.getElem_zipWith]; rfl
   ·rw [List.getElem?_eq_none (by simp; omega), List.getElem?_eq_none (by omega), List.getElem?_eq_none (by omega)]; rfl
  rw [sumP_subL h P n, e]
  cases P n <;> simp <;> omega
theorem sumP_nn {x : Nat → Int} {P : Nat → Bool} : ∀ {n : Nat}, (∀ v, v < n → 0 ≤ x v) → 0 ≤ sumP n x P ∧ sumP n x P ≤ sumP n x (fun _ => true)
 | 0, _ => ⟨Int.le_refl _, Int.le_refl _⟩
 | n + 1, h => by
  obtain ⟨h1, h2⟩ := sumP_nn (x := x) (P := P) (n := n) fun v hv => h v (by omega)
  have h3 := h n (by omega)
  show 0 ≤ sumP n x P + (if P n then x n else 0) ∧ sumP n x P + (if P n then x n else 0) ≤ sumP n x (fun _ => true) + (if true then x n else 0)
  cases P n <;> simp <;> omega
theorem sumP_sum : ∀ (l : List Int), sumP l.length (lf l) (fun _ => true) = l.sum := fun l => by
 rw [← sum_filter]
 rw [List.filter_eq_self.2 (fun _ _ => rfl)]
 congr 1
 refine List.ext_getElem (by simp) fun i h1 h2 => ?_
 rw [List.getElem_map, List.getElem_range]
 unfold lf
 rw [List.getD_eq_getElem?_getD, List.getElem?_eq_getElem h2]; rfl
theorem bills_part {ids : List Int} (hr : rises 0 ids = true) (P : Nat → Bool) : ∀ (t : List Bil) (l : List Int), (∀ x ∈ t, bilOk ids x = true ∧ x.st.length ≤ 1000) → l.length = ids.length → sumP ids.length (lf l) P - 1000000 * t.length ≤ sumP ids.length (lf (bilFold ids t l)) P ∧ sumP ids.length (lf (bilFold ids t l)) P ≤ sumP ids.length (lf l) P + 1000000 * t.length
 | [], l, _, _ => by simp [bilFold]
 | x :: t, l, h, hl => by
  have hx := h x (by simp)
  have hB := bil_f hx.1
  have hpi : ids.idxOf x.py < ids.length := List.idxOf_lt_length_of_mem hB.py
  have hsl := shares_len ids x
  have ih := bills_part hr P t (subL (addAt l (ids.idxOf x.py) x.pe) (sharesR ids x)) (fun y hy => h y (by simp [hy])) (by rw [subL_len (by rw [addAt_len, hl, shares_len]), addAt_len]; exact hl)
  rw [sumP_subL (by rw [addAt_len, hl, shares_len]), sumP_addAt (by omega) hpi] at ih
  have hsb := shares_btw hB hx.2
  have hn := sumP_nn (x := lf (sharesR ids x)) (P := P) (n := ids.length) fun v hv => by
   unfold lf
   rw [List.getD_eq_getElem?_getD, List.getElem?_eq_getElem (by omega)]
   exact (hsb _ (List.getElem_mem _)).1
  have hs := sumP_sum (sharesR ids x)
  rw [hsl, share_sum hr hx.1] at hs
  rw [hs] at hn
  have hp0 := hB.pe0
  have hp1 := hB.pe1
  rw [bilFold, List.length_cons]
  generalize P (ids.idxOf x.py) = b at ih
  cases b <;> simp at ih <;> omega
theorem pays_part {ids : List Int} (P : Nat → Bool) : ∀ (t : List Pay) (l : List Int), (∀ x ∈ t, x.a ∈ ids ∧ x.b ∈ ids ∧ 1 ≤ x.p ∧ x.p ≤ 1000000) → l.length = ids.length → sumP ids.length (lf l) P - 1000000 * t.length ≤ sumP ids.length (lf (payFold ids t l)) P ∧ sumP ids.length (lf (payFold ids t l)) P ≤ sumP ids.length (lf l) P + 1000000 * t.length
 | [], l, _, _ => by simp [payFold]
 | x :: t, l, h, hl => by
  have hx := h x (by simp)
  have i1 : ids.idxOf x.a < ids.length := List.idxOf_lt_length_of_mem hx.1
  have i2 : ids.idxOf x.b < ids.length := List.idxOf_lt_length_of_mem hx.2.1
  have ih := pays_part P t (payStep ids x l) (fun y hy => h y (by simp [hy])) (by unfold payStep; rw [addAt_len, addAt_len]; exact hl)
  unfold payStep at ih
  rw [sumP_addAt (by rw [addAt_len]; omega) i2, sumP_addAt (by omega) i1] at ih
  have hp := hx.2.2
  rw [payFold, List.length_cons]
  unfold payStep
  generalize P (ids.idxOf x.a) = b at ih
  generalize P (ids.idxOf x.b) = c at ih
  cases b <;> cases c <;> simp at ih <;> omega
theorem owed_part {f : Flo} (hf : floOk f = true) (hS : Sml f) (P : Nat → Bool) : -22000000 ≤ sumP f.ids.length (lf (owed8 f)) P ∧ sumP f.ids.length (lf (owed8 f)) P ≤ 22000000 := by
 have hF := flo_f hf
 have hr := rises_of_ok hf
 have h1 := bills_part hr P f.bs (List.replicate f.ids.length 0) (fun x hx => ⟨flo_bills hf x hx, hS.st x hx⟩) (by simp)
 have h0 : sumP f.ids.length (lf (List.replicate f.ids.length 0)) P = 0 := by
  have hz : ∀ v, v < f.ids.length → lf (List.replicate f.ids.length 0) v = (fun _ => (0 : Int)) v := fun v hv => by unfold lf; simp [List.getD_eq_getElem?_getD, hv]
  rw [Gr.sumP_congr hz (fun _ _ => rfl)]
  have : ∀ n, sumP n (fun _ => 0) P = 0 := fun n => by
   induction n with
   | zero => rfl
   | succ n ih => show sumP n (fun _ => 0) P + (if P n then 0 else 0) = 0; rw [ih]; simp
  exact this _
 have h2 := pays_part P f.ps (bilFold f.ids f.bs (List.replicate f.ids.length 0)) (fun x hx => ⟨(hF.pay x hx).1, (hF.pay x hx).2.1, (hF.pay x hx).2.2.2⟩) (by rw [bilFold_len _ _ (by simp)])
 have hb := hF.bs
 have hp := hF.ps
 show -22000000 ≤ sumP f.ids.length (lf (payFold f.ids f.ps (bilFold f.ids f.bs (List.replicate f.ids.length 0)))) P ∧ _ ≤ _
 unfold owed8
 omega
theorem pence_bound {f : Flo} (hf : floOk f = true) (hS : Sml f) {k : Nat} {l : List Pay} (hl : l ∈ allR f k) {x : Pay} (hx : x ∈ l) : x.p ≤ 22000000 := by
 obtain ⟨L, hL⟩ := allR_mem.1 hl
 obtain ⟨e, he, rfl⟩ := List.mem_map.1 (hL.pe.mem_iff.1 hx)
 obtain ⟨Q, hQ⟩ := Gr.side_of hL.fo he (.inr ⟨rfl, rfl⟩ : Gr.Ends e e.2 e.1)
 have ha := Gr.amt_side hL.nd hL.zr hQ
 have hb := owed_part hf hS Q
 unfold payE
 rw [ha]
 split
 ·dsimp only; omega
 ·dsimp only; omega
end Go.Proofs.YtihonljdanjfmaaGreatDoor.Sw
namespace Go.Proofs.YtihonljdanjfmaaGreatDoor.Sw
open Go.RowKit Go Go.Shelf Go.Proofs
theorem shr16_run {s k : Nat} (hk : k ≤ 16) : Op.shift .shr .u16 (s : Int) .i64 (k : Int) = pure (.int .u16 ((s / 2 ^ k : Nat) : Int)) := by
 rw [shift_shr .u16 .i64 (s : Int) (k : Int) (by omega) (by show (k : Int) ≤ 16; omega), Int.toNat_natCast, Int.natCast_ediv, Int.natCast_pow]
 rfl
theorem and16_run {s : Nat} (hs : s ≤ 65535) : bits .and .u16 (s : Int) 1 = ((s % 2 : Nat) : Int) := by
 have h1 : (BitVec.ofInt 16 (s : Int) &&& BitVec.ofInt 16 1).toNat = s % 2 := by
  rw [BitVec.toNat_and]
  have e1 : (BitVec.ofInt 16 (s : Int)).toNat = s := by simp [BitVec.toNat_ofInt]; omega
  have e2 : (BitVec.ofInt 16 1).toNat = 1 := rfl
  rw [e1, e2, Nat.and_one_is_mod]
 show IntKind.u16.wrap (((BitVec.ofInt 16 (s : Int) &&& BitVec.ofInt 16 1).toNat : Nat) : Int) = _
 rw [h1]
 rcases Nat.mod_two_eq_zero_or_one s with h | h <;> rw [h] <;> rfl
section
variable {P : Program} {rs : List (Nat × AV)} {d : Option Nat} {ty : TypeId} {pos : String} {af : Array Edge} {g : Option (Nat × Bool)}
theorem lt_shr16 {x y : Operand} {s k : Nat} {t t' : TypeId} (hx : opv rs x = some (.val (.int .u16 (s : Int)))) (hy : opv rs y = some (.val (.int .i64 (k : Int)))) (hk : k ≤ 16) :
  LT P ⟨d, .binOp .shr t x y t', ty, pos, af, g⟩ rs [] (Is (.val (.int .u16 ((s / 2 ^ k : Nat) : Int))) []) :=
 LT_val (fun _ e => by cases e) fun a w G hR _ => ⟨_, rfl, by
  have e1 : a.eval x = _ := opv_ok hR hx
  have e2 : a.eval y = _ := opv_ok hR hy
  have h := shr16_run (s := s) hk
  simp only [execOp, e1, e2]
  simp [go_sem, eqGuard, Go.binOp, h]⟩
theorem lt_and16 {x y : Operand} {s : Nat} {t t' : TypeId} (hx : opv rs x = some (.val (.int .u16 (s : Int)))) (hy : opv rs y = some (.val (.int .u16 1))) (hs : s ≤ 65535) :
  LT P ⟨d, .binOp .and t x y t', ty, pos, af, g⟩ rs [] (Is (.val (.int .u16 ((s % 2 : Nat) : Int))) []) :=
 LT_val (fun _ e => by cases e) fun a w G hR _ => ⟨_, rfl, by
  have e1 : a.eval x = _ := opv_ok hR hx
  have e2 : a.eval y = _ := opv_ok hR hy
  have h := and16_run hs
  simp only [execOp, e1, e2]
  simp [go_sem, eqGuard, Go.binOp, h]⟩
end
theorem u16_ok {n : Int} (h : (Lit.int .u16 n).wf = true) : 0 ≤ n ∧ n ≤ 65535 := by
 simp only [Lit.wf, IntKind.min, IntKind.max, IntKind.signed, IntKind.bits, Bool.and_eq_true, decide_eq_true_eq] at h
 simp at h
 omega
theorem grG_in {f : Flo} {l : List Pay} {g : List Int} (hg : g ∈ grG f l) : g.length ≤ f.ids.length ∧ ∀ id ∈ g, id ∈ f.ids := by
 unfold grG allG at hg
 obtain ⟨k, _, rfl⟩ := List.mem_map.1 hg
 refine ⟨grpG_len _ _ _ _, fun id hid => ?_⟩
 unfold grpG at hid
 obtain ⟨j, hj, rfl⟩ := List.mem_map.1 hid
 have hj' := List.mem_range.1 (List.mem_filter.1 hj).1
 rw [List.getD_eq_getElem?_getD, List.getElem?_eq_getElem hj']
 exact List.getElem_mem hj'
theorem grG_len (f : Flo) (l : List Pay) : (grG f l).length ≤ f.ids.length := by
 unfold grG
 rw [allG_len]
 exact rtsG_len _ _
theorem zero_con (f : Flo) (cu : List Int) (l : List Pay) (hn : f.ids.length ≤ 6) (hl : l.length ≤ 1000) (hm : ∀ x ∈ l, x.a ∈ f.ids ∧ x.b ∈ f.ids) (hcl : cu.length = f.ids.length) (hb : Btw (-1000000000) 1000000000 cu) : Con Tryz.prog 22 [.agg (flC f), .sl 1 iC cu, .sl 3 payC l] [] (Is (.val (.bool (zerG f cu l))) []) := by
 have GC := Grouped_con f l hn hl hm
 have hgin := fun g hg => grG_in (f := f) (l := l) (g := g) hg
 have hgl := grG_len f l
 unfold zerG
 generalize grG f l = gs at GC hgin hgl ⊢
 refine con_of Tryz.func22 rfl (enters_of Tryz.func22 (by kernel_rfl) rfl) rfl ?_; intro n w0 F0 G0
 refine zS ?_;repeat(refine yA ?_;intro p hp;refine zS ?_)
 (first | (apply wl_call (GC); exact rfl; exact rfl) | (apply wl_callR (GC); exact rfl; exact zM; exact rfl))
 refine zS ?_
 refine W_loopJ (fun (m : Nat) => ⟨[(1, .sl 1 iC cu), (3, .val p), (14, .sl 1 (slC 1 iC) gs), (15, .val (.int .i64 gs.length)), (16, .val (.int .i64 m))], [.box p (flC f) 27]⟩) (fun m => m ≤ gs.length ∧ ((gs.take m).all fun g => decide ((g.map fun id => cu.getD (f.ids.idxOf id) 0).sum = 0)) = true) (fun m => gs.length - m) 0 (fun _ _ st => st_sub2 st zR zP) ⟨Nat.zero_le _, by simp⟩ ?_
 rintro m ⟨hm', hall⟩
 refine zS ?_
 refine w_cond rfl (fun hlt => ?_) (fun hlt => ?_)
 ·have hlt' : m < gs.length := by simpa using hlt
  have hgm := hgin _ (List.getElem_mem hlt')
  have hq : gs[m]? = some gs[m] := List.getElem?_eq_getElem hlt'
  have hst : ((gs.take (m + 1)).all fun g => decide ((g.map fun id => cu.getD (f.ids.idxOf id) 0).sum = 0)) = decide ((gs[m].map fun id => cu.getD (f.ids.idxOf id) 0).sum = 0) := by
   rw [List.take_succ_eq_append_getElem hlt', List.all_append, hall]
   simp
  have hgmem := List.getElem_mem hlt'
  refine zS ?_
  generalize gs[m] = g at hgm hq hst hgmem ⊢
  refine W_loopJ (fun (b : Nat × Int) => ⟨[(1, .sl 1 iC cu), (3, .val p), (14, .sl 1 (slC 1 iC) gs), (15, .val (.int .i64 gs.length)), (16, .val (.int .i64 m)), (9, .val (.int .i64 b.2)), (20, .sl 1 iC g), (21, .val (.int .i64 g.length)), (22, .val (.int .i64 b.1))], [.box p (flC f) 27]⟩) (fun b => b.1 ≤ g.length ∧ b.2 = ((g.take b.1).map fun id => cu.getD (f.ids.idxOf id) 0).sum ∧ -(1000000000 * (b.1 : Int)) ≤ b.2 ∧ b.2 ≤ 1000000000 * b.1) (fun b => g.length - b.1) (0, 0) (fun _ _ st => st_sub2 st zR zP) ⟨Nat.zero_le _, by simp, by simp, by simp⟩ ?_
  rintro ⟨j, acc⟩ ⟨hj, hacc, ha0, ha1⟩
  dsimp only at hj hacc ha0 ha1 ⊢
  refine zS ?_
  refine w_cond rfl (fun hltj => ?_) (fun hltj => ?_)
  ·have hj' : j < g.length := by simpa using hltj
   have hid := hgm.2 _ (List.getElem_mem hj')
   have hix : f.ids.idxOf g[j] < cu.length := by rw [hcl]; exact List.idxOf_lt_length_of_mem hid
   have hb1 := hb.at hix
   have hqc : cu[f.ids.idxOf g[j]]? = some cu[f.ids.idxOf g[j]] := List.getElem?_eq_getElem hix
   have hsu : ((g.take (j + 1)).map fun id => cu.getD (f.ids.idxOf id) 0).sum = acc + cu[f.ids.idxOf g[j]] := by
    rw [List.take_succ_eq_append_getElem hj', List.map_append, List.sum_append, ← hacc]
    simp [List.getD_eq_getElem?_getD, hix]
   refine zS ?_
   (first | (apply wl_call (floorAt_con f g[j] (by omega) hid); exact rfl; exact rfl) | (apply wl_callR (floorAt_con f g[j] (by omega) hid); exact rfl; exact zM; exact rfl))
   refine zS ?_
   (refine ⟨(j + 1, acc + cu[f.ids.idxOf g[j]]), fun _ _ st => st_sub2 st ?_ ?_, ?_, ?_⟩; exact zR; exact zP)
   ·exact ⟨hj', by dsimp only; rw [hsu], by dsimp only; omega, by dsimp only; omega⟩
   ·dsimp only; omega
  ·have hjj : j = g.length := by simp at hltj; omega
   subst hjj
   rw [List.take_length] at hacc
   rw [← hacc] at hst
   refine zS ?_
   refine w_cond rfl (fun hne => ?_) (fun hne => ?_)
   ·have hne' : acc ≠ 0 := by simpa using hne
    refine zS ?_
    have hno : (gs.all fun g => decide ((g.map fun id => cu.getD (f.ids.idxOf id) 0).sum = 0)) = false := by
     rw [List.all_eq_false]
     exact ⟨g, hgmem, by rw [← hacc]; simpa using hne'⟩
    (apply res1; exact rfl; exact rfl; exact ⟨(congrArg (fun b => AV.val (Value.bool b)) hno.symm), rfl⟩)
   ·have he' : acc = 0 := by simpa using hne
    refine zS ?_
    (refine ⟨m + 1, fun _ _ st => st_sub2 st ?_ ?_, ?_, ?_⟩; exact zR; exact zP)
    ·exact ⟨hlt', by rw [hst]; exact decide_eq_true he'⟩
    ·omega
 ·have hmm : m = gs.length := by simp at hlt; omega
  subst hmm
  rw [List.take_length] at hall
  refine zS ?_
  (apply res1; exact rfl; exact rfl; exact ⟨(congrArg (fun b => AV.val (Value.bool b)) hall.symm), rfl⟩)
end Go.Proofs.YtihonljdanjfmaaGreatDoor.Sw
namespace Go.Proofs.YtihonljdanjfmaaGreatDoor.Sw
open Go.RowKit Go Go.Shelf Go.Proofs
open Go.Proofs.YtihonljdanjfmaaGreatDoor.Gr (Zr lf payLt payLt_no)
theorem nodup_of {α : Type} [DecidableEq α] : ∀ S : List α, ∃ T : List α, T.Nodup ∧ T.length ≤ S.length ∧ ∀ e, e ∈ S ↔ e ∈ T
 | [] => ⟨[], List.nodup_nil, Nat.le_refl _, fun _ => Iff.rfl⟩
 | a :: S => by
  obtain ⟨T, h1, h2, h3⟩ := nodup_of S
  by_cases h : a ∈ T
  ·refine ⟨T, h1, by rw [List.length_cons]; omega, fun e => ?_⟩
   rw [List.mem_cons, h3]
   exact ⟨fun q => q.elim (fun q => q ▸ h) id, .inr⟩
  ·refine ⟨a :: T, List.nodup_cons.2 ⟨h, h1⟩, by rw [List.length_cons, List.length_cons]; omega, fun e => ?_⟩
   rw [List.mem_cons, List.mem_cons, h3]
def PP (f : Flo) (x : Pay) : Prop := ∃ i j, i < j ∧ j < f.ids.length ∧ spk f i j = true ∧ x.a = f.ids.getD i 0 ∧ x.b = f.ids.getD j 0
theorem PP.mem {f : Flo} {x : Pay} (h : PP f x) : x.a ∈ f.ids ∧ x.b ∈ f.ids := by
 obtain ⟨i, j, h1, h2, _, h4, h5⟩ := h
 rw [h4, h5, List.getD_eq_getElem?_getD, List.getD_eq_getElem?_getD, List.getElem?_eq_getElem (by omega), List.getElem?_eq_getElem h2]
 exact ⟨List.getElem_mem _, List.getElem_mem _⟩
theorem PP.prs {f : Flo} (hr : rises 0 f.ids = true) {l : List Pay} (h : ∀ x ∈ l, PP f x) : ∀ e ∈ prsG f l, PrS f e := fun e he => by
 unfold prsG at he
 obtain ⟨x, hx, rfl⟩ := List.mem_map.1 he
 obtain ⟨i, j, h1, h2, h3, h4, h5⟩ := h x hx
 rw [h4, h5, idx_getD hr (by omega), idx_getD hr h2]
 exact ⟨h1, h2, h3⟩
structure StF (f : Flo) (l : List Pay) : Prop where
 len : l.length ≤ 5
 few : fewN8 f = ((l.length : Int), 0)
 sp : ∀ x ∈ l, speakR f.qs x.a x.b = true ∧ x.a ∈ f.ids ∧ x.b ∈ f.ids
 pe : ∀ x ∈ l, 1 ≤ x.p ∧ x.p ≤ 22000000
 od : ∀ i (h : i < l.length) (h1 : i - 1 < l.length), 0 < i → ¬ l[i].a < l[i - 1].a ∧ (l[i - 1].a = l[i].a → l[i - 1].b < l[i].b)
 ze : ∀ v, v < f.ids.length → lf (payFold f.ids l (owed8 f)) v = 0
 no : ∀ so : List Pay, (∀ x ∈ so, PP f x) → so.length < l.length → zerG f (owed8 f) so = false
theorem st_facts {f : Flo} (hS : Sml f) (hf : floOk f = true) (h0 : (stlN f).2 = 0) : StF f (stlN f).1 := by
 obtain ⟨k, hk, hin, hm, hlen⟩ := stl_told hS hf h0
 generalize (stlN f).1 = l at hin hlen
 have hr := rises_of_ok hf
 have hT := told (flo_f hf) hS hr hin
 have hne : allR f k ≠ [] := fun e => by rw [e] at hin; cases hin
 refine ⟨by omega, by rw [fewN8_of hS hf hk hne hm, hlen], fun x hx => told_speak hin hx, fun x hx => ⟨(hT.ok x hx).2, pence_bound hf hS hin hx⟩, fun i hi h1 hi0 => ?_, settles hf hin, fun so hso hlt => ?_⟩
 ·have p1 : payLt l[i] l[i - 1] = false := List.pairwise_iff_getElem.1 hT.so (i - 1) i h1 hi (by omega)
  have q1 := payLt_no.1 p1
  refine ⟨by omega, fun he => ?_⟩
  have hbne : l[i - 1].b ≠ l[i].b := fun hb => by
   have := told_pairs hf hin (List.getElem_mem h1) (List.getElem_mem hi) he hb
   exact List.pairwise_iff_getElem.1 hT.nd (i - 1) i h1 hi (by omega) this
  omega
 ·rw [← Bool.not_eq_true, zero_iff hr fun x hx => (hso x hx).mem]
  intro hz
  obtain ⟨T, hT1, hT2, hT3⟩ := nodup_of (prsG f so)
  obtain ⟨j, hj, hj2⟩ := allR_zr hT1 (fun e he => PP.prs hr hso e ((hT3 e).2 he)) (hz.sup fun p hp => (hT3 p).1 hp)
  have hpl : (prsG f so).length = so.length := by unfold prsG; rw [List.length_map]
  exact hj2 (hm j (by omega))
theorem st_none {f : Flo} (hS : Sml f) (hf : floOk f = true) (h0 : (stlN f).2 = 8) : canB f (owed8 f) = false ∧ fewN8 f = (0, 8) ∧ (stlN f).1 = [] ∧ ∀ so : List Pay, (∀ x ∈ so, PP f x) → zerG f (owed8 f) so = false := by
 have hr := rises_of_ok hf
 have ha : ¬ (askR f).2.2 = 0 := fun e => by
  rw [stl_eq hS] at h0
  unfold stlN8 at h0
  rw [if_pos e] at h0
  cases h0
 have hc : canB f (owed8 f) = false := by rw [can_ask hf]; exact decide_eq_false ha
 refine ⟨hc, ?_, ?_, fun so hso => ?_⟩
 ·unfold fewN8
  rw [if_neg ha]
  unfold askR at ha ⊢
  rw [if_pos hf] at ha ⊢
  split
  ·rfl
  ·rename_i h; rw [if_neg h] at ha; exact absurd rfl ha
 ·rw [stl_eq hS]
  unfold stlN8
  rw [if_neg ha]
 ·rw [← Bool.not_eq_true, zero_iff hr fun x hx => (hso x hx).mem]
  intro hz
  have : canB f (owed8 f) = true := (evB_iff (n := f.ids.length) (L := prP (spk f) f.ids.length) (cu := owed8 f) fun p hp => by have := prP_mem.1 hp; omega).2 (hz.sup fun p hp => prP_mem.2 (PP.prs hr hso p hp))
  rw [hc] at this; cases this
theorem st_can {f : Flo} (hS : Sml f) (hf : floOk f = true) (h0 : (stlN f).2 = 0) : canB f (owed8 f) = true := by
 rw [can_ask hf]
 refine decide_eq_true ?_
 rw [stl_eq hS] at h0
 unfold stlN8 at h0
 split at h0
 ·assumption
 ·exact h0
def tri : Nat → Nat
 | 0 => 0
 | m + 1 => tri m + m
theorem tri_le {n : Nat} (h : n ≤ 6) : tri n ≤ 15 := by
 have : ∀ n, n < 7 → tri n ≤ 15 := by decide
 exact this n (by omega)
end Go.Proofs.YtihonljdanjfmaaGreatDoor.Sw
namespace Go.Proofs.YtihonljdanjfmaaGreatDoor.Sw
open Go.RowKit Go Go.Shelf Go.Proofs
open Go.Proofs.YtihonljdanjfmaaGreatDoor.Gr (lf)
theorem lt_neqB {P : Program} {rs : List (Nat × AV)} {d : Option Nat} {ty : TypeId} {pos : String} {af : Array Edge} {g : Option (Nat × Bool)} {x y : Operand} {b b' : Bool} {t t' : TypeId} (ht : P.underlying t = some .bool) (hx : opv rs x = some (.val (.bool b))) (hy : opv rs y = some (.val (.bool b'))) : LT P ⟨d, .binOp .neq t x y t', ty, pos, af, g⟩ rs [] (Is (.val (.bool (!(b == b')))) []) :=
 LT_val (fun _ e => by cases e) fun a w G hR _ => ⟨_, rfl, by
  have e1 : a.eval x = _ := opv_ok hR hx
  have e2 : a.eval y = _ := opv_ok hR hy
  simp only [execOp, e1, e2]
  simp [go_sem, eqGuard, run_neq_bool (w := w) t b b' ht]⟩
theorem WL_meet {c : Cx} {s : S} {ops : Array Oper} {tl : List Oper} {y : Code} {Q Q' : Exit → S → Prop} (s1 : S) (h : ∀ R : S → Prop, (∀ s', (∀ a w, St c s' a w → St c s1 a w) → R s') → WL c ops tl s (thenQ (fun s' => R s' ∧ True) Q)) (k : W c y s1 Q') : WL c ops tl s (thenQ (fun s' => W c y s' Q') Q) := by
 have e : (fun s' => W c y s' Q' ∧ True) = fun s' => W c y s' Q' := funext fun _ => propext (and_iff_left trivial)
 have := h (fun s' => W c y s' Q') fun _ hs => W_weak s1 hs k
 rw [e] at this
 exact this
theorem take_end {f : Flo} {l : List Pay} {cu owed : List Int} (hno : payFold f.ids [] cu = payFold f.ids l owed) (hze : ∀ v, v < f.ids.length → lf (payFold f.ids l owed) v = 0) (hcl : cu.length = f.ids.length) {j : Nat} (hj : j < cu.length) : cu[j] = 0 := by
 have := hze j (by omega)
 rw [← hno] at this
 unfold lf at this
 rw [payFold, List.getD_eq_getElem?_getD, List.getElem?_eq_getElem hj] at this
 exact this
theorem floorSettles_con (f : Flo) (s : Nat) (hs : s ≤ 65535) : Con Tryz.prog 3 [.agg (flC f), .val (.int .u16 (s : Int))] [tab8, HA.tab] (Is (.val (.bool true)) []) := by
 refine con_of Tryz.func3 rfl (enters_of Tryz.func3 (by kernel_rfl) rfl) rfl ?_; intro n w0 F0 G0
 refine zS ?_;repeat(refine yA ?_;intro p hp;refine zS ?_)
 (apply wl_callP (alive_con); exact rfl; exact yC; exact rfl)
 rintro _ _ ⟨rfl, rfl⟩
 refine zS ?_
 (first | (apply wl_call (ready_con f); exact rfl; exact rfl) | (apply wl_callR (ready_con f); exact rfl; exact zM; exact rfl))
 refine zS ?_
 cases hR : (!greatF f && floOk f) with
 | false =>
  refine zS ?_
  (apply res1; exact rfl; exact rfl; exact ⟨rfl, rfl⟩)
 | true =>
  obtain ⟨hS, hok⟩ := ready_ok hR
  have hF := flo_f hok
  have hr := rises_of_ok hok
  have hidl := hF.ids
  have hqsl := hS.qs
  have hol := owed8_len f
  have hob := owed8_btw hF hS
  have NC := Net_con f hS
  rw [show netR f = (owed8 f, 0) by unfold netR; rw [if_pos hok]] at NC
  have CC := Can_con f hS
  rw [show canR f = (canB f (owed8 f), 0) by unfold canR; rw [if_pos hok]] at CC
  have SC := Settle_con f hS (lsB2 hS)
  have FC := Fewest_con f hS
  rw [few_eq hS] at FC
  have he := stlN_err hok
  have hA := st_facts hS hok
  have hB := st_none hS hok
  have hC := st_can hS hok
  have ZC := fun so (h : ∀ x ∈ so, PP f x) (hl : so.length ≤ 1000) => zero_con f (owed8 f) so hidl hl (fun x hx => (h x hx).mem) hol (hob.mono (by omega) (by omega))
  generalize stlN f = r at SC he hA hB hC
  obtain ⟨l, e⟩ := r
  dsimp only at NC CC SC he hA hB hC
  rcases he with rfl | rfl
  ·have hA := hA rfl
   rw [hA.few] at FC
   rw [hC rfl] at CC
   clear hB hC
   have hll := hA.len
   have hno := hA.no
   have hze := hA.ze
   have hsp := hA.sp
   have hpe := hA.pe
   have hod := hA.od
   dsimp only at FC
   clear hA
   generalize owed8 f = owed at NC CC ZC hol hob hno hze
   have hnn : (!decide ((owed.length : Int) = (f.ids.length : Int))) = false := by rw [hol]; simp
   refine zS ?_
   (first | (apply wl_call (NC); exact rfl; exact rfl) | (apply wl_callR (NC); exact rfl; exact zM; exact rfl))
   refine zS ?_
   (first | (apply wl_call (CC); exact rfl; exact rfl) | (apply wl_callR (CC); exact rfl; exact zM; exact rfl))
   refine zS ?_
   (first | (apply wl_call (SC); exact rfl; exact rfl) | (apply wl_callR (SC); exact rfl; exact zM; exact rfl))
   refine zS ?_
   (first | (apply wl_call (FC); exact rfl; exact rfl) | (apply wl_callR (FC); exact rfl; exact zM; exact rfl))
   refine zS ?_
   rw [hnn]
   refine zS ?_
   refine wl_ex (lt_neqB Tryz.underlying4 rfl rfl) rfl ?_
   refine zS ?_
   refine W_loopJ (fun (b : Nat × Nat × Value × List Pay) => ⟨[(1, .val (.int .u16 (s : Int))), (2, .val p), (5, .val (.bool true)), (6, .sl 1 iC owed), (8, .val (.bool true)), (10, .sl 3 payC l), (12, .val (.int .i64 l.length)), (14, .val b.2.2.1), (15, .val (.int .i64 (b.2.1 : Int))), (90, .sl 1 iC f.ids), (91, .val (.int .i64 f.ids.length)), (92, .val (.int .i64 b.1))], [.row b.2.2.1 42 3 payC b.2.2.2, .box p (flC f) 27]⟩) (fun b => b.1 ≤ f.ids.length ∧ b.2.1 + tri (f.ids.length - b.1) ≤ 15 ∧ b.2.2.2.length ≤ b.2.1 ∧ ∀ x ∈ b.2.2.2, PP f x) (fun b => f.ids.length - b.1) (0, 0, .slice none 0 0, []) (fun _ _ st => st_sub2 (st_nil 42 3 payC st) zR zP) ⟨Nat.zero_le _, by have := tri_le hidl; dsimp only; rw [Nat.sub_zero]; omega, Nat.le_refl _, by simp⟩ ?_
   rintro ⟨k, t, v, so⟩ ⟨hk, ht, hsl, hso⟩
   dsimp only at hk ht hsl hso ⊢
   refine zS ?_
   refine w_cond rfl (fun hlt => ?_) (fun hlt => ?_)
   ·have hlt' : k < f.ids.length := by simpa using hlt
    have hqk : f.ids[k]? = some f.ids[k] := List.getElem?_eq_getElem hlt'
    obtain ⟨m, hm⟩ : ∃ m, f.ids.length - k = m + 1 := ⟨f.ids.length - k - 1, by omega⟩
    rw [hm, tri] at ht
    have hdl : (f.ids.drop (k + 1)).length = m := by rw [List.length_drop]; omega
    refine zS ?_
    (apply wl_slFrom (l := k + 1); exact inferInstance; exact rfl; exact rfl; omega; omega; exact rfl)
    refine zS ?_
    refine W_loopJ (fun (b : Nat × Nat × Value × List Pay) => ⟨[(1, .val (.int .u16 (s : Int))), (2, .val p), (5, .val (.bool true)), (6, .sl 1 iC owed), (8, .val (.bool true)), (10, .sl 3 payC l), (12, .val (.int .i64 l.length)), (14, .val b.2.2.1), (15, .val (.int .i64 (b.2.1 : Int))), (90, .sl 1 iC f.ids), (91, .val (.int .i64 f.ids.length)), (92, .val (.int .i64 k)), (17, .val (.int .i64 f.ids[k])), (101, .sl 1 iC (f.ids.drop (k + 1))), (102, .val (.int .i64 (f.ids.drop (k + 1)).length)), (103, .val (.int .i64 b.1))], [.row b.2.2.1 42 3 payC b.2.2.2, .box p (flC f) 27]⟩) (fun b => b.1 ≤ m ∧ b.2.1 + (m - b.1) + tri m ≤ 15 ∧ b.2.2.2.length ≤ b.2.1 ∧ ∀ x ∈ b.2.2.2, PP f x) (fun b => m - b.1) (0, t, v, so) (fun _ _ st => st_sub2 st zR zP) ⟨Nat.zero_le _, by dsimp only; omega, hsl, hso⟩ ?_
    clear hsl hso
    rintro ⟨j, t, v, so⟩ ⟨hj, ht, hsl, hso⟩
    dsimp only at hj ht hsl hso ⊢
    refine zS ?_
    rw [hdl]
    refine w_cond rfl (fun hltj => ?_) (fun hltj => ?_)
    ·have hj' : j < m := by simpa using hltj
     have hjd : j < (f.ids.drop (k + 1)).length := by omega
     have hqj : (f.ids.drop (k + 1))[j]? = some (f.ids.drop (k + 1))[j] := List.getElem?_eq_getElem hjd
     have hpp : speakR f.qs f.ids[k] (f.ids.drop (k + 1))[j] = true → PP f ⟨f.ids[k], (f.ids.drop (k + 1))[j], 1⟩ := fun h => by
      have e1 : f.ids[k] = f.ids.getD k 0 := by rw [List.getD_eq_getElem?_getD, hqk]; rfl
      have e2 : (f.ids.drop (k + 1))[j] = f.ids.getD (k + 1 + j) 0 := by
       rw [List.getElem_drop, List.getD_eq_getElem?_getD, List.getElem?_eq_getElem (by omega)]; rfl
      refine ⟨k, k + 1 + j, by omega, by omega, ?_, e1, e2⟩
      rw [e1, e2] at h
      exact h
     have SK := speak8_con f f.ids[k] (f.ids.drop (k + 1))[j] (by omega)
     refine zS ?_
     generalize (f.ids.drop (k + 1))[j] = id at hpp SK hqj ⊢
     generalize f.ids[k] = idk at hpp SK hqk ⊢
     (first | (apply wl_call (SK); exact rfl; exact rfl) | (apply wl_callR (SK); exact rfl; exact zM; exact rfl))
     refine zS ?_
     generalize speakR f.qs idk id = sp at hpp ⊢
     cases sp with
     | false =>
      refine zS ?_
      (refine ⟨(j + 1, t + 1, v, so), fun _ _ st => st_sub2 st ?_ ?_, ?_, ?_⟩; exact zR; exact zP)
      ·exact ⟨hj', by dsimp only; omega, by dsimp only; omega, hso⟩
      ·dsimp only; omega
     | true =>
      have hpp := hpp rfl
      refine zS ?_
      refine wl_ex (lt_shr16 rfl rfl (by omega)) rfl ?_
      refine zS ?_
      refine wl_ex (lt_and16 rfl rfl (Nat.le_trans (Nat.div_le_self _ _) hs)) rfl ?_
      refine zS ?_
      refine w_cond rfl (fun hbit => ?_) (fun hbit => ?_)
      ·refine zS ?_
       (first | (apply wl_call (payL_con idk id 1); exact rfl; exact rfl) | (apply wl_callR (payL_con idk id 1); exact rfl; exact zM; exact rfl))
       refine zS ?_
       (apply wl_litF payC; exact inferInstance; exact inferInstance; exact inferInstance; exact zE; exact rfl; (first | exact (of_decide_eq_true rfl) | decide | (simp; done) | (simp; omega)); exact rfl)
       (first | (apply wl_append; exact rfl; exact rfl; exact zN; exact inferInstance; exact inferInstance; (first | omega | (simp; omega)); exact rfl) | (apply wl_appendN; exact rfl; exact rfl; exact inferInstance; exact inferInstance; (first | omega | (simp; omega)); exact rfl))
       intro u
       refine zS ?_
       (refine ⟨(j + 1, t + 1, u, so ++ [⟨idk, id, 1⟩]), fun _ _ st => st_sub2 st ?_ ?_, ?_, ?_⟩; exact zR; exact zP)
       ·exact ⟨hj', by dsimp only; omega, by dsimp only; rw [List.length_append, List.length_singleton]; omega, fun x hx => by
         rcases List.mem_append.1 hx with h | h
         ·exact hso x h
         ·rw [List.mem_singleton] at h; rw [h]; exact hpp⟩
       ·dsimp only; omega
      ·refine zS ?_
       (refine ⟨(j + 1, t + 1, v, so), fun _ _ st => st_sub2 st ?_ ?_, ?_, ?_⟩; exact zR; exact zP)
       ·exact ⟨hj', by dsimp only; omega, by dsimp only; omega, hso⟩
       ·dsimp only; omega
    ·have hjj : j = m := by simp at hltj; omega
     subst hjj
     refine zS ?_
     (refine ⟨(k + 1, t, v, so), fun _ _ st => st_sub2 st ?_ ?_, ?_, ?_⟩; exact zR; exact zP)
     ·exact ⟨hlt', by dsimp only; rw [show f.ids.length - (k + 1) = j by omega]; omega, hsl, hso⟩
     ·dsimp only; omega
   ·clear hlt hk
    have hnl : (!decide ((l.length : Int) = (l.length : Int))) = false := by simp
    have ZC := ZC so hso (by omega)
    (apply W_frz 14; exact rfl; exact zN)
    refine zS ?_
    rw [hnl]
    refine zS ?_
    refine WL_meet ⟨[(2, .val p), (5, .val (.bool true)), (6, .sl 1 iC owed), (10, .sl 3 payC l), (158, .val (.bool false))], [.box p (flC f) 27]⟩ (fun R hR => ?_) ?_
    ·by_cases hfew : so.length < l.length
     ·rw [show decide ((so.length : Int) < (l.length : Int)) = true from decide_eq_true (by omega)]
      rw [hno so hso hfew] at ZC
      refine zS ?_
      (first | (apply wl_call (ZC); exact rfl; exact rfl) | (apply wl_callR (ZC); exact rfl; exact zM; exact rfl))
      refine zS ?_
      exact ⟨hR _ (fun _ _ st => st_sub2 st zR zP), trivial⟩
     ·rw [show decide ((so.length : Int) < (l.length : Int)) = false from decide_eq_false (by omega)]
      refine zS ?_
      exact ⟨hR _ (fun _ _ st => st_sub2 st zR zP), trivial⟩
    ·clear hsl hso ht ZC hno
     refine zS ?_
     (apply wl_lit iC; exact inferInstance; exact inferInstance; exact inferInstance; exact zE; exact rfl; (first | exact (of_decide_eq_true rfl) | decide | (simp; done) | (simp; omega)); exact rfl)
     intro v0
     refine zS ?_
     (first | (apply wl_append; exact rfl; exact rfl; exact zN; exact inferInstance; exact inferInstance; (first | omega | (simp; omega)); exact rfl) | (apply wl_appendN; exact rfl; exact rfl; exact inferInstance; exact inferInstance; (first | omega | (simp; omega)); exact rfl))
     intro v1
     rw [List.nil_append]
     refine zS ?_
     refine W_loopJ (fun (b : Nat × List Int) => ⟨[(2, .val p), (5, .val (.bool true)), (10, .sl 3 payC l), (20, .val v1), (162, .sl 3 payC l), (163, .val (.int .i64 l.length)), (164, .val (.int .i64 b.1))], [.row v1 3 1 iC b.2, .box p (flC f) 27]⟩) (fun b => b.1 ≤ l.length ∧ b.2.length = f.ids.length ∧ payFold f.ids (l.drop b.1) b.2 = payFold f.ids l owed ∧ Btw (-(200000000 + 44000000 * b.1)) (200000000 + 44000000 * b.1) b.2) (fun b => l.length - b.1) (0, owed) (fun _ _ st => st_sub2 st zR zP) ⟨Nat.zero_le _, hol, rfl, hob.mono (by dsimp only; omega) (by dsimp only; omega)⟩ ?_
     rintro ⟨k, cu⟩ ⟨hk, hcl, hno, hbt⟩
     dsimp only at hk hcl hno hbt ⊢
     refine zS ?_
     refine w_cond rfl (fun hlt => ?_) (fun hlt => ?_)
     ·have hlt' : k < l.length := by simpa using hlt
      obtain ⟨sp, ma, mb⟩ := hsp _ (List.getElem_mem hlt')
      obtain ⟨p1, p2⟩ := hpe _ (List.getElem_mem hlt')
      have hkm : k - 1 < l.length := by omega
      have q1 : l[k]? = some l[k] := List.getElem?_eq_getElem hlt'
      have q2 : l[k - 1]? = some l[k - 1] := List.getElem?_eq_getElem hkm
      have ho := hod k hlt' hkm
      rw [drop_step hlt', payFold, payStep] at hno
      have SK := speak8_con f l[k].a l[k].b (by omega)
      rw [sp] at SK
      have AC := floorAt_con f l[k].a (by omega) ma
      have BC := floorAt_con f l[k].b (by omega) mb
      have hix : f.ids.idxOf l[k].a < cu.length := by rw [hcl]; exact List.idxOf_lt_length_of_mem ma
      have hiy : f.ids.idxOf l[k].b < cu.length := by rw [hcl]; exact List.idxOf_lt_length_of_mem mb
      have z3 : decide (l[k].p < 1) = false := decide_eq_false (by omega)
      have z4 : decide (100000000 < l[k].p) = false := decide_eq_false (by omega)
      refine zS ?_;repeat(refine yA ?_;intro p hp;refine zS ?_)
      generalize l[k] = x at *
      rename_i pf hpf _
      refine W_run 7 [169, 170, 171, 172, 173, 174, 175] [0, 1, 2, 3, 4, 5, 6] Cut.nil rfl goFlt mixedS (by kernel_rfl) rfl ?_
      refine rpv [] [] ?_
      refine rpv [] [] ?_
      refine rpv [1] [] ?_
      refine Run.pv [0, 2] [] rfl (fun vs => by apply ltr_pk; exact goPk; (refine ltr ?_; refine lt_call ?_ ((AC)); exact rfl)) goApp ?_
      refine rpv [] [] ?_
      refine rpv [] [] ?_
      refine rpv [5] [] ?_
      refine ⟨⟨by kernel_rfl, by kernel_rfl⟩, fun vs => ?_⟩
      apply WL_auto [3, 4, 6]
      ·exact goPk
      ·exact goNrm
      ·kernel_rfl
      ·kernel_rfl
      refine zS ?_
      (first | (apply wl_call (BC); exact rfl; exact rfl) | (apply wl_callR (BC); exact rfl; exact zM; exact rfl))
      refine zS ?_
      have z1 : decide (((f.ids.idxOf x.a : Nat) : Int) < 0) = false := decide_eq_false (by omega)
      have z2 : decide (((f.ids.idxOf x.b : Nat) : Int) < 0) = false := decide_eq_false (by omega)
      rw [addAt_at hix] at hno
      have hq2 : cu[f.ids.idxOf x.a]? = some cu[f.ids.idxOf x.a] := List.getElem?_eq_getElem hix
      have hce := hbt.at hix
      have hb1 := hbt.addAt (f.ids.idxOf x.a) (d := x.p) (a := 0) (b := 22000000) (by omega) (by omega) (by omega) (by omega) (by omega) (by omega)
      rw [addAt_at hix] at hb1
      refine W_meet ⟨[(2, .val pf), (5, .val (.bool true)), (10, .sl 3 payC l), (20, .val v1), (162, .sl 3 payC l), (163, .val (.int .i64 l.length)), (164, .val (.int .i64 k)), (22, .val p), (23, .val (.int .i64 ((f.ids.idxOf x.a : Nat) : Int))), (24, .val (.int .i64 ((f.ids.idxOf x.b : Nat) : Int))), (238, .val (.bool false))], [.row v1 3 1 iC cu, .box p (payC x) 42, .box pf (flC f) 27]⟩ ?_ ?_
      ·by_cases hk0' : 0 < k
       ·obtain ⟨o1', o2'⟩ := ho hk0'
        have hk0 : decide ((0 : Int) < (k : Int)) = true := decide_eq_true (by omega)
        have o1 : decide (x.a < l[k - 1].a) = false := decide_eq_false o1'
        by_cases o2q : l[k - 1].a = x.a
        ·have o2 : decide (l[k - 1].a = x.a) = true := decide_eq_true o2q
         have o3 : decide (x.b ≤ l[k - 1].b) = false := decide_eq_false (by have := o2' o2q; omega)
         refine W_run 62 [177, 178, 179, 180, 181, 182, 183, 184, 185, 186, 187, 188, 189, 190, 191, 192, 193, 194, 195, 196, 197, 198, 199, 200, 201, 202, 203, 204, 205, 206, 207, 208, 209, 210, 211, 212, 213, 214, 215, 216, 217, 218, 219, 220, 221, 222, 223, 224, 225, 226, 227, 228, 229, 230, 231, 232, 233, 234, 235, 236, 237, 238] [0, 1, 2, 3, 4, 5, 6, 7, 8, 9, 10, 11, 12, 13, 14, 15, 16, 17, 18, 19, 20, 21, 22, 23, 24, 25, 26, 27, 28, 29, 30, 31, 32, 33, 34, 35, 36, 37, 38, 39, 40, 41, 42, 43, 44, 45, 46, 47, 48, 49, 50, 51, 52, 53, 54, 55, 56, 57, 58, 59, 60, 61] Cut.nil rfl goFlt mixedS (by kernel_rfl) rfl ?_
         refine rpv [] [] ?_
         refine Run.pv [0] [] rfl (fun vs => by apply ltr_pk; exact goPk; (refine ltr ?_; apply LT_bool false; apply lt_lss; exact rfl; exact rfl; exact z1)) goApp ?_
         refine rpv [1] [] ?_
         refine ryv [2] ?_
         refine ryx [2, 3] (fun vs => by apply ltr_pk; exact goPk; (refine ltr ?_; apply LT_bool false; apply lt_lss; exact rfl; exact rfl; exact z2)) ?_
         refine rpv [2, 4] [] ?_
         refine rpv [5] [] ?_
         refine ryv [6] ?_
         refine ryv [6, 7] ?_
         refine ryx [6, 8] (fun vs => by apply ltr_pk; exact goPk; (refine ltr ?_; apply LT_bool false; apply lt_lss; exact rfl; exact rfl; exact z3)) ?_
         refine rpv [6, 9] [] ?_
         refine rpv [10] [] ?_
         refine ryv [11] ?_
         refine ryv [11, 12] ?_
         refine ryx [11, 13] (fun vs => by apply ltr_pk; exact goPk; (refine ltr ?_; apply LT_bool false; apply lt_gtr; exact rfl; exact rfl; exact z4)) ?_
         refine rpv [11, 14] [] ?_
         refine rpv [15] [] ?_
         refine ryv [16] ?_
         refine ryv [16] ?_
         refine ryv [16, 18] ?_
         refine ryv [16] ?_
         refine ryv [16, 20] ?_
         refine ryx [16, 17, 19, 21] (fun vs => by apply ltr_pk; exact goPk; (refine ltr ?_; refine lt_call ?_ ((SK)); exact rfl)) ?_
         refine ryv [16, 22] ?_
         refine rpv [16, 23] [] ?_
         refine rpv [24] [] ?_
         refine ryv [25] ?_
         refine ryx [25, 26] (fun vs => by apply ltr_pk; exact goPk; (refine ltr ?_; apply LT_bool true; apply lt_gtr; exact rfl; exact rfl; exact hk0)) ?_
         refine ryv [25, 27] ?_
         refine ryv [28] ?_
         refine ryv [28] ?_
         refine ryx [28, 30] (fun vs => by apply ltr_pk; exact goPk; (refine ltr ?_; apply LT_int ((k - 1 : Nat) : Int); apply lt_sub; exact rfl; exact rfl; omega; omega; omega)) ?_
         refine ryv [28, 29, 31] ?_
         refine ryv [28, 32] ?_
         refine ryv [28, 33] ?_
         refine ryv [28] ?_
         refine ryv [28, 35] ?_
         refine ryx [28, 34, 36] (fun vs => by apply ltr_pk; exact goPk; (refine ltr ?_; apply LT_bool false; apply lt_gtr; exact rfl; exact rfl; exact o1)) ?_
         refine ryv [28, 37] ?_
         refine ryv [38] ?_
         refine ryv [38] ?_
         refine ryx [38, 40] (fun vs => by apply ltr_pk; exact goPk; (refine ltr ?_; apply LT_int ((k - 1 : Nat) : Int); apply lt_sub; exact rfl; exact rfl; omega; omega; omega)) ?_
         refine ryv [38, 39, 41] ?_
         refine ryv [38, 42] ?_
         refine ryv [38, 43] ?_
         refine ryv [38] ?_
         refine ryv [38, 45] ?_
         refine ryx [38, 44, 46] (fun vs => by apply ltr_pk; exact goPk; (refine ltr ?_; apply LT_bool true; apply lt_eql; exact rfl; exact rfl; exact o2)) ?_
         refine ryv [38, 47] ?_
         refine ryv [48] ?_
         refine ryv [48] ?_
         refine ryx [48, 50] (fun vs => by apply ltr_pk; exact goPk; (refine ltr ?_; apply LT_int ((k - 1 : Nat) : Int); apply lt_sub; exact rfl; exact rfl; omega; omega; omega)) ?_
         refine ryv [48, 49, 51] ?_
         refine ryv [48, 52] ?_
         refine ryv [48, 53] ?_
         refine ryv [48] ?_
         refine ryv [48, 55] ?_
         refine ryx [48, 54, 56] (fun vs => by apply ltr_pk; exact goPk; (refine ltr ?_; apply LT_bool false; apply lt_geq; exact rfl; exact rfl; exact o3)) ?_
         refine ryv [38, 48, 57] ?_
         refine ryv [28, 38, 58] ?_
         refine ryv [25, 28, 59] ?_
         refine rpv [25, 60] [] ?_
         refine ⟨⟨by kernel_rfl, by kernel_rfl⟩, fun vs => ?_⟩
         apply WL_auto [61]
         ·exact goPk
         ·exact goNrm
         ·kernel_rfl
         ·kernel_rfl
         refine zS ?_
         refine zS ?_
         exact ⟨rfl, fun _ _ st => st_sub2 st zR zP⟩
        ·have o2 : decide (l[k - 1].a = x.a) = false := decide_eq_false o2q
         refine W_run 62 [177, 178, 179, 180, 181, 182, 183, 184, 185, 186, 187, 188, 189, 190, 191, 192, 193, 194, 195, 196, 197, 198, 199, 200, 201, 202, 203, 204, 205, 206, 207, 208, 209, 210, 211, 212, 213, 214, 215, 216, 217, 218, 219, 220, 221, 222, 223, 224, 225, 226, 227, 228, 229, 230, 231, 232, 233, 234, 235, 236, 237, 238] [0, 1, 2, 3, 4, 5, 6, 7, 8, 9, 10, 11, 12, 13, 14, 15, 16, 17, 18, 19, 20, 21, 22, 23, 24, 25, 26, 27, 28, 29, 30, 31, 32, 33, 34, 35, 36, 37, 38, 39, 40, 41, 42, 43, 44, 45, 46, 47, 48, 49, 50, 51, 52, 53, 54, 55, 56, 57, 58, 59, 60, 61] Cut.nil rfl goFlt mixedS (by kernel_rfl) rfl ?_
         refine rpv [] [] ?_
         refine Run.pv [0] [] rfl (fun vs => by apply ltr_pk; exact goPk; (refine ltr ?_; apply LT_bool false; apply lt_lss; exact rfl; exact rfl; exact z1)) goApp ?_
         refine rpv [1] [] ?_
         refine ryv [2] ?_
         refine ryx [2, 3] (fun vs => by apply ltr_pk; exact goPk; (refine ltr ?_; apply LT_bool false; apply lt_lss; exact rfl; exact rfl; exact z2)) ?_
         refine rpv [2, 4] [] ?_
         refine rpv [5] [] ?_
         refine ryv [6] ?_
         refine ryv [6, 7] ?_
         refine ryx [6, 8] (fun vs => by apply ltr_pk; exact goPk; (refine ltr ?_; apply LT_bool false; apply lt_lss; exact rfl; exact rfl; exact z3)) ?_
         refine rpv [6, 9] [] ?_
         refine rpv [10] [] ?_
         refine ryv [11] ?_
         refine ryv [11, 12] ?_
         refine ryx [11, 13] (fun vs => by apply ltr_pk; exact goPk; (refine ltr ?_; apply LT_bool false; apply lt_gtr; exact rfl; exact rfl; exact z4)) ?_
         refine rpv [11, 14] [] ?_
         refine rpv [15] [] ?_
         refine ryv [16] ?_
         refine ryv [16] ?_
         refine ryv [16, 18] ?_
         refine ryv [16] ?_
         refine ryv [16, 20] ?_
         refine ryx [16, 17, 19, 21] (fun vs => by apply ltr_pk; exact goPk; (refine ltr ?_; refine lt_call ?_ ((SK)); exact rfl)) ?_
         refine ryv [16, 22] ?_
         refine rpv [16, 23] [] ?_
         refine rpv [24] [] ?_
         refine ryv [25] ?_
         refine ryx [25, 26] (fun vs => by apply ltr_pk; exact goPk; (refine ltr ?_; apply LT_bool true; apply lt_gtr; exact rfl; exact rfl; exact hk0)) ?_
         refine ryv [25, 27] ?_
         refine ryv [28] ?_
         refine ryv [28] ?_
         refine ryx [28, 30] (fun vs => by apply ltr_pk; exact goPk; (refine ltr ?_; apply LT_int ((k - 1 : Nat) : Int); apply lt_sub; exact rfl; exact rfl; omega; omega; omega)) ?_
         refine ryv [28, 29, 31] ?_
         refine ryv [28, 32] ?_
         refine ryv [28, 33] ?_
         refine ryv [28] ?_
         refine ryv [28, 35] ?_
         refine ryx [28, 34, 36] (fun vs => by apply ltr_pk; exact goPk; (refine ltr ?_; apply LT_bool false; apply lt_gtr; exact rfl; exact rfl; exact o1)) ?_
         refine ryv [28, 37] ?_
         refine ryv [38] ?_
         refine ryv [38] ?_
         refine ryx [38, 40] (fun vs => by apply ltr_pk; exact goPk; (refine ltr ?_; apply LT_int ((k - 1 : Nat) : Int); apply lt_sub; exact rfl; exact rfl; omega; omega; omega)) ?_
         refine ryv [38, 39, 41] ?_
         refine ryv [38, 42] ?_
         refine ryv [38, 43] ?_
         refine ryv [38] ?_
         refine ryv [38, 45] ?_
         refine ryx [38, 44, 46] (fun vs => by apply ltr_pk; exact goPk; (refine ltr ?_; apply LT_bool false; apply lt_eql; exact rfl; exact rfl; exact o2)) ?_
         refine ryv [38, 47] ?_
         refine rno [48] ?_
         refine rno [48] ?_
         refine rno [48, 50] ?_
         refine rno [48, 49, 51] ?_
         refine rno [48, 52] ?_
         refine rno [48, 53] ?_
         refine rno [48] ?_
         refine rno [48, 55] ?_
         refine rno [48, 54, 56] ?_
         refine ryv [38, 48, 57] ?_
         refine ryv [28, 38, 58] ?_
         refine ryv [25, 28, 59] ?_
         refine rpv [25, 60] [] ?_
         refine ⟨⟨by kernel_rfl, by kernel_rfl⟩, fun vs => ?_⟩
         apply WL_auto [61]
         ·exact goPk
         ·exact goNrm
         ·kernel_rfl
         ·kernel_rfl
         refine zS ?_
         refine zS ?_
         exact ⟨rfl, fun _ _ st => st_sub2 st zR zP⟩
       ·have hk0 : decide ((0 : Int) < (k : Int)) = false := decide_eq_false (by omega)
        refine W_run 62 [177, 178, 179, 180, 181, 182, 183, 184, 185, 186, 187, 188, 189, 190, 191, 192, 193, 194, 195, 196, 197, 198, 199, 200, 201, 202, 203, 204, 205, 206, 207, 208, 209, 210, 211, 212, 213, 214, 215, 216, 217, 218, 219, 220, 221, 222, 223, 224, 225, 226, 227, 228, 229, 230, 231, 232, 233, 234, 235, 236, 237, 238] [0, 1, 2, 3, 4, 5, 6, 7, 8, 9, 10, 11, 12, 13, 14, 15, 16, 17, 18, 19, 20, 21, 22, 23, 24, 25, 26, 27, 28, 29, 30, 31, 32, 33, 34, 35, 36, 37, 38, 39, 40, 41, 42, 43, 44, 45, 46, 47, 48, 49, 50, 51, 52, 53, 54, 55, 56, 57, 58, 59, 60, 61] Cut.nil rfl goFlt mixedS (by kernel_rfl) rfl ?_
        refine rpv [] [] ?_
        refine Run.pv [0] [] rfl (fun vs => by apply ltr_pk; exact goPk; (refine ltr ?_; apply LT_bool false; apply lt_lss; exact rfl; exact rfl; exact z1)) goApp ?_
        refine rpv [1] [] ?_
        refine ryv [2] ?_
        refine ryx [2, 3] (fun vs => by apply ltr_pk; exact goPk; (refine ltr ?_; apply LT_bool false; apply lt_lss; exact rfl; exact rfl; exact z2)) ?_
        refine rpv [2, 4] [] ?_
        refine rpv [5] [] ?_
        refine ryv [6] ?_
        refine ryv [6, 7] ?_
        refine ryx [6, 8] (fun vs => by apply ltr_pk; exact goPk; (refine ltr ?_; apply LT_bool false; apply lt_lss; exact rfl; exact rfl; exact z3)) ?_
        refine rpv [6, 9] [] ?_
        refine rpv [10] [] ?_
        refine ryv [11] ?_
        refine ryv [11, 12] ?_
        refine ryx [11, 13] (fun vs => by apply ltr_pk; exact goPk; (refine ltr ?_; apply LT_bool false; apply lt_gtr; exact rfl; exact rfl; exact z4)) ?_
        refine rpv [11, 14] [] ?_
        refine rpv [15] [] ?_
        refine ryv [16] ?_
        refine ryv [16] ?_
        refine ryv [16, 18] ?_
        refine ryv [16] ?_
        refine ryv [16, 20] ?_
        refine ryx [16, 17, 19, 21] (fun vs => by apply ltr_pk; exact goPk; (refine ltr ?_; refine lt_call ?_ ((SK)); exact rfl)) ?_
        refine ryv [16, 22] ?_
        refine rpv [16, 23] [] ?_
        refine rpv [24] [] ?_
        refine ryv [25] ?_
        refine ryx [25, 26] (fun vs => by apply ltr_pk; exact goPk; (refine ltr ?_; apply LT_bool false; apply lt_gtr; exact rfl; exact rfl; exact hk0)) ?_
        refine ryv [25, 27] ?_
        refine rno [28] ?_
        refine rno [28] ?_
        refine rno [28, 30] ?_
        refine rno [28, 29, 31] ?_
        refine rno [28, 32] ?_
        refine rno [28, 33] ?_
        refine rno [28] ?_
        refine rno [28, 35] ?_
        refine rno [28, 34, 36] ?_
        refine rno [28, 37] ?_
        refine Run.noU [38] [] rfl rfl (fun vs => by apply look_pk; exact goPk; exact rfl) goApp ?_
        refine Run.noU [38] [] rfl rfl (fun vs => by apply look_pk; exact goPk; exact rfl) goApp ?_
        refine Run.noU [38, 40] [] rfl rfl (fun vs => by apply look_pk; exact goPk; exact rfl) goApp ?_
        refine Run.noU [38, 39, 41] [] rfl rfl (fun vs => by apply look_pk; exact goPk; exact rfl) goApp ?_
        refine Run.noU [38, 42] [] rfl rfl (fun vs => by apply look_pk; exact goPk; exact rfl) goApp ?_
        refine Run.noU [38, 43] [] rfl rfl (fun vs => by apply look_pk; exact goPk; exact rfl) goApp ?_
        refine Run.noU [38] [] rfl rfl (fun vs => by apply look_pk; exact goPk; exact rfl) goApp ?_
        refine Run.noU [38, 45] [] rfl rfl (fun vs => by apply look_pk; exact goPk; exact rfl) goApp ?_
        refine Run.noU [38, 44, 46] [] rfl rfl (fun vs => by apply look_pk; exact goPk; exact rfl) goApp ?_
        refine Run.noU [38, 47] [] rfl rfl (fun vs => by apply look_pk; exact goPk; exact rfl) goApp ?_
        refine Run.noU [48] [] rfl rfl (fun vs => by apply look_pk; exact goPk; exact rfl) goApp ?_
        refine Run.noU [48] [] rfl rfl (fun vs => by apply look_pk; exact goPk; exact rfl) goApp ?_
        refine Run.noU [48, 50] [] rfl rfl (fun vs => by apply look_pk; exact goPk; exact rfl) goApp ?_
        refine Run.noU [48, 49, 51] [] rfl rfl (fun vs => by apply look_pk; exact goPk; exact rfl) goApp ?_
        refine Run.noU [48, 52] [] rfl rfl (fun vs => by apply look_pk; exact goPk; exact rfl) goApp ?_
        refine Run.noU [48, 53] [] rfl rfl (fun vs => by apply look_pk; exact goPk; exact rfl) goApp ?_
        refine Run.noU [48] [] rfl rfl (fun vs => by apply look_pk; exact goPk; exact rfl) goApp ?_
        refine Run.noU [48, 55] [] rfl rfl (fun vs => by apply look_pk; exact goPk; exact rfl) goApp ?_
        refine Run.noU [48, 54, 56] [] rfl rfl (fun vs => by apply look_pk; exact goPk; exact rfl) goApp ?_
        refine Run.noU [38, 48, 57] [] rfl rfl (fun vs => by apply look_pk; exact goPk; exact rfl) goApp ?_
        refine rno [28, 38, 58] ?_
        refine ryv [25, 28, 59] ?_
        refine rpv [25, 60] [] ?_
        refine ⟨⟨by kernel_rfl, by kernel_rfl⟩, fun vs => ?_⟩
        apply WL_auto [61]
        ·exact goPk
        ·exact goNrm
        ·kernel_rfl
        ·kernel_rfl
        refine zS ?_
        refine zS ?_
        exact ⟨rfl, fun _ _ st => st_sub2 st zR zP⟩
      ·refine zS ?_
       refine W_run 6 [239, 240, 241, 242, 243, 244] [0, 1, 2, 3, 4, 5] Cut.nil rfl goFlt mixedS (by kernel_rfl) rfl ?_
       refine rpv [] [] ?_
       refine rpv [] [] ?_
       refine rpv [0, 1] [] ?_
       refine rpv [2] [] ?_
       refine rpv [] [] ?_
       refine rpv [4] [] ?_
       refine ⟨⟨by kernel_rfl, by kernel_rfl⟩, fun vs => ?_⟩
       apply WL_auto [0, 1, 3, 5]
       ·exact goPk
       ·exact goNrm
       ·kernel_rfl
       ·kernel_rfl
       refine zS ?_
       refine zS ?_
       generalize hc1 : cu.set (f.ids.idxOf x.a) (cu[f.ids.idxOf x.a] + x.p) = c1 at *
       have hc1l : c1.length = f.ids.length := by rw [← hc1, List.length_set, hcl]
       have hix2 : f.ids.idxOf x.b < c1.length := by rw [hc1l]; exact List.idxOf_lt_length_of_mem mb
       have hq3 : c1[f.ids.idxOf x.b]? = some c1[f.ids.idxOf x.b] := List.getElem?_eq_getElem hix2
       have hce2 := hb1.at hix2
       rw [addAt_at hix2] at hno
       have hb2 := hb1.addAt (f.ids.idxOf x.b) (d := -x.p) (a := -22000000) (b := 0) (by omega) (by omega) (by omega) (by omega) (by omega) (by omega)
       rw [addAt_at hix2] at hb2
       refine W_run 6 [247, 248, 249, 250, 251, 252] [0, 1, 2, 3, 4, 5] Cut.nil rfl goFlt mixedS (by kernel_rfl) rfl ?_
       refine rpv [] [] ?_
       refine rpv [] [] ?_
       refine rpv [0, 1] [] ?_
       refine rpv [2] [] ?_
       refine rpv [] [] ?_
       refine rpv [4] [] ?_
       refine ⟨⟨by kernel_rfl, by kernel_rfl⟩, fun vs => ?_⟩
       apply WL_auto [0, 1, 3, 5]
       ·exact goPk
       ·exact goNrm
       ·kernel_rfl
       ·kernel_rfl
       refine zS ?_
       refine zS ?_
       (refine ⟨(k + 1, c1.set (f.ids.idxOf x.b) (c1[f.ids.idxOf x.b] + -x.p)), fun _ _ st => st_sub2 st ?_ ?_, ?_, ?_⟩; exact zR; exact zP)
       ·exact ⟨hlt', by dsimp only; rw [List.length_set]; exact hc1l, hno, hb2.mono (by dsimp only; omega) (by dsimp only; omega)⟩
       ·dsimp only; omega
     ·have hkk : k = l.length := by simp at hlt; omega
      subst hkk
      rw [List.drop_length] at hno
      have hzz := fun j (hj : j < cu.length) => take_end hno hze hcl hj
      clear hno hze hlt hk hbt
      refine zS ?_
      refine W_loopJ (fun (j : Nat) => ⟨[(5, .val (.bool true)), (256, .val v1), (257, .val (.int .i64 cu.length)), (258, .val (.int .i64 j))], [.row v1 3 1 iC cu]⟩) (fun j => j ≤ cu.length) (fun j => cu.length - j) 0 (fun _ _ st => st_sub2 st zR zP) (Nat.zero_le _) ?_
      rintro j hj
      refine zS ?_
      refine w_cond rfl (fun hltj => ?_) (fun hltj => ?_)
      ·have hj' : j < cu.length := by simpa using hltj
       have hqj : cu[j]? = some cu[j] := List.getElem?_eq_getElem hj'
       have hz := hzz j hj'
       refine zS ?_
       rw [hz]
       refine zS ?_
       (refine ⟨j + 1, fun _ _ st => st_sub2 st ?_ ?_, ?_, ?_⟩; exact zR; exact zP)
       ·exact hj'
       ·omega
      ·refine zS ?_
       (apply res1; exact rfl; exact rfl; exact ⟨rfl, rfl⟩)
  ·obtain ⟨h1, h2, rfl, hno⟩ := hB rfl
   rw [h2] at FC
   rw [h1] at CC
   clear hA hC
   dsimp only at FC
   generalize owed8 f = owed at NC CC ZC hol hob hno
   have hnn : (!decide ((owed.length : Int) = (f.ids.length : Int))) = false := by rw [hol]; simp
   refine zS ?_
   (first | (apply wl_call (NC); exact rfl; exact rfl) | (apply wl_callR (NC); exact rfl; exact zM; exact rfl))
   refine zS ?_
   (first | (apply wl_call (CC); exact rfl; exact rfl) | (apply wl_callR (CC); exact rfl; exact zM; exact rfl))
   refine zS ?_
   (first | (apply wl_call (SC); exact rfl; exact rfl) | (apply wl_callR (SC); exact rfl; exact zM; exact rfl))
   refine zS ?_
   (first | (apply wl_call (FC); exact rfl; exact rfl) | (apply wl_callR (FC); exact rfl; exact zM; exact rfl))
   refine zS ?_
   rw [hnn]
   refine zS ?_
   refine wl_ex (lt_neqB Tryz.underlying4 rfl rfl) rfl ?_
   refine zS ?_
   refine W_loopJ (fun (b : Nat × Nat × Value × List Pay) => ⟨[(1, .val (.int .u16 (s : Int))), (2, .val p), (5, .val (.bool true)), (6, .sl 1 iC owed), (8, .val (.bool false)), (10, .sl 3 payC ([] : List Pay)), (12, .val (.int .i64 0)), (14, .val b.2.2.1), (15, .val (.int .i64 (b.2.1 : Int))), (90, .sl 1 iC f.ids), (91, .val (.int .i64 f.ids.length)), (92, .val (.int .i64 b.1))], [.row b.2.2.1 42 3 payC b.2.2.2, .box p (flC f) 27]⟩) (fun b => b.1 ≤ f.ids.length ∧ b.2.1 + tri (f.ids.length - b.1) ≤ 15 ∧ b.2.2.2.length ≤ b.2.1 ∧ ∀ x ∈ b.2.2.2, PP f x) (fun b => f.ids.length - b.1) (0, 0, .slice none 0 0, []) (fun _ _ st => st_sub2 (st_nil 42 3 payC st) zR zP) ⟨Nat.zero_le _, by have := tri_le hidl; dsimp only; rw [Nat.sub_zero]; omega, Nat.le_refl _, by simp⟩ ?_
   rintro ⟨k, t, v, so⟩ ⟨hk, ht, hsl, hso⟩
   dsimp only at hk ht hsl hso ⊢
   refine zS ?_
   refine w_cond rfl (fun hlt => ?_) (fun hlt => ?_)
   ·have hlt' : k < f.ids.length := by simpa using hlt
    have hqk : f.ids[k]? = some f.ids[k] := List.getElem?_eq_getElem hlt'
    obtain ⟨m, hm⟩ : ∃ m, f.ids.length - k = m + 1 := ⟨f.ids.length - k - 1, by omega⟩
    rw [hm, tri] at ht
    have hdl : (f.ids.drop (k + 1)).length = m := by rw [List.length_drop]; omega
    refine zS ?_
    (apply wl_slFrom (l := k + 1); exact inferInstance; exact rfl; exact rfl; omega; omega; exact rfl)
    refine zS ?_
    refine W_loopJ (fun (b : Nat × Nat × Value × List Pay) => ⟨[(1, .val (.int .u16 (s : Int))), (2, .val p), (5, .val (.bool true)), (6, .sl 1 iC owed), (8, .val (.bool false)), (10, .sl 3 payC ([] : List Pay)), (12, .val (.int .i64 0)), (14, .val b.2.2.1), (15, .val (.int .i64 (b.2.1 : Int))), (90, .sl 1 iC f.ids), (91, .val (.int .i64 f.ids.length)), (92, .val (.int .i64 k)), (17, .val (.int .i64 f.ids[k])), (101, .sl 1 iC (f.ids.drop (k + 1))), (102, .val (.int .i64 (f.ids.drop (k + 1)).length)), (103, .val (.int .i64 b.1))], [.row b.2.2.1 42 3 payC b.2.2.2, .box p (flC f) 27]⟩) (fun b => b.1 ≤ m ∧ b.2.1 + (m - b.1) + tri m ≤ 15 ∧ b.2.2.2.length ≤ b.2.1 ∧ ∀ x ∈ b.2.2.2, PP f x) (fun b => m - b.1) (0, t, v, so) (fun _ _ st => st_sub2 st zR zP) ⟨Nat.zero_le _, by dsimp only; omega, hsl, hso⟩ ?_
    clear hsl hso
    rintro ⟨j, t, v, so⟩ ⟨hj, ht, hsl, hso⟩
    dsimp only at hj ht hsl hso ⊢
    refine zS ?_
    rw [hdl]
    refine w_cond rfl (fun hltj => ?_) (fun hltj => ?_)
    ·have hj' : j < m := by simpa using hltj
     have hjd : j < (f.ids.drop (k + 1)).length := by omega
     have hqj : (f.ids.drop (k + 1))[j]? = some (f.ids.drop (k + 1))[j] := List.getElem?_eq_getElem hjd
     have hpp : speakR f.qs f.ids[k] (f.ids.drop (k + 1))[j] = true → PP f ⟨f.ids[k], (f.ids.drop (k + 1))[j], 1⟩ := fun h => by
      have e1 : f.ids[k] = f.ids.getD k 0 := by rw [List.getD_eq_getElem?_getD, hqk]; rfl
      have e2 : (f.ids.drop (k + 1))[j] = f.ids.getD (k + 1 + j) 0 := by
       rw [List.getElem_drop, List.getD_eq_getElem?_getD, List.getElem?_eq_getElem (by omega)]; rfl
      refine ⟨k, k + 1 + j, by omega, by omega, ?_, e1, e2⟩
      rw [e1, e2] at h
      exact h
     have SK := speak8_con f f.ids[k] (f.ids.drop (k + 1))[j] (by omega)
     refine zS ?_
     generalize (f.ids.drop (k + 1))[j] = id at hpp SK hqj ⊢
     generalize f.ids[k] = idk at hpp SK hqk ⊢
     (first | (apply wl_call (SK); exact rfl; exact rfl) | (apply wl_callR (SK); exact rfl; exact zM; exact rfl))
     refine zS ?_
     generalize speakR f.qs idk id = sp at hpp ⊢
     cases sp with
     | false =>
      refine zS ?_
      (refine ⟨(j + 1, t + 1, v, so), fun _ _ st => st_sub2 st ?_ ?_, ?_, ?_⟩; exact zR; exact zP)
      ·exact ⟨hj', by dsimp only; omega, by dsimp only; omega, hso⟩
      ·dsimp only; omega
     | true =>
      have hpp := hpp rfl
      refine zS ?_
      refine wl_ex (lt_shr16 rfl rfl (by omega)) rfl ?_
      refine zS ?_
      refine wl_ex (lt_and16 rfl rfl (Nat.le_trans (Nat.div_le_self _ _) hs)) rfl ?_
      refine zS ?_
      refine w_cond rfl (fun hbit => ?_) (fun hbit => ?_)
      ·refine zS ?_
       (first | (apply wl_call (payL_con idk id 1); exact rfl; exact rfl) | (apply wl_callR (payL_con idk id 1); exact rfl; exact zM; exact rfl))
       refine zS ?_
       (apply wl_litF payC; exact inferInstance; exact inferInstance; exact inferInstance; exact zE; exact rfl; (first | exact (of_decide_eq_true rfl) | decide | (simp; done) | (simp; omega)); exact rfl)
       (first | (apply wl_append; exact rfl; exact rfl; exact zN; exact inferInstance; exact inferInstance; (first | omega | (simp; omega)); exact rfl) | (apply wl_appendN; exact rfl; exact rfl; exact inferInstance; exact inferInstance; (first | omega | (simp; omega)); exact rfl))
       intro u
       refine zS ?_
       (refine ⟨(j + 1, t + 1, u, so ++ [⟨idk, id, 1⟩]), fun _ _ st => st_sub2 st ?_ ?_, ?_, ?_⟩; exact zR; exact zP)
       ·exact ⟨hj', by dsimp only; omega, by dsimp only; rw [List.length_append, List.length_singleton]; omega, fun x hx => by
         rcases List.mem_append.1 hx with h | h
         ·exact hso x h
         ·rw [List.mem_singleton] at h; rw [h]; exact hpp⟩
       ·dsimp only; omega
      ·refine zS ?_
       (refine ⟨(j + 1, t + 1, v, so), fun _ _ st => st_sub2 st ?_ ?_, ?_, ?_⟩; exact zR; exact zP)
       ·exact ⟨hj', by dsimp only; omega, by dsimp only; omega, hso⟩
       ·dsimp only; omega
    ·have hjj : j = m := by simp at hltj; omega
     subst hjj
     refine zS ?_
     (refine ⟨(k + 1, t, v, so), fun _ _ st => st_sub2 st ?_ ?_, ?_, ?_⟩; exact zR; exact zP)
     ·exact ⟨hlt', by dsimp only; rw [show f.ids.length - (k + 1) = j by omega]; omega, hsl, hso⟩
     ·dsimp only; omega
   ·clear hlt hk
    have ZC := ZC so hso (by omega)
    rw [hno so hso] at ZC
    (apply W_frz 14; exact rfl; exact zN)
    refine zS ?_
    (first | (apply wl_call (ZC); exact rfl; exact rfl) | (apply wl_callR (ZC); exact rfl; exact zM; exact rfl))
    refine zS ?_
    (apply res1; exact rfl; exact rfl; exact ⟨rfl, rfl⟩)
end Go.Proofs.YtihonljdanjfmaaGreatDoor.Sw
namespace Go.Proofs.YtihonljdanjfmaaGreatDoor.Sw
open Go.RowKit Go Go.Shelf Go.Proofs
theorem floorSettlesI_con (f : Flo) (s : Int) (h : 0 ≤ s ∧ s ≤ 65535) : Con Tryz.prog 3 [.agg (flC f), .val (.int .u16 s)] [tab8, HA.tab] (Is (.val (.bool true)) []) := by
 obtain ⟨n, rfl⟩ := Int.eq_ofNat_of_zero_le h.1
 exact floorSettles_con f n (by omega)
end Go.Proofs.YtihonljdanjfmaaGreatDoor.Sw
