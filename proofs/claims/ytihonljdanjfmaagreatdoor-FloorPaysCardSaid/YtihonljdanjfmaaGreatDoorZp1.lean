/- Proofs for one card: Reg, RegIn, Sw, SwOps, SwAny, App, SwOps2, SwOps3, SwR, SwF, SwG, SwH, DoorG, FloorC, FloorL, Row, Steps, Left, Best, Comes, FloorM, Gr2, Gr3, SwI, SwL, SwM, SwB, FloorCa, FloorLb, SwS, FloorCe, FloorCg, FloorLk, SwN, FloorPc, FloorCj, SwQ, AlB, OCom, OAa, OQa, OQb, OPa, FloorPays. No condition of its own. -/
import Derived.WalkKit
import Derived.Handy
import Derived.Deep.AppendSrc
import Derived.OrdersHeld
import Derived.Deep.RegionHeld
import Derived.OrdersIn
import Derived.RangeFuncCalls
import Derived.RangeFuncNested
import Derived.RangeFuncLeaves
import Derived.IntWalk
import Derived.WalkSpells
import Derived.Maps.AppendAt
import Derived.Deep.AppendLies
import Derived.OwnWalk
import Derived.LoopNIn
import Derived.RangeFuncBound
import Derived.Test.YtihonljdanjfmaaGreatDoorProg
import Derived.Test.YtihonljdanjfmaaGreatDoorCards
import Derived.Test.YtihonljdanjfmaaGreatDoorTie
import Derived.ProofKit
import Derived.OpenShut
import Derived.LaidMore
import Derived.LaidOnce
import Derived.ChangeOld
import Derived.Below
import Derived.Stop.Joined
import Derived.Lib.SmallJoins
import Derived.Deep.Slices
import Derived.WalkSmall
import Derived.Shelf.Abstract
import Derived.Laws.EntriesVeiled
import Derived.ChangeSame
import Derived.Deep.Strs
import Derived.Outline
import Derived.Deep.QuietTactic
import Derived.BigQuiet
import Derived.Deep.RegionHeld3
import Derived.DeepKeys4
import Derived.Maps.OwnIn
import Derived.OwnWalkIn
import Derived.Shelf.RegionOpen
import Derived.TacticsInMore
import Derived.Sort.BigQuietIn
import Derived.LoopIn
import Derived.WalkMore
import Derived.Maps.Views
import Derived.Lib.AppendZerosOnto
import Derived.Lib.Walk
import Derived.Lib.SliceRun
import Derived.Laws.MakeOwn
import Derived.Deep.Cut
import Derived.Lib.LazyBuf
import Derived.Scope
import Derived.WideKeyEntry
import Derived.Test.YtihonljdanjfmaaGreatDoorZb9
set_option linter.unusedVariables false
set_option linter.unusedSimpArgs false
namespace Go.Proofs.YtihonljdanjfmaaGreatDoor
open Go.RowKit Go
section
variable {P : Program} {ops : Array Oper} {Q : Exit → Act → World → Prop} {S : World → Prop} {held : List Nat}
end
section
variable {F : Fence} {n : Nat} {P : Program} {ops : Array Oper} {Q : Exit → Act → World → Prop} {S : World → Prop} {held : List Nat}
end
end Go.Proofs.YtihonljdanjfmaaGreatDoor
namespace Go.Proofs.YtihonljdanjfmaaGreatDoor.Sw
open Go.RowKit Go
section
variable {c : Cx} {s : S} {Q : Exit → S → Prop}
end
section
variable {c : Cx} {s : S} {Q : Exit → S → Prop} {ops : Array Oper} {tl : List Oper}
end
section
variable {c : Cx} {s : S} {Q : Exit → S → Prop} {ops : Array Oper} {tl : List Oper}
end
section
variable {P : Program} {rs : List (Nat × AV)} {d : Option Nat} {ty : TypeId} {pos : String} {af : Array Edge} {g : Option (Nat × Bool)}
end
section
variable {c : Cx} {s : S} {Q : Exit → S → Prop} {ops : Array Oper} {tl : List Oper}
end
section
variable {c : Cx} {rs : List (Nat × AV)} {hs : List HA} {Q : Exit → S → Prop} {ops : Array Oper} {tl : List Oper} {d : Nat} {op : Op} {ty : TypeId} {pos : String} {af : Array Edge}
end
section
variable {c : Cx} {rs : List (Nat × AV)} {hs : List HA} {Q : Exit → S → Prop} {ops : Array Oper} {tl : List Oper} {d : Nat} {ty : TypeId} {pos : String} {af : Array Edge} {x y : Operand} {t tb : TypeId} {p : Value} {j : Nat} {cs : List AV} {f : HA → List HA}
end
section
variable (ops : Array Oper) (m : Nat) (sp : List Sp) (hs0 : List HA)
end
section
variable {c : Cx} {ops : Array Oper} {m : Nat} {sp : List Sp} {hs0 hsR : List HA} {rsB : List (Nat × AV)} {Q : Exit → S → Prop}
end
section
variable {P : Program} {rs : List (Nat × AV)} {hsR : List HA} {d : Option Nat} {ty : TypeId} {pos : String} {af : Array Edge} {g : Option (Nat × Bool)} {x : Operand} {t tb : TypeId} {p : Value} {j : Nat} {cs : List AV} {f : HA → List HA}
end
end Go.Proofs.YtihonljdanjfmaaGreatDoor.Sw
namespace Go.Proofs.YtihonljdanjfmaaGreatDoor
open Go.RowKit Go
section
variable {P : Program} (w : World)
end
end Go.Proofs.YtihonljdanjfmaaGreatDoor
namespace Go.Proofs.YtihonljdanjfmaaGreatDoor.Sw
open Go.RowKit Go
section
variable {P : Program} {rs : List (Nat × AV)} {d : Option Nat} {ty : TypeId} {pos : String} {af : Array Edge} {g : Option (Nat × Bool)}
end
section
variable {P : Program} {rs : List (Nat × AV)} {d : Option Nat} {ty : TypeId} {pos : String} {af : Array Edge} {g : Option (Nat × Bool)}
end
section
variable {c : Cx} {rs : List (Nat × AV)} {hs : List HA} {Q : Exit → S → Prop} {ops : Array Oper} {tl : List Oper} {d : Nat} {ty : TypeId} {pos : String} {af : Array Edge}
end
section
variable {c : Cx} {rs : List (Nat × AV)} {hs : List HA} {Q : Exit → S → Prop} {ops : Array Oper} {tl : List Oper} {d : Nat} {ty : TypeId} {pos : String} {af : Array Edge}
end
section
variable {P : Program} {rs : List (Nat × AV)} {d : Option Nat} {ty : TypeId} {pos : String} {af : Array Edge} {g : Option (Nat × Bool)}
end
section
variable {c : Cx} {rs : List (Nat × AV)} {hs : List HA} {Q : Exit → S → Prop} {ops : Array Oper} {tl : List Oper} {d : Nat} {ty : TypeId} {pos : String} {af : Array Edge}
end
section
variable {P : Program} {rs : List (Nat × AV)} {hsR : List HA} {d : Option Nat} {ty : TypeId} {pos : String} {af : Array Edge} {g : Option (Nat × Bool)}
end
section
variable {P : Program} {rs : List (Nat × AV)} {hsR : List HA} {d : Option Nat} {ty : TypeId} {pos : String} {af : Array Edge} {g : Option (Nat × Bool)}
end
section
variable {c : Cx} {rs : List (Nat × AV)} {hs : List HA} {Q : Exit → S → Prop} {ops : Array Oper} {tl : List Oper} {d : Nat} {ty : TypeId} {pos : String} {af : Array Edge}
end
section
variable {c : Cx} {rs : List (Nat × AV)} {hs : List HA} {Q : Exit → S → Prop} {g : Operand} {ps : Array Tmp} {assign body : Code} {gf : FuncId} {caps : List AV} {own r : List HA} {α β τ : Type} {f : α → τ → List AV} {t : α → τ → List HA} {xs : List α}
end
section
variable {P : Program} {rs : List (Nat × AV)} {hsR : List HA} {d : Option Nat} {ty : TypeId} {pos : String} {af : Array Edge} {g : Option (Nat × Bool)}
end
section
variable {c : Cx} {rs : List (Nat × AV)} {hs : List HA} {Q : Exit → S → Prop} {ops : Array Oper} {tl : List Oper} {d : Nat} {ty : TypeId} {pos : String} {af : Array Edge}
end
end Go.Proofs.YtihonljdanjfmaaGreatDoor.Sw
namespace Go.Proofs.YtihonljdanjfmaaGreatDoor.Sw
open Go Go.RowKit Go.ChangeShapes Go.WideShapes Go.ChangeAt
set_option maxRecDepth 100000 in
theorem arg_int {H : Type} {enc : TypeId × Value → H} {W : World} {t : TypeId} {k : IntKind} {v : Value} {d : DataW H} {p : List MemPlace} {base : Nat} (ht : Tryz.prog.underlying t = some (.int k)) (hv : Value.okWide Tryz.prog W .any base t v) (h : DataW.Trod enc Tryz.prog W 0 (fun _ => true) true t v d p) : ∃ i : Int, (AV.val (.int k i)).P (gh W) v ∧ (Lit.int k i).wf = true := by
 obtain ⟨n, rfl, _, _, hw⟩ := open_int ht hv h
 exact ⟨n, rfl, hw⟩
end Go.Proofs.YtihonljdanjfmaaGreatDoor.Sw
namespace Go.Proofs.YtihonljdanjfmaaGreatDoor
open Go Go.ChangeShapes Go.WideShapes Go.ChangeAt Go.RowKit
theorem laidOut : laidOutB Tryz.prog = true := by kernel_rfl
end Go.Proofs.YtihonljdanjfmaaGreatDoor
namespace Go.Proofs.YtihonljdanjfmaaGreatDoor.Sw
open Go Go.RowKit Go.ChangeShapes Go.WideShapes Go.ChangeAt
set_option maxRecDepth 100000
end Go.Proofs.YtihonljdanjfmaaGreatDoor.Sw
namespace Go.Proofs.YtihonljdanjfmaaGreatDoor.Sw
open Go.RowKit Go Go.Shelf Go.Proofs
theorem floOk_of (f : Flo) : floOk f = (chkA f && qusOk f.ids none f.qs && bilsOk f.ids 0 f.bs && paysOk f.ids f.ps) := rfl
end Go.Proofs.YtihonljdanjfmaaGreatDoor.Sw
namespace Go.Proofs.YtihonljdanjfmaaGreatDoor
open Go.RowKit Go
section
variable {α : Type} {f : α → List Value} {n : Nat}
end
end Go.Proofs.YtihonljdanjfmaaGreatDoor
namespace Go.Proofs.YtihonljdanjfmaaGreatDoor
open Go.RowKit Go.Proofs Go.Shelf
attribute [local go_sem] Oper.semAt_some
attribute [local go_sem] Oper.semAt_some
attribute [local go_sem] eqPlace
attribute [local go_sem] Oper.semAt_some
attribute [local go_sem] Oper.semAt_some
end Go.Proofs.YtihonljdanjfmaaGreatDoor
namespace Go.Proofs.YtihonljdanjfmaaGreatDoor.Sw
open Go.RowKit Go Go.Shelf Go.Proofs
end Go.Proofs.YtihonljdanjfmaaGreatDoor.Sw
namespace Go.Proofs.YtihonljdanjfmaaGreatDoor.Gr
open Go.Proofs.YtihonljdanjfmaaGreatDoor.Sw (Pay)
theorem treeGo_ok {ids : List Int} : ∀ {m : Nat} {L : List (Nat × Nat)} {left : List Int} {out : List Pay}, L.length = m → Ok ids.length L → left.length = ids.length → Zr ids.length L (lf left) → Min ids.length L (lf left) → ∃ r, treeGo ids m L left out = some r ∧ ∀ v, v < ids.length → lf r.1 v = 0
 | 0, L, left, out, hl, hok, hlen, hz, hm => by
  have : L = [] := List.eq_nil_of_length_eq_zero hl
  subst this
  exact ⟨(left, out), rfl, zr_nil hz⟩
 | m + 1, L, left, out, hl, hok, hlen, hz, hm => by
  obtain ⟨i0, e0, hi0, hl0⟩ := hm.leaf hok hz (by intro h; rw [h] at hl; simp at hl)
  obtain ⟨⟨i, e⟩, hf⟩ := findLeaf_of hok.nd hi0 hl0
  obtain ⟨hi, hle⟩ := findLeaf_some hf
  obtain ⟨hon, hne, _, _⟩ := oth_spec hok hle.1 hle.2.1
  have hx := hm.left hok hz hle
  unfold treeGo
  rw [hf]
  dsimp only
  rw [if_neg (by exact hx)]
  refine treeGo_ok (by rw [List.length_erase_of_mem hle.1]; omega) (hok.erase e) (by rw [mvL_len, hlen]) ?_ ?_
  ·rw [lf_mvL (by omega) (by omega)]; exact step_zr hok hz hle
  ·rw [lf_mvL (by omega) (by omega)]; exact step_min hok hm hle
theorem treeR_ok {ids : List Int} {L : List (Nat × Nat)} {owed : List Int} (hok : Ok ids.length L) (hlen : owed.length = ids.length) (hz : Zr ids.length L (lf owed)) (hm : Min ids.length L (lf owed)) : ∃ out, treeR ids L owed = some out := by
 obtain ⟨r, hr, h0⟩ := treeGo_ok (out := []) rfl hok hlen hz hm
 refine ⟨r.2, ?_⟩
 unfold treeR
 rw [hr]
 dsimp only
 rw [if_pos (all_zero.2 (by rw [treeGo_len hr, hlen]; exact h0))]
theorem Zr.sup {n : Nat} {L S : List (Nat × Nat)} {x : Nat → Int} (h : Zr n S x) (hs : ∀ p ∈ S, p ∈ L) : Zr n L x := fun P hP => h P fun p hp => hP p (hs p hp)
end Go.Proofs.YtihonljdanjfmaaGreatDoor.Gr
namespace Go.Proofs.YtihonljdanjfmaaGreatDoor.Sw
open Go.RowKit Go
section
variable {P : Program} {rs : List (Nat × AV)} {hsR : List HA} {d : Option Nat} {ty : TypeId} {pos : String} {af : Array Edge} {g : Option (Nat × Bool)}
end
section
variable {c : Cx} {rs : List (Nat × AV)} {hs : List HA} {Q : Exit → S → Prop} {ops : Array Oper} {tl : List Oper} {d : Nat} {ty : TypeId} {pos : String} {af : Array Edge}
end
section
variable {P : Program} {rs : List (Nat × AV)} {d : Option Nat} {ty : TypeId} {pos : String} {af : Array Edge} {g : Option (Nat × Bool)}
end
section
variable {c : Cx} {rs : List (Nat × AV)} {hs : List HA} {Q : Exit → S → Prop} {ops : Array Oper} {tl : List Oper} {d : Nat} {ty : TypeId} {pos : String} {af : Array Edge}
end
section
variable {P : Program} {rs : List (Nat × AV)} {d : Option Nat} {ty : TypeId} {pos : String} {af : Array Edge} {g : Option (Nat × Bool)}
end
section
variable {c : Cx} {rs : List (Nat × AV)} {hs : List HA} {Q : Exit → S → Prop} {ops : Array Oper} {tl : List Oper} {d : Nat} {ty : TypeId} {pos : String} {af : Array Edge}
end
end Go.Proofs.YtihonljdanjfmaaGreatDoor.Sw
namespace Go.Proofs.YtihonljdanjfmaaGreatDoor.Sw
open Go.RowKit Go
open Go.WideElems (Fit)
open Go.ChangeMaps (setBlock heap_setBlock_same heap_setBlock_other)
section
variable {κ α : Type} [DecidableEq κ]
end
section
variable {κ α : Type} (kv : κ → Value) (g : α → AV)
variable {kv g}
variable (kv g)
variable {kv g}
end
section
variable {P : Program} {κ α : Type} [DecidableEq κ] {t : TypeId} {kv : κ → Value} {ok : κ → Prop} {g : α → AV} {l : List (κ × α)} {G : Nat → Option Obj} {F : List Nat} {w : World} {v : Value}
variable {rs : List (Nat × AV)} {d : Option Nat} {ty : TypeId} {pos : String} {af : Array Edge} {gd : Option (Nat × Bool)}
end
section
variable {c : Cx} {rs : List (Nat × AV)} {hs : List HA} {Q : Exit → S → Prop} {ops : Array Oper} {tl : List Oper} {d : Nat} {ty : TypeId} {pos : String} {af : Array Edge} {κ α : Type} [DecidableEq κ] {t : TypeId} {kv : κ → Value} {ok : κ → Prop} {g : α → AV} {l : List (κ × α)} {v : Value}
end
end Go.Proofs.YtihonljdanjfmaaGreatDoor.Sw
namespace Go.Proofs.YtihonljdanjfmaaGreatDoor.Sw
open Go.RowKit Go
section
variable {P : Program} {rs : List (Nat × AV)} {d : Option Nat} {ty : TypeId} {pos : String} {af : Array Edge} {g : Option (Nat × Bool)}
end
section
variable {c : Cx} {rs : List (Nat × AV)} {hs : List HA} {Q : Exit → S → Prop} {ops : Array Oper} {tl : List Oper} {d : Nat} {ty : TypeId} {pos : String} {af : Array Edge}
end
end Go.Proofs.YtihonljdanjfmaaGreatDoor.Sw
namespace Go.Proofs.YtihonljdanjfmaaGreatDoor.Sw
open Go.RowKit Go Go.Shelf Go.Proofs
end Go.Proofs.YtihonljdanjfmaaGreatDoor.Sw
namespace Go.Proofs.YtihonljdanjfmaaGreatDoor.Sw
open Go.RowKit Go Go.Shelf Go.Proofs
open Go.Proofs.YtihonljdanjfmaaGreatDoor.Gr (payLt)
section
variable {P : Program} {rs : List (Nat × AV)} {d : Option Nat} {ty : TypeId} {pos : String} {af : Array Edge} {g : Option (Nat × Bool)}
end
section
variable {c : Cx} {rs : List (Nat × AV)} {hs : List HA} {Q : Exit → S → Prop} {ops : Array Oper} {tl : List Oper} {d : Nat} {ty : TypeId} {pos : String} {af : Array Edge}
end
end Go.Proofs.YtihonljdanjfmaaGreatDoor.Sw
namespace Go.Proofs.YtihonljdanjfmaaGreatDoor.Sw
open Go.RowKit Go
section
variable {P : Program} {rs : List (Nat × AV)} {d : Option Nat} {ty : TypeId} {pos : String} {af : Array Edge} {g : Option (Nat × Bool)}
end
section
variable {c : Cx} {rs : List (Nat × AV)} {hs r : List HA} {Q : Exit → S → Prop} {ops : Array Oper} {tl : List Oper} {d : Nat} {ty : TypeId} {pos : String} {af : Array Edge}
end
end Go.Proofs.YtihonljdanjfmaaGreatDoor.Sw
namespace Go.Proofs.YtihonljdanjfmaaGreatDoor.Sw
open Go.RowKit Go Go.Shelf Go.Proofs
def payR (f : Flo) (x : Pay) : Flo × Int :=
 if floOk f = true then (if f.ps.length = 12 then (floE, 9) else if floOk { f with ps := f.ps ++ [x] } = true then ({ f with ps := f.ps ++ [x] }, 0) else (floE, 82)) else (floE, 80)
set_option maxRecDepth 20000 in
set_option maxHeartbeats 4000000 in
theorem pay_con (f : Flo) (x : Pay) (hS : Sml f) : Con Tryz.prog 41 [.agg (flC f), .agg (payC x)] [tab8] (FlP (payR f x)) := by
 have C := check_con f hS
 cases hok : floOk f with
 | false =>
  rw [show errF f = 80 by unfold errF; rw [hok]; rfl] at C
  rw [show payR f x = (floE, 80) by unfold payR; rw [hok]; rfl]
  refine con_of Tryz.func41 rfl (enters_of Tryz.func41 (by kernel_rfl) rfl) rfl ?_; intro n w0 F0 G0
  (refine goSt ?_; (repeat (refine goAl ?_; intro p hp; refine goSt ?_)))
  (first | (apply wl_call (C); exact rfl; exact rfl) | (apply wl_callR (C); exact rfl; exact goAtm; exact rfl))
  refine goSt ?_
  (refine Res_add _ floE_own ?_; apply resKN1; exact rfl; exact rfl; exact goAtm; exact inferInstance; exact rfl; exact rfl; exact flP_nil _; exact goCutl)
 | true =>
  rw [show errF f = 0 by unfold errF; rw [hok]; rfl] at C
  have hpsl := (flo_f hok).ps
  refine con_of Tryz.func41 rfl (enters_of Tryz.func41 (by kernel_rfl) rfl) rfl ?_; intro n w0 F0 G0
  (refine goSt ?_; (repeat (refine goAl ?_; intro p hp; refine goSt ?_)))
  (first | (apply wl_call (C); exact rfl; exact rfl) | (apply wl_callR (C); exact rfl; exact goAtm; exact rfl))
  refine goSt ?_
  refine w_cond rfl (fun g => ?_) (fun g => ?_)
  ·rw [show payR f x = (floE, 9) by unfold payR; rw [if_pos hok, if_pos (by simp at g; omega)]]
   refine goSt ?_
   (refine Res_add _ floE_own ?_; apply resKN1; exact rfl; exact rfl; exact goAtm; exact inferInstance; exact rfl; exact rfl; exact flP_nil _; exact goCutl)
  ·have hn : ¬ f.ps.length = 12 := by simp at g; omega
   generalize hf' : ({ f with ps := f.ps ++ [x] } : Flo) = f'
   have hS' : Sml f' := by rw [← hf']; exact ⟨hS.ids, hS.qs, hS.bs, by simp; omega, hS.st⟩
   refine goSt ?_
   (apply wl_callP (copied_con f hS); exact rfl; exact goCutl; exact rfl)
   rintro _ _ ⟨vi, vq, vb, vp, ⟨o1, o2, o3, o4⟩, rfl, rfl⟩
   apply WL_exs
   ·exact goRm
   intro us
   apply WL_fact
   ·exact goRm
   intro hus
   refine goSt ?_
   (apply wl_litF payC; exact inferInstance; exact inferInstance; exact inferInstance; exact goEl; exact rfl; (first | exact (of_decide_eq_true rfl) | decide | (simp; done) | (simp; omega)); exact rfl)
   (first | (apply wl_append; exact rfl; exact rfl; exact goRm; exact inferInstance; exact inferInstance; (first | omega | (simp; omega)); exact rfl) | (apply wl_appendN; exact rfl; exact rfl; exact inferInstance; exact inferInstance; (first | omega | (simp; omega)); exact rfl))
   intro v'
   refine WL_one At.here (fun o5 => ?_)
   apply WL_mkFact hus
   apply WL_mkExs (h := fun us : List Value => [.fact (us.length = f.bs.length), .row vi 3 1 iC f.ids, .row vq 87 2 quC f.qs, .row vb 49 4 mbC (mixL f.bs us), .row v' 42 3 payC (f.ps ++ [x]), .pack (stkR f.bs us)]) us
   ·exact goCutl
   rw [show HA.exs (fun us : List Value => [.fact (us.length = f.bs.length), .row vi 3 1 iC f.ids, .row vq 87 2 quC f.qs, .row vb 49 4 mbC (mixL f.bs us), .row v' 42 3 payC (f.ps ++ [x]), .pack (stkR f.bs us)]) = floOwn vi vq vb v' f' from by rw [← hf']; rfl]
   refine goSt ?_
   (apply wl_borrow 26 (flo_thaw vi vq vb v' f') (check_con f' hS'); exact rfl; exact rfl; exact goCutl; exact Pers.glob Pers.nil; exact rfl)
   refine goSt ?_
   have hW : payR f x = if floOk f' = true then (f', 0) else (floE, 82) := by unfold payR; rw [if_pos hok, if_neg hn, hf']
   rw [hW]
   cases hok2 : floOk f' with
   | false =>
    rw [show errF f' = 80 by unfold errF; rw [hok2]; rfl]
    refine goSt ?_
    rw [if_neg (by simp)]
    (refine Res_add _ floE_own ?_; apply resKN1; exact rfl; exact rfl; exact goAtm; exact inferInstance; exact rfl; exact rfl; exact flP_nil _; exact goCutl)
   | true =>
    rw [show errF f' = 0 by unfold errF; rw [hok2]; rfl]
    refine goSt ?_
    rw [if_pos rfl]
    (apply resKN1; exact rfl; exact rfl; exact goAtm; exact inferInstance; exact rfl; exact rfl; exact ⟨vi, vq, vb, v', ⟨inferInstance, inferInstance, inferInstance, inferInstance⟩, rfl, rfl⟩; exact goCutl)
end Go.Proofs.YtihonljdanjfmaaGreatDoor.Sw
namespace Go.Proofs.YtihonljdanjfmaaGreatDoor.Sw
open Go.RowKit Go Go.Shelf Go.Proofs
open Go.Proofs.YtihonljdanjfmaaGreatDoor.Gr (payLt)
theorem bst8_mem {xs : List (List Pay)} {b y : List Pay} (h : xs.foldl (fun b x => if befR x b = true then x else b) b = y) : y ∈ xs ∨ y = b := by
 induction xs generalizing b with
 | nil => exact .inr h.symm
 | cons x t ih =>
  rcases ih h with h1 | h1
  ·exact .inl (by simp [h1])
  ·dsimp only at h1
   split at h1
   ·exact .inl (by simp [h1])
   ·exact .inr h1
end Go.Proofs.YtihonljdanjfmaaGreatDoor.Sw
namespace Go.Proofs.YtihonljdanjfmaaGreatDoor.Sw
open Go.RowKit Go
open Go.WideElems (Fit)
open Go.ChangeMaps (setBlock heap_setBlock_same heap_setBlock_other)
section
variable {P : Program} {κ α : Type} [DecidableEq κ] {t : TypeId} {kv : κ → Value} {ok : κ → Prop} {g : α → AV} {l : List (κ × α)} {G : Nat → Option Obj} {F : List Nat} {w : World} {v : Value}
variable {rs : List (Nat × AV)} {d : Option Nat} {ty : TypeId} {pos : String} {af : Array Edge} {gd : Option (Nat × Bool)}
end
section
variable {c : Cx} {rs : List (Nat × AV)} {hs : List HA} {Q : Exit → S → Prop} {ops : Array Oper} {tl : List Oper} {d : Nat} {ty : TypeId} {pos : String} {af : Array Edge} {κ α : Type} [DecidableEq κ] {t : TypeId} {kv : κ → Value} {ok : κ → Prop} {g : α → AV} {l : List (κ × α)} {v : Value}
end
end Go.Proofs.YtihonljdanjfmaaGreatDoor.Sw
namespace Go.Proofs.YtihonljdanjfmaaGreatDoor.Sw
open Go.RowKit Go Go.Shelf Go.Proofs
open Go.Proofs.YtihonljdanjfmaaGreatDoor.Gr (headsR hf mergeH hf_merge Lab lab_all Cl)
end Go.Proofs.YtihonljdanjfmaaGreatDoor.Sw
namespace Go.Proofs.YtihonljdanjfmaaGreatDoor.Sw
open Go.RowKit Go Go.Shelf Go.Proofs
end Go.Proofs.YtihonljdanjfmaaGreatDoor.Sw
namespace Go.Proofs.YtihonljdanjfmaaGreatDoor.Sw
open Go.RowKit Go
section
variable {P : Program} {rs : List (Nat × AV)} {d : Option Nat} {ty : TypeId} {pos : String} {af : Array Edge} {g : Option (Nat × Bool)}
theorem lt_rem {x y : Operand} {m n : Int} {t t' : TypeId} (hx : opv rs x = some (.val (.int .i64 m))) (hy : opv rs y = some (.val (.int .i64 n))) (h0 : 0 < n) (h1 : 0 ≤ m) (h2 : m ≤ 9223372036854775807) :
  LT P ⟨d, .binOp .rem t x y t', ty, pos, af, g⟩ rs [] (Is (.val (.int .i64 (m % n))) []) :=
 LT_val (fun _ e => by cases e) fun a w G hR _ => ⟨_, rfl, by
  have e1 : a.eval x = _ := opv_ok hR hx
  have e2 : a.eval y = _ := opv_ok hR hy
  have hq : m.tmod n = m % n := Int.tmod_eq_emod_of_nonneg h1
  have hr1 : 0 ≤ m % n := Int.emod_nonneg m (by omega)
  have hr2 : m % n < n := Int.emod_lt_of_pos m h0
  have hr3 : m % n ≤ m := by
   have e := Int.emod_add_mul_ediv m n
   have p := Int.mul_nonneg (show 0 ≤ n by omega) (Int.ediv_nonneg h1 (show 0 ≤ n by omega))
   generalize n * (m / n) = q at e p
   omega
  have hz : n ≠ 0 := by omega
  simp only [execOp, e1, e2]
  simp [go_sem, hz, hq, IntWalk.i64_in (m % n) (by omega)]⟩
theorem run_conv8 {s t : TypeId} (hs : P.underlying s = some (.int .u8)) (ht : P.underlying t = some (.int .i64)) {n : Int} (h : 0 ≤ n ∧ n ≤ 255) (w : World) : (convert s t (.int .u8 n)).run P w = .ok (.int .i64 n) w := by
 simp [convert, run_underlying hs, run_underlying ht, Conv.intToInt, IntWalk.i64_in n (by omega)]
end
theorem wl_rem {c : Cx} {rs : List (Nat × AV)} {hs : List HA} {Q : Exit → S → Prop} {ops : Array Oper} {tl : List Oper} {d : Nat} {ty : TypeId} {pos : String} {af : Array Edge} {x y : Operand} {m n : Int} {t t' : TypeId} (hx : opv rs x = some (.val (.int .i64 m))) (hy : opv rs y = some (.val (.int .i64 n))) (h0 : 0 < n) (h1 : 0 ≤ m) (h2 : m ≤ 9223372036854775807) (hd : Nat.blt d c.nt = true) (k : WL c ops tl ⟨(d, .val (.int .i64 (m % n))) :: rs, hs⟩ Q) : WL c ops (⟨some d, .binOp .rem t x y t', ty, pos, af, none⟩ :: tl) ⟨rs, hs⟩ Q := wl_ex (lt_rem hx hy h0 h1 h2) hd k
end Go.Proofs.YtihonljdanjfmaaGreatDoor.Sw
namespace Go.Proofs.YtihonljdanjfmaaGreatDoor.Sw
open Go.RowKit Go Go.Shelf Go.Proofs
theorem flP_frz {P : Program} {k : FuncId} {args : List AV} {pre : List HA} {r : Flo × Int} (hc : Con P k args pre (FlP r)) : Con P k args pre (Is (.tup [.agg (flC r.1), .val (.int .i64 r.2)]) [tab8]) :=
 hc.frz (a := fun i : Value × Value × Value × Value => .tup [.agg [.val i.1, .val i.2.1, .val i.2.2.1, .val i.2.2.2], .val (.int .i64 r.2)]) (h := fun i => floOwn i.1 i.2.1 i.2.2.1 i.2.2.2 r.1)
  (fun x y ⟨vi, vq, vb, vp, _, e1, e2⟩ => ⟨(vi, vq, vb, vp), e1, e2⟩) fun i => thaw_tup (flo_thaw _ _ _ _ _)
theorem u8_ok {n : Int} (h : (Lit.int .u8 n).wf = true) : 0 ≤ n ∧ n ≤ 255 := by
 simp only [Lit.wf, IntKind.min, IntKind.max, IntKind.signed, IntKind.bits, Bool.and_eq_true, decide_eq_true_eq] at h
 simp at h
 omega
end Go.Proofs.YtihonljdanjfmaaGreatDoor.Sw
namespace Go.Proofs.YtihonljdanjfmaaGreatDoor.Sw
open Go.RowKit Go Go.Shelf Go.Proofs
open Go.Proofs.YtihonljdanjfmaaGreatDoor.Gr (Zr sumP Cl lf)
theorem idx_at {ids : List Int} (hr : rises 0 ids = true) {i : Nat} (hi : i < ids.length) : ids.idxOf ids[i] = i := by
 have hm := List.getElem_mem hi
 have hj := List.idxOf_lt_length_of_mem hm
 have he : ids[ids.idxOf ids[i]] = ids[i] := List.getElem_idxOf hj
 rcases Nat.lt_trichotomy (ids.idxOf ids[i]) i with h | h | h
 ·have := rises_sorted hr _ _ hj hi h; omega
 ·exact h
 ·have := rises_sorted hr _ _ hi hj h; omega
theorem speakR_comm (qs : List Qu) (a b : Int) : speakR qs a b = speakR qs b a := by
 have h : hits a b = hits b a := by
  funext q
  unfold hits
  rw [Int.min_comm, Int.max_comm]
 unfold speakR
 rw [h]
 congr 1
 exact decide_eq_decide.2 ⟨fun h e => h e.symm, fun h e => h e.symm⟩
end Go.Proofs.YtihonljdanjfmaaGreatDoor.Sw
namespace Go.Proofs.YtihonljdanjfmaaGreatDoor.Sw
open Go.RowKit Go Go.Shelf Go.Proofs
open Go.Proofs.YtihonljdanjfmaaGreatDoor.Gr (treeR pick sub_pick pick_sub)
theorem few_first {α : Type} {g : Nat → List α} : ∀ {m : Nat}, fewTo g m ≠ [] → ∃ k, k < m ∧ fewTo g m = g k ∧ ∀ j, j < k → g j = []
 | 0, h => absurd rfl h
 | m + 1, h => by
  rw [fewTo] at h ⊢
  by_cases he : (fewTo g m).isEmpty = true
  ·rw [if_pos he] at h ⊢
   refine ⟨m, by omega, rfl, fun j hj => ?_⟩
   cases hg : g j with
   | nil => rfl
   | cons x t =>
    exfalso
    have : ∀ m, j < m → fewTo g m ≠ [] := by
     intro m hm
     induction m with
     | zero => omega
     | succ m ih =>
      rw [fewTo]
      by_cases hj2 : j < m
      ·have := ih hj2
       rw [if_neg (by cases hq : fewTo g m with | nil => exact absurd hq this | cons a b => simp)]
       exact this
      ·have hjm : j = m := by omega
       subst hjm
       split
       ·rw [hg]; simp
       ·rename_i h2; intro e; rw [e] at h2; exact h2 rfl
    exact this m hj (List.isEmpty_iff.1 he)
  ·rw [if_neg he] at h ⊢
   obtain ⟨k, hk, e, h3⟩ := few_first h
   exact ⟨k, by omega, e, h3⟩
theorem few_some {α : Type} {g : Nat → List α} {j : Nat} (hj : g j ≠ []) : ∀ {m : Nat}, j < m → fewTo g m ≠ []
 | m + 1, hm => by
  rw [fewTo]
  by_cases hj2 : j < m
  ·have := few_some hj hj2
   rw [if_neg (by cases hq : fewTo g m with | nil => exact absurd hq this | cons a b => simp)]
   exact this
  ·have hjm : j = m := by omega
   subst hjm
   split
   ·exact hj
   ·rename_i h2; intro e; rw [e] at h2; exact h2 rfl
end Go.Proofs.YtihonljdanjfmaaGreatDoor.Sw
namespace Go.Proofs.YtihonljdanjfmaaGreatDoor.Sw
open Go.RowKit Go Go.Shelf Go.Proofs
open Go.Proofs.YtihonljdanjfmaaGreatDoor.Gr (treeR treeR_ok pick sub_pick pick_sub Zr Cl Ok Forest Side Min sumP sumP_upd sumP_congr upd lf amt amt_side amt_swap payE cl_of_erase)
theorem allR_of {f : Flo} {S : List (Nat × Nat)} {out : List Pay} (hS : S.Sublist (prR (spk f) f.ids.length f.ids.length)) (h : treeR f.ids S (owed8 f) = some out) : out ∈ allR f S.length := by
 obtain ⟨t, ht, e⟩ := sub_pick hS
 unfold allR allTo
 refine List.mem_filterMap.2 ⟨t, List.mem_range.2 ht, ?_⟩
 rw [e, if_pos rfl]; exact h
theorem allR_zr {f : Flo} {S : List (Nat × Nat)} (hnd : S.Nodup) (hm : ∀ e ∈ S, PrS f e) (hz : Zr f.ids.length S (lf (owed8 f))) : ∃ k, k ≤ S.length ∧ allR f k ≠ [] := by
 have hok := prR_ok (spk f) f.ids.length
 obtain ⟨T, hT, hTn, hTe⟩ := sub_of_set hnd hok.nd fun e he => (prR_mem (Nat.le_refl _)).2 ⟨Nat.lt_trans (hm e he).1 (hm e he).2.1, (hm e he).1, (hm e he).2.1, (hm e he).2.2⟩
 have hzT : Zr f.ids.length T (lf (owed8 f)) := hz.sup fun p hp => (hTe p).1 hp
 have hlT : T.length = S.length := ((List.perm_ext_iff_of_nodup hnd hTn).2 hTe).length_eq.symm
 obtain ⟨R, hR, hRo, hRz, hRm⟩ := Gr.exists_min _ rfl (hok.sub hT) hzT
 obtain ⟨out, ho⟩ := treeR_ok hRo (owed8_len f) hRz hRm
 refine ⟨R.length, by rw [← hlT]; exact hR.length_le, fun e => ?_⟩
 have := allR_of (hR.trans hT) ho
 rw [e] at this; cases this
def gone (x : Nat → Int) (i o : Nat) (c : Int) : Nat → Int := upd (upd x i (x i + c)) o ((upd x i (x i + c)) o - c)
theorem sumP_gone {n : Nat} {x : Nat → Int} {i o : Nat} {c : Int} (hi : i < n) (ho : o < n) (P : Nat → Bool) : sumP n (gone x i o c) P = sumP n x P + (if P i then c else 0) - (if P o then c else 0) := by
 unfold gone
 rw [sumP_upd ho, sumP_upd hi]
 cases P i <;> cases P o <;> simp <;> omega
theorem gone_less {n : Nat} {L : List (Nat × Nat)} {x : Nat → Int} (hn : L.Nodup) (hz : Zr n L x) {e : Nat × Nat} (h1 : e.1 < n) (h2 : e.2 < n) : Zr n (L.erase e) (gone x e.1 e.2 (amt n x L e)) := fun P hP => by
 rw [sumP_gone h1 h2]
 cases a : P e.1 with
 | true =>
  cases b : P e.2 with
  | true =>
   have := hz P (cl_of_erase hn hP fun _ => by rw [a, b])
   simp; omega
  | false =>
   have := amt_swap (n := n) (x := x) hn hz (e := e) (Q := P) ⟨hP, a, b⟩
   simp; omega
 | false =>
  cases b : P e.2 with
  | true =>
   have := amt_side (n := n) (x := x) hn hz (e := e) (Q := P) ⟨hP, b, a⟩
   simp; omega
  | false =>
   have := hz P (cl_of_erase hn hP fun _ => by rw [a, b])
   simp; omega
theorem gone_more {n : Nat} {L : List (Nat × Nat)} {x : Nat → Int} {e : Nat × Nat} {c : Int} (h1 : e.1 < n) (h2 : e.2 < n) (hz : Zr n L (gone x e.1 e.2 c)) {T : List (Nat × Nat)} (hT : ∀ p ∈ L, p ∈ T) (he : e ∈ T) : Zr n T x := fun P hP => by
 have h := hz P fun p hp => hP p (hT p hp)
 rw [sumP_gone h1 h2] at h
 have := hP e he
 rw [this] at h
 cases P e.2 <;> simp at h <;> omega
theorem lf_set {l : List Int} {i : Nat} (hi : i < l.length) (d : Int) : lf (addAt l i d) = upd (lf l) i (lf l i + d) := by
 funext v
 unfold addAt lf upd
 simp only [List.getD_eq_getElem?_getD, List.getElem?_set]
 by_cases h : i = v
 ·subst h; simp [hi]
 ·rw [if_neg h, if_neg fun e => h e.symm]
theorem payFold_snoc (ids : List Int) (x : Pay) : ∀ (t : List Pay) (l : List Int), payFold ids (t ++ [x]) l = payStep ids x (payFold ids t l)
 | [], l => rfl
 | y :: t, l => by rw [List.cons_append, payFold, payFold, payFold_snoc ids x t]
theorem owed8_paid (f : Flo) (x : Pay) : owed8 { f with ps := f.ps ++ [x] } = payStep f.ids x (owed8 f) := payFold_snoc _ _ _ _
theorem idx_getD {ids : List Int} (hr : rises 0 ids = true) {i : Nat} (hi : i < ids.length) : ids.idxOf (ids.getD i 0) = i := by
 rw [List.getD_eq_getElem?_getD, List.getElem?_eq_getElem hi]; exact idx_at hr hi
theorem upd_comm {x : Nat → Int} {i o : Nat} {a b : Int} (h : i ≠ o) : upd (upd x i a) o b = upd (upd x o b) i a := by
 funext v
 unfold upd
 by_cases h1 : v = o
 ·subst h1
  rw [if_pos rfl, if_neg (fun e => h e.symm), if_pos rfl]
 ·by_cases h2 : v = i
  ·subst h2; simp [h1]
  ·simp [h1, h2]
theorem paid_gone {f : Flo} (hr : rises 0 f.ids = true) {L : List (Nat × Nat)} {e : Nat × Nat} (h1 : e.1 < e.2) (h2 : e.2 < f.ids.length) : lf (payStep f.ids (payE f.ids (lf (owed8 f)) L e) (owed8 f)) = gone (lf (owed8 f)) e.1 e.2 (amt f.ids.length (lf (owed8 f)) L e) := by
 have hol := owed8_len f
 have i1 := idx_getD hr (show e.1 < f.ids.length by omega)
 have i2 := idx_getD hr h2
 unfold payStep payE
 generalize amt f.ids.length (lf (owed8 f)) L e = c
 have hl : ∀ (i : Nat) (d : Int), (addAt (owed8 f) i d).length = (owed8 f).length := fun i d => addAt_len _ _ _
 split
 ·dsimp only
  rw [i1, i2, lf_set (by rw [hl]; omega), lf_set (by omega)]
  unfold gone
  have e1 : ∀ a, upd (lf (owed8 f)) e.2 a e.1 = lf (owed8 f) e.1 := fun a => by unfold upd; rw [if_neg (by omega)]
  have e2 : ∀ a, upd (lf (owed8 f)) e.1 a e.2 = lf (owed8 f) e.2 := fun a => by unfold upd; rw [if_neg (by omega)]
  rw [e1, e2, upd_comm (by omega)]
  congr 1
  congr 1
  omega
 ·dsimp only
  rw [i1, i2, lf_set (by rw [hl]; omega), lf_set (by omega)]
  unfold gone
  have e2 : ∀ a, upd (lf (owed8 f)) e.1 a e.2 = lf (owed8 f) e.2 := fun a => by unfold upd; rw [if_neg (by omega)]
  rw [e2]
  rfl
theorem one_less {f : Flo} (hf : floOk f = true) {k : Nat} {l : List Pay} {x : Pay} (hl : l ∈ allR f k) (hk : ∀ j, j < k → allR f j = []) (hx : x ∈ l) : ∃ j, j + 1 = k ∧ allR { f with ps := f.ps ++ [x] } j ≠ [] ∧ ∀ i, i < j → allR { f with ps := f.ps ++ [x] } i = [] := by
 have hr := rises_of_ok hf
 obtain ⟨L, hL⟩ := allR_mem.1 hl
 obtain ⟨e, he, rfl⟩ := List.mem_map.1 (hL.pe.mem_iff.1 hx)
 have hm := hL.mem e he
 have hg := paid_gone (f := f) (L := L) hr hm.1 hm.2.1
 have ho := owed8_paid f (payE f.ids (lf (owed8 f)) L e)
 have hkl : 0 < L.length := List.length_pos_of_mem he
 have hlen := hL.len
 generalize payE f.ids (lf (owed8 f)) L e = x at hg ho
 have hle : (L.erase e).length = L.length - 1 := List.length_erase_of_mem he
 have hup : ∃ j, j ≤ (L.erase e).length ∧ allR { f with ps := f.ps ++ [x] } j ≠ [] := by
  refine allR_zr (f := { f with ps := f.ps ++ [x] }) (hL.nd.erase e) (fun p hp => hL.mem p (List.mem_of_mem_erase hp)) ?_
  rw [ho, hg]
  exact gone_less hL.nd hL.zr (Nat.lt_trans hm.1 hm.2.1) hm.2.1
 have hlow : ∀ i, allR { f with ps := f.ps ++ [x] } i ≠ [] → k ≤ i + 1 := fun i hi => by
  obtain ⟨out, t, e2⟩ := List.exists_cons_of_ne_nil hi
  obtain ⟨M, hM⟩ := allR_mem.1 (show out ∈ allR { f with ps := f.ps ++ [x] } i by rw [e2]; simp)
  have hz := hM.zr
  rw [ho, hg] at hz
  have hzT := gone_more (T := e :: M.erase e) (Nat.lt_trans hm.1 hm.2.1) hm.2.1 hz (fun p hp => by
   by_cases h : p = e
   ·subst h; simp
   ·exact List.mem_cons_of_mem _ ((List.mem_erase_of_ne h).2 hp)) (by simp)
  have hnd : (e :: M.erase e).Nodup := List.nodup_cons.2 ⟨fun h => (hM.nd.mem_erase_iff.1 h).1 rfl, hM.nd.erase e⟩
  obtain ⟨m, hm1, hm2⟩ := allR_zr (f := f) hnd (fun p hp => by
   rcases List.mem_cons.1 hp with rfl | hp
   ·exact hm
   ·exact hM.mem p (List.mem_of_mem_erase hp)) hzT
  have hml : m ≤ i + 1 := by
   have h1 : (M.erase e).length ≤ M.length := List.length_erase_le
   have h2 := hM.len
   simp only [List.length_cons] at hm1
   omega
  rcases Nat.lt_or_ge m k with h | h
  ·exact absurd (hk m h) hm2
  ·omega
 obtain ⟨j, hj1, hj2⟩ := hup
 have := hlow j hj2
 refine ⟨j, by omega, hj2, fun i hi => ?_⟩
 cases hq : allR { f with ps := f.ps ++ [x] } i with
 | nil => rfl
 | cons a b =>
  have := hlow i (by rw [hq]; simp)
  omega
end Go.Proofs.YtihonljdanjfmaaGreatDoor.Sw
namespace Go.Proofs.YtihonljdanjfmaaGreatDoor.Sw
open Go.RowKit Go Go.Shelf Go.Proofs
theorem stl_told {f : Flo} (hS : Sml f) (hf : floOk f = true) (h0 : (stlN f).2 = 0) : ∃ k, k < 6 ∧ (stlN f).1 ∈ allR f k ∧ (∀ j, j < k → allR f j = []) ∧ (stlN f).1.length = k := by
 rw [stl_eq hS] at h0 ⊢
 have ha : (askR f).2.2 = 0 := by
  unfold stlN8 at h0
  split at h0
  ·assumption
  ·exact h0
 have hne : fewTo (allR f) 6 ≠ [] := fun e => by
  unfold askR at ha
  rw [if_pos hf, e] at ha
  simp at ha
 obtain ⟨k, hk, ek, hm⟩ := few_first hne
 have hal : (askR f).1 = fewTo (allR f) 6 := by
  unfold askR
  rw [if_pos hf, if_neg]
  intro e; exact hne (List.isEmpty_iff.1 e)
 have hin : (stlN8 f).1 ∈ allR f k := by
  unfold stlN8 bst8
  rw [if_pos ha, hal]
  dsimp only
  rw [ek] at hne ⊢
  rcases bst8_mem (xs := allR f k) (b := (allR f k).headD []) rfl with h | h
  ·exact h
  ·rw [h]; exact head_mem hne
 exact ⟨k, hk, hin, hm, (told (flo_f hf) hS (rises_of_ok hf) hin).len⟩
theorem fewN8_of {f : Flo} (hS : Sml f) (hf : floOk f = true) {k : Nat} (hk : k < 6) (h1 : allR f k ≠ []) (h2 : ∀ j, j < k → allR f j = []) : fewN8 f = ((k : Int), 0) := by
 have hne := few_some h1 hk
 obtain ⟨j, hj, ej, hjm⟩ := few_first hne
 have hjk : j = k := by
  rcases Nat.lt_trichotomy j k with h | h | h
  ·rw [ej, h2 j h] at hne; exact absurd rfl hne
  ·exact h
  ·exact absurd (hjm k h) h1
 subst hjk
 have ha : askR f = (fewTo (allR f) 6, chTo (allR f) 6, 0) := by
  unfold askR
  rw [if_pos hf, if_neg]
  intro e; exact hne (List.isEmpty_iff.1 e)
 unfold fewN8
 rw [ha, if_pos rfl]
 dsimp only
 rw [ej] at hne ⊢
 rw [(told (flo_f hf) hS (rises_of_ok hf) (head_mem hne)).len]
theorem paysOk_snoc {ids : List Int} {x : Pay} : ∀ {t : List Pay}, paysOk ids (t ++ [x]) = (paysOk ids t && payOk ids x)
 | [] => by simp [paysOk]
 | y :: t => by rw [List.cons_append, paysOk, paysOk, paysOk_snoc, Bool.and_assoc]
theorem ok_paid {f : Flo} (h : floOk f = true) (hp : f.ps.length ≠ 12) (x : Pay) : floOk { f with ps := f.ps ++ [x] } = payOk f.ids x := by
 rw [floOk_of] at h ⊢
 unfold chkA at h ⊢
 simp only [Bool.and_eq_true, decide_eq_true_eq] at h
 dsimp only
 rw [paysOk_snoc, decide_eq_true h.1.1.1.1.1.1, decide_eq_true h.1.1.1.1.1.2, decide_eq_true (show (f.ps ++ [x]).length ≤ 12 by rw [List.length_append, List.length_singleton]; omega), h.1.1.1.2, h.1.1.2, h.1.2, h.2]
 simp
theorem told_speak {f : Flo} {k : Nat} {l : List Pay} (h : l ∈ allR f k) {x : Pay} (hx : x ∈ l) : speakR f.qs x.a x.b = true ∧ x.a ∈ f.ids ∧ x.b ∈ f.ids := by
 obtain ⟨L, hL⟩ := allR_mem.1 h
 obtain ⟨e, he, rfl⟩ := List.mem_map.1 (hL.pe.mem_iff.1 hx)
 have hm := hL.mem e he
 have hb : ∀ i, i < f.ids.length → f.ids.getD i 0 ∈ f.ids := fun i hi => by
  rw [List.getD_eq_getElem?_getD, List.getElem?_eq_getElem hi]; exact List.getElem_mem hi
 have b1 := hb e.1 (Nat.lt_trans hm.1 hm.2.1)
 have b2 := hb e.2 hm.2.1
 have hs : speakR f.qs (f.ids.getD e.1 0) (f.ids.getD e.2 0) = true := hm.2.2
 rcases payE_ends f.ids (Gr.lf (owed8 f)) L e with ⟨c1, c2⟩ | ⟨c1, c2⟩
 ·rw [c1, c2]; exact ⟨hs, b1, b2⟩
 ·rw [c1, c2]; exact ⟨by rw [speakR_comm]; exact hs, b2, b1⟩
theorem paid_all {f : Flo} (hS : Sml f) (hf : floOk f = true) (hp : f.ps.length ≠ 12) (h0 : (stlN f).2 = 0) {x : Pay} (hx : x ∈ (stlN f).1) : (1000000 < x.p ∧ payR f x = (floE, 82) ∧ judgeR f [x] = ([], 0, 82)) ∨
  (x.p ≤ 1000000 ∧ ∃ y, payR f x = (y, 0) ∧ Sml y ∧ fewN8 y = (((stlN f).1.length : Int) - 1, 0) ∧ netR y = (payStep f.ids x (owed8 f), 0) ∧ judgeR f [x] = (payStep f.ids x (owed8 f), 0, 0)) := by
 obtain ⟨k, hk, hl, hm, hlen⟩ := stl_told hS hf h0
 obtain ⟨sp, ma, mb⟩ := told_speak hl hx
 have hT := told (flo_f hf) hS (rises_of_ok hf) hl
 have hx1 := (hT.ok x hx).2
 have hne : x.a ≠ x.b := fun e => by rw [e, speakR_same] at sp; cases sp
 have hok := ok_paid hf hp x
 rcases Int.lt_or_le 1000000 x.p with h | h
 ·have hno : payOk f.ids x = false := by
   unfold payOk
   rw [decide_eq_false (show ¬ x.p ≤ 1000000 by omega)]
   simp
  refine .inl ⟨h, ?_, ?_⟩
  ·unfold payR
   rw [if_pos hf, if_neg hp, if_neg (by rw [hok, hno]; simp)]
  ·unfold judgeR
   rw [if_pos hf, if_pos (by simp), judgeGo, if_neg (by rw [hno]; simp)]
 ·have hyes : payOk f.ids x = true := by
   unfold payOk
   simp only [Bool.and_eq_true, decide_eq_true_eq]
   exact ⟨⟨⟨ma, mb⟩, hne⟩, hx1, h⟩
  rw [hyes] at hok
  have hSy : Sml { f with ps := f.ps ++ [x] } := ⟨hS.ids, hS.qs, hS.bs, by have := (flo_f hok).ps; dsimp only at this ⊢; omega, hS.st⟩
  obtain ⟨j, hj, hj1, hj2⟩ := one_less hf hl hm hx
  have hfw := fewN8_of hSy hok (show j < 6 by omega) hj1 hj2
  refine .inr ⟨h, { f with ps := f.ps ++ [x] }, ?_, hSy, ?_, ?_, ?_⟩
  ·unfold payR
   rw [if_pos hf, if_neg hp, if_pos hok]
  ·rw [hfw, hlen, ← hj]
   congr 1
   omega
  ·unfold netR
   rw [if_pos hok, owed8_paid]
  ·unfold judgeR
   rw [if_pos hf, if_pos (by simp), judgeGo, if_pos (by rw [hyes, sp]; rfl), judgeGo]
theorem stlN_err {f : Flo} (hf : floOk f = true) : (stlN f).2 = 0 ∨ (stlN f).2 = 8 := by
 unfold stlN
 split
 ·exact .inl rfl
 ·rename_i h
  unfold errL at h ⊢
  rw [if_pos hf] at h ⊢
  split at h
  ·rename_i h2; right; dsimp only; rw [if_pos h2]
  ·exact absurd rfl h
theorem lsB2 {f : Flo} (hS : Sml f) : errL f = 0 → ∀ x ∈ lsF f, PayB x := fun he x hx => by
 obtain ⟨k, hk, hb⟩ := lsF_told hS he
 exact (hb x hx).payB (by omega)
set_option maxRecDepth 40000 in
set_option maxHeartbeats 16000000 in
theorem floorPays_con (f : Flo) (which : Int) (h1 : 0 ≤ which ∧ which ≤ 255) : Con Tryz.prog 10 [.agg (flC f), .val (.int .u8 which)] [tab8, HA.tab] (Is (.val (.bool true)) []) := by
 have c1 := fun w => run_conv8 (P := Tryz.prog) Tryz.underlying5 Tryz.underlying3 h1 w
 refine con_of Tryz.func10 rfl (enters_of Tryz.func10 (by kernel_rfl) rfl) rfl ?_; intro n w0 F0 G0
 (refine goSt ?_; (repeat (refine goAl ?_; intro p hp; refine goSt ?_)))
 (apply wl_callP (alive_con); exact rfl; exact goCutl; exact rfl)
 rintro _ _ ⟨rfl, rfl⟩
 (refine goSt ?_; (repeat (refine goAl ?_; intro p hp; refine goSt ?_)))
 (first | (apply wl_call (ready_con f); exact rfl; exact rfl) | (apply wl_callR (ready_con f); exact rfl; exact goAtm; exact rfl))
 (refine goSt ?_; (repeat (refine goAl ?_; intro p hp; refine goSt ?_)))
 cases hR : (!greatF f && floOk f) with
 | false =>
  (refine goSt ?_; (repeat (refine goAl ?_; intro p hp; refine goSt ?_)))
  (apply res1; exact rfl; exact rfl; exact ⟨rfl, rfl⟩)
 | true =>
  obtain ⟨hS, hok⟩ := ready_ok hR
  have hpl := (flo_f hok).ps
  (refine goSt ?_; (repeat (refine goAl ?_; intro p hp; refine goSt ?_)))
  refine wl_part rfl rfl (fun hlt => ?_) (fun hlt => ?_)
  ·(refine goSt ?_; (repeat (refine goAl ?_; intro p hp; refine goSt ?_)))
   (apply res1; exact rfl; exact rfl; exact ⟨rfl, rfl⟩)
  ·have hp12 : f.ps.length ≠ 12 := by simp at hlt; omega
   have SC := Settle_con f hS (lsB2 hS)
   have he := stlN_err hok
   have hll := stlN_len hS
   have hpa := fun h0 x hx => paid_all hS hok hp12 h0 (x := x) hx
   generalize stlN f = r at SC he hll hpa
   obtain ⟨l, e⟩ := r
   dsimp only at SC he hll hpa
   (refine goSt ?_; (repeat (refine goAl ?_; intro p hp; refine goSt ?_)))
   (first | (apply wl_call (SC); exact rfl; exact rfl) | (apply wl_callR (SC); exact rfl; exact goAtm; exact rfl))
   (refine goSt ?_; (repeat (refine goAl ?_; intro p hp; refine goSt ?_)))
   rcases he with rfl | rfl
   ·have hpa := hpa rfl
    (refine goSt ?_; (repeat (refine goAl ?_; intro p hp; refine goSt ?_)))
    refine w_cond rfl (fun hl0 => ?_) (fun hl0 => ?_)
    ·(refine goSt ?_; (repeat (refine goAl ?_; intro p hp; refine goSt ?_)))
     (apply res1; exact rfl; exact rfl; exact ⟨rfl, rfl⟩)
    ·have hl1 : 0 < l.length := by have := of_decide_eq_false hl0; omega
     obtain ⟨i, hi, hin⟩ : ∃ i : Nat, which % (l.length : Int) = i ∧ i < l.length := by
      have a := Int.emod_nonneg which (show (l.length : Int) ≠ 0 by omega)
      have b := Int.emod_lt_of_pos which (show 0 < (l.length : Int) by omega)
      exact ⟨(which % (l.length : Int)).toNat, by omega, by omega⟩
     have hpx := hpa _ (List.getElem_mem hin)
     (refine goSt ?_; (repeat (refine goAl ?_; intro p hp; refine goSt ?_)))
     (apply wl_convC (.int .i64 which); exact rfl; exact c1; exact rfl)
     (refine goSt ?_; (repeat (refine goAl ?_; intro p hp; refine goSt ?_)))
     (apply wl_rem; exact rfl; exact rfl; omega; omega; omega; exact rfl)
     rw [hi]
     (refine goSt ?_; (repeat (refine goAl ?_; intro p hp; refine goSt ?_)))
     generalize l[i] = x at hpx ⊢
     have PC := flP_frz (pay_con f x hS)
     have JC := judge_con f [x] hS (by simp)
     unfold jAV at JC
     rcases hpx with ⟨hx, e1, e2⟩ | ⟨hx, y, e1, hSy, e2, e3, e4⟩
     ·rw [e1] at PC
      rw [e2] at JC
      dsimp only at PC JC
      (first | (apply wl_call (PC); exact rfl; exact rfl) | (apply wl_callR (PC); exact rfl; exact goAtm; exact rfl))
      (refine goSt ?_; (repeat (refine goAl ?_; intro p hp; refine goSt ?_)))
      (apply wl_litF payC; exact inferInstance; exact inferInstance; exact inferInstance; exact goEl; exact rfl; (first | exact (of_decide_eq_true rfl) | decide | (simp; done) | (simp; omega)); exact rfl)
      (refine goSt ?_; (repeat (refine goAl ?_; intro p hp; refine goSt ?_)))
      (first | (apply wl_call (JC); exact rfl; exact rfl) | (apply wl_callR (JC); exact rfl; exact goAtm; exact rfl))
      (refine goSt ?_; (repeat (refine goAl ?_; intro p hp; refine goSt ?_)))
      rw [decide_eq_true hx]
      (refine goSt ?_; (repeat (refine goAl ?_; intro p hp; refine goSt ?_)))
      (apply res1; exact rfl; exact rfl; exact ⟨rfl, rfl⟩)
     ·rw [e1] at PC
      rw [e4] at JC
      have FC := Fewest_con y hSy
      have NC := Net_con y hSy
      rw [few_eq hSy, e2] at FC
      rw [e3] at NC
      dsimp only at PC JC FC NC
      have hlen : (payStep f.ids x (owed8 f)).length ≤ 1000 := by
       have := owed8_len f
       unfold payStep
       rw [addAt_len, addAt_len]
       have := hS.ids
       omega
      generalize payStep f.ids x (owed8 f) = left at JC NC hlen
      (first | (apply wl_call (PC); exact rfl; exact rfl) | (apply wl_callR (PC); exact rfl; exact goAtm; exact rfl))
      (refine goSt ?_; (repeat (refine goAl ?_; intro p hp; refine goSt ?_)))
      (apply wl_litF payC; exact inferInstance; exact inferInstance; exact inferInstance; exact goEl; exact rfl; (first | exact (of_decide_eq_true rfl) | decide | (simp; done) | (simp; omega)); exact rfl)
      (refine goSt ?_; (repeat (refine goAl ?_; intro p hp; refine goSt ?_)))
      (first | (apply wl_call (JC); exact rfl; exact rfl) | (apply wl_callR (JC); exact rfl; exact goAtm; exact rfl))
      (refine goSt ?_; (repeat (refine goAl ?_; intro p hp; refine goSt ?_)))
      rw [decide_eq_false (show ¬ 1000000 < x.p by omega)]
      (refine goSt ?_; (repeat (refine goAl ?_; intro p hp; refine goSt ?_)))
      (first | (apply wl_call (FC); exact rfl; exact rfl) | (apply wl_callR (FC); exact rfl; exact goAtm; exact rfl))
      (refine goSt ?_; (repeat (refine goAl ?_; intro p hp; refine goSt ?_)))
      (first | (apply wl_call (NC); exact rfl; exact rfl) | (apply wl_callR (NC); exact rfl; exact goAtm; exact rfl))
      (refine goSt ?_; (repeat (refine goAl ?_; intro p hp; refine goSt ?_)))
      rw [show decide ((l.length : Int) - 1 = (l.length : Int) - 1) = true by simp]
      (refine goSt ?_; (repeat (refine goAl ?_; intro p hp; refine goSt ?_)))
      (first | (apply wl_call (intsEq left (by omega)); exact rfl; exact rfl) | (apply wl_callR (intsEq left (by omega)); exact rfl; exact goAtm; exact rfl))
      (refine goSt ?_; (repeat (refine goAl ?_; intro p hp; refine goSt ?_)))
      (apply res1; exact rfl; exact rfl; exact ⟨rfl, rfl⟩)
   ·(refine goSt ?_; (repeat (refine goAl ?_; intro p hp; refine goSt ?_)))
    (apply res1; exact rfl; exact rfl; exact ⟨rfl, rfl⟩)
end Go.Proofs.YtihonljdanjfmaaGreatDoor.Sw
