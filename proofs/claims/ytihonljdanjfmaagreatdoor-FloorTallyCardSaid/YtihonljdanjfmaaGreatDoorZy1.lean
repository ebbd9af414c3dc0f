/- Proofs for one card: Reg, RegIn, Sw, SwOps, SwAny, App, SwOps2, SwOps3, SwR, SwF, SwG, SwH, Ty8, DoorG, FloorC, Row, Leaf, Check, Steps, Left, Best, Comes, Wide, Leaf2, Br8, DoorB, SwI, SwQ, FloorM, Gr3, SwL, SwM, SwB, FloorU, FloorCa, FloorLb, SwS, FloorCe, FloorCg, SwN, FloorDd, FloorPc, FloorCj, FloorDc, FloorCm, FloorDf, AlB, OCom, U8, DoorU, OAa, OQa, OPa, OTa, OHa, OTb, OTc, OTd, OYa, OGa, FloorTally. No condition of its own. -/
import Derived.WalkKit
import Derived.Handy
import Derived.Deep.AppendSrc
import Derived.OrdersHeld
import Derived.Deep.RegionHeld
import Derived.OrdersIn
import Derived.RangeFuncCalls
import Derived.RangeFuncNested
import Derived.RangeFuncLeaves
import Derived.IntWalk
import Derived.WalkSpells
import Derived.Maps.AppendAt
import Derived.Deep.AppendLies
import Derived.OwnWalk
import Derived.LoopNIn
import Derived.RangeFuncBound
import Derived.Test.YtihonljdanjfmaaGreatDoorProg
import Derived.Test.YtihonljdanjfmaaGreatDoorCards
import Derived.Test.YtihonljdanjfmaaGreatDoorTie
import Derived.ProofKit
import Derived.OpenShut
import Derived.LaidMore
import Derived.LaidOnce
import Derived.ChangeOld
import Derived.Below
import Derived.Stop.Joined
import Derived.Lib.SmallJoins
import Derived.Deep.Slices
import Derived.WalkSmall
import Derived.Shelf.Abstract
import Derived.Laws.EntriesVeiled
import Derived.ChangeSame
import Derived.Deep.Strs
import Derived.Outline
import Derived.Deep.QuietTactic
import Derived.BigQuiet
import Derived.Deep.RegionHeld3
import Derived.DeepKeys4
import Derived.Maps.OwnIn
import Derived.OwnWalkIn
import Derived.Shelf.RegionOpen
import Derived.TacticsInMore
import Derived.Sort.BigQuietIn
import Derived.LoopIn
import Derived.WalkMore
import Derived.Maps.Views
import Derived.Lib.AppendZerosOnto
import Derived.Lib.Walk
import Derived.Lib.SliceRun
import Derived.Laws.MakeOwn
import Derived.Deep.Cut
import Derived.Lib.LazyBuf
import Derived.Scope
import Derived.WideKeyEntry
import Derived.Test.YtihonljdanjfmaaGreatDoorZd9
set_option linter.unusedVariables false
set_option linter.unusedSimpArgs false
set_option maxRecDepth 40000
set_option maxHeartbeats 32000000
namespace Go.Proofs.YtihonljdanjfmaaGreatDoor
open Go.RowKit Go
section
variable {P : Program} {ops : Array Oper} {Q : Exit → Act → World → Prop} {S : World → Prop} {held : List Nat}
end
section
variable {F : Fence} {n : Nat} {P : Program} {ops : Array Oper} {Q : Exit → Act → World → Prop} {S : World → Prop} {held : List Nat}
end
end Go.Proofs.YtihonljdanjfmaaGreatDoor
namespace Go.Proofs.YtihonljdanjfmaaGreatDoor.Sw
open Go.RowKit Go
section
variable {c : Cx} {s : S} {Q : Exit → S → Prop}
end
section
variable {c : Cx} {s : S} {Q : Exit → S → Prop} {ops : Array Oper} {tl : List Oper}
end
section
variable {c : Cx} {s : S} {Q : Exit → S → Prop} {ops : Array Oper} {tl : List Oper}
end
section
variable {P : Program} {rs : List (Nat × AV)} {d : Option Nat} {ty : TypeId} {pos : String} {af : Array Edge} {g : Option (Nat × Bool)}
end
theorem con_same {P : Program} {k : FuncId} {args : List AV} {av : AV} (he : ∀ args w, (callFunc k args).run P w = .ok (.enter k args) w)
  (h : ∀ (G : Nat → Option Obj) (vs : List Value) (w : World), Fits G args vs → Gin G w → Calls P k vs.toArray w fun e w' => ∃ v, e = .returned v ∧ av.P G v ∧ Below w.heap.size w w') : Con P k args [] (Is av []) :=
 ⟨he, fun G Fp vs w hf hi => (h G vs w hf hi.gin).mono fun e w' ⟨v, h1, h2, h3⟩ => by
  obtain rfl := inv_nil hi
  refine ⟨v, av, [], G, [], h1, ⟨rfl, rfl⟩, ⟨h3.os, h3.tape, h3.output, h3.size, fun b hb _ => h3.block b hb, fun _ h => .inl h, Gle.refl _, fun _ _ h => .inl h⟩, ⟨fun b o e => (h3.block b (hi.gin.lt e)).trans (hi.gin b o e), by simp, fun b hb => (by cases hb), rfl⟩, h2⟩⟩
section
variable {c : Cx} {s : S} {Q : Exit → S → Prop} {ops : Array Oper} {tl : List Oper}
end
section
variable {c : Cx} {rs : List (Nat × AV)} {hs : List HA} {Q : Exit → S → Prop} {ops : Array Oper} {tl : List Oper} {d : Nat} {op : Op} {ty : TypeId} {pos : String} {af : Array Edge}
end
section
variable {c : Cx} {rs : List (Nat × AV)} {hs : List HA} {Q : Exit → S → Prop} {ops : Array Oper} {tl : List Oper} {d : Nat} {ty : TypeId} {pos : String} {af : Array Edge} {x y : Operand} {t tb : TypeId} {p : Value} {j : Nat} {cs : List AV} {f : HA → List HA}
end
section
variable (ops : Array Oper) (m : Nat) (sp : List Sp) (hs0 : List HA)
end
section
variable {c : Cx} {ops : Array Oper} {m : Nat} {sp : List Sp} {hs0 hsR : List HA} {rsB : List (Nat × AV)} {Q : Exit → S → Prop}
end
section
variable {P : Program} {rs : List (Nat × AV)} {hsR : List HA} {d : Option Nat} {ty : TypeId} {pos : String} {af : Array Edge} {g : Option (Nat × Bool)} {x : Operand} {t tb : TypeId} {p : Value} {j : Nat} {cs : List AV} {f : HA → List HA}
end
end Go.Proofs.YtihonljdanjfmaaGreatDoor.Sw
namespace Go.Proofs.YtihonljdanjfmaaGreatDoor
open Go.RowKit Go
section
variable {P : Program} (w : World)
end
end Go.Proofs.YtihonljdanjfmaaGreatDoor
namespace Go.Proofs.YtihonljdanjfmaaGreatDoor.Sw
open Go.RowKit Go
section
variable {P : Program} {rs : List (Nat × AV)} {d : Option Nat} {ty : TypeId} {pos : String} {af : Array Edge} {g : Option (Nat × Bool)}
end
section
variable {P : Program} {rs : List (Nat × AV)} {d : Option Nat} {ty : TypeId} {pos : String} {af : Array Edge} {g : Option (Nat × Bool)}
end
section
variable {c : Cx} {rs : List (Nat × AV)} {hs : List HA} {Q : Exit → S → Prop} {ops : Array Oper} {tl : List Oper} {d : Nat} {ty : TypeId} {pos : String} {af : Array Edge}
end
section
variable {c : Cx} {rs : List (Nat × AV)} {hs : List HA} {Q : Exit → S → Prop} {ops : Array Oper} {tl : List Oper} {d : Nat} {ty : TypeId} {pos : String} {af : Array Edge}
end
section
variable {P : Program} {rs : List (Nat × AV)} {d : Option Nat} {ty : TypeId} {pos : String} {af : Array Edge} {g : Option (Nat × Bool)}
end
section
variable {c : Cx} {rs : List (Nat × AV)} {hs : List HA} {Q : Exit → S → Prop} {ops : Array Oper} {tl : List Oper} {d : Nat} {ty : TypeId} {pos : String} {af : Array Edge}
end
section
variable {P : Program} {rs : List (Nat × AV)} {hsR : List HA} {d : Option Nat} {ty : TypeId} {pos : String} {af : Array Edge} {g : Option (Nat × Bool)}
end
section
variable {P : Program} {rs : List (Nat × AV)} {hsR : List HA} {d : Option Nat} {ty : TypeId} {pos : String} {af : Array Edge} {g : Option (Nat × Bool)}
end
section
variable {c : Cx} {rs : List (Nat × AV)} {hs : List HA} {Q : Exit → S → Prop} {ops : Array Oper} {tl : List Oper} {d : Nat} {ty : TypeId} {pos : String} {af : Array Edge}
end
section
variable {c : Cx} {rs : List (Nat × AV)} {hs : List HA} {Q : Exit → S → Prop} {g : Operand} {ps : Array Tmp} {assign body : Code} {gf : FuncId} {caps : List AV} {own r : List HA} {α β τ : Type} {f : α → τ → List AV} {t : α → τ → List HA} {xs : List α}
end
section
variable {P : Program} {rs : List (Nat × AV)} {hsR : List HA} {d : Option Nat} {ty : TypeId} {pos : String} {af : Array Edge} {g : Option (Nat × Bool)}
end
section
variable {c : Cx} {rs : List (Nat × AV)} {hs : List HA} {Q : Exit → S → Prop} {ops : Array Oper} {tl : List Oper} {d : Nat} {ty : TypeId} {pos : String} {af : Array Edge}
end
instance : Ty1 Tryz.prog 5 := ⟨fun w => by kernel_rfl, fun w => by kernel_rfl⟩
instance : TyE Tryz.prog 54 5 1 := tyE (z := .int .u8 0) (b := 1) (by kernel_rfl) (by kernel_rfl) (by decide) rfl (by decide)
instance : TyQ Tryz.prog 52 2 := ⟨fun x y xs ys w h1 h2 => by
 match xs, ys, h1, h2 with
 | [x0, x1], [y0, y1], _, _ => refine ⟨?_, ?_, ?_, ?_⟩ <;> simp [go_sem] <;> by_cases h10 : x0 = y0 <;> by_cases h11 : x1 = y1 <;> simp [*]⟩
end Go.Proofs.YtihonljdanjfmaaGreatDoor.Sw
namespace Go.Proofs.YtihonljdanjfmaaGreatDoor.Sw
open Go Go.RowKit Go.ChangeShapes Go.WideShapes Go.ChangeAt
set_option maxRecDepth 100000 in
theorem arg_one {H : Type} {enc : TypeId × Value → H} {W : World} {t : TypeId} {α : Type} {g : α → AV} (hr : Reads t fun x => [g x]) {v : Value} {d : DataW H} {p : List MemPlace} (hc : v.cells.toList = [v]) (h : DataW.Trod enc Tryz.prog W 0 (fun _ => true) true t v d p) : ∃ x, (g x).P (gh W) v := by
 obtain ⟨m, hm⟩ := h
 rw [hc] at hm
 obtain ⟨x, h1, _⟩ := hr hm
 exact ⟨x, h1⟩
set_option maxRecDepth 100000 in
theorem arg_sl {H : Type} {enc : TypeId × Value → H} {W : World} {t e : TypeId} {α : Type} {g : α → AV} (hr : Reads t fun x => [g x]) {v : Value} {d : DataW H} {p : List MemPlace} {base : Nat} (ht : Tryz.prog.underlying t = some (.slice e)) (hv : Value.okWide Tryz.prog W .any base t v) (h : DataW.Trod enc Tryz.prog W 0 (fun _ => true) true t v d p) : ∃ x, (g x).P (gh W) v := by
 obtain ⟨a, n, c, rfl⟩ := okWide_slice ht hv
 exact arg_one hr rfl h
set_option maxRecDepth 100000 in
theorem arg_int {H : Type} {enc : TypeId × Value → H} {W : World} {t : TypeId} {k : IntKind} {v : Value} {d : DataW H} {p : List MemPlace} {base : Nat} (ht : Tryz.prog.underlying t = some (.int k)) (hv : Value.okWide Tryz.prog W .any base t v) (h : DataW.Trod enc Tryz.prog W 0 (fun _ => true) true t v d p) : ∃ i : Int, (AV.val (.int k i)).P (gh W) v ∧ (Lit.int k i).wf = true := by
 obtain ⟨n, rfl, _, _, hw⟩ := open_int ht hv h
 exact ⟨n, rfl, hw⟩
end Go.Proofs.YtihonljdanjfmaaGreatDoor.Sw
namespace Go.Proofs.YtihonljdanjfmaaGreatDoor
open Go Go.ChangeShapes Go.WideShapes Go.ChangeAt Go.RowKit
theorem laidOut : laidOutB Tryz.prog = true := by kernel_rfl
end Go.Proofs.YtihonljdanjfmaaGreatDoor
namespace Go.Proofs.YtihonljdanjfmaaGreatDoor.Sw
open Go Go.RowKit Go.ChangeShapes Go.WideShapes Go.ChangeAt
set_option maxRecDepth 100000
end Go.Proofs.YtihonljdanjfmaaGreatDoor.Sw
namespace Go.Proofs.YtihonljdanjfmaaGreatDoor.Sw
open Go.RowKit Go Go.Shelf Go.Proofs
end Go.Proofs.YtihonljdanjfmaaGreatDoor.Sw
namespace Go.Proofs.YtihonljdanjfmaaGreatDoor
open Go.RowKit Go
section
variable {α : Type} {f : α → List Value} {n : Nat}
end
end Go.Proofs.YtihonljdanjfmaaGreatDoor
namespace Go.Proofs.YtihonljdanjfmaaGreatDoor
open Go.RowKit Go.Proofs Go.Shelf
theorem within_any (n lo hi : Int) (w : World) :
  Calls Tryz.prog 81 #[.int .i64 n, .int .i64 lo, .int .i64 hi] w fun e w' => e = .returned (.bool (decide (lo ≤ n) && decide (n ≤ hi))) ∧ w = w' := by
 go_enter Tryz.func81, Tryz.ntmps81
 go_wp2
 all_goals
  go_ret
  exact ⟨(congrArg (fun b => Ending.returned (Value.bool b)) (by first | rfl | (simp [*]; done) | (simp [*]; omega) | (simp_all; done) | (simp_all; omega))), rfl⟩
theorem great_any (id hs : Int) (sa : Option Addr) (n sc : Nat) (fa : Option Addr) (m fc : Nat) (w : World) :
  Calls Tryz.prog 34 #[.agg #[.int .i64 id, .int .i64 hs, .slice sa n sc, .slice fa m fc]] w fun e w' => e = .returned (.bool (decide ((30 : Int) < (n : Int)) || decide ((30 : Int) < (m : Int)))) ∧ Below w.heap.size w w' := by
 go_enter Tryz.func34, Tryz.ntmps34
 go_wp2
 all_goals
  go_ret
  exact ⟨(congrArg (fun b => Ending.returned (Value.bool b)) (by first | rfl | (simp [*]; done) | (simp [*]; omega) | (simp_all; done) | (simp_all; omega))), goBl⟩
theorem notches_any (a : Option Addr) (c : Nat) (xs : List Int) (w : World) (hl : xs.length ≤ 4000) (h : RdI w a xs) :
  Calls Tryz.prog 82 #[.slice a xs.length c] w fun e w' => e = .returned (.bool (okN xs)) ∧ w = w' := by
 go_enter Tryz.func82, Tryz.ntmps82
 have H := hid h; clear h
 go_wp2_with fail
 go_loop [7] (fun i => ∃ k : Nat, k ≤ xs.length ∧ i = .int .i64 k ∧ okN (xs.take k) = true) (fun i => (xs.length - (intOf i).toNat))
 case atStart => exact ⟨0, by omega, rfl, by simp [okN]⟩
 case round =>
  obtain ⟨k, hk, rfl, hno⟩ := hrel
  have Hno := hid hno; clear hno
  by_cases hlt : k < xs.length
  ·obtain ⟨b, o, rfl, hcell⟩ := H.out k hlt
   have hs : okN (xs.take (k + 1)) = (decide (1 ≤ xs[k]) && decide (xs[k] ≤ 4)) := by
    unfold okN
    rw [List.take_succ_eq_append_getElem hlt, List.all_append]
    have := Hno.out
    unfold okN at this
    simp [this]
   have HS := hid hs; clear hs
   by_cases ht : (decide (1 ≤ xs[k]) && decide (xs[k] ≤ 4)) = true
   ·have HT := hid ht
    go_wp2_with (refine (within_any _ _ _ _).mono ?_; rintro e w' ⟨rfl, rfl⟩)
    go_round
    case rel => exact ⟨k + 1, by omega, by go_num, HS.out.trans HT.out⟩
    case measure => simp [intOf]; omega
   ·have ht2 : (decide (1 ≤ xs[k]) && decide (xs[k] ≤ 4)) = false := by simpa using ht
    have HT := hid ht2
    clear ht
    go_wp2_with (refine (within_any _ _ _ _).mono ?_; rintro e w' ⟨rfl, rfl⟩)
    go_ret
    refine ⟨(congrArg (fun b => Ending.returned (Value.bool b)) ?_), rfl⟩
    have h1 := HS.out.trans HT.out
    unfold okN at h1 ⊢
    symm
    rw [List.all_eq_false] at h1 ⊢
    obtain ⟨x, hx, hx2⟩ := h1
    exact ⟨x, List.mem_of_mem_take hx, hx2⟩
  ·go_wp2_with fail
   go_ret
   refine ⟨(congrArg (fun b => Ending.returned (Value.bool b)) ?_), rfl⟩
   have : k = xs.length := by omega
   subst this
   simpa using Hno.out.symm
theorem tally_any (id hs : Int) (st fo : List Int) (sa fa : Option Addr) (sc fc : Nat) (w : World)
  (hl : st.length ≤ 4000) (hl2 : fo.length ≤ 4000) (h1 : RdI w sa st) (h2 : RdI w fa fo) :
  Calls Tryz.prog 35 #[.agg #[.int .i64 id, .int .i64 hs, .slice sa st.length sc, .slice fa fo.length fc]] w fun e w' => e = .returned (.bool (okT id hs st fo)) ∧ Below w.heap.size w w' := by
 have HX := hid h1; clear h1
 have HY := hid h2; clear h2
 have H1 := hid hl; have H2 := hid hl2; clear hl hl2
 by_cases e1 : (decide (1 ≤ id) && decide (id ≤ 9999)) = true
 ·by_cases e2 : (decide (1 ≤ hs) && decide (hs ≤ 9999)) = true
  ·by_cases e3 : (st.length : Int) ≤ 12
   ·have e3' : st.length ≤ 12 := by omega
    by_cases e4 : (fo.length : Int) ≤ 12
    ·have e4' : fo.length ≤ 12 := by omega
     by_cases e5 : okN st = true
     ·have E : Hid (okT id hs st fo = okN fo) := by
       show okT id hs st fo = okN fo
       unfold okT; rw [e1, e2, e5]; simp [e3', e4']
      go_enter Tryz.func35, Tryz.ntmps35; go_wp2_with (first | (refine (within_any _ _ _ _).mono ?_; rintro e w' ⟨rfl, rfl⟩) | (refine (notches_any _ _ _ _ (by first | exact H1.out | exact H2.out) (by first | exact HX.out.below goBl | exact HY.out.below goBl)).mono ?_; rintro e w' ⟨rfl, rfl⟩)); go_ret
      exact ⟨(congrArg (fun b => Ending.returned (Value.bool b)) E.out.symm), goBl⟩
     ·have e5' : okN st = false := by simpa using e5
      have E : Hid (okT id hs st fo = false) := by
       show okT id hs st fo = false
       unfold okT; rw [e5']; simp
      go_enter Tryz.func35, Tryz.ntmps35; go_wp2_with (first | (refine (within_any _ _ _ _).mono ?_; rintro e w' ⟨rfl, rfl⟩) | (refine (notches_any _ _ _ _ (by first | exact H1.out | exact H2.out) (by first | exact HX.out.below goBl | exact HY.out.below goBl)).mono ?_; rintro e w' ⟨rfl, rfl⟩)); go_ret
      exact ⟨(congrArg (fun b => Ending.returned (Value.bool b)) E.out.symm), goBl⟩
    ·have E : Hid (okT id hs st fo = false) := by
      show okT id hs st fo = false
      have e4' : ¬ fo.length ≤ 12 := by omega
      unfold okT; simp [e4']
     go_enter Tryz.func35, Tryz.ntmps35; go_wp2_with (first | (refine (within_any _ _ _ _).mono ?_; rintro e w' ⟨rfl, rfl⟩) | (refine (notches_any _ _ _ _ (by first | exact H1.out | exact H2.out) (by first | exact HX.out.below goBl | exact HY.out.below goBl)).mono ?_; rintro e w' ⟨rfl, rfl⟩)); go_ret
     exact ⟨(congrArg (fun b => Ending.returned (Value.bool b)) E.out.symm), goBl⟩
   ·have E : Hid (okT id hs st fo = false) := by
     show okT id hs st fo = false
     have e3' : ¬ st.length ≤ 12 := by omega
     unfold okT; simp [e3']
    go_enter Tryz.func35, Tryz.ntmps35; go_wp2_with (first | (refine (within_any _ _ _ _).mono ?_; rintro e w' ⟨rfl, rfl⟩) | (refine (notches_any _ _ _ _ (by first | exact H1.out | exact H2.out) (by first | exact HX.out.below goBl | exact HY.out.below goBl)).mono ?_; rintro e w' ⟨rfl, rfl⟩)); go_ret
    exact ⟨(congrArg (fun b => Ending.returned (Value.bool b)) E.out.symm), goBl⟩
  ·have e2' : (decide (1 ≤ hs) && decide (hs ≤ 9999)) = false := by simpa using e2
   have E : Hid (okT id hs st fo = false) := by
    show okT id hs st fo = false
    unfold okT; rw [e2']; simp
   clear e2
   go_enter Tryz.func35, Tryz.ntmps35; go_wp2_with (first | (refine (within_any _ _ _ _).mono ?_; rintro e w' ⟨rfl, rfl⟩) | (refine (notches_any _ _ _ _ (by first | exact H1.out | exact H2.out) (by first | exact HX.out.below goBl | exact HY.out.below goBl)).mono ?_; rintro e w' ⟨rfl, rfl⟩)); go_ret
   exact ⟨(congrArg (fun b => Ending.returned (Value.bool b)) E.out.symm), goBl⟩
 ·have e1' : (decide (1 ≤ id) && decide (id ≤ 9999)) = false := by simpa using e1
  have E : Hid (okT id hs st fo = false) := by
   show okT id hs st fo = false
   unfold okT; rw [e1']; simp
  clear e1
  go_enter Tryz.func35, Tryz.ntmps35; go_wp2_with (first | (refine (within_any _ _ _ _).mono ?_; rintro e w' ⟨rfl, rfl⟩) | (refine (notches_any _ _ _ _ (by first | exact H1.out | exact H2.out) (by first | exact HX.out.below goBl | exact HY.out.below goBl)).mono ?_; rintro e w' ⟨rfl, rfl⟩)); go_ret
  exact ⟨(congrArg (fun b => Ending.returned (Value.bool b)) E.out.symm), goBl⟩
attribute [local go_sem] Oper.semAt_some
attribute [local go_sem] Oper.semAt_some
attribute [local go_sem] eqPlace
attribute [local go_sem] Oper.semAt_some
attribute [local go_sem] Oper.semAt_some
theorem refRates_any (r : Rt) (w : World) :
  Calls Tryz.prog 36 #[r.val] w fun e w' => e = .returned (.bool r.ok) ∧ Below w.heap.size w w' := by
 have hok : r.ok = ((decide (0 ≤ r.skin) && decide (r.skin ≤ 1000)) && ((decide (0 ≤ r.half) && decide (r.half ≤ 1000)) && ((decide (0 ≤ r.barrel) && decide (r.barrel ≤ 1000)) && (decide (0 ≤ r.paid) && decide (r.paid ≤ 1000))))) := rfl
 have HOK := hid hok; clear hok
 obtain ⟨q1, hq1⟩ : ∃ q, (decide (0 ≤ r.skin) && decide (r.skin ≤ 1000)) = q := ⟨_, rfl⟩
 obtain ⟨q2, hq2⟩ : ∃ q, (decide (0 ≤ r.half) && decide (r.half ≤ 1000)) = q := ⟨_, rfl⟩
 obtain ⟨q3, hq3⟩ : ∃ q, (decide (0 ≤ r.barrel) && decide (r.barrel ≤ 1000)) = q := ⟨_, rfl⟩
 obtain ⟨q4, hq4⟩ : ∃ q, (decide (0 ≤ r.paid) && decide (r.paid ≤ 1000)) = q := ⟨_, rfl⟩
 rw [hq1, hq2, hq3, hq4] at HOK
 unfold Rt.val
 cases q1 with
 | false => (go_enter Tryz.func36, Tryz.ntmps36; go_wp2_with (refine (within_any _ _ _ _).mono ?_; rintro e w' ⟨rfl, rfl⟩); go_ret; exact ⟨(congrArg (fun b => Ending.returned (Value.bool b)) (by rw [HOK.out]; first | rfl | simp [*])), goBl⟩)
 | true =>
  cases q2 with
  | false => (go_enter Tryz.func36, Tryz.ntmps36; go_wp2_with (refine (within_any _ _ _ _).mono ?_; rintro e w' ⟨rfl, rfl⟩); go_ret; exact ⟨(congrArg (fun b => Ending.returned (Value.bool b)) (by rw [HOK.out]; first | rfl | simp [*])), goBl⟩)
  | true =>
   cases q3 with
   | false => (go_enter Tryz.func36, Tryz.ntmps36; go_wp2_with (refine (within_any _ _ _ _).mono ?_; rintro e w' ⟨rfl, rfl⟩); go_ret; exact ⟨(congrArg (fun b => Ending.returned (Value.bool b)) (by rw [HOK.out]; first | rfl | simp [*])), goBl⟩)
   | true =>
    cases q4 with
    | false => (go_enter Tryz.func36, Tryz.ntmps36; go_wp2_with (refine (within_any _ _ _ _).mono ?_; rintro e w' ⟨rfl, rfl⟩); go_ret; exact ⟨(congrArg (fun b => Ending.returned (Value.bool b)) (by rw [HOK.out]; first | rfl | simp [*])), goBl⟩)
    | true => (go_enter Tryz.func36, Tryz.ntmps36; go_wp2_with (refine (within_any _ _ _ _).mono ?_; rintro e w' ⟨rfl, rfl⟩); go_ret; exact ⟨(congrArg (fun b => Ending.returned (Value.bool b)) (by rw [HOK.out]; first | rfl | simp [*])), goBl⟩)
theorem take_succ_eq {α : Type} [DecidableEq α] {xs ys : List α} {k : Nat} (h : xs.take k = ys.take k) (hx : k < xs.length) (hy : k < ys.length) (e : xs[k] = ys[k]) : xs.take (k + 1) = ys.take (k + 1) := by
 rw [List.take_succ_eq_append_getElem hx, List.take_succ_eq_append_getElem hy, h, e]
end Go.Proofs.YtihonljdanjfmaaGreatDoor
namespace Go.Proofs.YtihonljdanjfmaaGreatDoor.Sw
open Go.RowKit Go
theorem great_con (t : Tl) : Con Tryz.prog 34 [.agg (tC t)] [] (Is (.val (.bool (decide ((30 : Int) < t.st.length) || decide ((30 : Int) < t.fo.length)))) []) := by
 refine con_same (enters_of Tryz.func34 (by kernel_rfl) rfl) fun G vs w hf hG => ?_
 match vs, hf with
 | [v], ⟨h, _⟩ =>
  obtain ⟨sa, sc, fa, fc, rfl, h1, h2⟩ := fits_tl hG h
  exact (great_any t.id t.hs sa t.st.length sc fa t.fo.length fc w).mono fun e w' ⟨h, hb⟩ => ⟨_, h, rfl, hb⟩
theorem tally_con (t : Tl) (h1 : t.st.length ≤ 1000) (h2 : t.fo.length ≤ 1000) : Con Tryz.prog 35 [.agg (tC t)] [] (Is (.val (.bool (okT t.id t.hs t.st t.fo))) []) := by
 refine con_same (enters_of Tryz.func35 (by kernel_rfl) rfl) fun G vs w hf hG => ?_
 match vs, hf with
 | [v], ⟨h, _⟩ =>
  obtain ⟨sa, sc, fa, fc, rfl, g1, g2⟩ := fits_tl hG h
  exact (tally_any t.id t.hs _ _ _ _ _ _ w (by omega) (by omega) g1 g2).mono fun e w' ⟨h, hb⟩ => ⟨_, h, rfl, hb⟩
theorem refRates_con (r : Rt) : Con Tryz.prog 36 [.agg (rC r)] [] (Is (.val (.bool r.ok)) []) := by
 refine con_same (enters_of Tryz.func36 (by kernel_rfl) rfl) fun G vs w hf hG => ?_
 match vs, hf with
 | [v], ⟨h', _⟩ =>
  obtain rfl := fits_rt h'
  exact (refRates_any r w).mono fun e w' ⟨h, hb⟩ => ⟨_, h, rfl, hb⟩
end Go.Proofs.YtihonljdanjfmaaGreatDoor.Sw
namespace Go.Proofs.YtihonljdanjfmaaGreatDoor
open Go Go.ChangeShapes Go.WideShapes Go.ChangeAt Go.RowKit
end Go.Proofs.YtihonljdanjfmaaGreatDoor
namespace Go.Proofs.YtihonljdanjfmaaGreatDoor.Sw
open Go Go.RowKit Go.ChangeShapes Go.WideShapes Go.ChangeAt
set_option maxRecDepth 100000
theorem reads_t : Reads 67 tC := fun {H enc W n cs y} h =>
 let ⟨x, hx⟩ := reads_4 Tryz.underlying67 (by kernel_rfl) (by kernel_rfl) reads_i reads_i reads_is reads_is h
 ⟨⟨x.1, x.2.1, x.2.2.1, x.2.2.2⟩, hx⟩
theorem reads_r : Reads 69 rC := fun {H enc W n cs y} h =>
 let ⟨x, hx⟩ := reads_4 Tryz.underlying69 (by kernel_rfl) (by kernel_rfl) reads_i reads_i reads_i reads_i h
 ⟨⟨x.1, x.2.1, x.2.2.1, x.2.2.2⟩, hx⟩
end Go.Proofs.YtihonljdanjfmaaGreatDoor.Sw
namespace Go.Proofs.YtihonljdanjfmaaGreatDoor.Sw
open Go.RowKit Go
section
variable {P : Program} {rs : List (Nat × AV)} {hsR : List HA} {d : Option Nat} {ty : TypeId} {pos : String} {af : Array Edge} {g : Option (Nat × Bool)}
end
section
variable {c : Cx} {rs : List (Nat × AV)} {hs : List HA} {Q : Exit → S → Prop} {ops : Array Oper} {tl : List Oper} {d : Nat} {ty : TypeId} {pos : String} {af : Array Edge}
end
section
variable {P : Program} {rs : List (Nat × AV)} {d : Option Nat} {ty : TypeId} {pos : String} {af : Array Edge} {g : Option (Nat × Bool)}
end
section
variable {c : Cx} {rs : List (Nat × AV)} {hs : List HA} {Q : Exit → S → Prop} {ops : Array Oper} {tl : List Oper} {d : Nat} {ty : TypeId} {pos : String} {af : Array Edge}
end
section
variable {P : Program} {rs : List (Nat × AV)} {d : Option Nat} {ty : TypeId} {pos : String} {af : Array Edge} {g : Option (Nat × Bool)}
theorem lt_rem {x y : Operand} {m n : Int} {t t' : TypeId} (hx : opv rs x = some (.val (.int .i64 m))) (hy : opv rs y = some (.val (.int .i64 n))) (h0 : 0 < n) (h1 : 0 ≤ m) (h2 : m ≤ 9223372036854775807) :
  LT P ⟨d, .binOp .rem t x y t', ty, pos, af, g⟩ rs [] (Is (.val (.int .i64 (m % n))) []) :=
 LT_val (fun _ e => by cases e) fun a w G hR _ => ⟨_, rfl, by
  have e1 : a.eval x = _ := opv_ok hR hx
  have e2 : a.eval y = _ := opv_ok hR hy
  have hq : m.tmod n = m % n := Int.tmod_eq_emod_of_nonneg h1
  have hr1 : 0 ≤ m % n := Int.emod_nonneg m (by omega)
  have hr2 : m % n < n := Int.emod_lt_of_pos m h0
  have hr3 : m % n ≤ m := by
   have e := Int.emod_add_mul_ediv m n
   have p := Int.mul_nonneg (show 0 ≤ n by omega) (Int.ediv_nonneg h1 (show 0 ≤ n by omega))
   generalize n * (m / n) = q at e p
   omega
  have hz : n ≠ 0 := by omega
  simp only [execOp, e1, e2]
  simp [go_sem, hz, hq, IntWalk.i64_in (m % n) (by omega)]⟩
theorem run_conv8 {s t : TypeId} (hs : P.underlying s = some (.int .u8)) (ht : P.underlying t = some (.int .i64)) {n : Int} (h : 0 ≤ n ∧ n ≤ 255) (w : World) : (convert s t (.int .u8 n)).run P w = .ok (.int .i64 n) w := by
 simp [convert, run_underlying hs, run_underlying ht, Conv.intToInt, IntWalk.i64_in n (by omega)]
end
theorem wl_rem {c : Cx} {rs : List (Nat × AV)} {hs : List HA} {Q : Exit → S → Prop} {ops : Array Oper} {tl : List Oper} {d : Nat} {ty : TypeId} {pos : String} {af : Array Edge} {x y : Operand} {m n : Int} {t t' : TypeId} (hx : opv rs x = some (.val (.int .i64 m))) (hy : opv rs y = some (.val (.int .i64 n))) (h0 : 0 < n) (h1 : 0 ≤ m) (h2 : m ≤ 9223372036854775807) (hd : Nat.blt d c.nt = true) (k : WL c ops tl ⟨(d, .val (.int .i64 (m % n))) :: rs, hs⟩ Q) : WL c ops (⟨some d, .binOp .rem t x y t', ty, pos, af, none⟩ :: tl) ⟨rs, hs⟩ Q := wl_ex (lt_rem hx hy h0 h1 h2) hd k
end Go.Proofs.YtihonljdanjfmaaGreatDoor.Sw
namespace Go.Proofs.YtihonljdanjfmaaGreatDoor.Sw
open Go.RowKit Go Go.Shelf Go.Proofs
end Go.Proofs.YtihonljdanjfmaaGreatDoor.Sw
namespace Go.Proofs.YtihonljdanjfmaaGreatDoor.Gr
open Go.Proofs.YtihonljdanjfmaaGreatDoor.Sw (Pay)
end Go.Proofs.YtihonljdanjfmaaGreatDoor.Gr
namespace Go.Proofs.YtihonljdanjfmaaGreatDoor.Sw
open Go.RowKit Go
section
variable {P : Program} {rs : List (Nat × AV)} {d : Option Nat} {ty : TypeId} {pos : String} {af : Array Edge} {g : Option (Nat × Bool)}
end
section
variable {c : Cx} {rs : List (Nat × AV)} {hs : List HA} {Q : Exit → S → Prop} {ops : Array Oper} {tl : List Oper} {d : Nat} {ty : TypeId} {pos : String} {af : Array Edge}
end
end Go.Proofs.YtihonljdanjfmaaGreatDoor.Sw
namespace Go.Proofs.YtihonljdanjfmaaGreatDoor.Sw
open Go.RowKit Go
open Go.WideElems (Fit)
open Go.ChangeMaps (setBlock heap_setBlock_same heap_setBlock_other)
section
variable {κ α : Type} [DecidableEq κ]
end
section
variable {κ α : Type} (kv : κ → Value) (g : α → AV)
variable {kv g}
variable (kv g)
variable {kv g}
end
section
variable {P : Program} {κ α : Type} [DecidableEq κ] {t : TypeId} {kv : κ → Value} {ok : κ → Prop} {g : α → AV} {l : List (κ × α)} {G : Nat → Option Obj} {F : List Nat} {w : World} {v : Value}
variable {rs : List (Nat × AV)} {d : Option Nat} {ty : TypeId} {pos : String} {af : Array Edge} {gd : Option (Nat × Bool)}
end
section
variable {c : Cx} {rs : List (Nat × AV)} {hs : List HA} {Q : Exit → S → Prop} {ops : Array Oper} {tl : List Oper} {d : Nat} {ty : TypeId} {pos : String} {af : Array Edge} {κ α : Type} [DecidableEq κ] {t : TypeId} {kv : κ → Value} {ok : κ → Prop} {g : α → AV} {l : List (κ × α)} {v : Value}
end
end Go.Proofs.YtihonljdanjfmaaGreatDoor.Sw
namespace Go.Proofs.YtihonljdanjfmaaGreatDoor.Sw
open Go.RowKit Go
section
variable {P : Program} {rs : List (Nat × AV)} {d : Option Nat} {ty : TypeId} {pos : String} {af : Array Edge} {g : Option (Nat × Bool)}
end
section
variable {c : Cx} {rs : List (Nat × AV)} {hs : List HA} {Q : Exit → S → Prop} {ops : Array Oper} {tl : List Oper} {d : Nat} {ty : TypeId} {pos : String} {af : Array Edge}
end
end Go.Proofs.YtihonljdanjfmaaGreatDoor.Sw
namespace Go.Proofs.YtihonljdanjfmaaGreatDoor.Sw
open Go.RowKit Go Go.Shelf Go.Proofs
theorem quNe (x y : Qu) : (!decide ([x.a, x.b] = [y.a, y.b])) = !decide (x = y) := by
 congr 1
 refine decide_eq_decide.2 ?_
 cases x; cases y; simp
theorem stNe (x y : Stk) : (!decide ([x.fl, x.pt] = [y.fl, y.pt])) = !decide (x = y) := by
 congr 1
 refine decide_eq_decide.2 ?_
 cases x; cases y; simp
theorem take_succ_eq {α : Type} {xs ys : List α} {k : Nat} (h : xs.take k = ys.take k) (h1 : k < xs.length) (h2 : k < ys.length) (e : xs[k] = ys[k]) : xs.take (k + 1) = ys.take (k + 1) := by
 rw [List.take_succ_eq_append_getElem h1, List.take_succ_eq_append_getElem h2, h, e]
theorem take_all_eq {α : Type} {xs ys : List α} {k : Nat} (h : xs.take k = ys.take k) (h1 : xs.length ≤ k) (h2 : ys.length ≤ k) : xs = ys := by
 rwa [List.take_of_length_le h1, List.take_of_length_le h2] at h
theorem same8_con (f g : Flo) (hS : Sml f) (hT : Sml g) : Con Tryz.prog 40 [.agg (flC f), .agg (flC g)] [] (Is (.val (.bool (decide (f = g)))) []) := by
 have hidsl := hS.ids
 have hqsl := hS.qs
 have hbsl := hS.bs
 have hpsl := hS.ps
 have hidsl2 := hT.ids
 have hpsl2 := hT.ps
 refine con_of Tryz.func40 rfl (enters_of Tryz.func40 (by kernel_rfl) rfl) rfl ?_; intro n w0 F0 G0
 refine zS ?_;repeat(refine yA ?_;intro p hp;refine zS ?_)
 rename_i pf hpf
 (first | (apply wl_call (sameInts8_con f.ids g.ids (by omega) (by omega)); exact rfl; exact rfl) | (apply wl_callR (sameInts8_con f.ids g.ids (by omega) (by omega)); exact rfl; exact zM; exact rfl))
 refine zS ?_;repeat(refine yA ?_;intro p hp;refine zS ?_)
 refine wl_part rfl rfl (fun g1 => ?_) (fun g1 => ?_)
 ·have hne : f ≠ g := by intro e; subst e; simp at g1
  refine zS ?_;repeat(refine yA ?_;intro p hp;refine zS ?_)
  (apply res1; exact rfl; exact rfl; exact ⟨(congrArg (fun b => AV.val (Value.bool b)) (by simp [hne])), rfl⟩)
 ·have e1 : f.ids = g.ids := by simpa using g1
  refine zS ?_;repeat(refine yA ?_;intro p hp;refine zS ?_)
  refine wl_part rfl rfl (fun g2 => ?_) (fun g2 => ?_)
  ·have hne : f ≠ g := by intro e; subst e; simp at g2
   refine zS ?_;repeat(refine yA ?_;intro p hp;refine zS ?_)
   (apply res1; exact rfl; exact rfl; exact ⟨(congrArg (fun b => AV.val (Value.bool b)) (by simp [hne])), rfl⟩)
  ·have e2 : f.qs.length = g.qs.length := by simp at g2; omega
   refine zS ?_;repeat(refine yA ?_;intro p hp;refine zS ?_)
   refine wl_part rfl rfl (fun g3 => ?_) (fun g3 => ?_)
   ·have hne : f ≠ g := by intro e; subst e; simp at g3
    refine zS ?_;repeat(refine yA ?_;intro p hp;refine zS ?_)
    (apply res1; exact rfl; exact rfl; exact ⟨(congrArg (fun b => AV.val (Value.bool b)) (by simp [hne])), rfl⟩)
   ·have e3 : f.bs.length = g.bs.length := by simp at g3; omega
    refine zS ?_;repeat(refine yA ?_;intro p hp;refine zS ?_)
    (first | (apply wl_call (samePays_con f.ps g.ps (by omega) (by omega)); exact rfl; exact rfl) | (apply wl_callR (samePays_con f.ps g.ps (by omega) (by omega)); exact rfl; exact zM; exact rfl))
    refine zS ?_;repeat(refine yA ?_;intro p hp;refine zS ?_)
    refine w_cond rfl (fun g4 => ?_) (fun g4 => ?_)
    ·have hne : f ≠ g := by intro e; subst e; simp at g4
     refine zS ?_;repeat(refine yA ?_;intro p hp;refine zS ?_)
     (apply res1; exact rfl; exact rfl; exact ⟨(congrArg (fun b => AV.val (Value.bool b)) (by simp [hne])), rfl⟩)
    ·have e4 : f.ps = g.ps := by simpa using g4
     refine zS ?_;repeat(refine yA ?_;intro p hp;refine zS ?_)
     refine W_loopJ (fun (k : Nat) => ⟨[(2, .val pf), (3, .val p), (5, .val (.int .i64 k))], [.box pf (flC f) 27, .box p (flC g) 27]⟩) (fun k => k ≤ f.qs.length ∧ f.qs.take k = g.qs.take k) (fun k => f.qs.length - k) 0 (fun _ _ st => st_sub2 st zR zP) ?hj0 ?round
     case hj0 => simp
     case round =>
      rintro k ⟨hk, hall⟩
      refine zS ?_;repeat(refine yA ?_;intro p hp;refine zS ?_)
      refine w_cond rfl (fun hlt => ?_) (fun hlt => ?_)
      ·have hlt' : k < f.qs.length := by simpa using hlt
       have hlt2 : k < g.qs.length := by omega
       have hq1 : f.qs[k]? = some f.qs[k] := List.getElem?_eq_getElem hlt'
       have hq2 : g.qs[k]? = some g.qs[k] := List.getElem?_eq_getElem hlt2
       refine zS ?_;repeat(refine yA ?_;intro p hp;refine zS ?_)
       refine W_run 10 [49, 50, 51, 52, 53, 54, 55, 56, 57, 58] [0, 1, 2, 3, 4, 5, 6, 7, 8, 9] Cut.nil rfl goFlt mixedS (by kernel_rfl) rfl ?_
       refine rpv [] [] ?_
       refine rpv [0] [] ?_
       refine rpv [] [] ?_
       refine rpv [1, 2] [] ?_
       refine rpv [3] [] ?_
       refine rpv [] [] ?_
       refine rpv [5] [] ?_
       refine rpv [] [] ?_
       refine rpv [6, 7] [] ?_
       refine rpv [8] [] ?_
       refine ⟨⟨by kernel_rfl, by kernel_rfl⟩, fun vs => ?_⟩
       refine WL_to [(2, .val pf), (3, .val p), (5, .val (.int .i64 k)), (53, .agg (quC f.qs[k])), (58, .agg (quC g.qs[k]))] [.box pf (flC f) 27, .box p (flC g) 27] (by kernel_rfl) (by kernel_rfl) ?_
       refine zS ?_;repeat(refine yA ?_;intro p hp;refine zS ?_)
       rw [quNe]
       refine w_cond rfl (fun hg => ?_) (fun hg => ?_)
       ·have hne : f ≠ g := by intro e; subst e; simp at hg
        refine zS ?_;repeat(refine yA ?_;intro p hp;refine zS ?_)
        (apply res1; exact rfl; exact rfl; exact ⟨(congrArg (fun b => AV.val (Value.bool b)) (by simp [hne])), rfl⟩)
       ·refine zS ?_;repeat(refine yA ?_;intro p hp;refine zS ?_)
        (refine ⟨k + 1, fun _ _ st => st_sub2 st ?_ ?_, ?_, ?_⟩; exact zR; exact zP)
        ·exact ⟨by omega, take_succ_eq hall hlt' hlt2 (by simpa using hg)⟩
        ·omega
      ·have e5 : f.qs = g.qs := take_all_eq hall (by simp at hlt; omega) (by simp at hlt; omega)
       refine zS ?_;repeat(refine yA ?_;intro p hp;refine zS ?_)
       refine W_loopJ (fun (k : Nat) => ⟨[(2, .val pf), (3, .val p), (6, .val (.int .i64 k))], [.box pf (flC f) 27, .box p (flC g) 27]⟩) (fun k => k ≤ f.bs.length ∧ f.bs.take k = g.bs.take k) (fun k => f.bs.length - k) 0 (fun _ _ st => st_sub2 st zR zP) ?hj0 ?round
       case hj0 => simp
       case round =>
        clear hlt hall hk k
        rintro k ⟨hk, hall⟩
        refine zS ?_;repeat(refine yA ?_;intro p hp;refine zS ?_)
        refine w_cond rfl (fun hlt => ?_) (fun hlt => ?_)
        ·have hlt' : k < f.bs.length := by simpa using hlt
         have hlt2 : k < g.bs.length := by omega
         have hq1 : f.bs[k]? = some f.bs[k] := List.getElem?_eq_getElem hlt'
         have hq2 : g.bs[k]? = some g.bs[k] := List.getElem?_eq_getElem hlt2
         have hsl1 := hS.st _ (List.getElem_mem hlt')
         have hsl2 := hT.st _ (List.getElem_mem hlt2)
         refine zS ?_;repeat(refine yA ?_;intro p hp;refine zS ?_)
         refine W_run 13 [67, 68, 69, 70, 71, 72, 73, 74, 75, 76, 7, 8, 1000012] [0, 1, 2, 3, 4, 5, 6, 7, 8, 9, 11, 12] Cut.nil rfl goFlt mixedS (by kernel_rfl) rfl ?_
         refine rpv [] [] ?_
         refine rpv [0] [] ?_
         refine rpv [] [] ?_
         refine rpv [1, 2] [] ?_
         refine rpv [3] [] ?_
         refine rpv [] [] ?_
         refine rpv [5] [] ?_
         refine rpv [] [] ?_
         refine rpv [6, 7] [] ?_
         refine rpv [8] [] ?_
         refine Run.tok [] [] rfl (fun vs => by apply ltr_pk; exact goPk; exact goLtr) goApp ?_
         refine Run.tok [] [] rfl (fun vs => by apply ltr_pk; exact goPk; exact goLtr) goApp ?_
         refine Run.fx [4, 10] [10] 10 (fun q => [.box q (biC f.bs[k]) 49]) rfl (fun vs => by apply ltr_pk; exact goPk; (refine ltr ?_; apply LT.fx; apply lt_store (av := .agg (biC f.bs[k])); (first | exact .inl rfl | exact .inr ⟨rfl, rfl⟩); exact rfl; exact rfl; exact (of_decide_eq_true rfl); exact rfl)) goApp ?_
         refine ⟨⟨by kernel_rfl, by kernel_rfl⟩, fun vs => ?_⟩
         refine WL_to [(2, .val pf), (3, .val p), (6, .val (.int .i64 k)), (7, .val (vs 10)), (8, .val (vs 11)), (76, .agg (biC g.bs[k]))] [.box (vs 11) [.val (.int .i64 0), .val (.int .i64 0), .val (.int .i64 0), .val (.slice none 0 0)] 49, .box (vs 10) (biC f.bs[k]) 49, .box pf (flC f) 27, .box p (flC g) 27] (by kernel_rfl) (by kernel_rfl) ?_
         generalize vs 10 = q1
         generalize vs 11 = q2
         refine zS ?_;repeat(refine yA ?_;intro p hp;refine zS ?_)
         refine zS ?_;repeat(refine yA ?_;intro p hp;refine zS ?_)
         refine wl_part rfl rfl (fun i1 => ?_) (fun i1 => ?_)
         ·have hne : f ≠ g := by intro e; subst e; simp at i1
          refine zS ?_;repeat(refine yA ?_;intro p hp;refine zS ?_)
          (apply res1; exact rfl; exact rfl; exact ⟨(congrArg (fun b => AV.val (Value.bool b)) (by simp [hne])), rfl⟩)
         ·have j1 : f.bs[k].no = g.bs[k].no := by simpa using i1
          refine zS ?_;repeat(refine yA ?_;intro p hp;refine zS ?_)
          refine wl_part rfl rfl (fun i2 => ?_) (fun i2 => ?_)
          ·have hne : f ≠ g := by intro e; subst e; simp at i2
           refine zS ?_;repeat(refine yA ?_;intro p hp;refine zS ?_)
           (apply res1; exact rfl; exact rfl; exact ⟨(congrArg (fun b => AV.val (Value.bool b)) (by simp [hne])), rfl⟩)
          ·have j2 : f.bs[k].py = g.bs[k].py := by simpa using i2
           refine zS ?_;repeat(refine yA ?_;intro p hp;refine zS ?_)
           refine wl_part rfl rfl (fun i3 => ?_) (fun i3 => ?_)
           ·have hne : f ≠ g := by intro e; subst e; simp at i3
            refine zS ?_;repeat(refine yA ?_;intro p hp;refine zS ?_)
            (apply res1; exact rfl; exact rfl; exact ⟨(congrArg (fun b => AV.val (Value.bool b)) (by simp [hne])), rfl⟩)
           ·have j3 : f.bs[k].pe = g.bs[k].pe := by simpa using i3
            refine zS ?_;repeat(refine yA ?_;intro p hp;refine zS ?_)
            refine w_cond rfl (fun i4 => ?_) (fun i4 => ?_)
            ·have hne : f ≠ g := by intro e; subst e; simp at i4
             refine zS ?_;repeat(refine yA ?_;intro p hp;refine zS ?_)
             (apply res1; exact rfl; exact rfl; exact ⟨(congrArg (fun b => AV.val (Value.bool b)) (by simp [hne])), rfl⟩)
            ·have j4 : f.bs[k].st.length = g.bs[k].st.length := by simp at i4; omega
             refine zS ?_;repeat(refine yA ?_;intro p hp;refine zS ?_)
             refine W_loopJ (fun (m : Nat) => ⟨[(2, .val pf), (3, .val p), (6, .val (.int .i64 k)), (7, .val q1), (8, .val q2), (9, .val (.int .i64 m))], [.box q1 (biC f.bs[k]) 49, .box q2 (biC g.bs[k]) 49, .box pf (flC f) 27, .box p (flC g) 27]⟩) (fun m => m ≤ f.bs[k].st.length ∧ f.bs[k].st.take m = g.bs[k].st.take m) (fun m => f.bs[k].st.length - m) 0 (fun _ _ st => st_sub2 st zR zP) ?hj0 ?round
             case hj0 => simp
             case round =>
              rintro m ⟨hm, hal⟩
              refine zS ?_;repeat(refine yA ?_;intro p hp;refine zS ?_)
              refine w_cond rfl (fun hlm => ?_) (fun hlm => ?_)
              ·have hlm' : m < f.bs[k].st.length := by simpa using hlm
               have hlm2 : m < g.bs[k].st.length := by omega
               have hp1 : f.bs[k].st[m]? = some f.bs[k].st[m] := List.getElem?_eq_getElem hlm'
               have hp2 : g.bs[k].st[m]? = some g.bs[k].st[m] := List.getElem?_eq_getElem hlm2
               refine zS ?_;repeat(refine yA ?_;intro p hp;refine zS ?_)
               refine W_run 10 [112, 113, 114, 115, 116, 117, 118, 119, 120, 121] [0, 1, 2, 3, 4, 5, 6, 7, 8, 9] Cut.nil rfl goFlt mixedS (by kernel_rfl) rfl ?_
               refine rpv [] [] ?_
               refine rpv [0] [] ?_
               refine rpv [] [] ?_
               refine rpv [1, 2] [] ?_
               refine rpv [3] [] ?_
               refine rpv [] [] ?_
               refine rpv [5] [] ?_
               refine rpv [] [] ?_
               refine rpv [6, 7] [] ?_
               refine rpv [8] [] ?_
               refine ⟨⟨by kernel_rfl, by kernel_rfl⟩, fun vs => ?_⟩
               refine WL_to [(2, .val pf), (3, .val p), (6, .val (.int .i64 k)), (7, .val q1), (8, .val q2), (9, .val (.int .i64 m)), (116, .agg (stC f.bs[k].st[m])), (121, .agg (stC g.bs[k].st[m]))] [.box q1 (biC f.bs[k]) 49, .box q2 (biC g.bs[k]) 49, .box pf (flC f) 27, .box p (flC g) 27] (by kernel_rfl) (by kernel_rfl) ?_
               refine zS ?_;repeat(refine yA ?_;intro p hp;refine zS ?_)
               rw [stNe]
               refine w_cond rfl (fun hg => ?_) (fun hg => ?_)
               ·have hne : f ≠ g := by intro e; subst e; simp at hg
                refine zS ?_;repeat(refine yA ?_;intro p hp;refine zS ?_)
                (apply res1; exact rfl; exact rfl; exact ⟨(congrArg (fun b => AV.val (Value.bool b)) (by simp [hne])), rfl⟩)
               ·refine zS ?_;repeat(refine yA ?_;intro p hp;refine zS ?_)
                (refine ⟨m + 1, fun _ _ st => st_sub2 st ?_ ?_, ?_, ?_⟩; exact zR; exact zP)
                ·exact ⟨by omega, take_succ_eq hal hlm' hlm2 (by simpa using hg)⟩
                ·omega
              ·have e6 : f.bs[k].st = g.bs[k].st := take_all_eq hal (by simp at hlm; omega) (by simp at hlm; omega)
               refine zS ?_;repeat(refine yA ?_;intro p hp;refine zS ?_)
               (refine ⟨k + 1, fun _ _ st => st_sub2 st ?_ ?_, ?_, ?_⟩; exact zR; exact zP)
               ·refine ⟨by omega, take_succ_eq hall hlt' hlt2 ?_⟩
                revert j1 j2 j3 e6
                generalize f.bs[k] = x
                generalize g.bs[k] = y
                intro j1 j2 j3 e6
                cases x; cases y; simp_all
               ·omega
        ·have e7 : f.bs = g.bs := take_all_eq hall (by simp at hlt; omega) (by simp at hlt; omega)
         have he : f = g := by cases f; cases g; simp_all
         refine zS ?_;repeat(refine yA ?_;intro p hp;refine zS ?_)
         (apply res1; exact rfl; exact rfl; exact ⟨(congrArg (fun b => AV.val (Value.bool b)) (by simp [he])), rfl⟩)
end Go.Proofs.YtihonljdanjfmaaGreatDoor.Sw
namespace Go.Proofs.YtihonljdanjfmaaGreatDoor.Sw
open Go.RowKit Go Go.Shelf Go.Proofs
open Go.Proofs.YtihonljdanjfmaaGreatDoor.Gr (payLt)
section
variable {P : Program} {rs : List (Nat × AV)} {d : Option Nat} {ty : TypeId} {pos : String} {af : Array Edge} {g : Option (Nat × Bool)}
end
section
variable {c : Cx} {rs : List (Nat × AV)} {hs : List HA} {Q : Exit → S → Prop} {ops : Array Oper} {tl : List Oper} {d : Nat} {ty : TypeId} {pos : String} {af : Array Edge}
end
end Go.Proofs.YtihonljdanjfmaaGreatDoor.Sw
namespace Go.Proofs.YtihonljdanjfmaaGreatDoor.Sw
open Go.RowKit Go
section
variable {P : Program} {rs : List (Nat × AV)} {d : Option Nat} {ty : TypeId} {pos : String} {af : Array Edge} {g : Option (Nat × Bool)}
end
section
variable {c : Cx} {rs : List (Nat × AV)} {hs r : List HA} {Q : Exit → S → Prop} {ops : Array Oper} {tl : List Oper} {d : Nat} {ty : TypeId} {pos : String} {af : Array Edge}
end
end Go.Proofs.YtihonljdanjfmaaGreatDoor.Sw
namespace Go.Proofs.YtihonljdanjfmaaGreatDoor.Sw
open Go.RowKit Go Go.Shelf Go.Proofs
end Go.Proofs.YtihonljdanjfmaaGreatDoor.Sw
namespace Go.Proofs.YtihonljdanjfmaaGreatDoor.Sw
open Go.RowKit Go
open Go.WideElems (Fit)
open Go.ChangeMaps (setBlock heap_setBlock_same heap_setBlock_other)
section
variable {P : Program} {κ α : Type} [DecidableEq κ] {t : TypeId} {kv : κ → Value} {ok : κ → Prop} {g : α → AV} {l : List (κ × α)} {G : Nat → Option Obj} {F : List Nat} {w : World} {v : Value}
variable {rs : List (Nat × AV)} {d : Option Nat} {ty : TypeId} {pos : String} {af : Array Edge} {gd : Option (Nat × Bool)}
end
section
variable {c : Cx} {rs : List (Nat × AV)} {hs : List HA} {Q : Exit → S → Prop} {ops : Array Oper} {tl : List Oper} {d : Nat} {ty : TypeId} {pos : String} {af : Array Edge} {κ α : Type} [DecidableEq κ] {t : TypeId} {kv : κ → Value} {ok : κ → Prop} {g : α → AV} {l : List (κ × α)} {v : Value}
end
end Go.Proofs.YtihonljdanjfmaaGreatDoor.Sw
namespace Go.Proofs.YtihonljdanjfmaaGreatDoor.Sw
open Go.RowKit Go Go.Shelf Go.Proofs
theorem strike1_con (x : MB) (m : Int) : Con Tryz.prog 87 [.agg (tkC x), .fp 1 [.val (.int .i64 m)]] [] (Is (.val (.bool (decide (x.1.no = m)))) []) := by
 refine con_of Tryz.func87 rfl (enters_of Tryz.func87 (by kernel_rfl) rfl) rfl ?_; intro n w0 F0 G0
 refine zS ?_;repeat(refine yA ?_;intro p hp;refine zS ?_)
 (apply res1; exact rfl; exact rfl; exact ⟨rfl, rfl⟩)
theorem indexFuncM_con (v : Value) (xs : List MB) (k : FuncId) (caps : List AV) (p : MB → Bool) (hl : xs.length ≤ 1000000) (hc : ∀ x, Con Tryz.prog k ([.agg (tkC x)] ++ caps) [] (Is (.val (.bool (p x))) [])) : Con Tryz.prog 65 [.val v, .clo k caps] [.row v 49 4 tkC xs] (Is (.val (.int .i64 (fiX p xs))) [.row v 49 4 tkC xs]) := by
 refine con_of Tryz.func65 rfl (enters_of Tryz.func65 (by kernel_rfl) rfl) rfl ?_; intro n w0 F0 G0
 refine zS ?_
 refine W_loopJ (fun (m : Nat) => ⟨[(0, .val v), (1, .clo k caps), (7, .val (.int .i64 xs.length)), (8, .val (.int .i64 m))], [.row v 49 4 tkC xs]⟩) (fun m => m ≤ xs.length ∧ (xs.take m).any p = false) (fun m => xs.length - m) 0 (fun _ _ st => st_sub2 st zR zP) ?hj0 ?round
 case hj0 => simp
 case round =>
  rintro m ⟨hk, hno⟩
  refine zS ?_
  refine w_cond rfl (fun hlt => ?_) (fun hlt => ?_)
  ·have hlt' : m < xs.length := by simpa using hlt
   refine zS ?_
   (apply wl_callV (hc xs[m]); exact rfl; exact rfl; exact rfl)
   refine zS ?_
   refine w_cond rfl (fun he => ?_) (fun he => ?_)
   ·refine zS ?_
    (apply resK1; exact rfl; exact rfl; exact ⟨(congrArg (fun b => AV.val (Value.int .i64 b)) (fiX_at hlt' hno he).symm), rfl⟩; exact yC)
   ·refine zS ?_
    (refine ⟨m + 1, fun _ _ st => st_sub2 st ?_ ?_, ?_, ?_⟩; exact zR; exact zP)
    ·refine ⟨by omega, ?_⟩
     rw [List.take_succ_eq_append_getElem hlt', List.any_append, hno]
     simpa using he
    ·omega
  ·refine zS ?_
   have hkk : m = xs.length := by simp at hlt; omega
   subst hkk
   rw [List.take_length] at hno
   (apply resK1; exact rfl; exact rfl; exact ⟨(congrArg (fun b => AV.val (Value.int .i64 b)) (fiX_none hno).symm), rfl⟩; exact yC)
instance tyzB : TyZ Tryz.prog 49 [.int .i64 0, .int .i64 0, .int .i64 0, .slice none 0 0] := inferInstance
theorem deleteFuncM_con (v : Value) (xs : List MB) (k : FuncId) (caps : List AV) (d : MB → Bool) (hl : xs.length ≤ 100000) (hc : ∀ x, Con Tryz.prog k ([.agg (tkC x)] ++ caps) [] (Is (.val (.bool (d x))) [])) : Con Tryz.prog 86 [.val v, .clo k caps] [.row v 49 4 tkC xs] (Tok 49 4 tkC (xs.filter fun x => !d x)) := by
 refine con_of Tryz.func86 rfl (enters_of Tryz.func86 (by kernel_rfl) rfl) rfl ?_; intro n w0 F0 G0
 refine zS ?_;repeat(refine yA ?_;intro p hp;refine zS ?_)
 (apply wl_callP (indexFuncM_con v xs k caps d (by omega) hc); exact rfl; exact yC; exact rfl)
 rintro _ _ ⟨rfl, rfl⟩
 cases ha : xs.any d with
 | false =>
  rw [fiX_none ha]
  have hf : (xs.filter fun x => !d x) = xs := List.filter_eq_self.2 fun x hx => by simpa using List.any_eq_false.1 ha x hx
  rw [hf]
  refine zS ?_;repeat(refine yA ?_;intro p hp;refine zS ?_)
  (apply resK1; exact rfl; exact rfl; exact ⟨_, rfl, rfl⟩; exact yC)
 | true =>
  have hlt : xs.findIdx d < xs.length := List.findIdx_lt_length_of_exists (List.any_eq_true.1 ha)
  have hget : d xs[xs.findIdx d] = true := List.findIdx_getElem (w := hlt)
  have hbef : ∀ x ∈ xs.take (xs.findIdx d), d x = false := fun x hx => by
   obtain ⟨i, hi, rfl⟩ := List.mem_iff_getElem.1 hx
   rw [List.length_take] at hi
   rw [List.getElem_take]
   simpa using List.not_of_lt_findIdx (p := d) (xs := xs) (i := i) (by omega)
  rw [show fiX d xs = (xs.findIdx d : Nat) by unfold fiX; rw [if_pos ha]]
  generalize xs.findIdx d = i0 at *
  have hft : (xs.take (i0 + 1)).filter (fun x => !d x) = xs.take i0 := by
   rw [List.take_succ_eq_append_getElem hlt, List.filter_append, List.filter_eq_self.2 (fun x hx => by simpa using hbef x hx), List.filter_cons, if_neg (by rw [hget]; simp)]; simp
  have hx0 : xs = (xs.take (i0 + 1)).filter (fun x => !d x) ++ [xs[i0]] ++ xs.drop (i0 + 1) := by
   rw [hft, List.append_assoc, List.singleton_append, ← List.drop_eq_getElem_cons hlt, List.take_append_drop]
  have hl0 : ((xs.take (i0 + 1)).filter (fun x => !d x)).length = i0 := by rw [hft, List.length_take]; omega
  have hst : ∀ {c : Cx} {rs : List (Nat × AV)} {hs r : List HA} {a : Act} {w : World}, Rm hs (.row v 49 4 tkC xs) r → St c ⟨rs, hs⟩ a w → St c ⟨rs, .row v 49 4 tkC ((xs.take (i0 + 1)).filter (fun x => !d x) ++ [xs[i0]] ++ xs.drop (i0 + 1)) :: r⟩ a w := fun hr st => by
   rw [← hx0]
   obtain ⟨G, F, hI, rr⟩ := st
   exact ⟨G, F, ⟨hI.gin, hI.nd, hI.own, hr.sel hI.hs⟩, rr⟩
  refine zS ?_;repeat(refine yA ?_;intro p hp;refine zS ?_)
  refine W_loopJ (fun (b : Nat × List MB) => ⟨[(0, .val v), (1, .clo k caps), (5, .val (.int .i64 ((xs.take b.1).filter fun x => !d x).length)), (6, .val (.int .i64 b.1))], [.row v 49 4 tkC ((xs.take b.1).filter (fun x => !d x) ++ b.2 ++ xs.drop b.1)]⟩) (fun b => b.1 ≤ xs.length ∧ ((xs.take b.1).filter fun x => !d x).length + b.2.length = b.1 ∧ b.2 ≠ []) (fun b => xs.length - b.1) (i0 + 1, [xs[i0]]) (fun _ _ st => st_sub2 (hst (by exact zN) st) (by dsimp only; rw [hl0]; exact zR) (by exact zP)) ⟨by dsimp only; omega, by dsimp only; rw [hl0]; rfl, by simp⟩ ?_
  clear hst hx0 hl0 hft hbef hget hlt ha
  rintro ⟨j, M⟩ ⟨hj, hjm, hM⟩
  dsimp only at hj hjm hM ⊢
  have hrl : ((xs.take j).filter (fun x => !d x) ++ M ++ xs.drop j).length = xs.length := by simp only [List.length_append, List.length_drop]; omega
  obtain ⟨R, hR⟩ : ∃ R, R = (xs.take j).filter (fun x => !d x) ++ M ++ xs.drop j := ⟨_, rfl⟩
  rw [← hR] at hrl ⊢
  refine zS ?_;repeat(refine yA ?_;intro p hp;refine zS ?_)
  rw [hrl]
  refine w_cond rfl (fun hlt => ?_) (fun hlt => ?_)
  ·have hlt' : j < xs.length := by simpa using hlt
   have hjR : j < R.length := by omega
   have htk : xs.take (j + 1) = xs.take j ++ [xs[j]] := List.take_succ_eq_append_getElem hlt'
   have hdr : xs.drop j = xs[j] :: xs.drop (j + 1) := List.drop_eq_getElem_cons hlt'
   have hRj : R[j] = xs[j] := by
    have h : R[j]? = some xs[j] := by
     rw [hR, List.getElem?_append_right (by rw [List.length_append]; omega), List.length_append, hjm, Nat.sub_self, hdr]; rfl
    rw [List.getElem?_eq_getElem hjR] at h; exact Option.some.inj h
   generalize hx : xs[j] = x at *
   have hfl : ((xs.take j).filter fun x => !d x).length < R.length := by
    have : 0 < M.length := List.length_pos_iff.2 hM
    omega
   refine zS ?_;repeat(refine yA ?_;intro p hp;refine zS ?_)
   rw [hRj]
   refine WL_as 27 (.agg (tkC x)) rfl ?_
   (apply wl_callV (hc x); exact rfl; exact rfl; exact rfl)
   cases hdx : d x with
   | true =>
    have hfk : (xs.take (j + 1)).filter (fun x => !d x) = (xs.take j).filter (fun x => !d x) := by
     rw [htk, List.filter_append, List.filter_cons, if_neg (by rw [hdx]; simp)]; simp
    have hR2 : R = (xs.take (j + 1)).filter (fun x => !d x) ++ (M ++ [x]) ++ xs.drop (j + 1) := by
     rw [hfk, hR, hdr]; simp
    refine zS ?_;repeat(refine yA ?_;intro p hp;refine zS ?_)
    refine ⟨(j + 1, M ++ [x]), fun _ _ st => st_sub2 st ?_ ?_, ?_, ?_⟩
    ·dsimp only; rw [hfk]; exact zR
    ·rw [hR2]; exact zP
    ·refine ⟨by dsimp only; omega, ?_, by simp⟩
     dsimp only; rw [hfk, List.length_append, List.length_singleton]; omega
    ·dsimp only; omega
   | false =>
    have hfk : (xs.take (j + 1)).filter (fun x => !d x) = (xs.take j).filter (fun x => !d x) ++ [x] := by
     rw [htk, List.filter_append, List.filter_cons, if_pos (by rw [hdx]; rfl)]; rfl
    refine zS ?_;repeat(refine yA ?_;intro p hp;refine zS ?_)
    refine WL_as 32 (.agg (tkC x)) rfl ?_
    apply wl_storeRNx x
    ·exact rfl
    ·exact zM
    ·exact rfl
    ·exact inferInstance
    ·exact inferInstance
    ·exact hfl
    ·rfl
    cases M with
    | nil => exact absurd rfl hM
    | cons m0 M1 =>
     have hset : R.set ((xs.take j).filter fun x => !d x).length x = (xs.take (j + 1)).filter (fun x => !d x) ++ (M1 ++ [x]) ++ xs.drop (j + 1) := by
      rw [hfk, hR, hdr, List.append_assoc, List.set_append_right _ _ (Nat.le_refl _), Nat.sub_self]; simp
     rw [hset]
     have hfl2 : (((xs.take j).filter fun x => !d x).length : Int) + 1 = (((xs.take (j + 1)).filter fun x => !d x).length : Nat) := by rw [hfk, List.length_append, List.length_singleton]; omega
     refine zS ?_;repeat(refine yA ?_;intro p hp;refine zS ?_)
     refine ⟨(j + 1, M1 ++ [x]), fun _ _ st => st_sub2 st ?_ ?_, ?_, ?_⟩
     ·dsimp only; rw [← hfl2]; exact zR
     ·exact zP
     ·refine ⟨by dsimp only; omega, ?_, by simp⟩
      simp only [List.length_cons] at hjm
      dsimp only; rw [hfk, List.length_append, List.length_singleton, List.length_append, List.length_singleton]; omega
     ·dsimp only; omega
  ·have hkk : j = xs.length := by simp at hlt; omega
   subst hkk
   rw [List.take_length] at hR hjm ⊢
   rw [List.drop_length, List.append_nil] at hR
   generalize xs.filter (fun x => !d x) = F at *
   have hRne : R ≠ [] := by
    intro e
    rw [e] at hR
    cases M with
    | nil => exact hM rfl
    | cons a t => simp at hR
   have hFR : F.length + M.length = xs.length := hjm
   have hRl : R.length = xs.length := hrl
   refine zS ?_;repeat(refine yA ?_;intro p hp;refine zS ?_)
   refine WL_openRow (v := v) (e := 49) (n := 4) (f := tkC) (xs := R) hRne (by exact zN) ?_
   intro b cap hv hnc hcm hlf
   subst hv
   rw [show R.flatMap tkC = F.flatMap tkC ++ M.flatMap tkC by rw [hR, List.flatMap_append]]
   apply WL_cutCells (cs := F.flatMap tkC) (ds := M.flatMap tkC)
   ·exact zN
   rw [hRl] at hnc ⊢
   (apply wl_sliceV (l := F.length) (h := xs.length); exact rfl; exact inferInstance; exact .inl rfl; exact rfl; exact .inr ⟨rfl, rfl⟩; exact rfl; omega; omega; omega; exact rfl)
   rw [fromV]
   refine zS ?_;repeat(refine yA ?_;intro p hp;refine zS ?_)
   (apply wl_clearV (n := 4) (j := F.length) (m := xs.length - F.length); exact rfl; exact zM; exact inferInstance; exact inferInstance; exact rfl; (intro u hu; simp at hu; rcases hu with rfl | rfl | rfl | rfl <;> rfl); (rw [lenL (f := tkC) (n := 4) (fun x hx => rfl)]); omega)
   refine zS ?_;repeat(refine yA ?_;intro p hp;refine zS ?_)
   (apply wl_sliceV (l := 0) (h := F.length) (li := 0); exact rfl; exact inferInstance; exact .inr ⟨rfl, rfl⟩; exact rfl; exact .inl rfl; exact rfl; omega; omega; omega; exact rfl)
   rw [toV]
   apply WL_shutRow (cap := cap) (b := b) (e := 49) (n := 4) (f := tkC) F (fun x _ => rfl) (by omega) hcm
   ·exact zN
   refine zS ?_;repeat(refine yA ?_;intro p hp;refine zS ?_)
   (apply resK1; exact rfl; exact rfl; exact ⟨_, rfl, rfl⟩; exact yC)
theorem WL_packSub {c : Cx} {rs : List (Nat × AV)} {hs r l a' b' : List HA} {Q : Exit → S → Prop} {ops : Array Oper} {tl : List Oper} (hp : l.Perm (a' ++ b')) (hr : Rm hs (.pack l) r) (k : WL c ops tl ⟨rs, .pack a' :: .pack b' :: r⟩ Q) : WL c ops tl ⟨rs, hs⟩ Q := ⟨fun a w st => by
 obtain ⟨G, F, hI, rr⟩ := st
 obtain ⟨F1, F2, e, h1, h2⟩ := hr.sel hI.hs
 obtain ⟨F3, F4, e2, h3, h4⟩ := hsP.split (hsP.permL hp h1)
 exact k.out a w ⟨G, F, ⟨hI.gin, hI.nd, hI.own, F3, F4 ++ F2, e.trans ((e2.append_right F2).trans (by rw [List.append_assoc])), h3, F4, F2, .refl _, h4, h2⟩, rr⟩⟩
def strikeR (f : Flo) (m : Int) : Flo × Int :=
 if floOk f = true then (if (f.bs.filter (fun y => !decide (y.no = m))).length = f.bs.length then (floE, 6) else ({ f with bs := f.bs.filter (fun y => !decide (y.no = m)) }, 0)) else (floE, 80)
theorem filter_map_fst (m : Int) (L : List MB) : (L.filter (fun p => !decide (p.1.no = m))).map (·.1) = (L.map (·.1)).filter (fun y => !decide (y.no = m)) := by
 rw [List.filter_map]; rfl
theorem strike_con (f : Flo) (m : Int) (hS : Sml f) : Con Tryz.prog 39 [.agg (flC f), .val (.int .i64 m)] [tab8] (FlP (strikeR f m)) := by
 have C := check_con f hS
 cases hok : floOk f with
 | false =>
  rw [show errF f = 80 by unfold errF; rw [hok]; rfl] at C
  rw [show strikeR f m = (floE, 80) by unfold strikeR; rw [hok]; rfl]
  refine con_of Tryz.func39 rfl (enters_of Tryz.func39 (by kernel_rfl) rfl) rfl ?_; intro n w0 F0 G0
  refine zS ?_;repeat(refine yA ?_;intro p hp;refine zS ?_)
  (first | (apply wl_call (C); exact rfl; exact rfl) | (apply wl_callR (C); exact rfl; exact zM; exact rfl))
  refine zS ?_
  (refine Res_add _ floE_own ?_; apply resKN1; exact rfl; exact rfl; exact zM; exact inferInstance; exact rfl; exact rfl; exact flP_nil _; exact yC)
 | true =>
  rw [show errF f = 0 by unfold errF; rw [hok]; rfl] at C
  have hbl := (flo_f hok).bs
  have hW : strikeR f m = if (f.bs.filter (fun y => !decide (y.no = m))).length = f.bs.length then (floE, 6) else ({ f with bs := f.bs.filter (fun y => !decide (y.no = m)) }, 0) := by unfold strikeR; rw [if_pos hok]
  rw [hW]
  refine con_of Tryz.func39 rfl (enters_of Tryz.func39 (by kernel_rfl) rfl) rfl ?_; intro n w0 F0 G0
  refine zS ?_;repeat(refine yA ?_;intro p hp;refine zS ?_)
  (first | (apply wl_call (C); exact rfl; exact rfl) | (apply wl_callR (C); exact rfl; exact zM; exact rfl))
  refine zS ?_
  (apply wl_callP (copied_con f hS); exact rfl; exact yC; exact rfl)
  rintro _ _ ⟨vi, vq, vb, vp, ⟨o1, o2, o3, o4⟩, rfl, rfl⟩
  apply WL_exs
  ·exact zN
  intro us
  apply WL_fact
  ·exact zN
  intro hus
  apply WL_packFact (l := stkR f.bs us) (p := ∀ u ∈ us, One (.val u)) (fun _ _ _ h => stkR_one hus h)
  ·exact zN
  intro hone
  obtain ⟨L, hL1, hL2⟩ := marry hus hone
  have e1 : HA.row vb 49 4 mbC (mixL f.bs us) = HA.row vb 49 4 tkC L := by
   rw [show f.bs = L.map (·.1) from hL1, hL2, row_tk]
  have e2 : stkR f.bs us = L.map stkH := by rw [show f.bs = L.map (·.1) from hL1, hL2, stkR_map]
  have hLl : L.length = f.bs.length := by have := congrArg List.length hL1; simp at this; omega
  rw [e1, e2]
  refine zS ?_
  (apply WL_frzC 21 0 1; exact rfl; exact rfl; exact zN)
  refine zS ?_
  (apply wl_callP (deleteFuncM_con vb L 87 [.fp 1 [.val (.int .i64 m)]] (fun y => decide (y.1.no = m)) (by omega) (fun y => strike1_con y m)); exact rfl; exact yC; exact rfl)
  rintro _ _ ⟨v', rfl, rfl⟩
  refine WL_one At.here (fun o5 => ?_)
  have hLm : (L.filter (fun p => !decide (p.1.no = m))).map (·.1) = f.bs.filter (fun y => !decide (y.no = m)) := by rw [hL1, filter_map_fst]
  have hLp : (L.map stkH).Perm ((L.filter (fun p => !decide (p.1.no = m))).map stkH ++ (L.filter (fun p => !!decide (p.1.no = m))).map stkH) := by
   rw [← List.map_append]; exact (List.filter_append_perm (fun p : MB => !decide (p.1.no = m)) L).symm.map stkH
  generalize L.filter (fun p => !decide (p.1.no = m)) = L' at hLm hLp ⊢
  clear hW
  generalize f.bs.filter (fun y => !decide (y.no = m)) = bs' at hLm ⊢
  apply WL_packSub hLp
  ·exact zN
  have e3 : HA.row v' 49 4 tkC L' = HA.row v' 49 4 mbC (mixL bs' (L'.map (·.2.1))) := by rw [← hLm, row_tk]
  have e4 : L'.map stkH = stkR bs' (L'.map (·.2.1)) := by rw [← hLm, stkR_map]
  have hus' : (L'.map (·.2.1)).length = bs'.length := by rw [← hLm]; simp
  have hll : (L'.length : Int) = bs'.length := by rw [← hLm]; simp
  refine zS ?_
  rw [hll, e3, e4]
  refine w_cond rfl (fun hc => ?_) (fun hc => ?_)
  ·rw [if_pos (by simp at hc; omega)]
   refine zS ?_
   (refine Res_add _ floE_own ?_; apply resKN1; exact rfl; exact rfl; exact zM; exact inferInstance; exact rfl; exact rfl; exact flP_nil _; exact yC)
  ·rw [if_neg (by simp at hc; omega)]
   refine W_mkFact hus' ?_
   refine W_mkExs (h := fun us : List Value => [.fact (us.length = bs'.length), .row vi 3 1 iC f.ids, .row vq 87 2 quC f.qs, .row v' 49 4 mbC (mixL bs' us), .row vp 42 3 payC f.ps, .pack (stkR bs' us)]) (L'.map (·.2.1)) (by exact yC) ?_
   rw [show HA.exs (fun us : List Value => [.fact (us.length = bs'.length), .row vi 3 1 iC f.ids, .row vq 87 2 quC f.qs, .row v' 49 4 mbC (mixL bs' us), .row vp 42 3 payC f.ps, .pack (stkR bs' us)]) = floOwn vi vq v' vp { f with bs := bs' } from rfl]
   refine zS ?_
   (apply resKN1; exact rfl; exact rfl; exact zM; exact inferInstance; exact rfl; exact rfl; exact ⟨vi, vq, v', vp, ⟨inferInstance, inferInstance, inferInstance, inferInstance⟩, rfl, rfl⟩; exact yC)
end Go.Proofs.YtihonljdanjfmaaGreatDoor.Sw
namespace Go.Proofs.YtihonljdanjfmaaGreatDoor.Sw
open Go.RowKit Go Go.Shelf Go.Proofs
open Go.Proofs.YtihonljdanjfmaaGreatDoor.Gr (headsR hf mergeH hf_merge Lab lab_all Cl)
end Go.Proofs.YtihonljdanjfmaaGreatDoor.Sw
namespace Go.Proofs.YtihonljdanjfmaaGreatDoor.Sw
open Go.RowKit Go Go.Shelf Go.Proofs
def atB (l : List Bil) (x : Bil) : Nat := (l.takeWhile (fun y => decide (y.no < x.no))).length
def insB (l : List Bil) (x : Bil) : List Bil := l.take (atB l x) ++ [x] ++ l.drop (atB l x)
theorem insB_len (l : List Bil) (x : Bil) : (insB l x).length = l.length + 1 := by
 unfold insB; simp only [List.length_append, List.length_take, List.length_drop, List.length_singleton]; omega
theorem insB_mem {l : List Bil} {x b : Bil} (h : b ∈ insB l x) : b ∈ l ∨ b = x := by
 unfold insB at h
 simp only [List.mem_append, List.mem_singleton] at h
 rcases h with (h | h) | h
 ·exact .inl (List.mem_of_mem_take h)
 ·exact .inr h
 ·exact .inl (List.mem_of_mem_drop h)
def add8R (f : Flo) (x : Bil) : Flo × Int :=
 if floOk f = true then (if f.bs.length = 10 then (floE, 9) else if floOk { f with bs := insB f.bs x } = true then ({ f with bs := insB f.bs x }, 0) else (floE, 81)) else (floE, 80)
theorem insE_end {α : Type} {lt : α → α → Bool} (x : α) (l : List α) (h : ∀ a ∈ l, lt x a = false) : insE lt l x = l ++ [x] := by
 rcases List.eq_nil_or_concat l with rfl | ⟨p, z, rfl⟩
 ·rfl
 ·rw [show p.concat z = p ++ [z] by simp] at *
  exact insE_no (h z (by simp))
theorem insE_over {α : Type} {lt : α → α → Bool} (x : α) (a : List α) : ∀ b : List α, (∀ y ∈ b, lt x y = true) → insE lt (a ++ b) x = insE lt a x ++ b := by
 intro b
 induction hn : b.length generalizing b with
 | zero => intro _; rw [List.length_eq_zero_iff.1 hn]; simp
 | succ n ih =>
  intro hb
  rcases List.eq_nil_or_concat b with rfl | ⟨p, z, rfl⟩
  ·simp at hn
  ·rw [show p.concat z = p ++ [z] by simp] at *
   rw [← List.append_assoc, insE_yes (hb z (by simp)), ih p (by simpa using hn) (fun y hy => hb y (by simp [hy])), List.append_assoc]
theorem srt_sorted {α : Type} {lt : α → α → Bool} : ∀ l : List α, l.Pairwise (fun a b => lt b a = false) → srt lt l = l := by
 intro l
 induction hn : l.length generalizing l with
 | zero => intro _; rw [List.length_eq_zero_iff.1 hn]; rfl
 | succ n ih =>
  intro hl
  rcases List.eq_nil_or_concat l with rfl | ⟨p, z, rfl⟩
  ·rfl
  ·rw [show p.concat z = p ++ [z] by simp] at *
   obtain ⟨h1, _, h3⟩ := List.pairwise_append.1 hl
   rw [srt_snoc, ih p (by simpa using hn) h1, insE_end z p fun a ha => h3 a ha z (by simp)]
theorem bils_sorted {ids : List Int} : ∀ {l : List Bil} {last : Int}, bilsOk ids last l = true → (∀ x ∈ l, last < x.no) ∧ l.Pairwise (fun a b => a.no < b.no)
 | [], _, _ => ⟨fun _ h => (by cases h), .nil⟩
 | x :: t, last, h => by
  simp only [bilsOk, Bool.and_eq_true, decide_eq_true_eq] at h
  obtain ⟨⟨⟨h1, h2⟩, h3⟩, h4⟩ := h
  obtain ⟨i1, i2⟩ := bils_sorted h4
  refine ⟨fun y hy => ?_, .cons i1 i2⟩
  rcases List.mem_cons.1 hy with rfl | hy
  ·omega
  ·have := i1 y hy; omega
theorem flo_bs {f : Flo} (h : floOk f = true) : f.bs.Pairwise (fun a b => a.no < b.no) := by
 simp only [floOk, Bool.and_eq_true, decide_eq_true_eq] at h
 exact (bils_sorted h.1.2).2
theorem bLt_iff {x y : Bil} : bLt x y = true ↔ x.no < y.no := by
 unfold bLt bCmp cmpR
 by_cases h1 : x.no < y.no
 ·simp [h1]
 ·by_cases h2 : y.no < x.no
  ·simp [h1, h2]
  ·simp [h1, h2]
theorem bLt_ff {x y : Bil} : bLt x y = false ↔ ¬ x.no < y.no := by rw [← bLt_iff]; simp
theorem add_eq (f : Flo) (x : Bil) : addR f x = add8R f x := by
 unfold addR add8R
 cases h : floOk f with
 | false => rfl
 | true =>
  rw [if_pos rfl, if_pos rfl]
  have hs := flo_bs h
  have key : srt bLt (f.bs ++ [x]) = insB f.bs x ∨ (floOk { f with bs := srt bLt (f.bs ++ [x]) } = false ∧ floOk { f with bs := insB f.bs x } = false) := by
   have hs1 : srt bLt f.bs = f.bs := srt_sorted f.bs (hs.imp fun {a b} hab => bLt_ff.2 (by omega))
   rw [srt_snoc, hs1]
   unfold insB atB
   have hsp := List.takeWhile_append_dropWhile (p := fun y : Bil => decide (y.no < x.no)) (l := f.bs)
   have hA : ∀ a ∈ f.bs.takeWhile (fun y : Bil => decide (y.no < x.no)), a.no < x.no := fun a ha => of_decide_eq_true (List.all_eq_true.1 List.all_takeWhile a ha)
   have hB : ∀ z r, f.bs.dropWhile (fun y : Bil => decide (y.no < x.no)) = z :: r → ¬ z.no < x.no := fun z r e => by
    have := List.head?_dropWhile_not (fun y : Bil => decide (y.no < x.no)) f.bs
    rw [e] at this
    simpa using this
   generalize f.bs.takeWhile (fun y : Bil => decide (y.no < x.no)) = A at hsp hA ⊢
   generalize f.bs.dropWhile (fun y : Bil => decide (y.no < x.no)) = B at hsp hB
   rw [← hsp] at hs ⊢
   rw [List.take_left, List.drop_left]
   have hA2 : ∀ a ∈ A, bLt x a = false := fun a ha => by have := hA a ha; exact bLt_ff.2 (by omega)
   obtain ⟨_, h2, _⟩ := List.pairwise_append.1 hs
   cases B with
   | nil => left; rw [List.append_nil, insE_end x A hA2, List.append_nil]
   | cons z r =>
    have hz := hB z r rfl
    obtain ⟨h3, _⟩ := List.pairwise_cons.1 h2
    by_cases hxz : x.no < z.no
    ·left
     rw [insE_over x A (z :: r) (fun y hy => ?_), insE_end x A hA2]
     rcases List.mem_cons.1 hy with rfl | hy
     ·exact bLt_iff.2 hxz
     ·have := h3 y hy
      exact bLt_iff.2 (by omega)
    ·right
     have he : z.no = x.no := by omega
     have hins : insE bLt (A ++ z :: r) x = A ++ z :: x :: r := by
      rw [show A ++ z :: r = (A ++ [z]) ++ r by simp, insE_over x (A ++ [z]) r (fun y hy => by have := h3 y hy; exact bLt_iff.2 (by omega)), insE_end x (A ++ [z]) (fun a ha => ?_)]
      ·simp
      ·rcases List.mem_append.1 ha with ha | ha
       ·exact hA2 a ha
       ·rw [List.mem_singleton.1 ha]; exact bLt_ff.2 (by omega)
     rw [hins]
     constructor
     ·cases hq : floOk { f with bs := A ++ z :: x :: r } with
      | false => rfl
      | true =>
       have := (List.pairwise_append.1 (flo_bs hq)).2.1
       have := (List.pairwise_cons.1 this).1 x (by simp)
       omega
     ·cases hq : floOk { f with bs := A ++ [x] ++ z :: r } with
      | false => rfl
      | true =>
       have h5 : (A ++ [x] ++ z :: r).Pairwise (fun a b => a.no < b.no) := flo_bs hq
       have := (List.pairwise_append.1 h5).2.2 x (by simp) z (by simp)
       omega
  rcases key with e | ⟨e1, e2⟩
  ·rw [e]
  ·rw [e1, e2]; simp
theorem flP_frz {P : Program} {k : FuncId} {args : List AV} {pre : List HA} {r : Flo × Int} (hc : Con P k args pre (FlP r)) : Con P k args pre (Is (.tup [.agg (flC r.1), .val (.int .i64 r.2)]) [tab8]) :=
 hc.frz (a := fun i : Value × Value × Value × Value => .tup [.agg [.val i.1, .val i.2.1, .val i.2.2.1, .val i.2.2.2], .val (.int .i64 r.2)]) (h := fun i => floOwn i.1 i.2.1 i.2.2.1 i.2.2.2 r.1)
  (fun x y ⟨vi, vq, vb, vp, _, e1, e2⟩ => ⟨(vi, vq, vb, vp), e1, e2⟩) fun i => thaw_tup (flo_thaw _ _ _ _ _)
theorem u8_ok {n : Int} (h : (Lit.int .u8 n).wf = true) : 0 ≤ n ∧ n ≤ 255 := by
 simp only [Lit.wf, IntKind.min, IntKind.max, IntKind.signed, IntKind.bits, Bool.and_eq_true, decide_eq_true_eq] at h
 simp at h
 omega
def u8C (b : Fin 256) : List AV := [.val (.int .u8 (b.val : Int))]
def chF (by_ : List (Fin 256)) (i : Nat) : Int := if by_.length = 0 then 0 else ((by_.getD (i % by_.length) 0).val : Int)
theorem chF_btw (l : List (Fin 256)) (i : Nat) : 0 ≤ chF l i ∧ chF l i ≤ 255 := by
 unfold chF
 split
 ·omega
 ·have := (l.getD (i % l.length) 0).isLt
  omega
theorem choice_con (l : List (Fin 256)) (i : Nat) (hi : i ≤ 1000) : Con Tryz.prog 28 [.sl 1 u8C l, .val (.int .i64 (i : Int))] [] (Is (.val (.int .i64 (chF l i))) []) := by
 refine con_of Tryz.func28 rfl (enters_of Tryz.func28 (by kernel_rfl) rfl) rfl ?_; intro n w0 F0 G0
 refine zS ?_
 refine w_cond rfl (fun h0 => ?_) (fun h0 => ?_)
 ·have h0' : l.length = 0 := by simpa using h0
  refine zS ?_
  (apply res1; exact rfl; exact rfl; exact ⟨(congrArg (fun b => AV.val (Value.int .i64 b)) (by unfold chF; rw [if_pos h0'])), rfl⟩)
 ·have h0' : l.length ≠ 0 := by simpa using h0
  have hm : i % l.length < l.length := Nat.mod_lt _ (by omega)
  have e1 : (i : Int) % (l.length : Int) = ((i % l.length : Nat) : Int) := by omega
  have e2 : chF l i = (((l[i % l.length]).val : Nat) : Int) := by
   unfold chF
   rw [if_neg h0', List.getD_eq_getElem?_getD, List.getElem?_eq_getElem hm]; rfl
  have q : l[i % l.length]? = some l[i % l.length] := List.getElem?_eq_getElem hm
  obtain ⟨x, hx⟩ : ∃ x, x = l[i % l.length] := ⟨_, rfl⟩
  rw [← hx] at e2 q
  have c1 := fun w => run_conv8 (P := Tryz.prog) Tryz.underlying5 Tryz.underlying3 (n := ((x.val : Nat) : Int)) ⟨by omega, by have := x.isLt; omega⟩ w
  refine zS ?_
  (apply wl_rem; exact rfl; exact rfl; omega; omega; omega; exact rfl)
  rw [e1]
  refine zS ?_
  rw [← hx]
  (apply wl_convC (.int .i64 ((x.val : Nat) : Int)); exact rfl; exact c1; exact rfl)
  refine zS ?_
  (apply res1; exact rfl; exact rfl; exact ⟨(congrArg (fun b => AV.val (Value.int .i64 b)) e2.symm), rfl⟩)
end Go.Proofs.YtihonljdanjfmaaGreatDoor.Sw
namespace Go.Proofs.YtihonljdanjfmaaGreatDoor.Sw
open Go Go.RowKit Go.ChangeShapes Go.WideShapes Go.ChangeAt
set_option maxRecDepth 100000
theorem reads_u8 : Reads 5 u8C := fun {H enc W n cs y} h => by
 obtain ⟨m, rfl, _, hw⟩ := DataW.trod_int Tryz.underlying5 h
 have := u8_ok hw
 have e : ((m.toNat : Nat) : Int) = m := by omega
 exact ⟨⟨m.toNat, by omega⟩, (by show Value.int .u8 m = .int .u8 ((m.toNat : Nat) : Int); rw [e]), trivial⟩
theorem reads_u8s : Reads 54 fun xs : List (Fin 256) => [AV.sl 1 u8C xs] := reads_sl Tryz.underlying54 (n := 1) (by kernel_rfl) Nat.one_pos (fun _ => rfl) reads_u8
end Go.Proofs.YtihonljdanjfmaaGreatDoor.Sw
namespace Go.Proofs.YtihonljdanjfmaaGreatDoor.Sw
open Go.RowKit Go Go.Shelf Go.Proofs
open Go.Proofs.YtihonljdanjfmaaGreatDoor.Gr (Zr sumP Cl lf)
theorem idx_at {ids : List Int} (hr : rises 0 ids = true) {i : Nat} (hi : i < ids.length) : ids.idxOf ids[i] = i := by
 have hm := List.getElem_mem hi
 have hj := List.idxOf_lt_length_of_mem hm
 have he : ids[ids.idxOf ids[i]] = ids[i] := List.getElem_idxOf hj
 rcases Nat.lt_trichotomy (ids.idxOf ids[i]) i with h | h | h
 ·have := rises_sorted hr _ _ hj hi h; omega
 ·exact h
 ·have := rises_sorted hr _ _ hi hj h; omega
end Go.Proofs.YtihonljdanjfmaaGreatDoor.Sw
namespace Go.Proofs.YtihonljdanjfmaaGreatDoor.Sw
open Go.RowKit Go Go.Shelf Go.Proofs
open Go.Proofs.YtihonljdanjfmaaGreatDoor.Gr (treeR pick sub_pick pick_sub)
end Go.Proofs.YtihonljdanjfmaaGreatDoor.Sw
namespace Go.Proofs.YtihonljdanjfmaaGreatDoor.Sw
open Go.RowKit Go Go.Shelf Go.Proofs
open Go.Proofs.YtihonljdanjfmaaGreatDoor.Gr (treeR pick sub_pick pick_sub Zr Cl Ok Forest Side Min sumP sumP_upd sumP_congr upd lf amt amt_side amt_swap payE cl_of_erase)
theorem lf_set {l : List Int} {i : Nat} (hi : i < l.length) (d : Int) : lf (addAt l i d) = upd (lf l) i (lf l i + d) := by
 funext v
 unfold addAt lf upd
 simp only [List.getD_eq_getElem?_getD, List.getElem?_set]
 by_cases h : i = v
 ·subst h; simp [hi]
 ·rw [if_neg h, if_neg fun e => h e.symm]
end Go.Proofs.YtihonljdanjfmaaGreatDoor.Sw
namespace Go.Proofs.YtihonljdanjfmaaGreatDoor.Sw
open Go.RowKit Go Go.Shelf Go.Proofs
open Go.Proofs.YtihonljdanjfmaaGreatDoor.Gr (treeR pick Zr Cl Ok Forest Side Min sumP lf amt payE headsR hf Lab lab_all even_iff)
def dP (ids : List Int) (x : Pay) (v : Nat) : Int := (if ids.idxOf x.a = v then x.p else 0) - (if ids.idxOf x.b = v then x.p else 0)
theorem lf_step {ids : List Int} {x : Pay} {cu : List Int} (h1 : ids.idxOf x.a < cu.length) (h2 : ids.idxOf x.b < cu.length) (v : Nat) : lf (payStep ids x cu) v = lf cu v + dP ids x v := by
 unfold payStep dP
 rw [lf_set (by rw [addAt_len]; exact h2), lf_set h1]
 clear h1 h2
 generalize ids.idxOf x.a = i
 generalize ids.idxOf x.b = o
 simp only [Gr.upd]
 by_cases a : o = v
 ·subst a
  by_cases b : i = o
  ·subst b; simp <;> omega
  ·have b' : ¬ o = i := fun e => b e.symm
   simp [b, b'] <;> omega
 ·have a' : ¬ v = o := fun e => a e.symm
  by_cases b : i = v
  ·subst b; simp [a, a']
  ·have b' : ¬ v = i := fun e => b e.symm
   simp [a, a', b, b']
def sumD (ids : List Int) (v : Nat) : List Pay → Int
 | [] => 0
 | x :: t => dP ids x v + sumD ids v t
theorem lf_fold {ids : List Int} (v : Nat) : ∀ (l : List Pay) (cu : List Int), cu.length = ids.length → (∀ x ∈ l, x.a ∈ ids ∧ x.b ∈ ids) → lf (payFold ids l cu) v = lf cu v + sumD ids v l
 | [], cu, _, _ => by simp [payFold, sumD]
 | x :: t, cu, hl, h => by
  have hx := h x (by simp)
  rw [payFold, lf_fold v t _ (by unfold payStep; rw [addAt_len, addAt_len]; exact hl) (fun y hy => h y (by simp [hy])), lf_step (by rw [hl]; exact List.idxOf_lt_length_of_mem hx.1) (by rw [hl]; exact List.idxOf_lt_length_of_mem hx.2), sumD]
  omega
end Go.Proofs.YtihonljdanjfmaaGreatDoor.Sw
namespace Go.Proofs.YtihonljdanjfmaaGreatDoor.Sw
open Go.RowKit Go Go.Shelf Go.Proofs
theorem putAll_lenH {ids : List Int} {pe all : Int} : ∀ (st : List Stk) (l : List Int), (putAll ids pe all st l).length = l.length
 | [], _ => rfl
 | s :: t, l => by rw [putAll, putAll_lenH t, List.length_set]
theorem stks_nodup {ids : List Int} : ∀ {t : List Stk} {last : Int}, stksOk ids last t = true → (t.map (·.fl)).Nodup ∧ ∀ s ∈ t, last < s.fl
 | [], _, _ => ⟨by simp, fun _ h => (by cases h)⟩
 | x :: t, last, h => by
  simp only [stksOk, Bool.and_eq_true, decide_eq_true_eq] at h
  obtain ⟨k1, k2⟩ := stks_nodup h.2
  refine ⟨?_, fun s hs => ?_⟩
  ·rw [List.map_cons]
   refine List.nodup_cons.2 ⟨fun hm => ?_, k1⟩
   obtain ⟨u, hu, e⟩ := List.mem_map.1 hm
   have := k2 u hu
   omega
  ·rcases List.mem_cons.1 hs with rfl | hs
   ·exact h.1.1.1
   ·have := k2 s hs; omega
theorem sum_set : ∀ (l : List Int) (i : Nat) (v : Int), i < l.length → (l.set i v).sum = l.sum - l.getD i 0 + v
 | x :: t, 0, v, _ => by simp; omega
 | x :: t, i + 1, v, h => by
  rw [List.set_cons_succ, List.sum_cons, sum_set t i v (by simpa using h), List.sum_cons, List.getD_cons_succ]; omega
 | [], _, _, h => by simp at h
theorem sum_addAt {l : List Int} {i : Nat} (hi : i < l.length) (d : Int) : (addAt l i d).sum = l.sum + d := by
 unfold addAt
 rw [sum_set l i _ hi, List.getD_eq_getElem?_getD]; omega
theorem sum_inc {ids : List Int} : ∀ (st : List Stk) (l : List Int), (∀ s ∈ st, s.fl ∈ ids) → l.length = ids.length → (incAll ids st l).sum = l.sum + st.length
 | [], l, _, _ => by simp [incAll]
 | s :: t, l, h, hl => by
  rw [incAll, sum_inc t _ (fun u hu => h u (by simp [hu])) (by rw [addAt_len]; exact hl), sum_addAt (by rw [hl]; exact List.idxOf_lt_length_of_mem (h s (by simp))), List.length_cons]
  omega
theorem sum_put {ids : List Int} {pe all : Int} (hr : rises 0 ids = true) : ∀ (st : List Stk) (l : List Int), (∀ s ∈ st, s.fl ∈ ids) → (st.map (·.fl)).Nodup → l.length = ids.length → (∀ s ∈ st, l.getD (ids.idxOf s.fl) 0 = 0) → (putAll ids pe all st l).sum = l.sum + quots pe all st
 | [], l, _, _, _, _ => by simp [putAll, quots]
 | s :: t, l, h, hn, hl, hz => by
  obtain ⟨n1, n2⟩ := List.nodup_cons.1 (by simpa using hn : (s.fl :: t.map (·.fl)).Nodup)
  have hsi : ids.idxOf s.fl < l.length := by rw [hl]; exact List.idxOf_lt_length_of_mem (h s (by simp))
  rw [putAll, sum_put hr t _ (fun u hu => h u (by simp [hu])) n2 (by rw [List.length_set]; exact hl) (fun u hu => ?_), sum_set _ _ _ hsi, hz s (by simp), quots]
  ·omega
  ·have hne : ids.idxOf s.fl ≠ ids.idxOf u.fl := fun e => by
    have hu1 := h u (by simp [hu])
    have h1 := List.getElem_idxOf (List.idxOf_lt_length_of_mem (h s (by simp)))
    have h2 := List.getElem_idxOf (List.idxOf_lt_length_of_mem hu1)
    have : s.fl = u.fl := by rw [← h1, ← h2]; simp only [e]
    exact n1 (by rw [this]; exact List.mem_map_of_mem hu)
   rw [List.getD_eq_getElem?_getD, List.getElem?_set, if_neg hne, ← List.getD_eq_getElem?_getD]
   exact hz u (by simp [hu])
theorem share_sum {ids : List Int} (hr : rises 0 ids = true) {x : Bil} (hx : bilOk ids x = true) : (sharesR ids x).sum = x.pe := by
 have hB := bil_f hx
 have hst : stksOk ids 0 x.st = true := by simp only [bilOk, Bool.and_eq_true] at hx; exact hx.2
 obtain ⟨hnd, _⟩ := stks_nodup hst
 have hmem : ∀ s ∈ x.st, s.fl ∈ ids := fun s h => (hB.st s h).1
 have hlb := left_bounds hB
 have hz : ∀ n i, (List.replicate n (0 : Int)).getD i 0 = 0 := fun n i => by
  rw [List.getD_eq_getElem?_getD, List.getElem?_replicate]; split <;> rfl
 unfold sharesR
 rw [sum_inc _ _ (fun s h => hmem s (List.mem_of_mem_take h)) (by rw [putAll_lenH]; simp), sum_put hr _ _ hmem hnd (by simp) (fun s _ => hz _ _), List.length_take]
 rw [leftQ_eq] at hlb ⊢
 have h0 : (List.replicate ids.length (0 : Int)).sum = 0 := by simp
 rw [h0]
 omega
end Go.Proofs.YtihonljdanjfmaaGreatDoor.Sw
namespace Go.Proofs.YtihonljdanjfmaaGreatDoor.Sw
open Go.RowKit Go Go.Shelf Go.Proofs
open Go.Proofs.YtihonljdanjfmaaGreatDoor.Gr (Zr Cl Forest sumP lf amt payE headsR hf Lab lab_all even_iff)
def zerG (f : Flo) (cu : List Int) (l : List Pay) : Bool := (grG f l).all fun g => decide ((g.map fun id => cu.getD (f.ids.idxOf id) 0).sum = 0)
end Go.Proofs.YtihonljdanjfmaaGreatDoor.Sw
namespace Go.Proofs.YtihonljdanjfmaaGreatDoor.Sw
open Go.RowKit Go Go.Shelf Go.Proofs
section
variable {P : Program} {rs : List (Nat × AV)} {d : Option Nat} {ty : TypeId} {pos : String} {af : Array Edge} {g : Option (Nat × Bool)}
end
end Go.Proofs.YtihonljdanjfmaaGreatDoor.Sw
namespace Go.Proofs.YtihonljdanjfmaaGreatDoor.Sw
open Go.RowKit Go Go.Shelf Go.Proofs
open Go.Proofs.YtihonljdanjfmaaGreatDoor.Gr (Zr lf payLt payLt_no)
def PP (f : Flo) (x : Pay) : Prop := ∃ i j, i < j ∧ j < f.ids.length ∧ spk f i j = true ∧ x.a = f.ids.getD i 0 ∧ x.b = f.ids.getD j 0
theorem PP.mem {f : Flo} {x : Pay} (h : PP f x) : x.a ∈ f.ids ∧ x.b ∈ f.ids := by
 obtain ⟨i, j, h1, h2, _, h4, h5⟩ := h
 rw [h4, h5, List.getD_eq_getElem?_getD, List.getD_eq_getElem?_getD, List.getElem?_eq_getElem (by omega), List.getElem?_eq_getElem h2]
 exact ⟨List.getElem_mem _, List.getElem_mem _⟩
structure StF (f : Flo) (l : List Pay) : Prop where
 len : l.length ≤ 5
 few : fewN8 f = ((l.length : Int), 0)
 sp : ∀ x ∈ l, speakR f.qs x.a x.b = true ∧ x.a ∈ f.ids ∧ x.b ∈ f.ids
 pe : ∀ x ∈ l, 1 ≤ x.p ∧ x.p ≤ 22000000
 od : ∀ i (h : i < l.length) (h1 : i - 1 < l.length), 0 < i → ¬ l[i].a < l[i - 1].a ∧ (l[i - 1].a = l[i].a → l[i - 1].b < l[i].b)
 ze : ∀ v, v < f.ids.length → lf (payFold f.ids l (owed8 f)) v = 0
 no : ∀ so : List Pay, (∀ x ∈ so, PP f x) → so.length < l.length → zerG f (owed8 f) so = false
end Go.Proofs.YtihonljdanjfmaaGreatDoor.Sw
namespace Go.Proofs.YtihonljdanjfmaaGreatDoor.Sw
open Go.RowKit Go Go.Shelf Go.Proofs
open Go.Proofs.YtihonljdanjfmaaGreatDoor.Gr (lf)
def numF : List Bil → Int → Int
 | [], n => n
 | y :: t, n => numF t (if y.no = n then n + 1 else n)
theorem numF_gt : ∀ {t : List Bil} {n : Int}, (∀ y ∈ t, n < y.no) → numF t n = n
 | [], _, _ => rfl
 | y :: t, n, h => by
  have := h y (by simp)
  rw [numF, if_neg (by omega), numF_gt fun z hz => h z (by simp [hz])]
theorem numF_free : ∀ {t : List Bil} {n : Int}, (t.Pairwise fun a b => a.no < b.no) → (∀ y ∈ t, n ≤ y.no) → (∀ y ∈ t, y.no ≠ numF t n) ∧ n ≤ numF t n ∧ numF t n ≤ n + t.length
 | [], n, _, _ => ⟨fun _ h => absurd h List.not_mem_nil, Int.le_refl _, by simp [numF]⟩
 | y :: t, n, hs, h => by
  obtain ⟨h1, h2⟩ := List.pairwise_cons.1 hs
  have hy := h y (by simp)
  rw [List.length_cons]
  by_cases e : y.no = n
  ·rw [numF, if_pos e]
   obtain ⟨a, b, c⟩ := numF_free (t := t) (n := n + 1) h2 fun z hz => by have := h1 z hz; omega
   refine ⟨fun z hz => ?_, by omega, by omega⟩
   rcases List.mem_cons.1 hz with rfl | hz
   ·omega
   ·exact a z hz
  ·have hg : numF (y :: t) n = n := numF_gt fun z hz => by
    rcases List.mem_cons.1 hz with rfl | hz
    ·omega
    ·have := h1 z hz; omega
   rw [hg]
   refine ⟨fun z hz => ?_, by omega, by omega⟩
   rcases List.mem_cons.1 hz with rfl | hz
   ·exact e
   ·have := h1 z hz; omega
theorem bils_no {ids : List Int} : ∀ {t : List Bil} {last : Int}, bilsOk ids last t = true → ∀ y ∈ t, last + 1 ≤ y.no ∧ y.no ≤ 9999 ∧ bilOk ids y = true
 | x :: t, last, h, y, hy => by
  simp only [bilsOk, Bool.and_eq_true, decide_eq_true_eq] at h
  rcases List.mem_cons.1 hy with rfl | hy
  ·exact ⟨h.1.1.1, h.1.1.2, h.1.2⟩
  ·have := bils_no h.2 y hy
   exact ⟨by omega, this.2⟩
 | [], _, _, _, hy => absurd hy List.not_mem_nil
theorem bils_mk {ids : List Int} : ∀ {t : List Bil} {last : Int}, (t.Pairwise fun a b => a.no < b.no) → (∀ y ∈ t, last + 1 ≤ y.no ∧ y.no ≤ 9999 ∧ bilOk ids y = true) → bilsOk ids last t = true
 | [], _, _, _ => rfl
 | x :: t, last, hs, h => by
  obtain ⟨h1, h2⟩ := List.pairwise_cons.1 hs
  obtain ⟨a, b, c⟩ := h x (by simp)
  rw [bilsOk, decide_eq_true a, decide_eq_true b, c, bils_mk h2 fun y hy => ⟨by have := h1 y hy; omega, (h y (by simp [hy])).2⟩]
  rfl
theorem insB_parts {l : List Bil} (hs : l.Pairwise fun a b => a.no < b.no) (x : Bil) (hx : ∀ y ∈ l, y.no ≠ x.no) : ∃ A B, l = A ++ B ∧ insB l x = A ++ [x] ++ B ∧ (∀ a ∈ A, a.no < x.no) ∧ ∀ b ∈ B, x.no < b.no := by
 have hsp := List.takeWhile_append_dropWhile (p := fun y : Bil => decide (y.no < x.no)) (l := l)
 have hA : ∀ a ∈ l.takeWhile (fun y : Bil => decide (y.no < x.no)), a.no < x.no := fun a ha => of_decide_eq_true (List.all_eq_true.1 List.all_takeWhile a ha)
 have e1 : l.take (atB l x) = l.takeWhile (fun y : Bil => decide (y.no < x.no)) := (congrArg (List.take (atB l x)) hsp.symm).trans List.take_left
 have e2 : l.drop (atB l x) = l.dropWhile (fun y : Bil => decide (y.no < x.no)) := (congrArg (List.drop (atB l x)) hsp.symm).trans List.drop_left
 refine ⟨_, _, hsp.symm, by unfold insB; rw [e1, e2], hA, fun b hb => ?_⟩
 have hm : b ∈ l := by rw [← hsp]; exact List.mem_append.2 (.inr hb)
 have hbx := hx b hm
 have hge : ¬ b.no < x.no := fun hlt => by
  have hne : l.dropWhile (fun y : Bil => decide (y.no < x.no)) ≠ [] := List.ne_nil_of_mem hb
  obtain ⟨c, t, ec⟩ := List.exists_cons_of_ne_nil hne
  have hc : ¬ c.no < x.no := fun h => by
   have := List.head_dropWhile_not (fun y : Bil => decide (y.no < x.no)) (l := l) hne
   simp only [ec, List.head_cons] at this
   simp [h] at this
  rw [ec] at hb
  have hso : (c :: t).Pairwise fun a b => a.no < b.no := by rw [← ec]; exact hs.sublist (List.dropWhile_sublist _)
  rcases List.mem_cons.1 hb with rfl | hb
  ·exact hc hlt
  ·have := (List.pairwise_cons.1 hso).1 b hb; omega
 omega
def stT (ch : Nat → Int) (ids : List Int) : Nat → List Stk
 | 0 => []
 | k + 1 => stT ch ids k ++ if k = 0 ∨ ch k % 2 = 0 then [⟨ids.getD k 0, 1 + ch k % 9⟩] else []
theorem stT_len (ch : Nat → Int) (ids : List Int) : ∀ k, (stT ch ids k).length ≤ k
 | 0 => Nat.le_refl _
 | k + 1 => by
  have := stT_len ch ids k
  rw [stT, List.length_append]
  split
  ·rw [List.length_singleton]; omega
  ·rw [List.length_nil]; omega
theorem stT_ne (ch : Nat → Int) (ids : List Int) : ∀ {k}, 0 < k → stT ch ids k ≠ []
 | 1, _ => by simp [stT]
 | k + 2, _ => fun e => stT_ne ch ids (k := k + 1) (by omega) (by
  rw [stT] at e
  exact (List.append_eq_nil_iff.1 e).1)
theorem stks_snoc {ids : List Int} {s : Stk} : ∀ {t : List Stk} {last : Int}, stksOk ids last t = true → last < s.fl → (∀ u ∈ t, u.fl < s.fl) → s.fl ∈ ids → 1 ≤ s.pt → s.pt ≤ 9 → stksOk ids last (t ++ [s]) = true
 | [], last, _, h1, _, h2, h3, h4 => by simp [stksOk, h1, h2, h3, h4]
 | u :: t, last, h, _, hu, h2, h3, h4 => by
  simp only [stksOk, Bool.and_eq_true] at h
  rw [List.cons_append, stksOk, stks_snoc h.2 (hu u (by simp)) (fun v hv => hu v (by simp [hv])) h2 h3 h4, h.1.1.1, h.1.1.2, Bool.and_eq_true_iff.2 h.1.2]
  rfl
theorem stT_ok {ids : List Int} (hr : rises 0 ids = true) {ch : Nat → Int} (hc : ∀ i, 0 ≤ ch i) : ∀ k, k ≤ ids.length → stksOk ids 0 (stT ch ids k) = true ∧ ∀ s ∈ stT ch ids k, ∃ j, j < k ∧ s.fl = ids.getD j 0
 | 0, _ => ⟨rfl, fun _ h => absurd h List.not_mem_nil⟩
 | k + 1, hk => by
  obtain ⟨h1, h2⟩ := stT_ok hr hc k (by omega)
  have hkl : k < ids.length := by omega
  have e : ids.getD k 0 = ids[k] := by rw [List.getD_eq_getElem?_getD, List.getElem?_eq_getElem hkl]; rfl
  have hb := rises_all hr _ (List.getElem_mem hkl)
  have h9 : 0 ≤ ch k % 9 ∧ ch k % 9 ≤ 8 := by have := hc k; omega
  rw [stT]
  split
  ·refine ⟨stks_snoc h1 ?_ (fun u hu => ?_) ?_ ?_ ?_, fun s hs => ?_⟩
   ·show 0 < ids.getD k 0; omega
   ·obtain ⟨j, hj, ej⟩ := h2 u hu
    have hjl : j < ids.length := by omega
    have e2 : ids.getD j 0 = ids[j] := by rw [List.getD_eq_getElem?_getD, List.getElem?_eq_getElem hjl]; rfl
    have := rises_sorted hr _ _ hjl hkl hj
    show u.fl < ids.getD k 0
    omega
   ·show ids.getD k 0 ∈ ids
    rw [e]; exact List.getElem_mem hkl
   ·show 1 ≤ 1 + ch k % 9; omega
   ·show 1 + ch k % 9 ≤ 9; omega
   ·rcases List.mem_append.1 hs with h | h
    ·obtain ⟨j, hj, ej⟩ := h2 s h
     exact ⟨j, by omega, ej⟩
    ·rw [List.mem_singleton] at h
     exact ⟨k, by omega, by rw [h]⟩
  ·rw [List.append_nil]
   exact ⟨h1, fun s hs => by obtain ⟨j, hj, ej⟩ := h2 s hs; exact ⟨j, by omega, ej⟩⟩
def dB (ids : List Int) (x : Bil) (v : Nat) : Int := (if ids.idxOf x.py = v then x.pe else 0) - (sharesR ids x).getD v 0
theorem bil_lf {ids : List Int} {x : Bil} {l : List Int} (hl : l.length = ids.length) (hp : x.py ∈ ids) (v : Nat) : lf (subL (addAt l (ids.idxOf x.py) x.pe) (sharesR ids x)) v = lf l v + dB ids x v := by
 have hi : ids.idxOf x.py < l.length := by rw [hl]; exact List.idxOf_lt_length_of_mem hp
 have hsl := shares_len ids x
 have hal : (addAt l (ids.idxOf x.py) x.pe).length = l.length := addAt_len _ _ _
 have e : lf (subL (addAt l (ids.idxOf x.py) x.pe) (sharesR ids x)) v = lf (addAt l (ids.idxOf x.py) x.pe) v - lf (sharesR ids x) v := by
  unfold lf subL
  simp only [List.getD_eq_getElem?_getD]
  by_cases hn : v < l.length
  ·rw [List.getElem?_eq_getElem (by simp; omega), List.getElem?_eq_getElem (by omega), List.getElem?_eq_getElem (by omega), List.getElem_zipWith]; rfl
  ·rw [List.getElem?_eq_none (by simp; omega), List.getElem?_eq_none (by omega), List.getElem?_eq_none (by omega)]; rfl
 rw [e, lf_set hi]
 unfold dB Gr.upd
 show _ - (sharesR ids x).getD v 0 = _
 by_cases h : v = ids.idxOf x.py
 ·subst h; rw [if_pos rfl, if_pos rfl]; omega
 ·rw [if_neg h, if_neg fun q => h q.symm]; omega
def sumB (ids : List Int) (v : Nat) : List Bil → Int
 | [] => 0
 | x :: t => dB ids x v + sumB ids v t
theorem sumB_app (ids : List Int) (v : Nat) (B : List Bil) : ∀ A, sumB ids v (A ++ B) = sumB ids v A + sumB ids v B
 | [] => by simp [sumB]
 | x :: t => by rw [List.cons_append, sumB, sumB, sumB_app ids v B t]; omega
theorem bils_lf {ids : List Int} (v : Nat) : ∀ (t : List Bil) (l : List Int), l.length = ids.length → (∀ x ∈ t, x.py ∈ ids) → lf (bilFold ids t l) v = lf l v + sumB ids v t
 | [], l, _, _ => by simp [bilFold, sumB]
 | x :: t, l, hl, h => by
  rw [bilFold, bils_lf v t _ (by rw [subL_len (by rw [addAt_len, hl, shares_len]), addAt_len]; exact hl) (fun y hy => h y (by simp [hy])), bil_lf hl (h x (by simp)), sumB]
  omega
theorem owed_lf {f : Flo} (hb : ∀ x ∈ f.bs, x.py ∈ f.ids) (hp : ∀ x ∈ f.ps, x.a ∈ f.ids ∧ x.b ∈ f.ids) (v : Nat) : lf (owed8 f) v = lf (List.replicate f.ids.length 0) v + sumB f.ids v f.bs + sumD f.ids v f.ps := by
 unfold owed8
 rw [lf_fold v _ _ (by rw [bilFold_len _ _ (by simp)]) hp, bils_lf v _ _ (by simp) hb]
theorem find_mid {p : Bil → Bool} {x : Bil} {B : List Bil} (hx : p x = true) : ∀ {A : List Bil}, (∀ a ∈ A, p a = false) → (A ++ [x] ++ B).find? p = some x
 | [], _ => by simp [hx]
 | a :: t, h => by
  have := find_mid (B := B) hx (A := t) fun b hb => h b (by simp [hb])
  rw [List.cons_append, List.cons_append, List.find?_cons_of_neg (by rw [h a (by simp)]; simp), this]
structure NewB (f : Flo) (x : Bil) (y : Flo) : Prop where
 add : addR f x = (y, 0)
 sml : Sml y
 ids : y.ids = f.ids
 net : netR y = (owed8 y, 0)
 sha : shaR y x.no = (sharesR f.ids x, 0)
 str : strikeR y x.no = (f, 0)
 is : ∀ v, lf (owed8 y) v = lf (owed8 f) v + dB f.ids x v
 sum : (sharesR f.ids x).sum = x.pe
 ok : floOk y = true
theorem new_bill {f : Flo} (hS : Sml f) (hf : floOk f = true) (hb : f.bs.length < 10) {x : Bil} (hx : bilOk f.ids x = true) (hxs : x.st.length ≤ 1000) (h1 : 1 ≤ x.no) (h2 : x.no ≤ 9999) (hno : ∀ y ∈ f.bs, y.no ≠ x.no) : ∃ y, NewB f x y := by
 have hr := rises_of_ok hf
 have hF := flo_f hf
 have hs := flo_bs hf
 obtain ⟨A, B, eA, eI, hA, hB⟩ := insB_parts hs x hno
 have hok : floOk { f with bs := insB f.bs x } = true := by
  have hf' := hf
  simp only [floOk, Bool.and_eq_true, decide_eq_true_eq] at hf' ⊢
  refine ⟨⟨⟨⟨⟨⟨hf'.1.1.1.1.1.1, by rw [insB_len]; omega⟩, hf'.1.1.1.1.2⟩, hf'.1.1.1.2⟩, hf'.1.1.2⟩, bils_mk ?_ fun y hy => ?_⟩, hf'.2⟩
  ·rw [eI]
   rw [eA] at hs
   obtain ⟨sA, sB, sAB⟩ := List.pairwise_append.1 hs
   refine List.pairwise_append.2 ⟨List.pairwise_append.2 ⟨sA, List.pairwise_singleton _ _, fun a ha b hb => ?_⟩, sB, fun a ha b hb => ?_⟩
   ·rw [List.mem_singleton] at hb; rw [hb]; exact hA a ha
   ·rcases List.mem_append.1 ha with h | h
    ·exact sAB a h b hb
    ·rw [List.mem_singleton] at h; rw [h]; exact hB b hb
  ·rcases insB_mem hy with h | h
   ·exact bils_no hf'.1.2 y h
   ·rw [h]; exact ⟨by omega, h2, hx⟩
 have hadd : addR f x = ({ f with bs := insB f.bs x }, 0) := by
  rw [add_eq]
  unfold add8R
  rw [if_pos hf, if_neg (by omega), if_pos hok]
 have hB' := bil_f hx
 refine ⟨{ f with bs := insB f.bs x }, hadd, ⟨hS.ids, hS.qs, by show (insB f.bs x).length ≤ 1000; rw [insB_len]; omega, hS.ps, fun b hb => ?_⟩, rfl, ?_, ?_, ?_, fun v => ?_, share_sum hr hx, hok⟩
 ·rcases insB_mem hb with h | h
  ·exact hS.st b h
  ·rw [h]; exact hxs
 ·unfold netR
  rw [if_pos hok]
 ·unfold shaR
  rw [if_pos hok]
  dsimp only
  rw [eI, find_mid (by simp) fun a ha => decide_eq_false (by have := hA a ha; omega)]
 ·unfold strikeR
  rw [if_pos hok]
  dsimp only
  have e : (insB f.bs x).filter (fun y => !decide (y.no = x.no)) = f.bs := by
   rw [eI, List.filter_append, List.filter_append]
   have a1 : A.filter (fun y => !decide (y.no = x.no)) = A := List.filter_eq_self.2 fun a ha => by have := hA a ha; simp; omega
   have b1 : B.filter (fun y => !decide (y.no = x.no)) = B := List.filter_eq_self.2 fun a ha => by have := hB a ha; simp; omega
   rw [a1, b1, List.filter_cons_of_neg (by simp), List.filter_nil, List.append_nil, ← eA]
  rw [e, if_neg (by rw [insB_len]; omega)]
 ·have hp : ∀ z ∈ f.ps, z.a ∈ f.ids ∧ z.b ∈ f.ids := fun z hz => ⟨(hF.pay z hz).1, (hF.pay z hz).2.1⟩
  rw [owed_lf (f := { f with bs := insB f.bs x }) (fun z hz => by
   rcases insB_mem hz with h | h
   ·exact (hF.bil z h).py
   ·rw [h]; exact hB'.py) hp v, owed_lf (fun z hz => (hF.bil z hz).py) hp v]
  dsimp only
  rw [eI, sumB_app, sumB_app]
  have e : sumB f.ids v f.bs = sumB f.ids v A + sumB f.ids v B := by rw [← sumB_app, ← eA]
  rw [e]
  simp only [sumB]
  omega
end Go.Proofs.YtihonljdanjfmaaGreatDoor.Sw
namespace Go.Proofs.YtihonljdanjfmaaGreatDoor.Sw
open Go.RowKit Go Go.Shelf Go.Proofs
open Go.Proofs.YtihonljdanjfmaaGreatDoor.Gr (Zr Cl Ok Forest sumP lf headsR headsR_snoc hf_merge mergeH Lab lab_all payE)
def OwnZ (f : Flo) (js : List Nat) : Prop := ∀ P : Nat → Bool, (∀ a b, a < b → b < js.length → spk f (js.getD a 0) (js.getD b 0) = true → P a = P b) → sumP js.length (fun i => lf (owed8 f) (js.getD i 0)) P = 0
theorem getD_in {l : List Int} {j : Nat} (h : j < l.length) : l.getD j 0 = l[j] := by rw [List.getD_eq_getElem?_getD, List.getElem?_eq_getElem h]; rfl
structure GrF (f : Flo) (gs : List (List Int)) : Prop where
 fit : ∀ g ∈ gs, g.length ≤ f.ids.length ∧ ∀ id ∈ g, id ∈ f.ids
 al : ∀ g ∈ gs, aloR f g = (true, 0)
 ne : ∀ g ∈ gs, 0 < g.length
 od : ∀ i (h : i < gs.length) (h1 : i - 1 < gs.length), 0 < i → gs[i - 1].getD 0 0 < gs[i].getD 0 0
 pe : gs.flatten.Perm f.ids
 few : fewN8 f = ((f.ids.length : Int) - (gs.length : Int), 0)
 cnt : gs.length ≤ f.ids.length
 pt : ∀ (c : Nat → Nat) (m : Nat), (∀ v, v < f.ids.length → c v < m) → (∀ i, OwnZ f ((List.range f.ids.length).filter fun v => decide (c v = i))) → ∀ vals : List Nat, vals.Nodup → (∀ k ∈ vals, ∃ v, v < f.ids.length ∧ c v = k) → vals.length ≤ gs.length
end Go.Proofs.YtihonljdanjfmaaGreatDoor.Sw
namespace Go.Proofs.YtihonljdanjfmaaGreatDoor.Sw
open Go.RowKit Go Go.Shelf Go.Proofs
open Go.Proofs.YtihonljdanjfmaaGreatDoor.Gr (lf)
theorem sum_take {l : List Int} {k : Nat} (h : k < l.length) : (l.take (k + 1)).sum = (l.take k).sum + l[k] := by
 rw [List.take_succ_eq_append_getElem h, List.sum_append]; simp
theorem sum_btw {c : Int} (hc : 0 ≤ c) : ∀ {l : List Int}, (∀ x ∈ l, 0 ≤ x ∧ x ≤ c) → 0 ≤ l.sum ∧ l.sum ≤ c * (l.length : Int)
 | [], _ => by simp
 | x :: t, h => by
  have ih := sum_btw hc (l := t) fun y hy => h y (by simp [hy])
  have hx := h x (by simp)
  have e2 : c * ((t.length + 1 : Nat) : Int) = c * (t.length : Int) + c := by rw [Int.natCast_add, Int.mul_add]; simp
  rw [List.sum_cons, List.length_cons, e2]
  omega
theorem owedR_ok {t : Tl} {r : Rt} (h1 : okT t.id t.hs t.st t.fo = true) (h2 : r.ok = true) : (owedR t r).2 = 0 := by
 rw [owedR_eq, if_pos h1, if_pos h2]
theorem floorTally_con (f : Flo) (t : Tl) (r : Rt) (payer : Int) (by_ : List (Fin 256)) (hpy : 0 ≤ payer ∧ payer ≤ 255) : Con Tryz.prog 9 [.agg (flC f), .agg (tC t), .agg (rC r), .val (.int .u8 payer), .sl 1 u8C by_] [tab8, HA.tab] (Is (.val (.bool true)) []) := by
 have c1 := fun w => run_conv8 (P := Tryz.prog) Tryz.underlying5 Tryz.underlying3 hpy w
 refine con_of Tryz.func9 rfl (enters_of Tryz.func9 (by kernel_rfl) rfl) rfl ?_; intro n w0 F0 G0
 refine zS ?_;repeat(refine yA ?_;intro p hp;refine zS ?_)
 (apply wl_callP (alive_con); exact rfl; exact yC; exact rfl)
 rintro _ _ ⟨rfl, rfl⟩
 refine zS ?_;repeat(refine yA ?_;intro p hp;refine zS ?_)
 (first | (apply wl_call (ready_con f); exact rfl; exact rfl) | (apply wl_callR (ready_con f); exact rfl; exact zM; exact rfl))
 refine zS ?_;repeat(refine yA ?_;intro p hp;refine zS ?_)
 cases hR : (!greatF f && floOk f) with
 | false =>
  refine zS ?_;repeat(refine yA ?_;intro p hp;refine zS ?_)
  (apply res1; exact rfl; exact rfl; exact ⟨rfl, rfl⟩)
 | true =>
  obtain ⟨hS, hok⟩ := ready_ok hR
  have hF := flo_f hok
  have hr := rises_of_ok hok
  have hidl := hF.ids
  refine zS ?_;repeat(refine yA ?_;intro p hp;refine zS ?_)
  refine wl_part rfl rfl (fun hn0 => ?_) (fun hn0 => ?_)
  ·refine zS ?_;repeat(refine yA ?_;intro p hp;refine zS ?_)
   (apply res1; exact rfl; exact rfl; exact ⟨rfl, rfl⟩)
  ·have hn0' : f.ids.length ≠ 0 := by simpa using hn0
   refine zS ?_;repeat(refine yA ?_;intro p hp;refine zS ?_)
   refine wl_part rfl rfl (fun hb10 => ?_) (fun hb10 => ?_)
   ·refine zS ?_;repeat(refine yA ?_;intro p hp;refine zS ?_)
    (apply res1; exact rfl; exact rfl; exact ⟨rfl, rfl⟩)
   ·have hb10' : f.bs.length ≠ 10 := by simp at hb10; omega
    refine zS ?_;repeat(refine yA ?_;intro p hp;refine zS ?_)
    (first | (apply wl_call (great_con t); exact rfl; exact rfl) | (apply wl_callR (great_con t); exact rfl; exact zM; exact rfl))
    refine zS ?_;repeat(refine yA ?_;intro p hp;refine zS ?_)
    refine wl_part rfl rfl (fun hgt => ?_) (fun hgt => ?_)
    ·refine zS ?_;repeat(refine yA ?_;intro p hp;refine zS ?_)
     (apply res1; exact rfl; exact rfl; exact ⟨rfl, rfl⟩)
    ·have hst : t.st.length ≤ 1000 := by simp at hgt; omega
     have hfo : t.fo.length ≤ 1000 := by simp at hgt; omega
     refine zS ?_;repeat(refine yA ?_;intro p hp;refine zS ?_)
     (first | (apply wl_call (tally_con t hst hfo); exact rfl; exact rfl) | (apply wl_callR (tally_con t hst hfo); exact rfl; exact zM; exact rfl))
     refine zS ?_;repeat(refine yA ?_;intro p hp;refine zS ?_)
     cases ht : okT t.id t.hs t.st t.fo with
     | false =>
      refine zS ?_;repeat(refine yA ?_;intro p hp;refine zS ?_)
      (apply res1; exact rfl; exact rfl; exact ⟨rfl, rfl⟩)
     | true =>
      refine zS ?_;repeat(refine yA ?_;intro p hp;refine zS ?_)
      (first | (apply wl_call (refRates_con r); exact rfl; exact rfl) | (apply wl_callR (refRates_con r); exact rfl; exact zM; exact rfl))
      refine zS ?_;repeat(refine yA ?_;intro p hp;refine zS ?_)
      cases hrr : r.ok with
      | false =>
       refine zS ?_;repeat(refine yA ?_;intro p hp;refine zS ?_)
       (apply res1; exact rfl; exact rfl; exact ⟨rfl, rfl⟩)
      | true =>
       have hbl : f.bs.length < 10 := by have := hF.bs; omega
       have hOe := owedR_ok ht hrr
       obtain ⟨i, hi, hin⟩ : ∃ i : Nat, payer % (f.ids.length : Int) = i ∧ i < f.ids.length := by
        have a := Int.emod_nonneg payer (show (f.ids.length : Int) ≠ 0 by omega)
        have b := Int.emod_lt_of_pos payer (show 0 < (f.ids.length : Int) by omega)
        exact ⟨(payer % (f.ids.length : Int)).toNat, by omega, by omega⟩
       have qi : f.ids[i]? = some f.ids[i] := List.getElem?_eq_getElem hin
       have hpm : f.ids[i] ∈ f.ids := List.getElem_mem hin
       refine zS ?_;repeat(refine yA ?_;intro p hp;refine zS ?_)
       refine W_run 12 [69, 70, 71, 72, 73, 74, 75, 76, 77, 78, 79, 12] [0, 1, 2, 3, 4, 5, 6, 7, 8, 9, 10, 11] Cut.nil rfl goFlt mixedS (by kernel_rfl) rfl ?_
       refine rpv [] [] ?_
       refine rpv [0] [] ?_
       refine rpv [] [] ?_
       refine Run.pv [2] [] rfl (fun vs => by apply ltr_pk; exact goPk; (refine ltr ?_; apply lt_convC (v := .int .i64 payer); exact rfl; exact c1)) goApp ?_
       refine rpv [] [] ?_
       refine rpv [4] [] ?_
       refine rpv [5] [] ?_
       refine Run.pv [3, 6] [] rfl (fun vs => by apply ltr_pk; exact goPk; (refine ltr ?_; apply LT_int (i : Int); apply lt_rem; exact rfl; exact rfl; omega; omega; omega; exact hi)) goApp ?_
       refine rpv [1, 7] [] ?_
       refine rpv [8] [] ?_
       refine rpv [9] [] ?_
       refine Run.tok [] [] rfl (fun vs => by apply ltr_pk; exact goPk; exact goLtr) goApp ?_
       refine ⟨⟨by kernel_rfl, by kernel_rfl⟩, fun vs => ?_⟩
       apply WL_auto [10, 11]
       ·exact goPk
       ·exact goNrm
       ·kernel_rfl
       ·kernel_rfl
       refine zS ?_;repeat(refine yA ?_;intro p hp;refine zS ?_)
       generalize vs 11 = px
       generalize hpq : f.ids[i] = py at *
       rename_i pf hpf pt hpt
       refine zS ?_;repeat(refine yA ?_;intro p hp;refine zS ?_)
       have hnos := flo_bs hok
       have hno1 : ∀ y ∈ f.bs, (1 : Int) ≤ y.no := fun y hy => by
        have h' := hok
        simp only [floOk, Bool.and_eq_true] at h'
        have := (bils_no h'.1.2 y hy).1; omega
       obtain ⟨hfree, hf1, hf2⟩ := numF_free hnos hno1
       refine W_loopJ (fun (b : Nat × Int) => ⟨[(4, .sl 1 u8C by_), (5, .val pf), (6, .val pt), (7, .val p), (11, .val (.bool true)), (12, .val px), (81, .sl 4 biC f.bs), (82, .val (.int .i64 f.bs.length)), (83, .val (.int .i64 b.1))], [.box px [.val (.int .i64 b.2), .val (.int .i64 py), .val (.int .i64 0), .val (.slice none 0 0)] 49, .box p (rC r) 69, .box pt (tC t) 67, .box pf (flC f) 27, tab8, HA.tab]⟩) (fun b => b.1 ≤ f.bs.length ∧ numF (f.bs.drop b.1) b.2 = numF f.bs 1 ∧ 1 ≤ b.2 ∧ b.2 ≤ 1 + (b.1 : Int)) (fun b => f.bs.length - b.1) (0, 1) (fun _ _ st => st_sub2 st zR zP) ⟨Nat.zero_le _, rfl, Int.le_refl _, by simp⟩ ?_
       rintro ⟨k, m⟩ ⟨hk, hfold, hm1, hm2⟩
       dsimp only at hk hfold hm1 hm2 ⊢
       refine zS ?_;repeat(refine yA ?_;intro p hp;refine zS ?_)
       refine w_cond rfl (fun hlt => ?_) (fun hlt => ?_)
       ·have hk' : k < f.bs.length := by simpa using hlt
        have hq : f.bs[k]? = some f.bs[k] := List.getElem?_eq_getElem hk'
        rw [drop_step hk', numF] at hfold
        refine zS ?_;repeat(refine yA ?_;intro p hp;refine zS ?_)
        generalize f.bs[k] = y at hq hfold ⊢
        refine w_cond rfl (fun hy => ?_) (fun hy => ?_)
        ·have hy' : y.no = m := by simpa using hy
         rw [if_pos hy'] at hfold
         refine zS ?_;repeat(refine yA ?_;intro p hp;refine zS ?_)
         (refine ⟨(k + 1, m + 1), fun _ _ st => st_sub2 st ?_ ?_, ?_, ?_⟩; exact zR; exact zP)
         ·exact ⟨hk', hfold, by dsimp only; omega, by dsimp only; omega⟩
         ·dsimp only; omega
        ·have hy' : ¬ y.no = m := by simpa using hy
         rw [if_neg hy'] at hfold
         refine zS ?_;repeat(refine yA ?_;intro p hp;refine zS ?_)
         (refine ⟨(k + 1, m), fun _ _ st => st_sub2 st ?_ ?_, ?_, ?_⟩; exact zR; exact zP)
         ·exact ⟨hk', hfold, by dsimp only; omega, by dsimp only; omega⟩
         ·dsimp only; omega
       ·have hkk : k = f.bs.length := by simp at hlt; omega
        subst hkk
        rw [List.drop_length, numF] at hfold
        subst hfold
        clear hk hlt hm1 hm2
        generalize hno : numF f.bs 1 = no at hfree hf1 hf2 ⊢
        refine zS ?_;repeat(refine yA ?_;intro p hp;refine zS ?_)
        refine W_loopJ (fun (b : Nat × Value) => ⟨[(4, .sl 1 u8C by_), (5, .val pf), (6, .val pt), (7, .val p), (11, .val (.bool true)), (12, .val px), (98, .sl 1 iC f.ids), (99, .val (.int .i64 f.ids.length)), (100, .val (.int .i64 b.1))], [.row b.2 52 2 stC (stT (chF by_) f.ids b.1), .box px [.val (.int .i64 no), .val (.int .i64 py), .val (.int .i64 0), .val b.2] 49, .box p (rC r) 69, .box pt (tC t) 67, .box pf (flC f) 27, tab8, HA.tab]⟩) (fun b => b.1 ≤ f.ids.length) (fun b => f.ids.length - b.1) (0, .slice none 0 0) (fun _ _ st => st_sub2 (st_nil 52 2 stC st) zR zP) (Nat.zero_le _) ?_
        rintro ⟨k, v⟩ hk
        dsimp only at hk ⊢
        refine zS ?_;repeat(refine yA ?_;intro p hp;refine zS ?_)
        refine w_cond rfl (fun hlt => ?_) (fun hlt => ?_)
        ·have hk' : k < f.ids.length := by simpa using hlt
         have hq : f.ids[k]? = some f.ids[k] := List.getElem?_eq_getElem hk'
         have hcb := chF_btw by_ k
         have hsl := stT_len (chF by_) f.ids k
         have hsu : stT (chF by_) f.ids (k + 1) = stT (chF by_) f.ids k ++ if k = 0 ∨ chF by_ k % 2 = 0 then [⟨f.ids.getD k 0, 1 + chF by_ k % 9⟩] else [] := rfl
         rw [getD_in hk'] at hsu
         have CC := choice_con by_ k (by omega)
         refine zS ?_;repeat(refine yA ?_;intro p hp;refine zS ?_)
         (first | (apply wl_call (CC); exact rfl; exact rfl) | (apply wl_callR (CC); exact rfl; exact zM; exact rfl))
         refine zS ?_;repeat(refine yA ?_;intro p hp;refine zS ?_)
         refine wl_part rfl rfl (fun hk0 => ?_) (fun hk0 => ?_)
         ·have hk0' : k = 0 := by simpa using hk0
          rw [if_pos (.inl hk0')] at hsu
          rw [hk0]
          refine zS ?_;repeat(refine yA ?_;intro p hp;refine zS ?_)
          (apply wl_rem; exact rfl; exact rfl; omega; omega; omega; exact rfl); (refine zS ?_; (repeat (refine yA ?_; intro p hp; refine zS ?_))); (apply wl_litF stC (xs := [⟨f.ids[k], 1 + chF by_ k % 9⟩]); exact inferInstance; exact inferInstance; exact inferInstance; exact zE; exact rfl; (simp); exact rfl)
          (first | (apply wl_append; exact rfl; exact rfl; exact zN; exact inferInstance; exact inferInstance; (first | omega | (simp; omega)); exact rfl) | (apply wl_appendN; exact rfl; exact rfl; exact inferInstance; exact inferInstance; (first | omega | (simp; omega)); exact rfl))
          intro v2
          refine WL_one (v := v2) zM (fun hone => ?_)
          rw [← hsu]
          refine zS ?_;repeat(refine yA ?_;intro p hp;refine zS ?_)
          (refine ⟨(k + 1, v2), fun _ _ st => st_sub2 st ?_ ?_, ?_, ?_⟩; exact zR; exact zP)
          ·exact hk'
          ·dsimp only; omega
         ·have hk0' : ¬ k = 0 := by simpa using hk0
          refine zS ?_;repeat(refine yA ?_;intro p hp;refine zS ?_)
          (apply wl_rem; exact rfl; exact rfl; omega; omega; omega; exact rfl)
          refine zS ?_;repeat(refine yA ?_;intro p hp;refine zS ?_)
          refine w_cond rfl (fun hev => ?_) (fun hev => ?_)
          ·have hev' : chF by_ k % 2 = 0 := by simpa using hev
           rw [if_pos (.inr hev')] at hsu
           refine zS ?_;repeat(refine yA ?_;intro p hp;refine zS ?_)
           (apply wl_rem; exact rfl; exact rfl; omega; omega; omega; exact rfl); (refine zS ?_; (repeat (refine yA ?_; intro p hp; refine zS ?_))); (apply wl_litF stC (xs := [⟨f.ids[k], 1 + chF by_ k % 9⟩]); exact inferInstance; exact inferInstance; exact inferInstance; exact zE; exact rfl; (simp); exact rfl)
           (first | (apply wl_append; exact rfl; exact rfl; exact zN; exact inferInstance; exact inferInstance; (first | omega | (simp; omega)); exact rfl) | (apply wl_appendN; exact rfl; exact rfl; exact inferInstance; exact inferInstance; (first | omega | (simp; omega)); exact rfl))
           intro v2
           refine WL_one (v := v2) zM (fun hone => ?_)
           rw [← hsu]
           refine zS ?_;repeat(refine yA ?_;intro p hp;refine zS ?_)
           (refine ⟨(k + 1, v2), fun _ _ st => st_sub2 st ?_ ?_, ?_, ?_⟩; exact zR; exact zP)
           ·exact hk'
           ·dsimp only; omega
          ·have hev' : ¬ chF by_ k % 2 = 0 := by simpa using hev
           rw [if_neg (by omega), List.append_nil] at hsu
           rw [← hsu]
           refine zS ?_;repeat(refine yA ?_;intro p hp;refine zS ?_)
           (refine ⟨(k + 1, v), fun _ _ st => st_sub2 st ?_ ?_, ?_, ?_⟩; exact zR; exact zP)
           ·exact hk'
           ·dsimp only; omega
        ·have hkk : k = f.ids.length := by simp at hlt; omega
         subst hkk
         clear hlt hk
         have hsl := stT_len (chF by_) f.ids f.ids.length
         have hsn := stT_ne (chF by_) f.ids (k := f.ids.length) (by omega)
         have hso := (stT_ok hr (ch := chF by_) (fun j => (chF_btw by_ j).1) f.ids.length (Nat.le_refl _)).1
         generalize stT (chF by_) f.ids f.ids.length = sts at hsl hsn hso ⊢
         (apply W_frzX (v := v) px 3; exact zN; exact rfl; exact zM; exact rfl)
         have CO := owed_con t r hst hfo
         have CF := flP2_frz (ofTally_con f ⟨no, py, 0, sts⟩ t r hS (by dsimp only; omega) hst hfo)
         unfold seA at CO
         unfold ofTR at CF
         rw [if_pos hok] at CF
         generalize owedR t r = s at CO CF hOe
         obtain ⟨⟨lo, hi2⟩, er⟩ := s
         dsimp only at hOe CO CF
         subst hOe
         rw [if_pos rfl] at CF
         refine zS ?_;repeat(refine yA ?_;intro p hp;refine zS ?_)
         (first | (apply wl_call (CO); exact rfl; exact rfl) | (apply wl_callR (CO); exact rfl; exact zM; exact rfl))
         refine zS ?_;repeat(refine yA ?_;intro p hp;refine zS ?_)
         refine WL_as 134 (.agg (biC ⟨no, py, 0, sts⟩)) rfl ?_
         by_cases hg : lo = hi2 ∧ 1 ≤ lo ∧ lo ≤ 1000000
         ·rw [if_pos hg] at CF
          obtain ⟨hgl, hg1, hg2⟩ := hg
          subst hgl
          have hbo : bilOk f.ids ⟨no, py, lo, sts⟩ = true := by
           unfold bilOk
           simp only [Bool.and_eq_true, decide_eq_true_eq]
           exact ⟨⟨⟨hpm, hg1, hg2⟩, hsn⟩, hso⟩
          obtain ⟨y, hN⟩ := new_bill hS hok hbl hbo (by dsimp only; omega) (by dsimp only; omega) (by dsimp only; omega) hfree
          have e1 : addR f { (⟨no, py, 0, sts⟩ : Bil) with pe := lo } = (y, 0) := hN.add
          rw [e1] at CF
          dsimp only at CF
          have NC := Net_con f hS
          rw [show netR f = (owed8 f, 0) by unfold netR; rw [if_pos hok]] at NC
          have NY := Net_con y hN.sml
          rw [hN.net] at NY
          have SY := Shares_con y no hN.sml
          have e2 := hN.sha
          dsimp only at e2
          rw [e2] at SY
          have TY := flP_frz (strike_con y no hN.sml)
          have e3 := hN.str
          dsimp only at e3
          rw [e3] at TY
          dsimp only at NC NY SY TY
          have hol := owed8_len f
          have hoy := owed8_len y
          rw [hN.ids] at hoy
          have hsh := shares_len f.ids ⟨no, py, lo, sts⟩
          have hob := owed8_btw hF hS
          have hoby := owed8_btw (flo_f hN.ok) hN.sml
          have hsb := shares_btw (bil_f hbo) (by dsimp only; omega)
          have hsum := hN.sum
          have his := hN.is
          have hdb : ∀ v, dB f.ids ⟨no, py, lo, sts⟩ v = (if f.ids.idxOf py = v then lo else 0) - (sharesR f.ids ⟨no, py, lo, sts⟩).getD v 0 := fun v => rfl
          dsimp only at hsum
          generalize owed8 f = was at NC hol hob his
          generalize owed8 y = isn at NY hoy hoby his
          generalize sharesR f.ids ⟨no, py, lo, sts⟩ = sh at SY hsh hsb hsum hdb
          have z1 : (!decide (lo = lo)) = false := by simp
          have z2 : decide (lo < 1) = false := decide_eq_false (by omega)
          have z3 : decide (1000000 < lo) = false := decide_eq_false (by omega)
          have w1 : (!decide ((was.length : Int) = (f.ids.length : Int))) = false := by rw [hol]; simp
          have w2 : (!decide ((isn.length : Int) = (f.ids.length : Int))) = false := by rw [hoy]; simp
          have w3 : (!decide ((sh.length : Int) = (f.ids.length : Int))) = false := by rw [hsh]; simp
          have hff : decide (f = f) = true := by simp
          (apply wl_callP (CF); exact rfl; exact yC; exact rfl)
          rintro _ _ ⟨rfl, rfl⟩
          refine zS ?_;repeat(refine yA ?_;intro p hp;refine zS ?_)
          rw [z1]
          refine zS ?_;repeat(refine yA ?_;intro p hp;refine zS ?_)
          rw [z2]
          refine zS ?_;repeat(refine yA ?_;intro p hp;refine zS ?_)
          rw [z3]
          refine zS ?_;repeat(refine yA ?_;intro p hp;refine zS ?_)
          (first | (apply wl_call (NC); exact rfl; exact rfl) | (apply wl_callR (NC); exact rfl; exact zM; exact rfl))
          refine zS ?_;repeat(refine yA ?_;intro p hp;refine zS ?_)
          (first | (apply wl_call (NY); exact rfl; exact rfl) | (apply wl_callR (NY); exact rfl; exact zM; exact rfl))
          refine zS ?_;repeat(refine yA ?_;intro p hp;refine zS ?_)
          (first | (apply wl_call (SY); exact rfl; exact rfl) | (apply wl_callR (SY); exact rfl; exact zM; exact rfl))
          refine zS ?_;repeat(refine yA ?_;intro p hp;refine zS ?_)
          (first | (apply wl_call (TY); exact rfl; exact rfl) | (apply wl_callR (TY); exact rfl; exact zM; exact rfl))
          refine zS ?_;repeat(refine yA ?_;intro p hp;refine zS ?_)
          (first | (apply wl_call (same8_con f f hS hS); exact rfl; exact rfl) | (apply wl_callR (same8_con f f hS hS); exact rfl; exact zM; exact rfl))
          rw [hff]
          refine zS ?_;repeat(refine yA ?_;intro p hp;refine zS ?_)
          rw [w1]
          refine zS ?_;repeat(refine yA ?_;intro p hp;refine zS ?_)
          rw [w2]
          refine zS ?_;repeat(refine yA ?_;intro p hp;refine zS ?_)
          rw [w3]
          refine zS ?_;repeat(refine yA ?_;intro p hp;refine zS ?_)
          rename_i prr hprr ps hps pyy hpyy
          refine W_loopJ (fun (b : Nat × Int) => ⟨[(11, .val (.bool true)), (12, .val px), (18, .val ps), (22, .sl 1 iC was), (24, .sl 1 iC isn), (26, .sl 1 iC sh), (30, .val (.int .i64 b.2)), (235, .sl 1 iC f.ids), (236, .val (.int .i64 f.ids.length)), (237, .val (.int .i64 b.1))], [.box px (biC ⟨no, py, 0, sts⟩) 49, .box ps (pC (lo, lo)) 73]⟩) (fun b => b.1 ≤ f.ids.length ∧ b.2 = (sh.take b.1).sum) (fun b => f.ids.length - b.1) (0, 0) (fun _ _ st => st_sub2 st zR zP) ⟨Nat.zero_le _, rfl⟩ ?_
          rintro ⟨k, acc⟩ ⟨hk, hacc⟩
          dsimp only at hk hacc ⊢
          refine zS ?_;repeat(refine yA ?_;intro p hp;refine zS ?_)
          refine w_cond rfl (fun hlt => ?_) (fun hlt => ?_)
          ·have hk' : k < f.ids.length := by simpa using hlt
           have q1 : f.ids[k]? = some f.ids[k] := List.getElem?_eq_getElem hk'
           have k2 : k < was.length := by omega
           have k3 : k < isn.length := by omega
           have k4 : k < sh.length := by omega
           have q2 : was[k]? = some was[k] := List.getElem?_eq_getElem k2
           have q3 : isn[k]? = some isn[k] := List.getElem?_eq_getElem k3
           have q4 : sh[k]? = some sh[k] := List.getElem?_eq_getElem k4
           have b2 := hob.at k2
           have b3 := hoby.at k3
           have b4 := hsb.at k4
           have e := his k
           rw [hdb k] at e
           have l3 : lf isn k = isn[k] := by unfold lf; rw [List.getD_eq_getElem?_getD, q3]; rfl
           have l2 : lf was k = was[k] := by unfold lf; rw [List.getD_eq_getElem?_getD, q2]; rfl
           have l4 : sh.getD k 0 = sh[k] := by rw [List.getD_eq_getElem?_getD, q4]; rfl
           rw [l3, l2, l4] at e
           have hix : f.ids.idxOf py = k ↔ f.ids[k] = py := by
            constructor
            ·intro h; subst h; exact List.getElem_idxOf (List.idxOf_lt_length_of_mem hpm)
            ·intro h; rw [← h]; exact idx_at hr hk'
           have hst2 := sum_take k4
           have hsu2 := sum_btw (c := 9001000) (by omega) (l := sh.take k) fun x hx => by
            obtain ⟨j, hj, rfl⟩ := List.mem_iff_getElem.1 (List.mem_of_mem_take hx)
            exact hsb.at hj
           rw [List.length_take, Nat.min_eq_left (by omega)] at hsu2
           refine zS ?_;repeat(refine yA ?_;intro p hp;refine zS ?_)
           refine w_cond rfl (fun hpp => ?_) (fun hpp => ?_)
           ·have hpp' : f.ids[k] = py := by simpa using hpp
            rw [if_pos (hix.2 hpp')] at e
            have z4 : isn[k] = was[k] + (lo, lo).1 - sh[k] := by dsimp only; omega
            have z5 : (!decide (isn[k] = was[k] + (lo, lo).1 - sh[k])) = false := by rw [decide_eq_true z4]; rfl
            refine zS ?_;repeat(refine yA ?_;intro p hp;refine zS ?_)
            refine W_run 15 [248, 249, 250, 251, 252, 253, 254, 255, 256, 257, 258, 259, 260, 261, 262] [0, 1, 2, 3, 4, 5, 6, 7, 8, 9, 10, 11, 12, 13, 14] Cut.nil rfl goFlt mixedS (by kernel_rfl) rfl ?_
            refine rpv [] [] ?_
            refine rpv [] [] ?_
            refine rpv [0, 1] [] ?_
            refine rpv [2] [] ?_
            refine rpv [] [] ?_
            refine rpv [] [] ?_
            refine rpv [4, 5] [] ?_
            refine rpv [6] [] ?_
            refine rpv [] [] ?_
            refine rpv [7, 8] [] ?_
            refine rpv [] [] ?_
            refine rpv [] [] ?_
            refine rpv [10, 11] [] ?_
            refine rpv [12] [] ?_
            refine rpv [9, 13] [] ?_
            refine ⟨⟨by kernel_rfl, by kernel_rfl⟩, fun vs => ?_⟩
            apply WL_auto [3, 14]
            ·exact goPk
            ·exact goNrm
            ·kernel_rfl
            ·kernel_rfl
            refine zS ?_;repeat(refine yA ?_;intro p hp;refine zS ?_)
            refine zS ?_;repeat(refine yA ?_;intro p hp;refine zS ?_)
            rw [z5]
            refine zS ?_;repeat(refine yA ?_;intro p hp;refine zS ?_)
            (refine ⟨(k + 1, acc + sh[k]), fun _ _ st => st_sub2 st ?_ ?_, ?_, ?_⟩; exact zR; exact zP)
            ·exact ⟨hk', by dsimp only; rw [hst2, ← hacc]⟩
            ·dsimp only; omega
           ·have hpp' : ¬ f.ids[k] = py := by simpa using hpp
            rw [if_neg fun h => hpp' (hix.1 h)] at e
            have z5 : (!decide (isn[k] = was[k] + 0 - sh[k])) = false := by rw [decide_eq_true (by omega)]; rfl
            refine zS ?_;repeat(refine yA ?_;intro p hp;refine zS ?_)
            refine W_run 15 [248, 249, 250, 251, 252, 253, 254, 255, 256, 257, 258, 259, 260, 261, 262] [0, 1, 2, 3, 4, 5, 6, 7, 8, 9, 10, 11, 12, 13, 14] Cut.nil rfl goFlt mixedS (by kernel_rfl) rfl ?_
            refine rpv [] [] ?_
            refine rpv [] [] ?_
            refine rpv [0, 1] [] ?_
            refine rpv [2] [] ?_
            refine rpv [] [] ?_
            refine rpv [] [] ?_
            refine rpv [4, 5] [] ?_
            refine rpv [6] [] ?_
            refine rpv [] [] ?_
            refine rpv [7, 8] [] ?_
            refine rpv [] [] ?_
            refine rpv [] [] ?_
            refine rpv [10, 11] [] ?_
            refine rpv [12] [] ?_
            refine rpv [9, 13] [] ?_
            refine ⟨⟨by kernel_rfl, by kernel_rfl⟩, fun vs => ?_⟩
            apply WL_auto [3, 14]
            ·exact goPk
            ·exact goNrm
            ·kernel_rfl
            ·kernel_rfl
            refine zS ?_;repeat(refine yA ?_;intro p hp;refine zS ?_)
            refine zS ?_;repeat(refine yA ?_;intro p hp;refine zS ?_)
            rw [z5]
            refine zS ?_;repeat(refine yA ?_;intro p hp;refine zS ?_)
            (refine ⟨(k + 1, acc + sh[k]), fun _ _ st => st_sub2 st ?_ ?_, ?_, ?_⟩; exact zR; exact zP)
            ·exact ⟨hk', by dsimp only; rw [hst2, ← hacc]⟩
            ·dsimp only; omega
          ·have hkk : k = f.ids.length := by simp at hlt; omega
           subst hkk
           rw [← hsh, List.take_length, hsum] at hacc
           subst hacc
           have z6 : decide (acc = acc) = true := by simp
           refine zS ?_;repeat(refine yA ?_;intro p hp;refine zS ?_)
           rw [z6]
           refine zS ?_;repeat(refine yA ?_;intro p hp;refine zS ?_)
           (apply res1; exact rfl; exact rfl; exact ⟨rfl, rfl⟩)
         ·rw [if_neg hg] at CF
          dsimp only at CF
          (apply wl_callP (CF); exact rfl; exact yC; exact rfl)
          rintro _ _ ⟨rfl, rfl⟩
          refine zS ?_;repeat(refine yA ?_;intro p hp;refine zS ?_)
          refine wl_part rfl rfl (fun h1 => ?_) (fun h1 => ?_)
          ·refine zS ?_;repeat(refine yA ?_;intro p hp;refine zS ?_)
           (apply res1; exact rfl; exact rfl; exact ⟨rfl, rfl⟩)
          ·have h1' : lo = hi2 := by simpa using h1
           refine zS ?_;repeat(refine yA ?_;intro p hp;refine zS ?_)
           refine wl_part rfl rfl (fun h2 => ?_) (fun h2 => ?_)
           ·refine zS ?_;repeat(refine yA ?_;intro p hp;refine zS ?_)
            (apply res1; exact rfl; exact rfl; exact ⟨rfl, rfl⟩)
           ·have h2' : 1 ≤ lo := by simp at h2; omega
            refine zS ?_;repeat(refine yA ?_;intro p hp;refine zS ?_)
            refine w_cond rfl (fun h3 => ?_) (fun h3 => ?_)
            ·refine zS ?_;repeat(refine yA ?_;intro p hp;refine zS ?_)
             (apply res1; exact rfl; exact rfl; exact ⟨rfl, rfl⟩)
            ·exact absurd ⟨h1', h2', (by have := of_decide_eq_false h3; omega)⟩ hg
end Go.Proofs.YtihonljdanjfmaaGreatDoor.Sw
