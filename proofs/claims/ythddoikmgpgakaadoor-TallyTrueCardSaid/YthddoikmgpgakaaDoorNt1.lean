/- Proofs for one card: App, Frame, Reg, RegIn, Sw, SwOps, Fst, SwAny, SwOps2, SwOps3, SwR, Ty, SwF, Row, Steps, Left, Best, Comes, Wide, DoorU7, SwG, SwH, SwI, SwQ, SwL, SwB, SwS, SwM, SwX, Bk, SwN, MtA, LsB, LsD, LsG, Edits, LsK, Pa, Ps, Ota, Otb, Slt, TallyCut, Ote, Otr, Ots, TallyTrue. No condition of its own. -/
import Derived.WalkKit
import Derived.Handy
import Derived.Deep.AppendSrc
import Derived.Test.YthddoikmgpgakaaDoorProg
import Derived.Outline
import Derived.RangeFuncNested
import Derived.Shelf.Abstract
import Derived.Deep.QuietTactic
import Derived.BigQuiet
import Derived.Deep.RegionHeld3
import Derived.WalkSmall
import Derived.Laws.EntriesVeiled
import Derived.Maps.AppendAt
import Derived.Deep.AppendLies
import Derived.Test.YthddoikmgpgakaaDoorCards
import Derived.Test.YthddoikmgpgakaaDoorTie
import Derived.ProofKit
import Derived.OpenShut
import Derived.LaidMore
import Derived.LaidOnce
import Derived.ChangeOld
import Derived.Below
import Derived.Stop.Joined
import Derived.Lib.SmallJoins
import Derived.OrdersHeld
import Derived.Deep.RegionHeld
import Derived.OrdersIn
import Derived.RangeFuncCalls
import Derived.RangeFuncLeaves
import Derived.IntWalk
import Derived.WalkSpells
import Derived.OwnWalk
import Derived.LoopNIn
import Derived.DeepKeys4
import Derived.Maps.OwnIn
import Derived.OwnWalkIn
import Derived.RangeFuncBound
import Derived.Shelf.RegionOpen
import Derived.TacticsInMore
import Derived.Sort.BigQuietIn
import Derived.LoopIn
import Derived.WalkMore
import Derived.Maps.Views
import Derived.Lib.AppendZerosOnto
import Derived.Lib.Walk
import Derived.Lib.SliceRun
import Derived.Laws.MakeOwn
import Derived.Deep.Cut
import Derived.Deep.Slices
import Derived.Lib.LazyBuf
import Derived.Scope
import Derived.Maps.RangeRun
import Derived.ArgAppend
import Derived.WideKeyEntry
import Derived.Shelf.SlSortCmp.Whole1
import Derived.Shelf.Lay
import Derived.Test.YthddoikmgpgakaaDoorNa8
set_option linter.unusedVariables false
set_option linter.unusedSimpArgs false
set_option maxRecDepth 40000
set_option maxHeartbeats 32000000
namespace Go.Proofs.YthddoikmgpgakaaDoor
open Go.RowKit Go
section
variable {P : Program} (w : World)
end
end Go.Proofs.YthddoikmgpgakaaDoor
namespace Go.Proofs.YthddoikmgpgakaaDoor
open Go Go.ChangeShapes Go.WideShapes Go.ChangeAt Go.RowKit
theorem laidOut : laidOutB Tryd.prog = true := by kernel_rfl
set_option maxRecDepth 100000 in
theorem tab_of {W : World} (h : laidMetH Tryd.prog laidL W) : Tab W := by
 obtain ⟨g, t, cs, fuel, p, hg, ht, hv, hd⟩ := h.funcs (n := "aguador/tally.checks") (List.mem_cons_self ..)
 obtain rfl := Option.some.inj ((show Tryd.prog.globalNamed "aguador/tally.checks" = some 0 by kernel_rfl).symm.trans hg)
 obtain rfl := Option.some.inj ((show (Tryd.prog.globals[0]?).map (·.type) = some 146 by kernel_rfl).symm.trans ht)
 have hd' : DataW.trod (funcToken Tryd.prog) Tryd.prog W 0 (fun _ => true) true fuel 146 cs.toList = some (.agg [.agg [.held [97, 103, 117, 97, 100, 111, 114, 47, 116, 97, 108, 108, 121, 46, 99, 104, 101, 99, 107, 115, 36, 49]], .agg [.held [97, 103, 117, 97, 100, 111, 114, 47, 116, 97, 108, 108, 121, 46, 99, 104, 101, 99, 107, 115, 36, 50]], .agg [.held [97, 103, 117, 97, 100, 111, 114, 47, 116, 97, 108, 108, 121, 46, 99, 104, 101, 99, 107, 115, 36, 51]]], p) := hd
 obtain ⟨xs, m, rfl, hx, hlen, hn, hel⟩ := DataW.trod_array Tryd.underlying146 hd'
 rw [show Tryd.prog.cellsOf 145 = 1 by kernel_rfl] at hel
 rw [show Tryd.prog.cellsOf 146 = 3 by kernel_rfl] at hlen
 obtain ⟨cl⟩ := cs
 match cl, hlen, xs, hn with
 | [v0, v1, v2], _, [x0, x1, x2], _ =>
  simp only [Prod.mk.injEq, DataW.agg.injEq, List.map_cons, List.map_nil, List.cons.injEq] at hx
  have h0 := hel 0 (by decide); have h1 := hel 1 (by decide); have h2 := hel 2 (by decide)
  simp at h0 h1 h2
  have go : ∀ (v : Value) (x : DataW (List UInt8) × List MemPlace) (b : UInt8) (r : List UInt8) (f0 : FuncId), ((List.range Tryd.prog.funcs.size).filter fun f => (Tryd.prog.funcs[f]?).any (·.name.toUTF8.data.toList == b :: r)) = [f0] →
    DataW.trod (funcToken Tryd.prog) Tryd.prog W 0 (fun _ => true) true m 145 [v] = some x → x.1 = .agg [.held (b :: r)] → v = .func (.func f0) #[] #[] := by
   intro v x b r f0 hone h hx
   obtain ⟨y, n, rfl, _, hy⟩ := trod_struct1 Tryd.underlying145 h
   simp only [DataW.agg.injEq, List.cons.injEq, and_true] at hx
   obtain ⟨y1, y2⟩ := y
   simp only at hx
   subst hx
   exact func_of_trod (P := Tryd.prog) Tryd.underlying25 hone (by simpa [show Tryd.prog.cellsOf 25 = 1 by kernel_rfl] using hy)
  have e0 := go v0 x0 _ _ 164 (by kernel_rfl) h0 hx.1.1.symm
  have e1 := go v1 x1 _ _ 165 (by kernel_rfl) h1 hx.1.2.1.symm
  have e2 := go v2 x2 _ _ 166 (by kernel_rfl) h2 hx.1.2.2.1.symm
  subst e0; subst e1; subst e2
  have c0 := World.var?_cell hg hv 0; have c1 := World.var?_cell hg hv 1; have c2 := World.var?_cell hg hv 2
  exact ⟨by simpa using c0, by simpa using c1, by simpa using c2⟩
end Go.Proofs.YthddoikmgpgakaaDoor
namespace Go.Proofs.YthddoikmgpgakaaDoor
open Go.RowKit Go
section
variable {P : Program} {ops : Array Oper} {Q : Exit → Act → World → Prop} {S : World → Prop} {held : List Nat}
end
section
variable {F : Fence} {n : Nat} {P : Program} {ops : Array Oper} {Q : Exit → Act → World → Prop} {S : World → Prop} {held : List Nat}
end
end Go.Proofs.YthddoikmgpgakaaDoor
namespace Go.Proofs.YthddoikmgpgakaaDoor.Sw
open Go.RowKit Go
section
variable {c : Cx} {s : S} {Q : Exit → S → Prop}
end
section
variable {c : Cx} {s : S} {Q : Exit → S → Prop} {ops : Array Oper} {tl : List Oper}
end
section
variable {c : Cx} {s : S} {Q : Exit → S → Prop} {ops : Array Oper} {tl : List Oper}
end
section
variable {P : Program} {rs : List (Nat × AV)} {d : Option Nat} {ty : TypeId} {pos : String} {af : Array Edge} {g : Option (Nat × Bool)}
theorem lt_leq {x y : Operand} {m n : Int} {k : IntKind} {t t' : TypeId} (hx : opv rs x = some (.val (.int k m))) (hy : opv rs y = some (.val (.int k n))) :
  LT P ⟨d, .binOp .leq t x y t', ty, pos, af, g⟩ rs [] (Is (.val (.bool (decide (m ≤ n)))) []) :=
 LT_val (fun _ e => by cases e) fun a w G hR _ => ⟨_, rfl, by
  have e1 : a.eval x = _ := opv_ok hR hx
  have e2 : a.eval y = _ := opv_ok hR hy
  simp only [execOp, e1, e2]
  first | (simp [go_sem]; done) | (simp [go_sem]; rfl)⟩
theorem lt_geq {x y : Operand} {m n : Int} {k : IntKind} {t t' : TypeId} (hx : opv rs x = some (.val (.int k m))) (hy : opv rs y = some (.val (.int k n))) :
  LT P ⟨d, .binOp .geq t x y t', ty, pos, af, g⟩ rs [] (Is (.val (.bool (decide (n ≤ m)))) []) :=
 LT_val (fun _ e => by cases e) fun a w G hR _ => ⟨_, rfl, by
  have e1 : a.eval x = _ := opv_ok hR hx
  have e2 : a.eval y = _ := opv_ok hR hy
  simp only [execOp, e1, e2]
  first | (simp [go_sem]; done) | (simp [go_sem]; rfl)⟩
end
section
variable {c : Cx} {s : S} {Q : Exit → S → Prop} {ops : Array Oper} {tl : List Oper}
end
section
variable {c : Cx} {rs : List (Nat × AV)} {hs : List HA} {Q : Exit → S → Prop} {ops : Array Oper} {tl : List Oper} {d : Nat} {op : Op} {ty : TypeId} {pos : String} {af : Array Edge}
end
section
variable {c : Cx} {rs : List (Nat × AV)} {hs : List HA} {Q : Exit → S → Prop} {ops : Array Oper} {tl : List Oper} {d : Nat} {ty : TypeId} {pos : String} {af : Array Edge} {x y : Operand} {t tb : TypeId} {p : Value} {j : Nat} {cs : List AV} {f : HA → List HA}
end
end Go.Proofs.YthddoikmgpgakaaDoor.Sw
namespace Go.Proofs.YthddoikmgpgakaaDoor
theorem ltL_nil_r (a : List Int) : ltL a [] = false := by cases a <;> rfl
theorem ltL_asymm {a b : List Int} (h : ltL a b = true) : ltL b a = false := by
 cases hb : ltL b a with
 | false => rfl
 | true => have := ltL_trans h hb; rw [ltL_irrefl] at this; cases this
end Go.Proofs.YthddoikmgpgakaaDoor
namespace Go.Proofs.YthddoikmgpgakaaDoor.Sw
open Go.RowKit Go
section
variable (ops : Array Oper) (m : Nat) (sp : List Sp) (hs0 : List HA)
end
section
variable {c : Cx} {ops : Array Oper} {m : Nat} {sp : List Sp} {hs0 hsR : List HA} {rsB : List (Nat × AV)} {Q : Exit → S → Prop}
end
section
variable {P : Program} {rs : List (Nat × AV)} {hsR : List HA} {d : Option Nat} {ty : TypeId} {pos : String} {af : Array Edge} {g : Option (Nat × Bool)} {x : Operand} {t tb : TypeId} {p : Value} {j : Nat} {cs : List AV} {f : HA → List HA}
end
section
variable {P : Program} {rs : List (Nat × AV)} {d : Option Nat} {ty : TypeId} {pos : String} {af : Array Edge} {g : Option (Nat × Bool)}
end
theorem st_frz {α : Type} {c : Cx} {rs : List (Nat × AV)} {hs r : List HA} {e : TypeId} {n : Nat} {f : α → List AV} {xs : List α} {v : Value} {i : Nat} {a : Act} {w : World} (hl : look rs i = some (.val v)) (hr : Rm hs (.row v e n f xs) r) (st : St c ⟨rs, hs⟩ a w) : St c ⟨(i, .sl n f xs) :: rs, r⟩ a w := by
 obtain ⟨G, F, hI, hF, hR, rr⟩ := st
 obtain ⟨G', F', h1, h2, h3⟩ := row_freeze (rest := r) ⟨hI.gin, hI.nd, hI.own, hr.sel hI.hs⟩
 refine ⟨G', F', h1, hF.trans h2, fun k av ek => ?_, rr.1, rr.2.step h2⟩
 simp only [look] at ek
 cases hb : Nat.beq i k with
 | true =>
  rw [hb] at ek
  obtain rfl := Nat.eq_of_beq_eq_true hb
  simp only [cond_true, Option.some.injEq] at ek
  subst ek
  have : a.tmps.getD i undef = v := hR _ _ hl
  rw [this]; exact h3
 | false => rw [hb] at ek; exact av.mono h2.gle (hR k av (by simpa using ek))
theorem W_frz {α : Type} {c : Cx} {rs : List (Nat × AV)} {hs r : List HA} {Q : Exit → S → Prop} {x : Code} {e : TypeId} {n : Nat} {f : α → List AV} {xs : List α} {v : Value} (i : Nat) (hl : look rs i = some (.val v)) (hr : Rm hs (.row v e n f xs) r) (k : W c x ⟨(i, .sl n f xs) :: rs, r⟩ Q) : W c x ⟨rs, hs⟩ Q := ⟨fun a w st => k.out a w (st_frz hl hr st)⟩
section
variable {P : Program} {rs : List (Nat × AV)} {d : Option Nat} {ty : TypeId} {pos : String} {af : Array Edge} {g : Option (Nat × Bool)}
end
section
variable {c : Cx} {rs : List (Nat × AV)} {hs : List HA} {Q : Exit → S → Prop} {ops : Array Oper} {tl : List Oper} {d : Nat} {ty : TypeId} {pos : String} {af : Array Edge}
theorem wl_sub {x y : Operand} {m n : Int} {t t' : TypeId} (hx : opv rs x = some (.val (.int .i64 m))) (hy : opv rs y = some (.val (.int .i64 n))) (h1 : -9223372036854775808 ≤ m - n) (h2 : m - n ≤ 9223372036854775807) (hd : Nat.blt d c.nt = true) (k : WL c ops tl ⟨(d, .val (.int .i64 (m - n))) :: rs, hs⟩ Q) : WL c ops (⟨some d, .binOp .sub t x y t', ty, pos, af, none⟩ :: tl) ⟨rs, hs⟩ Q := wl_ex (lt_sub hx hy h1 h2) hd k
theorem wl_leq {x y : Operand} {m n : Int} {kd : IntKind} {t t' : TypeId} (hx : opv rs x = some (.val (.int kd m))) (hy : opv rs y = some (.val (.int kd n))) (hd : Nat.blt d c.nt = true) (k : WL c ops tl ⟨(d, .val (.bool (decide (m ≤ n)))) :: rs, hs⟩ Q) : WL c ops (⟨some d, .binOp .leq t x y t', ty, pos, af, none⟩ :: tl) ⟨rs, hs⟩ Q := wl_ex (lt_leq hx hy) hd k
theorem wl_geq {x y : Operand} {m n : Int} {kd : IntKind} {t t' : TypeId} (hx : opv rs x = some (.val (.int kd m))) (hy : opv rs y = some (.val (.int kd n))) (hd : Nat.blt d c.nt = true) (k : WL c ops tl ⟨(d, .val (.bool (decide (n ≤ m)))) :: rs, hs⟩ Q) : WL c ops (⟨some d, .binOp .geq t x y t', ty, pos, af, none⟩ :: tl) ⟨rs, hs⟩ Q := wl_ex (lt_geq hx hy) hd k
end
section
variable {c : Cx} {rs : List (Nat × AV)} {hs : List HA} {Q : Exit → S → Prop} {ops : Array Oper} {tl : List Oper} {d : Nat} {ty : TypeId} {pos : String} {af : Array Edge}
end
instance : TyF Tryd.prog 64 0 0 := ⟨fun a w => by kernel_rfl⟩
instance : TyF Tryd.prog 64 1 1 := ⟨fun a w => by kernel_rfl⟩
instance : TyF Tryd.prog 64 2 2 := ⟨fun a w => by kernel_rfl⟩
instance : TyF Tryd.prog 64 3 3 := ⟨fun a w => by kernel_rfl⟩
instance : TyF Tryd.prog 68 0 0 := ⟨fun a w => by kernel_rfl⟩
instance : TyF Tryd.prog 68 1 1 := ⟨fun a w => by kernel_rfl⟩
instance : TyF Tryd.prog 109 0 0 := ⟨fun a w => by kernel_rfl⟩
instance : TyF Tryd.prog 109 1 1 := ⟨fun a w => by kernel_rfl⟩
instance : TyF Tryd.prog 109 2 2 := ⟨fun a w => by kernel_rfl⟩
section
variable {P : Program} {rs : List (Nat × AV)} {d : Option Nat} {ty : TypeId} {pos : String} {af : Array Edge} {g : Option (Nat × Bool)}
end
section
variable {c : Cx} {rs : List (Nat × AV)} {hs : List HA} {Q : Exit → S → Prop} {ops : Array Oper} {tl : List Oper} {d : Nat} {ty : TypeId} {pos : String} {af : Array Edge}
end
section
variable {P : Program} {rs : List (Nat × AV)} {hsR : List HA} {d : Option Nat} {ty : TypeId} {pos : String} {af : Array Edge} {g : Option (Nat × Bool)}
end
section
variable {P : Program} {rs : List (Nat × AV)} {hsR : List HA} {d : Option Nat} {ty : TypeId} {pos : String} {af : Array Edge} {g : Option (Nat × Bool)}
end
section
variable {c : Cx} {rs : List (Nat × AV)} {hs : List HA} {Q : Exit → S → Prop} {ops : Array Oper} {tl : List Oper} {d : Nat} {ty : TypeId} {pos : String} {af : Array Edge}
end
theorem wl_noU {c : Cx} {rs : List (Nat × AV)} {hs : List HA} {Q : Exit → S → Prop} {ops : Array Oper} {tl : List Oper} {d : Nat} {op : Op} {ty : TypeId} {pos : String} {af : Array Edge} {j dj : Nat} {b : Bool} (hj : gdst ops j = some dj) (hl : look rs dj = some (.val undef)) (hd2 : Nat.blt d c.nt = true) (h : WL c ops tl ⟨(d, .val undef) :: rs, hs⟩ Q) : WL c ops (⟨some d, op, ty, pos, af, some (j, b)⟩ :: tl) ⟨rs, hs⟩ Q := ⟨fun a w st => by
 obtain ⟨G, F, hI, hF, hR, hn, hd'⟩ := st
 have h1 : a.tmps.getD dj undef = undef := hR _ _ hl
 have hy : yielded ops a.tmps j = none := by
  unfold gdst at hj
  rw [Array.getD_eq_getD_getElem?] at h1
  cases h : a.tmps[dj]? with
  | none => simp [yielded, hj, h]
  | some v => rw [h] at h1; simp at h1; subst h1; simp [yielded, hj, h, undef]
 unfold wpListIn
 rw [if_neg (by simp [Region.wanted, hy])]
 refine ⟨fun f _ => c.wd.fn f, h.out _ _ ⟨G, F, hI, hF, RegOK.put hR hn (d := some d) hd2 rfl, ?_, ?_⟩⟩
 ·rw [(size_put a _ _).1, hn]
 ·rw [(size_put a _ _).2]; exact hd'⟩
end Go.Proofs.YthddoikmgpgakaaDoor.Sw
namespace Go.Proofs.YthddoikmgpgakaaDoor
open Go.RowKit Go
section
variable {α : Type} {f : α → List Value} {n : Nat}
end
end Go.Proofs.YthddoikmgpgakaaDoor
namespace Go.Proofs.YthddoikmgpgakaaDoor
open Go.RowKit Go.Proofs Go.Shelf
attribute [local go_sem] Oper.semAt_some
attribute [local go_sem] Oper.semAt_some
attribute [local go_sem] eqPlace
attribute [local go_sem] Oper.semAt_some
attribute [local go_sem] Oper.semAt_some
theorem refRates_any (r : Rt) (w : World) :
  Calls Tryd.prog 70 #[r.val] w fun e w' => e = .returned (.bool r.ok) ∧ Below w.heap.size w w' := by
 have hok : r.ok = ((decide (0 ≤ r.skin) && decide (r.skin ≤ 1000)) && ((decide (0 ≤ r.half) && decide (r.half ≤ 1000)) && ((decide (0 ≤ r.barrel) && decide (r.barrel ≤ 1000)) && (decide (0 ≤ r.paid) && decide (r.paid ≤ 1000))))) := rfl
 have HOK := hid hok; clear hok
 obtain ⟨q1, hq1⟩ : ∃ q, (decide (0 ≤ r.skin) && decide (r.skin ≤ 1000)) = q := ⟨_, rfl⟩
 obtain ⟨q2, hq2⟩ : ∃ q, (decide (0 ≤ r.half) && decide (r.half ≤ 1000)) = q := ⟨_, rfl⟩
 obtain ⟨q3, hq3⟩ : ∃ q, (decide (0 ≤ r.barrel) && decide (r.barrel ≤ 1000)) = q := ⟨_, rfl⟩
 obtain ⟨q4, hq4⟩ : ∃ q, (decide (0 ≤ r.paid) && decide (r.paid ≤ 1000)) = q := ⟨_, rfl⟩
 rw [hq1, hq2, hq3, hq4] at HOK
 unfold Rt.val
 cases q1 with
 | false => (go_enter Tryd.func70, Tryd.ntmps70; go_wp2_with (refine (within_any _ _ _ _).mono ?_; rintro e w' ⟨rfl, rfl⟩); go_ret; exact ⟨(congrArg (fun b => Ending.returned (Value.bool b)) (by rw [HOK.out]; first | rfl | simp [*])), goBl⟩)
 | true =>
  cases q2 with
  | false => (go_enter Tryd.func70, Tryd.ntmps70; go_wp2_with (refine (within_any _ _ _ _).mono ?_; rintro e w' ⟨rfl, rfl⟩); go_ret; exact ⟨(congrArg (fun b => Ending.returned (Value.bool b)) (by rw [HOK.out]; first | rfl | simp [*])), goBl⟩)
  | true =>
   cases q3 with
   | false => (go_enter Tryd.func70, Tryd.ntmps70; go_wp2_with (refine (within_any _ _ _ _).mono ?_; rintro e w' ⟨rfl, rfl⟩); go_ret; exact ⟨(congrArg (fun b => Ending.returned (Value.bool b)) (by rw [HOK.out]; first | rfl | simp [*])), goBl⟩)
   | true =>
    cases q4 with
    | false => (go_enter Tryd.func70, Tryd.ntmps70; go_wp2_with (refine (within_any _ _ _ _).mono ?_; rintro e w' ⟨rfl, rfl⟩); go_ret; exact ⟨(congrArg (fun b => Ending.returned (Value.bool b)) (by rw [HOK.out]; first | rfl | simp [*])), goBl⟩)
    | true => (go_enter Tryd.func70, Tryd.ntmps70; go_wp2_with (refine (within_any _ _ _ _).mono ?_; rintro e w' ⟨rfl, rfl⟩); go_ret; exact ⟨(congrArg (fun b => Ending.returned (Value.bool b)) (by rw [HOK.out]; first | rfl | simp [*])), goBl⟩)
end Go.Proofs.YthddoikmgpgakaaDoor
namespace Go.Proofs.YthddoikmgpgakaaDoor.Sw
open Go Go.RowKit Go.ChangeShapes Go.WideShapes Go.ChangeAt
theorem u32_ok {n : Int} (h : (Lit.int .u32 n).wf = true) : 0 ≤ n ∧ n ≤ 4294967295 := by
 simp only [Lit.wf, IntKind.min, IntKind.max, IntKind.signed, IntKind.bits, Bool.and_eq_true, decide_eq_true_eq] at h
 simp at h
 omega
set_option maxRecDepth 100000
end Go.Proofs.YthddoikmgpgakaaDoor.Sw
namespace Go.Proofs.YthddoikmgpgakaaDoor.Sw
open Go.RowKit Go
section
variable {c : Cx} {rs : List (Nat × AV)} {hs : List HA} {Q : Exit → S → Prop} {g : Operand} {ps : Array Tmp} {assign body : Code} {gf : FuncId} {caps : List AV} {own r : List HA} {α β τ : Type} {f : α → τ → List AV} {t : α → τ → List HA} {xs : List α}
end
section
variable {P : Program} {rs : List (Nat × AV)} {hsR : List HA} {d : Option Nat} {ty : TypeId} {pos : String} {af : Array Edge} {g : Option (Nat × Bool)}
end
section
variable {c : Cx} {rs : List (Nat × AV)} {hs : List HA} {Q : Exit → S → Prop} {ops : Array Oper} {tl : List Oper} {d : Nat} {ty : TypeId} {pos : String} {af : Array Edge}
end
section
variable {P : Program} {rs : List (Nat × AV)} {hsR : List HA} {d : Option Nat} {ty : TypeId} {pos : String} {af : Array Edge} {g : Option (Nat × Bool)}
end
section
variable {c : Cx} {rs : List (Nat × AV)} {hs : List HA} {Q : Exit → S → Prop} {ops : Array Oper} {tl : List Oper} {d : Nat} {ty : TypeId} {pos : String} {af : Array Edge}
end
section
variable {P : Program} {rs : List (Nat × AV)} {d : Option Nat} {ty : TypeId} {pos : String} {af : Array Edge} {g : Option (Nat × Bool)}
end
section
variable {c : Cx} {rs : List (Nat × AV)} {hs : List HA} {Q : Exit → S → Prop} {ops : Array Oper} {tl : List Oper} {d : Nat} {ty : TypeId} {pos : String} {af : Array Edge}
end
section
variable {P : Program} {rs : List (Nat × AV)} {d : Option Nat} {ty : TypeId} {pos : String} {af : Array Edge} {g : Option (Nat × Bool)}
theorem lt_rem {x y : Operand} {m n : Int} {t t' : TypeId} (hx : opv rs x = some (.val (.int .i64 m))) (hy : opv rs y = some (.val (.int .i64 n))) (h0 : 0 < n) (h1 : 0 ≤ m) (h2 : m ≤ 9223372036854775807) :
  LT P ⟨d, .binOp .rem t x y t', ty, pos, af, g⟩ rs [] (Is (.val (.int .i64 (m % n))) []) :=
 LT_val (fun _ e => by cases e) fun a w G hR _ => ⟨_, rfl, by
  have e1 : a.eval x = _ := opv_ok hR hx
  have e2 : a.eval y = _ := opv_ok hR hy
  have hq : m.tmod n = m % n := Int.tmod_eq_emod_of_nonneg h1
  have hr1 : 0 ≤ m % n := Int.emod_nonneg m (by omega)
  have hr2 : m % n < n := Int.emod_lt_of_pos m h0
  have hr3 : m % n ≤ m := by
   have e := Int.emod_add_mul_ediv m n
   have p := Int.mul_nonneg (show 0 ≤ n by omega) (Int.ediv_nonneg h1 (show 0 ≤ n by omega))
   generalize n * (m / n) = q at e p
   omega
  have hz : n ≠ 0 := by omega
  simp only [execOp, e1, e2]
  simp [go_sem, hz, hq, IntWalk.i64_in (m % n) (by omega)]⟩
end
theorem wl_rem {c : Cx} {rs : List (Nat × AV)} {hs : List HA} {Q : Exit → S → Prop} {ops : Array Oper} {tl : List Oper} {d : Nat} {ty : TypeId} {pos : String} {af : Array Edge} {x y : Operand} {m n : Int} {t t' : TypeId} (hx : opv rs x = some (.val (.int .i64 m))) (hy : opv rs y = some (.val (.int .i64 n))) (h0 : 0 < n) (h1 : 0 ≤ m) (h2 : m ≤ 9223372036854775807) (hd : Nat.blt d c.nt = true) (k : WL c ops tl ⟨(d, .val (.int .i64 (m % n))) :: rs, hs⟩ Q) : WL c ops (⟨some d, .binOp .rem t x y t', ty, pos, af, none⟩ :: tl) ⟨rs, hs⟩ Q := wl_ex (lt_rem hx hy h0 h1 h2) hd k
section
variable {P : Program} {rs : List (Nat × AV)} {d : Option Nat} {ty : TypeId} {pos : String} {af : Array Edge} {g : Option (Nat × Bool)}
end
section
variable {c : Cx} {rs : List (Nat × AV)} {hs : List HA} {Q : Exit → S → Prop} {ops : Array Oper} {tl : List Oper} {d : Nat} {ty : TypeId} {pos : String} {af : Array Edge}
end
section
variable {P : Program} {rs : List (Nat × AV)} {d : Option Nat} {ty : TypeId} {pos : String} {af : Array Edge} {g : Option (Nat × Bool)}
end
section
variable {c : Cx} {rs : List (Nat × AV)} {hs : List HA} {Q : Exit → S → Prop} {ops : Array Oper} {tl : List Oper} {d : Nat} {ty : TypeId} {pos : String} {af : Array Edge}
end
section
variable {P : Program} {rs : List (Nat × AV)} {d : Option Nat} {ty : TypeId} {pos : String} {af : Array Edge} {g : Option (Nat × Bool)}
end
section
variable {c : Cx} {rs : List (Nat × AV)} {hs r : List HA} {Q : Exit → S → Prop} {ops : Array Oper} {tl : List Oper} {d : Nat} {ty : TypeId} {pos : String} {af : Array Edge}
end
end Go.Proofs.YthddoikmgpgakaaDoor.Sw
namespace Go.Proofs.YthddoikmgpgakaaDoor.Sw
open Go.RowKit Go
open Go.WideElems (Fit)
open Go.ChangeMaps (setBlock heap_setBlock_same heap_setBlock_other)
section
variable {κ α : Type} [DecidableEq κ]
end
section
variable {κ α : Type} (kv : κ → Value) (g : α → AV)
variable {kv g}
variable (kv g)
variable {kv g}
end
section
variable {P : Program} {κ α : Type} [DecidableEq κ] {t : TypeId} {kv : κ → Value} {ok : κ → Prop} {g : α → AV} {l : List (κ × α)} {G : Nat → Option Obj} {F : List Nat} {w : World} {v : Value}
variable {rs : List (Nat × AV)} {d : Option Nat} {ty : TypeId} {pos : String} {af : Array Edge} {gd : Option (Nat × Bool)}
end
section
variable {c : Cx} {rs : List (Nat × AV)} {hs : List HA} {Q : Exit → S → Prop} {ops : Array Oper} {tl : List Oper} {d : Nat} {ty : TypeId} {pos : String} {af : Array Edge} {κ α : Type} [DecidableEq κ] {t : TypeId} {kv : κ → Value} {ok : κ → Prop} {g : α → AV} {l : List (κ × α)} {v : Value}
end
section
variable {P : Program} {rs : List (Nat × AV)} {d : Option Nat} {ty : TypeId} {pos : String} {af : Array Edge} {gd : Option (Nat × Bool)} {κ α : Type} {t : TypeId} {kv : κ → Value} {g : α → AV} {l rest : List (κ × α)} {v it : Value}
end
section
variable {c : Cx} {rs : List (Nat × AV)} {hs r : List HA} {Q : Exit → S → Prop} {ops : Array Oper} {tl : List Oper} {d : Nat} {ty : TypeId} {pos : String} {af : Array Edge} {κ α : Type} {t : TypeId} {kv : κ → Value} {g : α → AV} {l rest : List (κ × α)} {v it : Value}
end
end Go.Proofs.YthddoikmgpgakaaDoor.Sw
namespace Go.Proofs.YthddoikmgpgakaaDoor.Sw
open Go.RowKit Go
section
variable {P : Program} {w : World}
end
section
variable {P : Program} {rs : List (Nat × AV)} {d : Option Nat} {ty : TypeId} {pos : String} {af : Array Edge} {g : Option (Nat × Bool)}
end
end Go.Proofs.YthddoikmgpgakaaDoor.Sw
namespace Go.Proofs.YthddoikmgpgakaaDoor.Sw
open Go.RowKit Go
open Go.WideElems (Fit)
open Go.ChangeMaps (setBlock heap_setBlock_same heap_setBlock_other)
section
variable {P : Program} {κ α : Type} [DecidableEq κ] {t : TypeId} {kv : κ → Value} {ok : κ → Prop} {g : α → AV} {l : List (κ × α)} {G : Nat → Option Obj} {F : List Nat} {w : World} {v : Value}
variable {rs : List (Nat × AV)} {d : Option Nat} {ty : TypeId} {pos : String} {af : Array Edge} {gd : Option (Nat × Bool)}
end
section
variable {c : Cx} {rs : List (Nat × AV)} {hs : List HA} {Q : Exit → S → Prop} {ops : Array Oper} {tl : List Oper} {d : Nat} {ty : TypeId} {pos : String} {af : Array Edge} {κ α : Type} [DecidableEq κ] {t : TypeId} {kv : κ → Value} {ok : κ → Prop} {g : α → AV} {l : List (κ × α)} {v : Value}
end
end Go.Proofs.YthddoikmgpgakaaDoor.Sw
namespace Go.Proofs.YthddoikmgpgakaaDoor.Sw
open Go.RowKit Go
section
variable {P : Program} {rs : List (Nat × AV)} {d : Option Nat} {ty : TypeId} {pos : String} {af : Array Edge} {g : Option (Nat × Bool)}
end
end Go.Proofs.YthddoikmgpgakaaDoor.Sw
namespace Go.Proofs.YthddoikmgpgakaaDoor.Sw
open Go.RowKit Go Go.Shelf Go.Proofs
section
variable {P : Program} {rs : List (Nat × AV)} {d : Option Nat} {ty : TypeId} {pos : String} {af : Array Edge} {g : Option (Nat × Bool)}
end
attribute [local go_sem] eqPlace
section
variable {P : Program} {rs : List (Nat × AV)} {d : Option Nat} {ty : TypeId} {pos : String} {af : Array Edge} {g : Option (Nat × Bool)}
end
end Go.Proofs.YthddoikmgpgakaaDoor.Sw
namespace Go.Proofs.YthddoikmgpgakaaDoor
open Go.RowKit Go.Proofs Go.Shelf
attribute [local go_sem] Oper.semAt_some
attribute [local go_sem] eqPlace
attribute [local go_sem] eqEdit
end Go.Proofs.YthddoikmgpgakaaDoor
namespace Go.Proofs.YthddoikmgpgakaaDoor.Sw
open Go.RowKit Go Go.Shelf Go.Proofs
end Go.Proofs.YthddoikmgpgakaaDoor.Sw
namespace Go.Proofs.YthddoikmgpgakaaDoor
open Go.RowKit Go.Proofs Go.Shelf
theorem nxt_cases {st fo : List Int} {i k : Nat} (h : i < st.length ∨ k < fo.length) (hi : i ≤ st.length) (hk : k ≤ fo.length) :
  (∃ (a : i < st.length) (b : k < fo.length), st[i] = fo[k] ∧ nxt st fo i k = ⟨i + 1, k + 1, []⟩ ∧ dd st fo i k = dd st fo (i + 1) (k + 1))
  ∨ (∃ (a : i < st.length) (b : k < fo.length), st[i] ≠ fo[k] ∧ nxt st fo i k = ⟨i + 1, k + 1, [⟨3, k, fo[k]⟩]⟩ ∧ dd st fo i k = dd st fo (i + 1) (k + 1) + 1)
  ∨ (∃ (a : i < st.length), nxt st fo i k = ⟨i + 1, k, [⟨1, k, 0⟩]⟩ ∧ dd st fo i k = dd st fo (i + 1) k + 1)
  ∨ (∃ (b : k < fo.length), nxt st fo i k = ⟨i, k + 1, [⟨2, k, fo[k]⟩]⟩ ∧ dd st fo i k = dd st fo i (k + 1) + 1) := by
 by_cases h1 : i < st.length
 ·by_cases h2 : k < fo.length
  ·have e := dist_drop h1 h2
   by_cases he : st[i] = fo[k]
   ·refine .inl ⟨h1, h2, he, ?_, dd_same h1 h2 he⟩
    unfold nxt
    rw [dif_pos ⟨h1, h2⟩, if_pos he]
   ·rw [if_neg he] at e
    change dd st fo i k = min (dd st fo (i + 1) (k + 1) + 1) (min (dd st fo (i + 1) k + 1) (dd st fo i (k + 1) + 1)) at e
    by_cases q1 : dd st fo i k = dd st fo (i + 1) (k + 1) + 1
    ·refine .inr (.inl ⟨h1, h2, he, ?_, q1⟩)
     unfold nxt
     rw [dif_pos ⟨h1, h2⟩, if_neg he, if_pos q1]
    ·by_cases q2 : dd st fo i k = dd st fo (i + 1) k + 1
     ·refine .inr (.inr (.inl ⟨h1, ?_, q2⟩))
      unfold nxt
      rw [dif_pos ⟨h1, h2⟩, if_neg he, if_neg q1, if_pos q2]
     ·refine .inr (.inr (.inr ⟨h2, ?_, by omega⟩))
      unfold nxt
      rw [dif_pos ⟨h1, h2⟩, if_neg he, if_neg q1, if_neg q2]
  ·have e1 : dd st fo i k = (st.length - i) + (fo.length - k) := dist_end (.inr (by omega))
   have e2 : dd st fo (i + 1) k = (st.length - (i + 1)) + (fo.length - k) := dist_end (.inr (by omega))
   refine .inr (.inr (.inl ⟨h1, ?_, by omega⟩))
   unfold nxt
   rw [dif_neg (fun h => h2 h.2), if_pos h1]
 ·have h2 : k < fo.length := by omega
  have e1 : dd st fo i k = (st.length - i) + (fo.length - k) := dist_end (.inl (by omega))
  have e2 : dd st fo i (k + 1) = (st.length - i) + (fo.length - (k + 1)) := dist_end (.inl (by omega))
  refine .inr (.inr (.inr ⟨h2, ?_, by omega⟩))
  unfold nxt
  rw [dif_neg (fun h => h1 h.1), if_neg h1, dif_pos h2]
def edA (l : List Int) (e : Ed) : List Int := if e.kd = 1 then l.take e.at'.toNat ++ l.drop (e.at'.toNat + 1) else if e.kd = 2 then l.take e.at'.toNat ++ e.nt :: l.drop e.at'.toNat else l.set e.at'.toNat e.nt
def EdOk (l : List Int) (e : Ed) : Prop := 0 ≤ e.at' ∧ e.at' ≤ (l.length : Int) ∧ (e.kd = 2 ∨ e.at' < (l.length : Int)) ∧ (e.kd = 1 ∨ e.kd = 2 ∨ e.kd = 3)
def EdRun : List Int → List Ed → List Int → Prop
 | l, [], r => l = r
 | l, e :: es, r => EdOk l e ∧ EdRun (edA l e) es r
theorem edA_cut (d : List Int) (x : Int) (t : List Int) (z : Int) : edA (d ++ x :: t) ⟨1, (d.length : Int), z⟩ = d ++ t := by
 unfold edA
 rw [if_pos rfl, Int.toNat_natCast, List.take_left, List.drop_append]
 simp
theorem edA_add (d t : List Int) (z : Int) : edA (d ++ t) ⟨2, (d.length : Int), z⟩ = d ++ z :: t := by
 unfold edA
 rw [if_neg (show ¬ (2 : Int) = 1 by decide), if_pos rfl, Int.toNat_natCast, List.take_left, List.drop_left]
theorem edA_turn (d : List Int) (x : Int) (t : List Int) (z : Int) : edA (d ++ x :: t) ⟨3, (d.length : Int), z⟩ = d ++ z :: t := by
 unfold edA
 rw [if_neg (show ¬ (3 : Int) = 1 by decide), if_neg (show ¬ (3 : Int) = 2 by decide), Int.toNat_natCast, List.set_append_right _ _ (Nat.le_refl _), Nat.sub_self, List.set_cons_zero]
theorem ed_run {st fo : List Int} : ∀ (m i k : Nat), i ≤ st.length → k ≤ fo.length → (st.length - i) + (fo.length - k) ≤ m → EdRun (fo.take k ++ st.drop i) (edL st fo i k) fo ∧ (edL st fo i k).length = dd st fo i k
 | m, i, k, hi, hk, hm => by
  by_cases h : i < st.length ∨ k < fo.length
  ·match m with
   | 0 => omega
   | m + 1 =>
    rw [edL_step h hi hk]
    have hkl : (fo.take k).length = k := by rw [List.length_take]; omega
    rcases nxt_cases h hi hk with ⟨a, b, e, hn, hd⟩ | ⟨a, b, e, hn, hd⟩ | ⟨a, hn, hd⟩ | ⟨b, hn, hd⟩
    ·rw [hn]
     obtain ⟨q1, q2⟩ := ed_run (st := st) (fo := fo) m (i + 1) (k + 1) a b (by omega)
     dsimp only
     rw [List.nil_append]
     refine ⟨?_, by rw [q2, hd]⟩
     rw [List.drop_eq_getElem_cons a, e]
     rwa [List.take_succ_eq_append_getElem b, List.append_assoc] at q1
    ·rw [hn]
     obtain ⟨q1, q2⟩ := ed_run (st := st) (fo := fo) m (i + 1) (k + 1) a b (by omega)
     dsimp only
     refine ⟨?_, by rw [List.singleton_append, List.length_cons, q2, hd]⟩
     rw [List.drop_eq_getElem_cons a, List.singleton_append]
     refine ⟨⟨by dsimp only; omega, by dsimp only; rw [List.length_append, hkl]; omega, .inr (by dsimp only; rw [List.length_append, hkl, List.length_cons]; omega), .inr (.inr rfl)⟩, ?_⟩
     have := edA_turn (fo.take k) st[i] (st.drop (i + 1)) fo[k]
     rw [hkl] at this
     rw [this]
     rwa [List.take_succ_eq_append_getElem b, List.append_assoc] at q1
    ·rw [hn]
     obtain ⟨q1, q2⟩ := ed_run (st := st) (fo := fo) m (i + 1) k a hk (by omega)
     dsimp only
     refine ⟨?_, by rw [List.singleton_append, List.length_cons, q2, hd]⟩
     rw [List.drop_eq_getElem_cons a, List.singleton_append]
     refine ⟨⟨by dsimp only; omega, by dsimp only; rw [List.length_append, hkl]; omega, .inr (by dsimp only; rw [List.length_append, hkl, List.length_cons]; omega), .inl rfl⟩, ?_⟩
     have := edA_cut (fo.take k) st[i] (st.drop (i + 1)) 0
     rw [hkl] at this
     rw [this]
     exact q1
    ·rw [hn]
     obtain ⟨q1, q2⟩ := ed_run (st := st) (fo := fo) m i (k + 1) hi b (by omega)
     dsimp only
     refine ⟨?_, by rw [List.singleton_append, List.length_cons, q2, hd]⟩
     rw [List.singleton_append]
     refine ⟨⟨by dsimp only; omega, by dsimp only; rw [List.length_append, hkl]; omega, .inl rfl, .inr (.inl rfl)⟩, ?_⟩
     have := edA_add (fo.take k) (st.drop i) fo[k]
     rw [hkl] at this
     rw [this]
     rwa [List.take_succ_eq_append_getElem b, List.append_assoc] at q1
  ·obtain rfl : i = st.length := by omega
   obtain rfl : k = fo.length := by omega
   rw [edL_end, List.take_length, List.drop_length, List.append_nil]
   refine ⟨rfl, ?_⟩
   unfold dd
   rw [List.drop_length, List.drop_length, dist_nil]
   rfl
def mdGo (c : Nat → Bool) : Nat → List Int → Int → List Ed → List Int
 | _, l, _, [] => l
 | j, l, s, e :: es =>
  if e.at' + s < 0 ∨ e.at' + s > (l.length : Int) ∨ (e.kd ≠ 2 ∧ e.at' + s = (l.length : Int)) then l
  else if c j = true then mdGo c (j + 1) (edA l ⟨e.kd, e.at' + s, e.nt⟩) s es
  else mdGo c (j + 1) l (if e.kd = 1 then s + 1 else if e.kd = 2 then s - 1 else s) es
theorem made_true {st fo : List Int} (c : Nat → Bool) : ∀ (m i k j : Nat) (d : List Int), i ≤ st.length → k ≤ fo.length → (st.length - i) + (fo.length - k) ≤ m →
  ∃ r, TrueL (st.drop i) (fo.drop k) r ∧ mdGo c j (d ++ st.drop i) ((d.length : Int) - (k : Int)) (edL st fo i k) = d ++ r
 | m, i, k, j, d, hi, hk, hm => by
  by_cases h : i < st.length ∨ k < fo.length
  ·match m with
   | 0 => omega
   | m + 1 =>
    rw [edL_step h hi hk]
    have at0 : (k : Int) + ((d.length : Int) - (k : Int)) = (d.length : Int) := by omega
    rcases nxt_cases h hi hk with ⟨a, b, e, hn, hd⟩ | ⟨a, b, e, hn, hd⟩ | ⟨a, hn, hd⟩ | ⟨b, hn, hd⟩
    ·rw [hn]
     obtain ⟨r, q1, q2⟩ := made_true (st := st) (fo := fo) c m (i + 1) (k + 1) j (d ++ [st[i]]) a b (by omega)
     unfold dd at hd
     rw [List.drop_eq_getElem_cons a, List.drop_eq_getElem_cons b] at hd ⊢
     refine ⟨st[i] :: r, q1.both (by rw [hd, if_pos e]; rfl) (.inl rfl), ?_⟩
     dsimp only
     rw [List.nil_append]
     rw [List.append_assoc, List.singleton_append, List.length_append, List.length_singleton] at q2
     rw [show ((d.length : Int) - (k : Int)) = ((d.length + 1 : Nat) : Int) - ((k + 1 : Nat) : Int) by omega, q2]
     simp
    ·rw [hn]
     unfold dd at hd
     rw [List.drop_eq_getElem_cons a, List.drop_eq_getElem_cons b] at hd ⊢
     dsimp only
     rw [List.singleton_append, mdGo]
     dsimp only
     rw [at0, if_neg (by rw [List.length_append, List.length_cons]; omega), edA_turn]
     by_cases hc : c j = true
     ·rw [if_pos hc]
      obtain ⟨r, q1, q2⟩ := made_true (st := st) (fo := fo) c m (i + 1) (k + 1) (j + 1) (d ++ [fo[k]]) a b (by omega)
      refine ⟨fo[k] :: r, q1.both (by rw [hd, if_neg e]) (.inr rfl), ?_⟩
      rw [List.append_assoc, List.singleton_append, List.length_append, List.length_singleton] at q2
      rw [show ((d.length : Int) - (k : Int)) = ((d.length + 1 : Nat) : Int) - ((k + 1 : Nat) : Int) by omega, q2]
      simp
     ·rw [if_neg hc, if_neg (by decide), if_neg (by decide)]
      obtain ⟨r, q1, q2⟩ := made_true (st := st) (fo := fo) c m (i + 1) (k + 1) (j + 1) (d ++ [st[i]]) a b (by omega)
      refine ⟨st[i] :: r, q1.both (by rw [hd, if_neg e]) (.inl rfl), ?_⟩
      rw [List.append_assoc, List.singleton_append, List.length_append, List.length_singleton] at q2
      rw [show ((d.length : Int) - (k : Int)) = ((d.length + 1 : Nat) : Int) - ((k + 1 : Nat) : Int) by omega, q2]
      simp
    ·rw [hn]
     unfold dd at hd
     rw [List.drop_eq_getElem_cons a] at hd ⊢
     dsimp only
     rw [List.singleton_append, mdGo]
     dsimp only
     rw [at0, if_neg (by rw [List.length_append, List.length_cons]; omega), edA_cut]
     by_cases hc : c j = true
     ·rw [if_pos hc]
      obtain ⟨r, q1, q2⟩ := made_true (st := st) (fo := fo) c m (i + 1) k (j + 1) d a hk (by omega)
      exact ⟨r, q1.cut0 hd, q2⟩
     ·rw [if_neg hc, if_pos rfl]
      obtain ⟨r, q1, q2⟩ := made_true (st := st) (fo := fo) c m (i + 1) k (j + 1) (d ++ [st[i]]) a hk (by omega)
      refine ⟨st[i] :: r, q1.cut1 hd, ?_⟩
      rw [List.append_assoc, List.singleton_append, List.length_append, List.length_singleton] at q2
      rw [show ((d.length : Int) - (k : Int)) + 1 = ((d.length + 1 : Nat) : Int) - (k : Int) by omega, q2]
      simp
    ·rw [hn]
     unfold dd at hd
     rw [List.drop_eq_getElem_cons b] at hd ⊢
     dsimp only
     rw [List.singleton_append, mdGo]
     dsimp only
     rw [at0, if_neg (by rw [List.length_append]; omega), edA_add]
     by_cases hc : c j = true
     ·rw [if_pos hc]
      obtain ⟨r, q1, q2⟩ := made_true (st := st) (fo := fo) c m i (k + 1) (j + 1) (d ++ [fo[k]]) hi b (by omega)
      refine ⟨fo[k] :: r, q1.add1 hd, ?_⟩
      rw [List.append_assoc, List.singleton_append, List.length_append, List.length_singleton] at q2
      rw [show ((d.length : Int) - (k : Int)) = ((d.length + 1 : Nat) : Int) - ((k + 1 : Nat) : Int) by omega, q2]
      simp
     ·rw [if_neg hc, if_neg (by decide), if_pos rfl]
      obtain ⟨r, q1, q2⟩ := made_true (st := st) (fo := fo) c m i (k + 1) (j + 1) d hi b (by omega)
      refine ⟨r, q1.add0 hd, ?_⟩
      rw [show ((d.length : Int) - (k : Int)) - 1 = (d.length : Int) - ((k + 1 : Nat) : Int) by omega, q2]
  ·obtain rfl : i = st.length := by omega
   obtain rfl : k = fo.length := by omega
   rw [edL_end]
   exact ⟨[], (true_end []).2 rfl, by rw [List.drop_length]; rfl⟩
theorem tell_first {st fo : List Int} (hs : okN st = true) (hf : okN fo = true) {x : List Int} {t : List (List Int)} (e : tellT st fo 0 0 = x :: t) {l : List Int} (hl : TrueL st fo l) : ltL l x = false := by
 have h := tellT_fst hs hf (Nat.zero_le st.length) (Nat.zero_le fo.length)
 rw [List.drop_zero, List.drop_zero, e] at h
 rcases h.all l hl with g | ⟨_, g⟩
 ·rcases List.mem_cons.1 g with rfl | g
  ·exact ltL_irrefl _
  ·exact ltL_asymm ((List.pairwise_cons.1 h.srt).1 l g)
 ·exact ltL_asymm (g x (by simp))
end Go.Proofs.YthddoikmgpgakaaDoor
namespace Go.Proofs.YthddoikmgpgakaaDoor.Sw
open Go.RowKit Go Go.Shelf Go.Proofs
open Go.Proofs.YthddoikmgpgakaaDoor.Ma
theorem refRates_con (r : Rt) : Con Tryd.prog 70 [.agg (rC r)] [] (Is (.val (.bool r.ok)) []) := by
 refine con_same (enters_of Tryd.func70 (by kernel_rfl) rfl) fun G vs w hf hG => ?_
 match vs, hf with
 | [v], ⟨h', _⟩ =>
  obtain rfl := fits_rt h'
  exact (refRates_any r w).mono fun e w' ⟨h, hb⟩ => ⟨_, h, rfl, hb⟩
structure Rdy (t : Tl) : Prop where
 ok : okT t.id t.hs t.st t.fo = true
 s : t.st.length ≤ 12
 f : t.fo.length ≤ 12
 os : okN t.st = true
 of : okN t.fo = true
theorem rdy_of {t : Tl} (h : okT t.id t.hs t.st t.fo = true) : Rdy t := by
 obtain ⟨a, b, c, d⟩ := okT_b h
 exact ⟨h, a, b, c, d⟩
theorem Rdy.of' {t : Tl} (h : (!(decide ((30 : Int) < t.st.length) || decide ((30 : Int) < t.fo.length)) && okT t.id t.hs t.st t.fo) = true) : Rdy t := by
 rw [Bool.and_eq_true] at h
 exact rdy_of h.2
theorem ready1_con (t : Tl) : Con Tryd.prog 67 [.agg (tC t)] [] (Is (.val (.bool (!(decide ((30 : Int) < t.st.length) || decide ((30 : Int) < t.fo.length)) && okT t.id t.hs t.st t.fo))) []) := by
 cases hg : (decide ((30 : Int) < t.st.length) || decide ((30 : Int) < t.fo.length)) with
 | true =>
  have GC := great_con t
  rw [hg] at GC
  refine con_of Tryd.func67 rfl (enters_of Tryd.func67 (by kernel_rfl) rfl) rfl ?_; intro n w0 F0 G0
  refine zS ?_;repeat(refine yA ?_;intro p hp;refine zS ?_)
  (first | (apply wl_call (GC); exact rfl; exact rfl) | (apply wl_callR (GC); exact rfl; exact zM; exact rfl))
  refine zS ?_
  (apply res1; exact rfl; exact rfl; exact ⟨rfl, rfl⟩)
 | false =>
  have h2 := hg
  simp only [Bool.or_eq_false_iff, decide_eq_false_iff_not] at h2
  have := ready_con t (by omega) (by omega)
  rwa [hg] at this
theorem spanR {r : Rt} (h : r.ok = true) (t : Tl) : IsSpan (rateW r) (TrueL t.st t.fo) (spanF (rateW r) t.st t.fo).1 (spanF (rateW r) t.st t.fo).2 := span_is (rateW_b h) _ _
theorem owedR_ok {a : Tl} {r : Rt} (ha : Rdy a) (h : r.ok = true) : owedR a r = (spanF (rateW r) a.st a.fo, 0) := by
 have h1 : a.ok = true := ha.ok
 unfold owedR owesR errAll owesL
 simp [h1, h]
end Go.Proofs.YthddoikmgpgakaaDoor.Sw
namespace Go.Proofs.YthddoikmgpgakaaDoor
open Go.RowKit Go.Proofs Go.Shelf
theorem dist_max : ∀ a b : List Int, dist a b ≤ max a.length b.length
 | [], b => by rw [dist_nil]; exact Nat.le_max_right _ _
 | x :: a, [] => by rw [dist_nil']; exact Nat.le_max_left _ _
 | x :: a, y :: b => by
  have h1 := dist_both x y a b
  have h2 := dist_max a b
  have h3 : (if x = y then 0 else 1) ≤ 1 := by split <;> omega
  simp only [List.length_cons]
  omega
end Go.Proofs.YthddoikmgpgakaaDoor
namespace Go.Proofs.YthddoikmgpgakaaDoor.Sw
open Go.RowKit Go Go.Shelf Go.Proofs
open Go.Proofs.YthddoikmgpgakaaDoor.Ma
section
variable {P : Program} {rs : List (Nat × AV)} {d : Option Nat} {ty : TypeId} {pos : String} {af : Array Edge} {g : Option (Nat × Bool)}
end
section
variable {c : Cx} {rs : List (Nat × AV)} {hs : List HA} {Q : Exit → S → Prop} {ops : Array Oper} {tl : List Oper} {d : Nat} {ty : TypeId} {pos : String} {af : Array Edge}
end
theorem Rdy.dist {a : Tl} (h : Rdy a) : dist a.st a.fo ≤ 12 := by
 have := dist_max a.st a.fo
 have := h.s
 have := h.f
 omega
theorem Rdy.small {a : Tl} (h : Rdy a) : a.small := ⟨by have := h.s; omega, by have := h.f; omega⟩
theorem Rdy.lt {a : Tl} (h : Rdy a) : a.st.length ≤ 1000 ∧ a.fo.length ≤ 1000 := ⟨by have := h.s; omega, by have := h.f; omega⟩
end Go.Proofs.YthddoikmgpgakaaDoor.Sw
namespace Go.Proofs.YthddoikmgpgakaaDoor.Sw
open Go.RowKit Go
section
variable {P : Program} {rs : List (Nat × AV)} {d : Option Nat} {ty : TypeId} {pos : String} {af : Array Edge} {g : Option (Nat × Bool)}
theorem lt_slTo {α : Type} {f : α → List AV} {xs : List α} {x y : Operand} {t e : TypeId} {n : Nat} [hE : TyE P t e n] {h : Nat} (hx : opv rs x = some (.sl n f xs)) (hy : opv rs y = some (.val (.int .i64 (h : Int)))) (h2 : h ≤ xs.length) : LT P ⟨d, .slice t x none (some y) none, ty, pos, af, g⟩ rs [] (Is (.sl n f (xs.take h)) []) := by
 have := lt_slice (P := P) (rs := rs) (d := d) (ty := ty) (pos := pos) (af := af) (g := g) (t := t) (e := e) (l := 0) (h := h) (li := 0) hx (.inr ⟨rfl, rfl⟩) rfl (.inl (by rw [Option.map_some, hy])) rfl (Nat.zero_le _) h2
 rwa [List.drop_zero] at this
theorem lt_slFrom {α : Type} {f : α → List AV} {xs : List α} {x y : Operand} {t e : TypeId} {n : Nat} [hE : TyE P t e n] {l : Nat} (hx : opv rs x = some (.sl n f xs)) (hy : opv rs y = some (.val (.int .i64 (l : Int)))) (h2 : l ≤ xs.length) : LT P ⟨d, .slice t x (some y) none none, ty, pos, af, g⟩ rs [] (Is (.sl n f (xs.drop l)) []) := by
 have := lt_slice (P := P) (rs := rs) (d := d) (ty := ty) (pos := pos) (af := af) (g := g) (t := t) (e := e) (l := l) (h := xs.length) (hi' := (xs.length : Int)) hx (.inl (by rw [Option.map_some, hy])) rfl (.inr ⟨rfl, rfl⟩) rfl h2 (Nat.le_refl _)
 rwa [List.take_length] at this
end
end Go.Proofs.YthddoikmgpgakaaDoor.Sw
namespace Go.Proofs.YthddoikmgpgakaaDoor.Sw
open Go.RowKit Go Go.Shelf Go.Proofs
open Go.Proofs.YthddoikmgpgakaaDoor.Ma
theorem Rdy.sub {a : Tl} (h : Rdy a) {s f : List Int} (h1 : s.length ≤ 12) (h2 : f.length ≤ 12) (h3 : okN s = true) (h4 : okN f = true) : Rdy ⟨a.id, a.hs, s, f⟩ := by
 refine rdy_of ?_
 have hk := h.ok
 unfold okT at hk ⊢
 simp only [Bool.and_eq_true, decide_eq_true_eq] at hk ⊢
 exact ⟨⟨⟨⟨hk.1.1.1.1, h1⟩, h2⟩, h3⟩, h4⟩
theorem isR_ok {a : Tl} (h : Rdy a) (l : List Int) : isR a l = (okN l && decide (dist a.st l + dist l a.fo = dist a.st a.fo), 0) := by
 unfold isR
 rw [if_pos h.ok]; rfl
theorem isR_true {a : Tl} (h : Rdy a) {l : List Int} (hl : TrueL a.st a.fo l) : isR a l = (true, 0) := by
 rw [isR_ok h, hl.ok h.os h.of, decide_eq_true (show dist a.st l + dist l a.fo = dist a.st a.fo from hl)]; rfl
theorem edits_ok {a : Tl} (h : Rdy a) : editsR a = (edL a.st a.fo 0 0, 0) ∧ EdRun a.st (edL a.st a.fo 0 0) a.fo ∧ (edL a.st a.fo 0 0).length = dist a.st a.fo := by
 refine ⟨by unfold editsR; rw [if_pos h.ok], ?_⟩
 have := ed_run (st := a.st) (fo := a.fo) _ 0 0 (Nat.zero_le _) (Nat.zero_le _) (Nat.le_refl _)
 rw [List.take_zero, List.drop_zero, List.nil_append] at this
 refine ⟨this.1, ?_⟩
 rw [this.2]
 unfold dd
 rw [List.drop_zero, List.drop_zero]
theorem edA_len (l : List Int) (e : Ed) : (edA l e).length ≤ l.length + 1 := by
 unfold edA
 split
 ·rw [List.length_append, List.length_take, List.length_drop]; omega
 ·split
  ·rw [List.length_append, List.length_cons, List.length_take, List.length_drop]; omega
  ·rw [List.length_set]; omega
section
variable {P : Program} {rs : List (Nat × AV)} {d : Option Nat} {ty : TypeId} {pos : String} {af : Array Edge} {g : Option (Nat × Bool)}
theorem shr_run32 {s k : Nat} (hk : k ≤ 31) : Op.shift .shr .u32 (s : Int) .i64 (k : Int) = pure (.int .u32 ((s / 2 ^ k : Nat) : Int)) := by
 rw [shift_shr .u32 .i64 (s : Int) (k : Int) (by omega) (by show (k : Int) ≤ 32; omega), Int.toNat_natCast, Int.natCast_ediv, Int.natCast_pow]
 rfl
theorem and1_run32 {s : Nat} (hs : s ≤ 4294967295) : bits .and .u32 (s : Int) 1 = ((s % 2 : Nat) : Int) := by
 have h1 : (BitVec.ofInt 32 (s : Int) &&& BitVec.ofInt 32 1).toNat = s % 2 := by
  rw [BitVec.toNat_and]
  have e1 : (BitVec.ofInt 32 (s : Int)).toNat = s := by simp [BitVec.toNat_ofInt]; omega
  have e2 : (BitVec.ofInt 32 1).toNat = 1 := rfl
  rw [e1, e2, Nat.and_one_is_mod]
 show IntKind.u32.wrap (((BitVec.ofInt 32 (s : Int) &&& BitVec.ofInt 32 1).toNat : Nat) : Int) = _
 rw [h1]
 rcases Nat.mod_two_eq_zero_or_one s with h | h <;> rw [h] <;> rfl
theorem lt_shr32 {x y : Operand} {s k : Nat} {t t' : TypeId} (hx : opv rs x = some (.val (.int .u32 (s : Int)))) (hy : opv rs y = some (.val (.int .i64 (k : Int)))) (hk : k ≤ 31) :
  LT P ⟨d, .binOp .shr t x y t', ty, pos, af, g⟩ rs [] (Is (.val (.int .u32 ((s / 2 ^ k : Nat) : Int))) []) :=
 LT_val (fun _ e => by cases e) fun a w G hR _ => ⟨_, rfl, by
  have e1 : a.eval x = _ := opv_ok hR hx
  have e2 : a.eval y = _ := opv_ok hR hy
  have h := shr_run32 (s := s) hk
  simp only [execOp, e1, e2]
  simp [go_sem, eqGuard, Go.binOp, h]⟩
theorem lt_and32 {x y : Operand} {s : Nat} {t t' : TypeId} (hx : opv rs x = some (.val (.int .u32 (s : Int)))) (hy : opv rs y = some (.val (.int .u32 1))) (hs : s ≤ 4294967295) :
  LT P ⟨d, .binOp .and t x y t', ty, pos, af, g⟩ rs [] (Is (.val (.int .u32 ((s % 2 : Nat) : Int))) []) :=
 LT_val (fun _ e => by cases e) fun a w G hR _ => ⟨_, rfl, by
  have e1 : a.eval x = _ := opv_ok hR hx
  have e2 : a.eval y = _ := opv_ok hR hy
  have h := and1_run32 (s := s) hs
  simp only [execOp, e1, e2]
  simp [go_sem, eqGuard, Go.binOp, h]⟩
end
section
variable {c : Cx} {rs : List (Nat × AV)} {hs : List HA} {Q : Exit → S → Prop} {ops : Array Oper} {tl : List Oper} {d : Nat} {ty : TypeId} {pos : String} {af : Array Edge}
theorem wl_shr32 {x y : Operand} {s k : Nat} {t t' : TypeId} (hx : opv rs x = some (.val (.int .u32 (s : Int)))) (hy : opv rs y = some (.val (.int .i64 (k : Int)))) (hk : k ≤ 31) (hd : Nat.blt d c.nt = true) (kk : WL c ops tl ⟨(d, .val (.int .u32 ((s / 2 ^ k : Nat) : Int))) :: rs, hs⟩ Q) : WL c ops (⟨some d, .binOp .shr t x y t', ty, pos, af, none⟩ :: tl) ⟨rs, hs⟩ Q := wl_ex (lt_shr32 hx hy hk) hd kk
theorem wl_and32 {x y : Operand} {s : Nat} {t t' : TypeId} (hx : opv rs x = some (.val (.int .u32 (s : Int)))) (hy : opv rs y = some (.val (.int .u32 1))) (hs' : s ≤ 4294967295) (hd : Nat.blt d c.nt = true) (kk : WL c ops tl ⟨(d, .val (.int .u32 ((s % 2 : Nat) : Int))) :: rs, hs⟩ Q) : WL c ops (⟨some d, .binOp .and t x y t', ty, pos, af, none⟩ :: tl) ⟨rs, hs⟩ Q := wl_ex (lt_and32 hx hy hs') hd kk
end
def bitF (bits : Nat) (j : Nat) : Bool := decide (bits / 2 ^ (j % 32) % 2 = 1)
theorem mdGo_stop {c : Nat → Bool} {j : Nat} {l : List Int} {s : Int} {e : Ed} {es : List Ed} (h : e.at' + s < 0 ∨ e.at' + s > (l.length : Int) ∨ (e.kd ≠ 2 ∧ e.at' + s = (l.length : Int))) : mdGo c j l s (e :: es) = l := by rw [mdGo, if_pos h]
theorem mdGo_go {c : Nat → Bool} {j : Nat} {l : List Int} {s : Int} {e : Ed} {es : List Ed} (h : ¬ (e.at' + s < 0 ∨ e.at' + s > (l.length : Int) ∨ (e.kd ≠ 2 ∧ e.at' + s = (l.length : Int)))) : mdGo c j l s (e :: es) = if c j = true then mdGo c (j + 1) (edA l ⟨e.kd, e.at' + s, e.nt⟩) s es
  else mdGo c (j + 1) l (if e.kd = 1 then s + 1 else if e.kd = 2 then s - 1 else s) es := by rw [mdGo, if_neg h]
theorem made_con (x : Tl) (E : List Ed) (bits : Nat) (hb : bits ≤ 4294967295) (hx : x.st.length ≤ 1000) (hE : E.length ≤ 1000) (hE2 : ∀ e ∈ E, 0 ≤ e.at' ∧ e.at' ≤ 1000 ∧ 1 ≤ e.kd ∧ e.kd ≤ 3) : Con Tryd.prog 71 [.agg (tC x), .sl 3 edC E, .val (.int .u32 (bits : Int))] [] (Is (.sl 1 iC (mdGo (bitF bits) 0 x.st 0 E)) []) := by
 refine con_of Tryd.func71 rfl (enters_of Tryd.func71 (by kernel_rfl) rfl) rfl ?_; intro n w0 F0 G0
 refine zS ?_;repeat(refine yA ?_;intro p hp;refine zS ?_)
 revert p
 intro p0 hp0
 (apply wl_lit iC; exact inferInstance; exact inferInstance; exact inferInstance; exact zE; exact rfl; (first | exact (of_decide_eq_true rfl) | decide | (simp; done) | (simp; omega)); exact rfl)
 intro v1
 refine zS ?_;repeat(refine yA ?_;intro p hp;refine zS ?_)
 (first | (apply wl_append; exact rfl; exact rfl; exact zN; exact inferInstance; exact inferInstance; (first | omega | (simp; omega)); exact rfl) | (apply wl_appendN; exact rfl; exact rfl; exact inferInstance; exact inferInstance; (first | omega | (simp; omega)); exact rfl))
 intro v2
 refine zS ?_;repeat(refine yA ?_;intro p hp;refine zS ?_)
 refine W_loopJ (fun (b : Nat × Value × List Int × Int) => ⟨[(2, .val (.int .u32 (bits : Int))), (3, .val p0), (7, .val b.2.1), (8, .val (.int .i64 b.2.2.2)), (16, .sl 3 edC E), (17, .val (.int .i64 E.length)), (18, .val (.int .i64 b.1))], [.row b.2.1 3 1 iC b.2.2.1]⟩) (fun b => b.1 ≤ E.length ∧ mdGo (bitF bits) b.1 b.2.2.1 b.2.2.2 (E.drop b.1) = mdGo (bitF bits) 0 x.st 0 E ∧ b.2.2.1.length ≤ 1000 + b.1 ∧ -(b.1 : Int) ≤ b.2.2.2 ∧ b.2.2.2 ≤ b.1) (fun b => E.length - b.1) (0, v2, x.st, 0) (fun _ _ st => st_sub2 st zR zP) ⟨Nat.zero_le _, rfl, hx, Int.le_refl _, Int.le_refl _⟩ ?_
 rintro ⟨j, v, l, s⟩ ⟨hj, hrun, hll, hs1, hs2⟩
 dsimp only at hj hrun hll hs1 hs2 ⊢
 refine zS ?_;repeat(refine yA ?_;intro p hp;refine zS ?_)
 refine w_cond rfl (fun hlt => ?_) (fun hlt => ?_)
 ·have hlt' : j < E.length := by have := of_decide_eq_true hlt; omega
  rw [List.drop_eq_getElem_cons hlt'] at hrun
  have hq0 : E[j]? = some E[j] := List.getElem?_eq_getElem hlt'
  obtain ⟨q1, q2, q3, q4⟩ := hE2 _ (List.getElem_mem hlt')
  have hal := edA_len l ⟨E[j].kd, E[j].at' + s, E[j].nt⟩
  refine zS ?_;repeat(refine yA ?_;intro p hp;refine zS ?_)
  generalize E[j] = e at hrun q1 q2 q3 q4 hal ⊢
  obtain ⟨kd, at', nt⟩ := e
  dsimp only at q1 q2 q3 q4 hal ⊢
  obtain ⟨q, hq⟩ : ∃ q : Int, q = at' + s := ⟨_, rfl⟩
  by_cases hstop : q < 0 ∨ q > (l.length : Int) ∨ (kd ≠ 2 ∧ q = (l.length : Int))
  ·have hr2 : l = mdGo (bitF bits) 0 x.st 0 E := by
    rw [← hrun, mdGo_stop]
    dsimp only; rw [← hq]; exact hstop
   rw [← hr2]
   rw [← hq]
   rcases Classical.em (q < 0) with h1 | h1
   ·rw [decide_eq_true h1]
    refine zS ?_;repeat(refine yA ?_;intro p hp;refine zS ?_)
    (apply Res_frz 6; exact rfl; exact zN)
    (apply res1; exact rfl; exact rfl; exact ⟨rfl, rfl⟩)
   ·rw [decide_eq_false h1]
    refine zS ?_;repeat(refine yA ?_;intro p hp;refine zS ?_)
    rcases Classical.em ((l.length : Int) < q) with h2 | h2
    ·rw [decide_eq_true h2]
     refine zS ?_;repeat(refine yA ?_;intro p hp;refine zS ?_)
     (apply Res_frz 6; exact rfl; exact zN)
     (apply res1; exact rfl; exact rfl; exact ⟨rfl, rfl⟩)
    ·rw [decide_eq_false h2]
     have h3 : kd ≠ 2 ∧ q = (l.length : Int) := by
      rcases hstop with h | h | h
      ·exact absurd h h1
      ·exact absurd h (by omega)
      ·exact h
     refine zS ?_;repeat(refine yA ?_;intro p hp;refine zS ?_)
     rw [decide_eq_false h3.1]
     refine zS ?_;repeat(refine yA ?_;intro p hp;refine zS ?_)
     rw [decide_eq_true h3.2]
     refine zS ?_;repeat(refine yA ?_;intro p hp;refine zS ?_)
     (apply Res_frz 6; exact rfl; exact zN)
     (apply res1; exact rfl; exact rfl; exact ⟨rfl, rfl⟩)
  ·obtain ⟨k1, k2, k3⟩ : 0 ≤ q ∧ q ≤ (l.length : Int) ∧ (kd = 2 ∨ q < (l.length : Int)) := by
    refine ⟨Int.not_lt.1 fun h => hstop (.inl h), Int.not_lt.1 fun h => hstop (.inr (.inl h)), ?_⟩
    rcases Classical.em (kd = 2) with h | h
    ·exact .inl h
    ·exact .inr (by
      have h1 : ¬ q = (l.length : Int) := fun e => hstop (.inr (.inr ⟨h, e⟩))
      have h2 : ¬ q > (l.length : Int) := fun e => hstop (.inr (.inl e))
      omega)
   rw [mdGo_go (by dsimp only; rw [← hq]; exact hstop)] at hrun
   dsimp only at hrun
   rw [← hq] at hrun hal ⊢
   obtain ⟨r, rfl⟩ : ∃ r : Nat, q = r := ⟨q.toNat, by omega⟩
   rw [decide_eq_false (show ¬ (r : Int) < 0 by omega)]
   refine zS ?_;repeat(refine yA ?_;intro p hp;refine zS ?_)
   rw [decide_eq_false (show ¬ (l.length : Int) < (r : Int) by omega)]
   refine zS ?_;repeat(refine yA ?_;intro p hp;refine zS ?_)
   obtain rfl | rfl | rfl : kd = 1 ∨ kd = 2 ∨ kd = 3 := by omega
   ·have k4 : (r : Int) < l.length := by rcases k3 with k | k; first | (cases k; done) | trivial; first | exact k | trivial
    rw [decide_eq_false (show ¬ (1 : Int) = 2 by decide)]
    refine zS ?_;repeat(refine yA ?_;intro p hp;refine zS ?_)
    rw [decide_eq_false (show ¬ (r : Int) = (l.length : Int) by omega)]
    refine zS ?_;repeat(refine yA ?_;intro p hp;refine zS ?_)
    (apply wl_rem; exact rfl; exact rfl; omega; omega; omega; exact rfl)
    rw [show ((j : Int) % 32) = ((j % 32 : Nat) : Int) by omega]
    (apply wl_shr32; exact rfl; exact rfl; omega; exact rfl)
    (apply wl_and32; exact rfl; exact rfl; exact Nat.le_trans (Nat.div_le_self _ _) hb; exact rfl)
    cases hbit : bitF bits j with
    | false =>
     have hz : bits / 2 ^ (j % 32) % 2 = 0 := by unfold bitF at hbit; have := of_decide_eq_false hbit; omega
     rw [hz]
     rw [hbit, if_neg (by decide)] at hrun
     refine zS ?_;repeat(refine yA ?_;intro p hp;refine zS ?_)
     rw [if_pos rfl] at hrun
     refine ⟨(j + 1, v, l, s + 1), fun _ _ st => st_sub2 st zR zP, ⟨hlt', hrun, ?_, ?_, ?_⟩, ?_⟩ <;> dsimp only <;> omega
    | true =>
     have hz : bits / 2 ^ (j % 32) % 2 = 1 := by unfold bitF at hbit; exact of_decide_eq_true hbit
     rw [hz]
     rw [hbit, if_pos rfl] at hrun
     have hea : edA l ⟨1, (r : Int), nt⟩ = ([] ++ l.take r) ++ l.drop (r + 1) := by
      unfold edA
      rw [if_pos rfl, Int.toNat_natCast]; rfl
     rw [hea] at hrun hal
     refine zS ?_;repeat(refine yA ?_;intro p hp;refine zS ?_)
     (apply W_frz 7; exact rfl; exact zN)
     refine W_run 9 [67, 68, 69, 70, 71, 72, 73, 74, 75] [1, 2, 3, 4, 5, 6, 7, 8] Cut.nil rfl goFlt mixedS (by kernel_rfl) rfl ?_
     refine Run.tok [] [] rfl (fun vs => by apply ltr_pk; exact goPk; (refine ltr ?_; apply lt_lit (f := iC); exact zE; exact rfl; (first | exact (of_decide_eq_true rfl) | decide | (simp; done) | (simp; omega)))) goApp ?_
     refine rpv [] [] ?_
     refine rpv [] [] ?_
     refine Run.pv [1, 2] [] rfl (fun vs => by apply ltr_pk; exact goPk; (refine ltr ?_; apply lt_slTo (h := r); exact rfl; exact rfl; omega)) goApp ?_
     refine Run.tok [0, 3] [0] rfl (fun vs => by apply ltr_pk; exact goPk; (refine ltr ?_; apply lt_append; exact rfl; exact rfl; (first | omega | (simp; omega)))) goApp ?_
     refine rpv [] [] ?_
     refine rpv [] [] ?_
     refine rpv [6] [] ?_
     refine Run.pv [5, 7] [] rfl (fun vs => by apply ltr_pk; exact goPk; (refine ltr ?_; apply lt_slFrom (l := r + 1); exact rfl; exact rfl; omega)) goApp ?_
     refine ⟨⟨by kernel_rfl, by kernel_rfl⟩, fun vs => ?_⟩
     apply WL_auto [4, 8]
     ·exact goPk
     ·exact goNrm
     ·kernel_rfl
     ·kernel_rfl
     refine zS ?_;repeat(refine yA ?_;intro p hp;refine zS ?_)
     (first | (apply wl_append; exact rfl; exact rfl; exact zN; exact inferInstance; exact inferInstance; (first | omega | (simp; omega)); exact rfl) | (apply wl_appendN; exact rfl; exact rfl; exact inferInstance; exact inferInstance; (first | omega | (simp; omega)); exact rfl))
     intro v3
     refine zS ?_;repeat(refine yA ?_;intro p hp;refine zS ?_)
     refine ⟨(j + 1, _, _, s), fun _ _ st => st_sub2 st zR zP, ⟨hlt', hrun, ?_, ?_, ?_⟩, ?_⟩ <;> dsimp only <;> omega
   ·have k4 : True := by rcases k3 with k | k; first | (cases k; done) | trivial; first | exact k | trivial
    rw [decide_eq_true (show (2 : Int) = 2 from rfl)]
    refine zS ?_;repeat(refine yA ?_;intro p hp;refine zS ?_)
    (apply wl_rem; exact rfl; exact rfl; omega; omega; omega; exact rfl)
    rw [show ((j : Int) % 32) = ((j % 32 : Nat) : Int) by omega]
    (apply wl_shr32; exact rfl; exact rfl; omega; exact rfl)
    (apply wl_and32; exact rfl; exact rfl; exact Nat.le_trans (Nat.div_le_self _ _) hb; exact rfl)
    cases hbit : bitF bits j with
    | false =>
     have hz : bits / 2 ^ (j % 32) % 2 = 0 := by unfold bitF at hbit; have := of_decide_eq_false hbit; omega
     rw [hz]
     rw [hbit, if_neg (by decide)] at hrun
     refine zS ?_;repeat(refine yA ?_;intro p hp;refine zS ?_)
     rw [decide_eq_false (show ¬ (2 : Int) = 1 by decide)]
     refine zS ?_;repeat(refine yA ?_;intro p hp;refine zS ?_)
     rw [if_neg (by decide), if_pos rfl] at hrun
     refine ⟨(j + 1, v, l, s - 1), fun _ _ st => st_sub2 st zR zP, ⟨hlt', hrun, ?_, ?_, ?_⟩, ?_⟩ <;> dsimp only <;> omega
    | true =>
     have hz : bits / 2 ^ (j % 32) % 2 = 1 := by unfold bitF at hbit; exact of_decide_eq_true hbit
     rw [hz]
     rw [hbit, if_pos rfl] at hrun
     have hea : edA l ⟨2, (r : Int), nt⟩ = (([] ++ l.take r) ++ [nt]) ++ l.drop r := by
      unfold edA
      rw [if_neg (show ¬ (2 : Int) = 1 by decide), if_pos rfl, Int.toNat_natCast, List.append_assoc]; rfl
     rw [hea] at hrun hal
     refine zS ?_;repeat(refine yA ?_;intro p hp;refine zS ?_)
     rw [decide_eq_false (show ¬ (2 : Int) = 1 by decide)]
     refine zS ?_;repeat(refine yA ?_;intro p hp;refine zS ?_)
     (apply W_frz 7; exact rfl; exact zN)
     refine W_run 12 [79, 80, 81, 82, 83, 84, 85, 86, 87, 88, 89, 90] [1, 2, 3, 5, 6, 7, 8, 9, 10, 11] Cut.nil rfl goFlt mixedS (by kernel_rfl) rfl ?_
     refine Run.tok [] [] rfl (fun vs => by apply ltr_pk; exact goPk; (refine ltr ?_; apply lt_lit (f := iC); exact zE; exact rfl; (first | exact (of_decide_eq_true rfl) | decide | (simp; done) | (simp; omega)))) goApp ?_
     refine rpv [] [] ?_
     refine rpv [] [] ?_
     refine Run.pv [1, 2] [] rfl (fun vs => by apply ltr_pk; exact goPk; (refine ltr ?_; apply lt_slTo (h := r); exact rfl; exact rfl; omega)) goApp ?_
     refine Run.tok [0, 3] [0] rfl (fun vs => by apply ltr_pk; exact goPk; (refine ltr ?_; apply lt_append; exact rfl; exact rfl; (first | omega | (simp; omega)))) goApp ?_
     refine rpv [] [] ?_
     refine rpv [5] [] ?_
     refine Run.pv [6] [] rfl (fun vs => by apply ltr_pk; exact goPk; (refine ltr ?_; apply LT_frz; apply lt_lit (f := iC); exact zE; exact rfl; (first | exact (of_decide_eq_true rfl) | decide | (simp; done) | (simp; omega)))) goApp ?_
     refine Run.tok [4, 7] [4] rfl (fun vs => by apply ltr_pk; exact goPk; (refine ltr ?_; apply lt_append; exact rfl; exact rfl; (first | omega | (simp; omega)))) goApp ?_
     refine rpv [] [] ?_
     refine rpv [] [] ?_
     refine Run.pv [9, 10] [] rfl (fun vs => by apply ltr_pk; exact goPk; (refine ltr ?_; apply lt_slFrom (l := r); exact rfl; exact rfl; omega)) goApp ?_
     refine ⟨⟨by kernel_rfl, by kernel_rfl⟩, fun vs => ?_⟩
     apply WL_auto [8, 11]
     ·exact goPk
     ·exact goNrm
     ·kernel_rfl
     ·kernel_rfl
     refine zS ?_;repeat(refine yA ?_;intro p hp;refine zS ?_)
     (first | (apply wl_append; exact rfl; exact rfl; exact zN; exact inferInstance; exact inferInstance; (first | omega | (simp; omega)); exact rfl) | (apply wl_appendN; exact rfl; exact rfl; exact inferInstance; exact inferInstance; (first | omega | (simp; omega)); exact rfl))
     intro v3
     refine zS ?_;repeat(refine yA ?_;intro p hp;refine zS ?_)
     refine ⟨(j + 1, _, _, s), fun _ _ st => st_sub2 st zR zP, ⟨hlt', hrun, ?_, ?_, ?_⟩, ?_⟩ <;> dsimp only <;> omega
   ·have k4 : (r : Int) < l.length := by rcases k3 with k | k; first | (cases k; done) | trivial; first | exact k | trivial
    rw [decide_eq_false (show ¬ (3 : Int) = 2 by decide)]
    refine zS ?_;repeat(refine yA ?_;intro p hp;refine zS ?_)
    rw [decide_eq_false (show ¬ (r : Int) = (l.length : Int) by omega)]
    refine zS ?_;repeat(refine yA ?_;intro p hp;refine zS ?_)
    (apply wl_rem; exact rfl; exact rfl; omega; omega; omega; exact rfl)
    rw [show ((j : Int) % 32) = ((j % 32 : Nat) : Int) by omega]
    (apply wl_shr32; exact rfl; exact rfl; omega; exact rfl)
    (apply wl_and32; exact rfl; exact rfl; exact Nat.le_trans (Nat.div_le_self _ _) hb; exact rfl)
    cases hbit : bitF bits j with
    | false =>
     have hz : bits / 2 ^ (j % 32) % 2 = 0 := by unfold bitF at hbit; have := of_decide_eq_false hbit; omega
     rw [hz]
     rw [hbit, if_neg (by decide)] at hrun
     refine zS ?_;repeat(refine yA ?_;intro p hp;refine zS ?_)
     rw [decide_eq_false (show ¬ (3 : Int) = 1 by decide)]
     refine zS ?_;repeat(refine yA ?_;intro p hp;refine zS ?_)
     rw [decide_eq_false (show ¬ (3 : Int) = 2 by decide)]
     refine zS ?_;repeat(refine yA ?_;intro p hp;refine zS ?_)
     rw [if_neg (by decide), if_neg (by decide)] at hrun
     refine ⟨(j + 1, v, l, s), fun _ _ st => st_sub2 st zR zP, ⟨hlt', hrun, ?_, ?_, ?_⟩, ?_⟩ <;> dsimp only <;> omega
    | true =>
     have hz : bits / 2 ^ (j % 32) % 2 = 1 := by unfold bitF at hbit; exact of_decide_eq_true hbit
     rw [hz]
     rw [hbit, if_pos rfl] at hrun
     have hea : edA l ⟨3, (r : Int), nt⟩ = l.set r nt := by
      unfold edA
      rw [if_neg (show ¬ (3 : Int) = 1 by decide), if_neg (show ¬ (3 : Int) = 2 by decide), Int.toNat_natCast]
     rw [hea] at hrun hal
     refine zS ?_;repeat(refine yA ?_;intro p hp;refine zS ?_)
     rw [decide_eq_false (show ¬ (3 : Int) = 1 by decide)]
     refine zS ?_;repeat(refine yA ?_;intro p hp;refine zS ?_)
     rw [decide_eq_false (show ¬ (3 : Int) = 2 by decide)]
     refine zS ?_;repeat(refine yA ?_;intro p hp;refine zS ?_)
     refine ⟨(j + 1, _, _, s), fun _ _ st => st_sub2 st zR zP, ⟨hlt', hrun, ?_, ?_, ?_⟩, ?_⟩ <;> dsimp only <;> omega
 ·have hkk : j = E.length := by have := of_decide_eq_false hlt; omega
  subst hkk
  rw [List.drop_length] at hrun
  rw [← hrun]
  unfold mdGo
  refine zS ?_;repeat(refine yA ?_;intro p hp;refine zS ?_)
  (apply Res_frz 6; exact rfl; exact zN)
  (apply res1; exact rfl; exact rfl; exact ⟨rfl, rfl⟩)
theorem sumW_take (W : Int → Int) (l : List Int) {k : Nat} (h : k < l.length) : sumW W (l.take (k + 1)) = sumW W (l.take k) + W l[k] := by
 rw [List.take_succ_eq_append_getElem h, sumW_app]
 simp [sumW]
theorem sumW_bt {r : Rt} (hr : r.ok = true) (l : List Int) (k : Nat) (hl : l.length ≤ 1000) : -1000000 ≤ sumW (rateW r) (l.take k) ∧ sumW (rateW r) (l.take k) ≤ 1000000 := by
 have := sumW_b (rateW_b hr) (l.take k)
 rw [List.length_take] at this
 omega
theorem sum_con (l : List Int) (r : Rt) (hr : r.ok = true) (hl : l.length ≤ 1000) : Con Tryd.prog 73 [.sl 1 iC l, .agg (rC r)] [] (Is (.val (.int .i64 (sumW (rateW r) l))) []) := by
 have hrb : (0 ≤ r.skin ∧ r.skin ≤ 1000) ∧ (0 ≤ r.half ∧ r.half ≤ 1000) ∧ (0 ≤ r.barrel ∧ r.barrel ≤ 1000) ∧ (0 ≤ r.paid ∧ r.paid ≤ 1000) := by
  exact Rt.ok_iff hr
 refine con_of Tryd.func73 rfl (enters_of Tryd.func73 (by kernel_rfl) rfl) rfl ?_; intro n w0 F0 G0
 refine zS ?_;repeat(refine yA ?_;intro p hp;refine zS ?_)
 refine W_loopJ (fun (k : Nat) => ⟨[(3, .val p), (5, .val (.int .i64 (sumW (rateW r) (l.take k)))), (8, .sl 1 iC l), (9, .val (.int .i64 l.length)), (10, .val (.int .i64 k))], [.box p (rC r) 64]⟩) (fun k => k ≤ l.length) (fun k => l.length - k) 0 (fun _ _ st => st_sub2 st zR zP) (Nat.zero_le _) ?_
 intro k hk
 refine zS ?_
 refine w_cond rfl (fun hlt => ?_) (fun hlt => ?_)
 ·have hlt' : k < l.length := by simpa using hlt
  have hq0 : l[k]? = some l[k] := List.getElem?_eq_getElem hlt'
  have hs := sumW_take (rateW r) l hlt'
  have hb := sumW_bt hr l k hl
  generalize hy : sumW (rateW r) (l.take (k + 1)) = y at hs
  have hgoal : ∀ w : Int, y = w → sumW (rateW r) (l.take (k + 1)) = w := fun w e => by rw [hy, e]
  generalize hx : sumW (rateW r) (l.take k) = x at hs hb ⊢
  unfold rateW at hs
  refine zS ?_
  generalize l[k] = z at hs ⊢
  by_cases c1 : z = 1
  ·rw [decide_eq_true c1]
   rw [if_pos c1] at hs
   refine zS ?_
   refine ⟨k + 1, fun _ _ st => st_sub2 st (by rw [hgoal _ hs]; exact zR) zP, hlt', ?_⟩
   omega
  ·rw [decide_eq_false c1]
   refine zS ?_
   by_cases c2 : z = 2
   ·rw [decide_eq_true c2]
    rw [if_neg c1, if_pos c2] at hs
    refine zS ?_
    refine ⟨k + 1, fun _ _ st => st_sub2 st (by rw [hgoal _ hs]; exact zR) zP, hlt', ?_⟩
    omega
   ·rw [decide_eq_false c2]
    refine zS ?_
    by_cases c3 : z = 3
    ·rw [decide_eq_true c3]
     rw [if_neg c1, if_neg c2, if_pos c3] at hs
     refine zS ?_
     refine ⟨k + 1, fun _ _ st => st_sub2 st (by rw [hgoal _ hs]; exact zR) zP, hlt', ?_⟩
     omega
    ·rw [decide_eq_false c3]
     refine zS ?_
     by_cases c4 : z = 4
     ·rw [decide_eq_true c4]
      rw [if_neg c1, if_neg c2, if_neg c3, if_pos c4] at hs
      refine zS ?_
      refine ⟨k + 1, fun _ _ st => st_sub2 st (by rw [hgoal _ (show y = x - r.paid by omega)]; exact zR) zP, hlt', ?_⟩
      omega
     ·rw [decide_eq_false c4]
      rw [if_neg c1, if_neg c2, if_neg c3, if_neg c4] at hs
      refine zS ?_
      refine ⟨k + 1, fun _ _ st => st_sub2 st (by rw [hgoal _ (show y = x by omega)]; exact zR) zP, hlt', ?_⟩
      omega
 ·have hkk : k = l.length := by simp at hlt; omega
  subst hkk
  rw [List.take_length]
  refine zS ?_
  (apply res1; exact rfl; exact rfl; exact ⟨rfl, rfl⟩)
theorem inside_con (z a b : Int) : Con Tryd.prog 72 [.val (.int .i64 z), .agg (pC (a, b))] [] (Is (.val (.bool (decide (a ≤ z) && decide (z ≤ b)))) []) := by
 refine con_of Tryd.func72 rfl (enters_of Tryd.func72 (by kernel_rfl) rfl) rfl ?_; intro n w0 F0 G0
 refine zS ?_;repeat(refine yA ?_;intro p hp;refine zS ?_)
 dsimp only
 cases h : decide (a ≤ z) with
 | true =>
  refine zS ?_
  (apply res1; exact rfl; exact rfl; exact ⟨rfl, rfl⟩)
 | false =>
  refine zS ?_
  (apply res1; exact rfl; exact rfl; exact ⟨rfl, rfl⟩)
theorem ltL_drop {a b : List Int} {k : Nat} (ha : k < a.length) (hb : k < b.length) : ltL (a.drop k) (b.drop k) = if a[k] = b[k] then ltL (a.drop (k + 1)) (b.drop (k + 1)) else decide (a[k] < b[k]) := by
 rw [List.drop_eq_getElem_cons ha, List.drop_eq_getElem_cons hb, ltL_cons]
theorem ltL_end {a b : List Int} {k : Nat} (hk : k ≤ a.length) (hk2 : k ≤ b.length) (h : ¬ (k < a.length ∧ k < b.length)) : ltL (a.drop k) (b.drop k) = decide ((a.length : Int) < (b.length : Int)) := by
 rcases Nat.lt_or_ge k a.length with h1 | h1
 ·have : k = b.length := by omega
  subst this
  rw [List.drop_length, ltL_nil_r, decide_eq_false (by omega)]
 ·have : k = a.length := by omega
  subst this
  rw [List.drop_length]
  rcases Nat.lt_or_ge a.length b.length with h2 | h2
  ·rw [List.drop_eq_getElem_cons h2, decide_eq_true (by omega)]; rfl
  ·rw [List.drop_eq_nil_of_le h2, decide_eq_false (by omega)]; rfl
theorem less7_con (a b : List Int) (h1 : a.length ≤ 1000000) (h2 : b.length ≤ 1000000) : Con Tryd.prog 74 [.sl 1 iC a, .sl 1 iC b] [] (Is (.val (.bool (ltL a b))) []) := by
 refine con_of Tryd.func74 rfl (enters_of Tryd.func74 (by kernel_rfl) rfl) rfl ?_; intro n w0 F0 G0
 refine zS ?_
 refine W_loopJ (fun (k : Nat) => ⟨[(0, .sl 1 iC a), (1, .sl 1 iC b), (5, .val (.int .i64 k))], []⟩) (fun k => k ≤ a.length ∧ k ≤ b.length ∧ ltL (a.drop k) (b.drop k) = ltL a b) (fun k => a.length - k) 0 (fun _ _ st => st_sub2 st zR zP) ⟨Nat.zero_le _, Nat.zero_le _, rfl⟩ ?_
 rintro k ⟨hk1, hk2, he⟩
 refine zS ?_
 by_cases ha : k < a.length
 ·rw [decide_eq_true (show (k : Int) < (a.length : Int) by omega)]
  refine zS ?_
  by_cases hb : k < b.length
  ·rw [decide_eq_true (show (k : Int) < (b.length : Int) by omega)]
   have hq0 : a[k]? = some a[k] := List.getElem?_eq_getElem ha
   have hq1 : b[k]? = some b[k] := List.getElem?_eq_getElem hb
   rw [ltL_drop ha hb] at he
   refine zS ?_
   refine W_run 8 [18, 19, 20, 21, 22, 23, 24, 25] [0, 1, 2, 3, 4, 5, 6, 7] Cut.nil rfl goFlt mixedS (by kernel_rfl) rfl ?_
   refine rpv [] [] ?_
   refine rpv [] [] ?_
   refine rpv [0, 1] [] ?_
   refine rpv [2] [] ?_
   refine rpv [] [] ?_
   refine rpv [] [] ?_
   refine rpv [4, 5] [] ?_
   refine rpv [6] [] ?_
   refine ⟨⟨by kernel_rfl, by kernel_rfl⟩, fun vs => ?_⟩
   apply WL_auto [3, 7]
   ·exact goPk
   ·exact goNrm
   ·kernel_rfl
   ·kernel_rfl
   refine zS ?_
   by_cases hab : a[k] = b[k]
   ·rw [if_pos hab] at he
    rw [decide_eq_true hab]
    refine zS ?_
    refine ⟨k + 1, fun _ _ st => st_sub2 st zR zP, ⟨ha, hb, he⟩, ?_⟩
    omega
   ·rw [if_neg hab] at he
    rw [decide_eq_false hab]
    refine zS ?_
    refine W_run 8 [27, 28, 29, 30, 31, 32, 33, 34] [0, 1, 2, 3, 4, 5, 6, 7] Cut.nil rfl goFlt mixedS (by kernel_rfl) rfl ?_
    refine rpv [] [] ?_
    refine rpv [] [] ?_
    refine rpv [0, 1] [] ?_
    refine rpv [2] [] ?_
    refine rpv [] [] ?_
    refine rpv [] [] ?_
    refine rpv [4, 5] [] ?_
    refine rpv [6] [] ?_
    refine ⟨⟨by kernel_rfl, by kernel_rfl⟩, fun vs => ?_⟩
    apply WL_auto [3, 7]
    ·exact goPk
    ·exact goNrm
    ·kernel_rfl
    ·kernel_rfl
    refine zS ?_
    (apply res1; exact rfl; exact rfl; exact ⟨by rw [he], rfl⟩)
  ·rw [decide_eq_false (show ¬ (k : Int) < (b.length : Int) by omega)]
   rw [ltL_end hk1 hk2 (fun h => hb h.2)] at he
   refine zS ?_
   (apply res1; exact rfl; exact rfl; exact ⟨by rw [he], rfl⟩)
 ·rw [decide_eq_false (show ¬ (k : Int) < (a.length : Int) by omega)]
  rw [ltL_end hk1 hk2 (fun h => ha h.1)] at he
  refine zS ?_
  (apply res1; exact rfl; exact rfl; exact ⟨by rw [he], rfl⟩)
theorem edRun_b : ∀ {es : List Ed} {l r : List Int}, EdRun l es r → ∀ e ∈ es, 0 ≤ e.at' ∧ e.at' ≤ (l.length : Int) + es.length ∧ 1 ≤ e.kd ∧ e.kd ≤ 3
 | [], _, _, _, _, h => by cases h
 | e :: es, l, r, ⟨h1, h2⟩, x, hx => by
  rw [List.length_cons]
  rcases List.mem_cons.1 hx with rfl | hx
  ·obtain ⟨a, b, _, c⟩ := h1
   exact ⟨a, by omega, by omega, by omega⟩
  ·have := edRun_b h2 x hx
   have := edA_len l e
   omega
theorem firstR_min {a : Tl} (h : Rdy a) : ∃ l, firstR a = (l, 0) ∧ TrueL a.st a.fo l ∧ ∀ m, TrueL a.st a.fo m → ltL m l = false := by
 unfold firstR
 rw [if_pos h.ok]
 have hne := tell_ne h.os h.of
 have hF := tellT_fst h.os h.of (Nat.zero_le a.st.length) (Nat.zero_le a.fo.length)
 rw [List.drop_zero, List.drop_zero] at hF
 cases e : tellT a.st a.fo 0 0 with
 | nil => exact absurd e hne
 | cons l t => exact ⟨l, rfl, hF.sub l (by rw [e]; simp), fun m hm => tell_first h.os h.of e hm⟩
theorem kindsR_ok {a : Tl} (h : Rdy a) {k : Int} (hk : 1 ≤ k ∧ k ≤ 4) : kindsR a k = (spanF (kindW k) a.st a.fo, 0) := by
 unfold kindsR
 rw [if_pos h.ok, if_pos hk]
theorem sumW_take' (W : Int → Int) (l : List Int) {k : Nat} (h : k < l.length) : sumW W (l.take (k + 1)) = sumW W (l.take k) + W l[k] := by
 rw [List.take_succ_eq_append_getElem h, sumW_app]
 simp [sumW]
theorem kind_cnt (k : Int) : ∀ l : List Int, 0 ≤ sumW (kindW k) l ∧ sumW (kindW k) l ≤ l.length
 | [] => by simp [sumW]
 | x :: l => by
  have := kind_cnt k l
  unfold sumW at *
  rw [List.map_cons, List.sum_cons, List.length_cons]
  have : kindW k x = 0 ∨ kindW k x = 1 := by unfold kindW; split <;> simp
  omega
theorem tallyTrue_con (x : Tl) (bits : Int) (r : Rt) (hb : 0 ≤ bits ∧ bits ≤ 4294967295) : Con Tryd.prog 11 [.agg (tC x), .val (.int .u32 bits), .agg (rC r)] [HA.tab] (Is (.val (.bool true)) []) := by
 have RX := ready1_con x
 have RR := refRates_con r
 obtain ⟨B, rfl⟩ : ∃ B : Nat, bits = B := ⟨bits.toNat, by omega⟩
 refine con_of Tryd.func11 rfl (enters_of Tryd.func11 (by kernel_rfl) rfl) rfl ?_; intro n w0 F0 G0
 refine zS ?_;repeat(refine yA ?_;intro p hp;refine zS ?_)
 rename_i p3 hp3
 revert p
 intro p5 hp5
 (first | (apply wl_call (alive_con); exact rfl; exact rfl) | (apply wl_callR (alive_con); exact rfl; exact zM; exact rfl))
 refine zS ?_;repeat(refine yA ?_;intro p hp;refine zS ?_)
 (first | (apply wl_call (RX); exact rfl; exact rfl) | (apply wl_callR (RX); exact rfl; exact zM; exact rfl))
 cases hx : (!(decide ((30 : Int) < x.st.length) || decide ((30 : Int) < x.fo.length)) && okT x.id x.hs x.st x.fo) with
 | false =>
  refine zS ?_;repeat(refine yA ?_;intro p hp;refine zS ?_)
  (apply res1; exact rfl; exact rfl; exact ⟨rfl, rfl⟩)
 | true =>
  refine zS ?_;repeat(refine yA ?_;intro p hp;refine zS ?_)
  (first | (apply wl_call (RR); exact rfl; exact rfl) | (apply wl_callR (RR); exact rfl; exact zM; exact rfl))
  cases hr : r.ok with
  | false =>
   refine zS ?_;repeat(refine yA ?_;intro p hp;refine zS ?_)
   (apply res1; exact rfl; exact rfl; exact ⟨rfl, rfl⟩)
  | true =>
   have hX := Rdy.of' hx
   have l1 := hX.s
   have l2 := hX.f
   obtain ⟨e1, e2, e3⟩ := edits_ok hX
   have d0 := hX.dist
   have CE := editsP_con x hX.small
   rw [e1] at CE
   have hE := edRun_b e2
   have CM := made_con x (edL x.st x.fo 0 0) B (by omega) (by omega) (by omega) (fun e he => by have := hE e he; omega)
   obtain ⟨l, hT, hl⟩ := made_true (st := x.st) (fo := x.fo) (bitF B) _ 0 0 0 [] (Nat.zero_le _) (Nat.zero_le _) (Nat.le_refl _)
   rw [List.drop_zero, List.drop_zero] at hT
   rw [List.drop_zero, List.nil_append, List.nil_append] at hl
   have hl' : mdGo (bitF B) 0 x.st 0 (edL x.st x.fo 0 0) = l := hl
   rw [hl'] at CM
   have hll := hT.length_le
   have CI := isP_con x l hX.lt.1 hX.lt.2 (by omega)
   rw [isR_true hX hT] at CI
   have CO := owed_con x r hX.lt.1 hX.lt.2
   rw [owedR_ok hX hr] at CO
   have SP := (spanR hr x).all l hT
   have CF := firstF_con x hX.small
   obtain ⟨fi, f1, f2, f3⟩ := firstR_min hX
   rw [f1] at CF
   have hfl := f2.length_le
   have LE := less7_con l fi (by omega) (by omega)
   rw [f3 l hT] at LE
   have SU := sum_con l r hr (by omega)
   have INS := inside_con (sumW (rateW r) l) (spanF (rateW r) x.st x.fo).1 (spanF (rateW r) x.st x.fo).2
   rw [decide_eq_true SP.1, decide_eq_true SP.2] at INS
   unfold seA at CO
   dsimp only at CE CI CO CF
   generalize edL x.st x.fo 0 0 = E at CE e2 e3 CM
   refine zS ?_;repeat(refine yA ?_;intro p hp;refine zS ?_)
   (first | (apply wl_call (CE); exact rfl; exact rfl) | (apply wl_callR (CE); exact rfl; exact zM; exact rfl))
   refine zS ?_;repeat(refine yA ?_;intro p hp;refine zS ?_)
   rw [decide_eq_false (show ¬ (24 : Int) < (E.length : Int) by omega)]
   refine zS ?_;repeat(refine yA ?_;intro p hp;refine zS ?_)
   (first | (apply wl_call (CM); exact rfl; exact rfl) | (apply wl_callR (CM); exact rfl; exact zM; exact rfl))
   refine zS ?_;repeat(refine yA ?_;intro p hp;refine zS ?_)
   (first | (apply wl_call (CI); exact rfl; exact rfl) | (apply wl_callR (CI); exact rfl; exact zM; exact rfl))
   refine zS ?_;repeat(refine yA ?_;intro p hp;refine zS ?_)
   (first | (apply wl_call (CO); exact rfl; exact rfl) | (apply wl_callR (CO); exact rfl; exact zM; exact rfl))
   refine zS ?_;repeat(refine yA ?_;intro p hp;refine zS ?_)
   revert p
   intro p13 hp13
   (first | (apply wl_call (CF); exact rfl; exact rfl) | (apply wl_callR (CF); exact rfl; exact zM; exact rfl))
   refine zS ?_;repeat(refine yA ?_;intro p hp;refine zS ?_)
   refine W_run 25 [70, 71, 72, 73, 74, 75, 76, 77, 78, 79, 80, 81, 82, 83, 84, 85, 86, 87, 88, 89, 90, 91, 92, 93, 94] [0, 1, 2, 3, 4, 5, 6, 7, 8, 9, 10, 11, 12, 13, 14, 15, 16, 17, 18, 19, 20, 21, 22, 23, 24] Cut.nil rfl goFlt mixedS (by kernel_rfl) rfl ?_
   refine rpv [] [] ?_
   refine rpv [0] [] ?_
   refine rpv [1] [] ?_
   refine ryv [2] ?_
   refine ryv [2, 3] ?_
   refine rpv [2, 4] [] ?_
   refine rpv [5] [] ?_
   refine ryv [6] ?_
   refine ryv [6, 7] ?_
   refine rpv [6, 8] [] ?_
   refine rpv [9] [] ?_
   refine ryv [10] ?_
   refine ryv [10] ?_
   refine ryx [10, 11, 12] (fun vs => by apply ltr_pk; exact goPk; (refine ltr ?_; refine lt_call ?_ (SU); exact rfl)) ?_
   refine ryv [10] ?_
   refine ryx [10, 13, 14] (fun vs => by apply ltr_pk; exact goPk; (refine ltr ?_; refine lt_call ?_ (INS); exact rfl)) ?_
   refine ryv [10, 15] ?_
   refine rpv [10, 16] [] ?_
   refine rpv [17] [] ?_
   refine ryv [18] ?_
   refine ryv [18, 19] ?_
   refine rpv [18, 20] [] ?_
   refine rpv [21] [] ?_
   refine ryv [22] ?_
   refine ryv [22] ?_
   refine ⟨⟨by kernel_rfl, by kernel_rfl⟩, fun vs => ?_⟩
   apply WL_auto [22, 23, 24]
   ·exact goPk
   ·exact goNrm
   ·kernel_rfl
   ·kernel_rfl
   refine zS ?_;repeat(refine yA ?_;intro p hp;refine zS ?_)
   (first | (apply wl_call (LE); exact rfl; exact rfl) | (apply wl_callR (LE); exact rfl; exact zM; exact rfl))
   refine zS ?_;repeat(refine yA ?_;intro p hp;refine zS ?_)
   refine W_loopJ (fun (k : Nat) => ⟨[(3, .val p3), (7, .val (.bool true)), (10, .sl 1 iC l), (17, .val (.int .i64 k))], [.box p3 (tC x) 24, HA.tab]⟩) (fun k => 1 ≤ k ∧ k ≤ 5) (fun k => 5 - k) 1 (fun _ _ st => st_sub2 st zR zP) ⟨by decide, by decide⟩ ?_
   rintro k ⟨hk1, hk2⟩
   refine zS ?_;repeat(refine yA ?_;intro p hp;refine zS ?_)
   by_cases hk4 : k = 5
   ·subst hk4
    refine zS ?_;repeat(refine yA ?_;intro p hp;refine zS ?_)
    (apply res1; exact rfl; exact rfl; exact ⟨rfl, rfl⟩)
   ·rw [decide_eq_true (show (k : Int) ≤ 4 by omega)]
    refine zS ?_;repeat(refine yA ?_;intro p hp;refine zS ?_)
    refine W_loopJ (fun (j : Nat) => ⟨[(3, .val p3), (7, .val (.bool true)), (10, .sl 1 iC l), (17, .val (.int .i64 k)), (18, .val (.int .i64 (sumW (kindW k) (l.take j)))), (101, .sl 1 iC l), (102, .val (.int .i64 l.length)), (103, .val (.int .i64 j))], [.box p3 (tC x) 24, HA.tab]⟩) (fun j => j ≤ l.length) (fun j => l.length - j) 0 (fun _ _ st => st_sub2 st zR zP) (Nat.zero_le _) ?_
    intro j hj
    refine zS ?_;repeat(refine yA ?_;intro p hp;refine zS ?_)
    refine w_cond rfl (fun hlt => ?_) (fun hlt => ?_)
    ·have hlt' : j < l.length := by simpa using hlt
     have hq0 : l[j]? = some l[j] := List.getElem?_eq_getElem hlt'
     have hs := sumW_take' (kindW k) l hlt'
     have hb1 := kind_cnt k (l.take j)
     rw [List.length_take] at hb1
     have hs : sumW (kindW (k : Int)) (l.take (j + 1)) = sumW (kindW (k : Int)) (l.take j) + (if l[j] = (k : Int) then 1 else 0) := hs
     refine zS ?_;repeat(refine yA ?_;intro p hp;refine zS ?_)
     by_cases hz : l[j] = (k : Int)
     ·rw [decide_eq_true hz]
      rw [if_pos hz] at hs
      refine zS ?_;repeat(refine yA ?_;intro p hp;refine zS ?_)
      refine ⟨j + 1, fun _ _ st => st_sub2 st (by rw [hs]; exact zR) zP, hlt', ?_⟩
      omega
     ·rw [decide_eq_false hz]
      rw [if_neg hz] at hs
      refine zS ?_;repeat(refine yA ?_;intro p hp;refine zS ?_)
      refine ⟨j + 1, fun _ _ st => st_sub2 st (by rw [show sumW (kindW (k : Int)) (l.take (j + 1)) = sumW (kindW (k : Int)) (l.take j) by rw [hs]; exact Int.add_zero _]; exact zR) zP, hlt', ?_⟩
      omega
    ·have hkk : j = l.length := by simp at hlt; omega
     subst hkk
     rw [List.take_length]
     have CK := kinds_con x (k : Int) hX.lt.1 hX.lt.2
     rw [kindsR_ok hX (by omega)] at CK
     have SK := (span_is (kindW_b (k : Int)) x.st x.fo).all l hT
     have IK := inside_con (sumW (kindW (k : Int)) l) (spanF (kindW (k : Int)) x.st x.fo).1 (spanF (kindW (k : Int)) x.st x.fo).2
     rw [decide_eq_true SK.1, decide_eq_true SK.2] at IK
     unfold seA at CK
     dsimp only at CK
     refine zS ?_;repeat(refine yA ?_;intro p hp;refine zS ?_)
     (first | (apply wl_call (CK); exact rfl; exact rfl) | (apply wl_callR (CK); exact rfl; exact zM; exact rfl))
     refine zS ?_;repeat(refine yA ?_;intro p hp;refine zS ?_)
     (first | (apply wl_call (IK); exact rfl; exact rfl) | (apply wl_callR (IK); exact rfl; exact zM; exact rfl))
     refine zS ?_;repeat(refine yA ?_;intro p hp;refine zS ?_)
     refine ⟨k + 1, fun _ _ st => st_sub2 st zR zP, ⟨by omega, by omega⟩, ?_⟩
     omega
end Go.Proofs.YthddoikmgpgakaaDoor.Sw
