/- Proofs for one card: App, Frame, Reg, RegIn, Sw, SwOps, SwAny, SwOps2, SwOps3, SwR, Ty, SwF, Row, Steps, Left, Best, Comes, Wide, DoorU7, SwG, SwH, SwI, SwQ, SwL, SwB, SwS, SwM, SwX, Bk, SwN, MtA, LsB, LsD, LsG, Edits, LsK, Pa, Ota, Otb, TallyMore. No condition of its own. -/
import Derived.WalkKit
import Derived.Handy
import Derived.Deep.AppendSrc
import Derived.Test.YthddoikmgpgakaaDoorProg
import Derived.Outline
import Derived.RangeFuncNested
import Derived.Shelf.Abstract
import Derived.Deep.QuietTactic
import Derived.BigQuiet
import Derived.Deep.RegionHeld3
import Derived.WalkSmall
import Derived.Laws.EntriesVeiled
import Derived.Maps.AppendAt
import Derived.Deep.AppendLies
import Derived.Test.YthddoikmgpgakaaDoorCards
import Derived.Test.YthddoikmgpgakaaDoorTie
import Derived.ProofKit
import Derived.OpenShut
import Derived.LaidMore
import Derived.LaidOnce
import Derived.ChangeOld
import Derived.Below
import Derived.Stop.Joined
import Derived.Lib.SmallJoins
import Derived.OrdersHeld
import Derived.Deep.RegionHeld
import Derived.OrdersIn
import Derived.RangeFuncCalls
import Derived.RangeFuncLeaves
import Derived.IntWalk
import Derived.WalkSpells
import Derived.OwnWalk
import Derived.LoopNIn
import Derived.DeepKeys4
import Derived.Maps.OwnIn
import Derived.OwnWalkIn
import Derived.RangeFuncBound
import Derived.Shelf.RegionOpen
import Derived.TacticsInMore
import Derived.Sort.BigQuietIn
import Derived.LoopIn
import Derived.WalkMore
import Derived.Maps.Views
import Derived.Lib.AppendZerosOnto
import Derived.Lib.Walk
import Derived.Lib.SliceRun
import Derived.Laws.MakeOwn
import Derived.Deep.Cut
import Derived.Deep.Slices
import Derived.Lib.LazyBuf
import Derived.Scope
import Derived.Maps.RangeRun
import Derived.ArgAppend
import Derived.WideKeyEntry
import Derived.Shelf.SlSortCmp.Whole1
import Derived.Shelf.Lay
import Derived.Test.YthddoikmgpgakaaDoorNa8
set_option linter.unusedVariables false
set_option linter.unusedSimpArgs false
set_option maxRecDepth 40000
set_option maxHeartbeats 32000000
namespace Go.Proofs.YthddoikmgpgakaaDoor
open Go.RowKit Go
section
variable {P : Program} (w : World)
end
end Go.Proofs.YthddoikmgpgakaaDoor
namespace Go.Proofs.YthddoikmgpgakaaDoor
open Go Go.ChangeShapes Go.WideShapes Go.ChangeAt Go.RowKit
theorem laidOut : laidOutB Tryd.prog = true := by kernel_rfl
set_option maxRecDepth 100000 in
theorem tab_of {W : World} (h : laidMetH Tryd.prog laidL W) : Tab W := by
 obtain ⟨g, t, cs, fuel, p, hg, ht, hv, hd⟩ := h.funcs (n := "aguador/tally.checks") (List.mem_cons_self ..)
 obtain rfl := Option.some.inj ((show Tryd.prog.globalNamed "aguador/tally.checks" = some 0 by kernel_rfl).symm.trans hg)
 obtain rfl := Option.some.inj ((show (Tryd.prog.globals[0]?).map (·.type) = some 146 by kernel_rfl).symm.trans ht)
 have hd' : DataW.trod (funcToken Tryd.prog) Tryd.prog W 0 (fun _ => true) true fuel 146 cs.toList = some (.agg [.agg [.held [97, 103, 117, 97, 100, 111, 114, 47, 116, 97, 108, 108, 121, 46, 99, 104, 101, 99, 107, 115, 36, 49]], .agg [.held [97, 103, 117, 97, 100, 111, 114, 47, 116, 97, 108, 108, 121, 46, 99, 104, 101, 99, 107, 115, 36, 50]], .agg [.held [97, 103, 117, 97, 100, 111, 114, 47, 116, 97, 108, 108, 121, 46, 99, 104, 101, 99, 107, 115, 36, 51]]], p) := hd
 obtain ⟨xs, m, rfl, hx, hlen, hn, hel⟩ := DataW.trod_array Tryd.underlying146 hd'
 rw [show Tryd.prog.cellsOf 145 = 1 by kernel_rfl] at hel
 rw [show Tryd.prog.cellsOf 146 = 3 by kernel_rfl] at hlen
 obtain ⟨cl⟩ := cs
 match cl, hlen, xs, hn with
 | [v0, v1, v2], _, [x0, x1, x2], _ =>
  simp only [Prod.mk.injEq, DataW.agg.injEq, List.map_cons, List.map_nil, List.cons.injEq] at hx
  have h0 := hel 0 (by decide); have h1 := hel 1 (by decide); have h2 := hel 2 (by decide)
  simp at h0 h1 h2
  have go : ∀ (v : Value) (x : DataW (List UInt8) × List MemPlace) (b : UInt8) (r : List UInt8) (f0 : FuncId), ((List.range Tryd.prog.funcs.size).filter fun f => (Tryd.prog.funcs[f]?).any (·.name.toUTF8.data.toList == b :: r)) = [f0] →
    DataW.trod (funcToken Tryd.prog) Tryd.prog W 0 (fun _ => true) true m 145 [v] = some x → x.1 = .agg [.held (b :: r)] → v = .func (.func f0) #[] #[] := by
   intro v x b r f0 hone h hx
   obtain ⟨y, n, rfl, _, hy⟩ := trod_struct1 Tryd.underlying145 h
   simp only [DataW.agg.injEq, List.cons.injEq, and_true] at hx
   obtain ⟨y1, y2⟩ := y
   simp only at hx
   subst hx
   exact func_of_trod (P := Tryd.prog) Tryd.underlying25 hone (by simpa [show Tryd.prog.cellsOf 25 = 1 by kernel_rfl] using hy)
  have e0 := go v0 x0 _ _ 164 (by kernel_rfl) h0 hx.1.1.symm
  have e1 := go v1 x1 _ _ 165 (by kernel_rfl) h1 hx.1.2.1.symm
  have e2 := go v2 x2 _ _ 166 (by kernel_rfl) h2 hx.1.2.2.1.symm
  subst e0; subst e1; subst e2
  have c0 := World.var?_cell hg hv 0; have c1 := World.var?_cell hg hv 1; have c2 := World.var?_cell hg hv 2
  exact ⟨by simpa using c0, by simpa using c1, by simpa using c2⟩
end Go.Proofs.YthddoikmgpgakaaDoor
namespace Go.Proofs.YthddoikmgpgakaaDoor
open Go.RowKit Go
section
variable {P : Program} {ops : Array Oper} {Q : Exit → Act → World → Prop} {S : World → Prop} {held : List Nat}
end
section
variable {F : Fence} {n : Nat} {P : Program} {ops : Array Oper} {Q : Exit → Act → World → Prop} {S : World → Prop} {held : List Nat}
end
end Go.Proofs.YthddoikmgpgakaaDoor
namespace Go.Proofs.YthddoikmgpgakaaDoor.Sw
open Go.RowKit Go
section
variable {c : Cx} {s : S} {Q : Exit → S → Prop}
end
section
variable {c : Cx} {s : S} {Q : Exit → S → Prop} {ops : Array Oper} {tl : List Oper}
end
section
variable {c : Cx} {s : S} {Q : Exit → S → Prop} {ops : Array Oper} {tl : List Oper}
end
section
variable {P : Program} {rs : List (Nat × AV)} {d : Option Nat} {ty : TypeId} {pos : String} {af : Array Edge} {g : Option (Nat × Bool)}
theorem lt_leq {x y : Operand} {m n : Int} {k : IntKind} {t t' : TypeId} (hx : opv rs x = some (.val (.int k m))) (hy : opv rs y = some (.val (.int k n))) :
  LT P ⟨d, .binOp .leq t x y t', ty, pos, af, g⟩ rs [] (Is (.val (.bool (decide (m ≤ n)))) []) :=
 LT_val (fun _ e => by cases e) fun a w G hR _ => ⟨_, rfl, by
  have e1 : a.eval x = _ := opv_ok hR hx
  have e2 : a.eval y = _ := opv_ok hR hy
  simp only [execOp, e1, e2]
  first | (simp [go_sem]; done) | (simp [go_sem]; rfl)⟩
theorem lt_geq {x y : Operand} {m n : Int} {k : IntKind} {t t' : TypeId} (hx : opv rs x = some (.val (.int k m))) (hy : opv rs y = some (.val (.int k n))) :
  LT P ⟨d, .binOp .geq t x y t', ty, pos, af, g⟩ rs [] (Is (.val (.bool (decide (n ≤ m)))) []) :=
 LT_val (fun _ e => by cases e) fun a w G hR _ => ⟨_, rfl, by
  have e1 : a.eval x = _ := opv_ok hR hx
  have e2 : a.eval y = _ := opv_ok hR hy
  simp only [execOp, e1, e2]
  first | (simp [go_sem]; done) | (simp [go_sem]; rfl)⟩
end
section
variable {c : Cx} {s : S} {Q : Exit → S → Prop} {ops : Array Oper} {tl : List Oper}
end
section
variable {c : Cx} {rs : List (Nat × AV)} {hs : List HA} {Q : Exit → S → Prop} {ops : Array Oper} {tl : List Oper} {d : Nat} {op : Op} {ty : TypeId} {pos : String} {af : Array Edge}
end
section
variable {c : Cx} {rs : List (Nat × AV)} {hs : List HA} {Q : Exit → S → Prop} {ops : Array Oper} {tl : List Oper} {d : Nat} {ty : TypeId} {pos : String} {af : Array Edge} {x y : Operand} {t tb : TypeId} {p : Value} {j : Nat} {cs : List AV} {f : HA → List HA}
end
section
variable (ops : Array Oper) (m : Nat) (sp : List Sp) (hs0 : List HA)
end
section
variable {c : Cx} {ops : Array Oper} {m : Nat} {sp : List Sp} {hs0 hsR : List HA} {rsB : List (Nat × AV)} {Q : Exit → S → Prop}
end
section
variable {P : Program} {rs : List (Nat × AV)} {hsR : List HA} {d : Option Nat} {ty : TypeId} {pos : String} {af : Array Edge} {g : Option (Nat × Bool)} {x : Operand} {t tb : TypeId} {p : Value} {j : Nat} {cs : List AV} {f : HA → List HA}
end
section
variable {P : Program} {rs : List (Nat × AV)} {d : Option Nat} {ty : TypeId} {pos : String} {af : Array Edge} {g : Option (Nat × Bool)}
end
section
variable {P : Program} {rs : List (Nat × AV)} {d : Option Nat} {ty : TypeId} {pos : String} {af : Array Edge} {g : Option (Nat × Bool)}
end
section
variable {c : Cx} {rs : List (Nat × AV)} {hs : List HA} {Q : Exit → S → Prop} {ops : Array Oper} {tl : List Oper} {d : Nat} {ty : TypeId} {pos : String} {af : Array Edge}
theorem wl_leq {x y : Operand} {m n : Int} {kd : IntKind} {t t' : TypeId} (hx : opv rs x = some (.val (.int kd m))) (hy : opv rs y = some (.val (.int kd n))) (hd : Nat.blt d c.nt = true) (k : WL c ops tl ⟨(d, .val (.bool (decide (m ≤ n)))) :: rs, hs⟩ Q) : WL c ops (⟨some d, .binOp .leq t x y t', ty, pos, af, none⟩ :: tl) ⟨rs, hs⟩ Q := wl_ex (lt_leq hx hy) hd k
theorem wl_geq {x y : Operand} {m n : Int} {kd : IntKind} {t t' : TypeId} (hx : opv rs x = some (.val (.int kd m))) (hy : opv rs y = some (.val (.int kd n))) (hd : Nat.blt d c.nt = true) (k : WL c ops tl ⟨(d, .val (.bool (decide (n ≤ m)))) :: rs, hs⟩ Q) : WL c ops (⟨some d, .binOp .geq t x y t', ty, pos, af, none⟩ :: tl) ⟨rs, hs⟩ Q := wl_ex (lt_geq hx hy) hd k
end
section
variable {c : Cx} {rs : List (Nat × AV)} {hs : List HA} {Q : Exit → S → Prop} {ops : Array Oper} {tl : List Oper} {d : Nat} {ty : TypeId} {pos : String} {af : Array Edge}
end
instance : TyF Tryd.prog 68 0 0 := ⟨fun a w => by kernel_rfl⟩
instance : TyF Tryd.prog 68 1 1 := ⟨fun a w => by kernel_rfl⟩
section
variable {P : Program} {rs : List (Nat × AV)} {d : Option Nat} {ty : TypeId} {pos : String} {af : Array Edge} {g : Option (Nat × Bool)}
end
section
variable {c : Cx} {rs : List (Nat × AV)} {hs : List HA} {Q : Exit → S → Prop} {ops : Array Oper} {tl : List Oper} {d : Nat} {ty : TypeId} {pos : String} {af : Array Edge}
end
section
variable {P : Program} {rs : List (Nat × AV)} {hsR : List HA} {d : Option Nat} {ty : TypeId} {pos : String} {af : Array Edge} {g : Option (Nat × Bool)}
end
section
variable {P : Program} {rs : List (Nat × AV)} {hsR : List HA} {d : Option Nat} {ty : TypeId} {pos : String} {af : Array Edge} {g : Option (Nat × Bool)}
end
section
variable {c : Cx} {rs : List (Nat × AV)} {hs : List HA} {Q : Exit → S → Prop} {ops : Array Oper} {tl : List Oper} {d : Nat} {ty : TypeId} {pos : String} {af : Array Edge}
end
end Go.Proofs.YthddoikmgpgakaaDoor.Sw
namespace Go.Proofs.YthddoikmgpgakaaDoor
open Go.RowKit Go
section
variable {α : Type} {f : α → List Value} {n : Nat}
end
end Go.Proofs.YthddoikmgpgakaaDoor
namespace Go.Proofs.YthddoikmgpgakaaDoor
open Go.RowKit Go.Proofs Go.Shelf
attribute [local go_sem] Oper.semAt_some
attribute [local go_sem] Oper.semAt_some
attribute [local go_sem] eqPlace
attribute [local go_sem] Oper.semAt_some
attribute [local go_sem] Oper.semAt_some
theorem refRates_any (r : Rt) (w : World) :
  Calls Tryd.prog 70 #[r.val] w fun e w' => e = .returned (.bool r.ok) ∧ Below w.heap.size w w' := by
 have hok : r.ok = ((decide (0 ≤ r.skin) && decide (r.skin ≤ 1000)) && ((decide (0 ≤ r.half) && decide (r.half ≤ 1000)) && ((decide (0 ≤ r.barrel) && decide (r.barrel ≤ 1000)) && (decide (0 ≤ r.paid) && decide (r.paid ≤ 1000))))) := rfl
 have HOK := hid hok; clear hok
 obtain ⟨q1, hq1⟩ : ∃ q, (decide (0 ≤ r.skin) && decide (r.skin ≤ 1000)) = q := ⟨_, rfl⟩
 obtain ⟨q2, hq2⟩ : ∃ q, (decide (0 ≤ r.half) && decide (r.half ≤ 1000)) = q := ⟨_, rfl⟩
 obtain ⟨q3, hq3⟩ : ∃ q, (decide (0 ≤ r.barrel) && decide (r.barrel ≤ 1000)) = q := ⟨_, rfl⟩
 obtain ⟨q4, hq4⟩ : ∃ q, (decide (0 ≤ r.paid) && decide (r.paid ≤ 1000)) = q := ⟨_, rfl⟩
 rw [hq1, hq2, hq3, hq4] at HOK
 unfold Rt.val
 cases q1 with
 | false => (go_enter Tryd.func70, Tryd.ntmps70; go_wp2_with (refine (within_any _ _ _ _).mono ?_; rintro e w' ⟨rfl, rfl⟩); go_ret; exact ⟨(congrArg (fun b => Ending.returned (Value.bool b)) (by rw [HOK.out]; first | rfl | simp [*])), goBl⟩)
 | true =>
  cases q2 with
  | false => (go_enter Tryd.func70, Tryd.ntmps70; go_wp2_with (refine (within_any _ _ _ _).mono ?_; rintro e w' ⟨rfl, rfl⟩); go_ret; exact ⟨(congrArg (fun b => Ending.returned (Value.bool b)) (by rw [HOK.out]; first | rfl | simp [*])), goBl⟩)
  | true =>
   cases q3 with
   | false => (go_enter Tryd.func70, Tryd.ntmps70; go_wp2_with (refine (within_any _ _ _ _).mono ?_; rintro e w' ⟨rfl, rfl⟩); go_ret; exact ⟨(congrArg (fun b => Ending.returned (Value.bool b)) (by rw [HOK.out]; first | rfl | simp [*])), goBl⟩)
   | true =>
    cases q4 with
    | false => (go_enter Tryd.func70, Tryd.ntmps70; go_wp2_with (refine (within_any _ _ _ _).mono ?_; rintro e w' ⟨rfl, rfl⟩); go_ret; exact ⟨(congrArg (fun b => Ending.returned (Value.bool b)) (by rw [HOK.out]; first | rfl | simp [*])), goBl⟩)
    | true => (go_enter Tryd.func70, Tryd.ntmps70; go_wp2_with (refine (within_any _ _ _ _).mono ?_; rintro e w' ⟨rfl, rfl⟩); go_ret; exact ⟨(congrArg (fun b => Ending.returned (Value.bool b)) (by rw [HOK.out]; first | rfl | simp [*])), goBl⟩)
end Go.Proofs.YthddoikmgpgakaaDoor
namespace Go.Proofs.YthddoikmgpgakaaDoor.Sw
open Go Go.RowKit Go.ChangeShapes Go.WideShapes Go.ChangeAt
theorem u8_ok {n : Int} (h : (Lit.int .u8 n).wf = true) : 0 ≤ n ∧ n ≤ 255 := by
 simp only [Lit.wf, IntKind.min, IntKind.max, IntKind.signed, IntKind.bits, Bool.and_eq_true, decide_eq_true_eq] at h
 simp at h
 omega
set_option maxRecDepth 100000
end Go.Proofs.YthddoikmgpgakaaDoor.Sw
namespace Go.Proofs.YthddoikmgpgakaaDoor.Sw
open Go.RowKit Go
section
variable {c : Cx} {rs : List (Nat × AV)} {hs : List HA} {Q : Exit → S → Prop} {g : Operand} {ps : Array Tmp} {assign body : Code} {gf : FuncId} {caps : List AV} {own r : List HA} {α β τ : Type} {f : α → τ → List AV} {t : α → τ → List HA} {xs : List α}
end
section
variable {P : Program} {rs : List (Nat × AV)} {hsR : List HA} {d : Option Nat} {ty : TypeId} {pos : String} {af : Array Edge} {g : Option (Nat × Bool)}
end
section
variable {c : Cx} {rs : List (Nat × AV)} {hs : List HA} {Q : Exit → S → Prop} {ops : Array Oper} {tl : List Oper} {d : Nat} {ty : TypeId} {pos : String} {af : Array Edge}
end
section
variable {P : Program} {rs : List (Nat × AV)} {hsR : List HA} {d : Option Nat} {ty : TypeId} {pos : String} {af : Array Edge} {g : Option (Nat × Bool)}
end
section
variable {c : Cx} {rs : List (Nat × AV)} {hs : List HA} {Q : Exit → S → Prop} {ops : Array Oper} {tl : List Oper} {d : Nat} {ty : TypeId} {pos : String} {af : Array Edge}
end
section
variable {P : Program} {rs : List (Nat × AV)} {d : Option Nat} {ty : TypeId} {pos : String} {af : Array Edge} {g : Option (Nat × Bool)}
end
section
variable {c : Cx} {rs : List (Nat × AV)} {hs : List HA} {Q : Exit → S → Prop} {ops : Array Oper} {tl : List Oper} {d : Nat} {ty : TypeId} {pos : String} {af : Array Edge}
end
section
variable {P : Program} {rs : List (Nat × AV)} {d : Option Nat} {ty : TypeId} {pos : String} {af : Array Edge} {g : Option (Nat × Bool)}
theorem lt_rem {x y : Operand} {m n : Int} {t t' : TypeId} (hx : opv rs x = some (.val (.int .i64 m))) (hy : opv rs y = some (.val (.int .i64 n))) (h0 : 0 < n) (h1 : 0 ≤ m) (h2 : m ≤ 9223372036854775807) :
  LT P ⟨d, .binOp .rem t x y t', ty, pos, af, g⟩ rs [] (Is (.val (.int .i64 (m % n))) []) :=
 LT_val (fun _ e => by cases e) fun a w G hR _ => ⟨_, rfl, by
  have e1 : a.eval x = _ := opv_ok hR hx
  have e2 : a.eval y = _ := opv_ok hR hy
  have hq : m.tmod n = m % n := Int.tmod_eq_emod_of_nonneg h1
  have hr1 : 0 ≤ m % n := Int.emod_nonneg m (by omega)
  have hr2 : m % n < n := Int.emod_lt_of_pos m h0
  have hr3 : m % n ≤ m := by
   have e := Int.emod_add_mul_ediv m n
   have p := Int.mul_nonneg (show 0 ≤ n by omega) (Int.ediv_nonneg h1 (show 0 ≤ n by omega))
   generalize n * (m / n) = q at e p
   omega
  have hz : n ≠ 0 := by omega
  simp only [execOp, e1, e2]
  simp [go_sem, hz, hq, IntWalk.i64_in (m % n) (by omega)]⟩
theorem run_conv8 {s t : TypeId} (hs : P.underlying s = some (.int .u8)) (ht : P.underlying t = some (.int .i64)) {n : Int} (h : 0 ≤ n ∧ n ≤ 255) (w : World) : (convert s t (.int .u8 n)).run P w = .ok (.int .i64 n) w := by
 simp [convert, run_underlying hs, run_underlying ht, Conv.intToInt, IntWalk.i64_in n (by omega)]
end
theorem wl_rem {c : Cx} {rs : List (Nat × AV)} {hs : List HA} {Q : Exit → S → Prop} {ops : Array Oper} {tl : List Oper} {d : Nat} {ty : TypeId} {pos : String} {af : Array Edge} {x y : Operand} {m n : Int} {t t' : TypeId} (hx : opv rs x = some (.val (.int .i64 m))) (hy : opv rs y = some (.val (.int .i64 n))) (h0 : 0 < n) (h1 : 0 ≤ m) (h2 : m ≤ 9223372036854775807) (hd : Nat.blt d c.nt = true) (k : WL c ops tl ⟨(d, .val (.int .i64 (m % n))) :: rs, hs⟩ Q) : WL c ops (⟨some d, .binOp .rem t x y t', ty, pos, af, none⟩ :: tl) ⟨rs, hs⟩ Q := wl_ex (lt_rem hx hy h0 h1 h2) hd k
section
variable {P : Program} {rs : List (Nat × AV)} {d : Option Nat} {ty : TypeId} {pos : String} {af : Array Edge} {g : Option (Nat × Bool)}
end
section
variable {c : Cx} {rs : List (Nat × AV)} {hs : List HA} {Q : Exit → S → Prop} {ops : Array Oper} {tl : List Oper} {d : Nat} {ty : TypeId} {pos : String} {af : Array Edge}
end
section
variable {P : Program} {rs : List (Nat × AV)} {d : Option Nat} {ty : TypeId} {pos : String} {af : Array Edge} {g : Option (Nat × Bool)}
end
section
variable {c : Cx} {rs : List (Nat × AV)} {hs : List HA} {Q : Exit → S → Prop} {ops : Array Oper} {tl : List Oper} {d : Nat} {ty : TypeId} {pos : String} {af : Array Edge}
end
section
variable {P : Program} {rs : List (Nat × AV)} {d : Option Nat} {ty : TypeId} {pos : String} {af : Array Edge} {g : Option (Nat × Bool)}
end
section
variable {c : Cx} {rs : List (Nat × AV)} {hs r : List HA} {Q : Exit → S → Prop} {ops : Array Oper} {tl : List Oper} {d : Nat} {ty : TypeId} {pos : String} {af : Array Edge}
end
end Go.Proofs.YthddoikmgpgakaaDoor.Sw
namespace Go.Proofs.YthddoikmgpgakaaDoor.Sw
open Go.RowKit Go
open Go.WideElems (Fit)
open Go.ChangeMaps (setBlock heap_setBlock_same heap_setBlock_other)
section
variable {κ α : Type} [DecidableEq κ]
end
section
variable {κ α : Type} (kv : κ → Value) (g : α → AV)
variable {kv g}
variable (kv g)
variable {kv g}
end
section
variable {P : Program} {κ α : Type} [DecidableEq κ] {t : TypeId} {kv : κ → Value} {ok : κ → Prop} {g : α → AV} {l : List (κ × α)} {G : Nat → Option Obj} {F : List Nat} {w : World} {v : Value}
variable {rs : List (Nat × AV)} {d : Option Nat} {ty : TypeId} {pos : String} {af : Array Edge} {gd : Option (Nat × Bool)}
end
section
variable {c : Cx} {rs : List (Nat × AV)} {hs : List HA} {Q : Exit → S → Prop} {ops : Array Oper} {tl : List Oper} {d : Nat} {ty : TypeId} {pos : String} {af : Array Edge} {κ α : Type} [DecidableEq κ] {t : TypeId} {kv : κ → Value} {ok : κ → Prop} {g : α → AV} {l : List (κ × α)} {v : Value}
end
section
variable {P : Program} {rs : List (Nat × AV)} {d : Option Nat} {ty : TypeId} {pos : String} {af : Array Edge} {gd : Option (Nat × Bool)} {κ α : Type} {t : TypeId} {kv : κ → Value} {g : α → AV} {l rest : List (κ × α)} {v it : Value}
end
section
variable {c : Cx} {rs : List (Nat × AV)} {hs r : List HA} {Q : Exit → S → Prop} {ops : Array Oper} {tl : List Oper} {d : Nat} {ty : TypeId} {pos : String} {af : Array Edge} {κ α : Type} {t : TypeId} {kv : κ → Value} {g : α → AV} {l rest : List (κ × α)} {v it : Value}
end
end Go.Proofs.YthddoikmgpgakaaDoor.Sw
namespace Go.Proofs.YthddoikmgpgakaaDoor.Sw
open Go.RowKit Go
section
variable {P : Program} {w : World}
end
section
variable {P : Program} {rs : List (Nat × AV)} {d : Option Nat} {ty : TypeId} {pos : String} {af : Array Edge} {g : Option (Nat × Bool)}
end
end Go.Proofs.YthddoikmgpgakaaDoor.Sw
namespace Go.Proofs.YthddoikmgpgakaaDoor.Sw
open Go.RowKit Go
open Go.WideElems (Fit)
open Go.ChangeMaps (setBlock heap_setBlock_same heap_setBlock_other)
section
variable {P : Program} {κ α : Type} [DecidableEq κ] {t : TypeId} {kv : κ → Value} {ok : κ → Prop} {g : α → AV} {l : List (κ × α)} {G : Nat → Option Obj} {F : List Nat} {w : World} {v : Value}
variable {rs : List (Nat × AV)} {d : Option Nat} {ty : TypeId} {pos : String} {af : Array Edge} {gd : Option (Nat × Bool)}
end
section
variable {c : Cx} {rs : List (Nat × AV)} {hs : List HA} {Q : Exit → S → Prop} {ops : Array Oper} {tl : List Oper} {d : Nat} {ty : TypeId} {pos : String} {af : Array Edge} {κ α : Type} [DecidableEq κ] {t : TypeId} {kv : κ → Value} {ok : κ → Prop} {g : α → AV} {l : List (κ × α)} {v : Value}
end
end Go.Proofs.YthddoikmgpgakaaDoor.Sw
namespace Go.Proofs.YthddoikmgpgakaaDoor.Sw
open Go.RowKit Go
section
variable {P : Program} {rs : List (Nat × AV)} {d : Option Nat} {ty : TypeId} {pos : String} {af : Array Edge} {g : Option (Nat × Bool)}
end
end Go.Proofs.YthddoikmgpgakaaDoor.Sw
namespace Go.Proofs.YthddoikmgpgakaaDoor.Sw
open Go.RowKit Go Go.Shelf Go.Proofs
section
variable {P : Program} {rs : List (Nat × AV)} {d : Option Nat} {ty : TypeId} {pos : String} {af : Array Edge} {g : Option (Nat × Bool)}
end
attribute [local go_sem] eqPlace
section
variable {P : Program} {rs : List (Nat × AV)} {d : Option Nat} {ty : TypeId} {pos : String} {af : Array Edge} {g : Option (Nat × Bool)}
end
end Go.Proofs.YthddoikmgpgakaaDoor.Sw
namespace Go.Proofs.YthddoikmgpgakaaDoor
open Go.RowKit Go.Proofs Go.Shelf
attribute [local go_sem] Oper.semAt_some
attribute [local go_sem] eqPlace
attribute [local go_sem] eqEdit
end Go.Proofs.YthddoikmgpgakaaDoor
namespace Go.Proofs.YthddoikmgpgakaaDoor.Sw
open Go.RowKit Go Go.Shelf Go.Proofs
end Go.Proofs.YthddoikmgpgakaaDoor.Sw
namespace Go.Proofs.YthddoikmgpgakaaDoor
open Go.RowKit Go.Proofs Go.Shelf
theorem dist_rev_le : ∀ a b : List Int, dist a.reverse b.reverse ≤ dist a b
 | [], b => by rw [List.reverse_nil, dist_nil, dist_nil, List.length_reverse]; exact Nat.le_refl _
 | x :: a, [] => by rw [List.reverse_nil, dist_nil', dist_nil', List.length_reverse]; exact Nat.le_refl _
 | x :: a, y :: b => by
  have h1 := dist_rev_le a b
  have h2 := dist_rev_le a (y :: b)
  have h3 := dist_rev_le (x :: a) b
  have g1 := dist_append [x] [y] a.reverse b.reverse
  have g2 := dist_append [x] [] a.reverse (y :: b).reverse
  have g3 := dist_append [] [y] (x :: a).reverse b.reverse
  have e1 := dist_both x y [] []
  rw [dist_cons]
  simp only [List.reverse_cons, dist_nil, dist_nil', List.length_cons, List.length_nil, List.append_nil] at *
  omega
termination_by a b => a.length + b.length
theorem dist_rev (a b : List Int) : dist a.reverse b.reverse = dist a b := by
 have h1 := dist_rev_le a b
 have h2 := dist_rev_le a.reverse b.reverse
 rw [List.reverse_reverse, List.reverse_reverse] at h2
 omega
theorem dist_same_r (x : Int) (a b : List Int) : dist (a ++ [x]) (b ++ [x]) = dist a b := by
 rw [← dist_rev (a ++ [x]) (b ++ [x]), List.reverse_append, List.reverse_append]
 simp only [List.reverse_cons, List.reverse_nil, List.nil_append, List.singleton_append]
 rw [dist_same, dist_rev]
end Go.Proofs.YthddoikmgpgakaaDoor
namespace Go.Proofs.YthddoikmgpgakaaDoor.Sw
open Go.RowKit Go Go.Shelf Go.Proofs
open Go.Proofs.YthddoikmgpgakaaDoor.Ma
theorem refRates_con (r : Rt) : Con Tryd.prog 70 [.agg (rC r)] [] (Is (.val (.bool r.ok)) []) := by
 refine con_same (enters_of Tryd.func70 (by kernel_rfl) rfl) fun G vs w hf hG => ?_
 match vs, hf with
 | [v], ⟨h', _⟩ =>
  obtain rfl := fits_rt h'
  exact (refRates_any r w).mono fun e w' ⟨h, hb⟩ => ⟨_, h, rfl, hb⟩
structure Rdy (t : Tl) : Prop where
 ok : okT t.id t.hs t.st t.fo = true
 s : t.st.length ≤ 12
 f : t.fo.length ≤ 12
 os : okN t.st = true
 of : okN t.fo = true
theorem rdy_of {t : Tl} (h : okT t.id t.hs t.st t.fo = true) : Rdy t := by
 obtain ⟨a, b, c, d⟩ := okT_b h
 exact ⟨h, a, b, c, d⟩
theorem Rdy.of' {t : Tl} (h : (!(decide ((30 : Int) < t.st.length) || decide ((30 : Int) < t.fo.length)) && okT t.id t.hs t.st t.fo) = true) : Rdy t := by
 rw [Bool.and_eq_true] at h
 exact rdy_of h.2
theorem ready1_con (t : Tl) : Con Tryd.prog 67 [.agg (tC t)] [] (Is (.val (.bool (!(decide ((30 : Int) < t.st.length) || decide ((30 : Int) < t.fo.length)) && okT t.id t.hs t.st t.fo))) []) := by
 cases hg : (decide ((30 : Int) < t.st.length) || decide ((30 : Int) < t.fo.length)) with
 | true =>
  have GC := great_con t
  rw [hg] at GC
  refine con_of Tryd.func67 rfl (enters_of Tryd.func67 (by kernel_rfl) rfl) rfl ?_; intro n w0 F0 G0
  refine zS ?_;repeat(refine yA ?_;intro p hp;refine zS ?_)
  (first | (apply wl_call (GC); exact rfl; exact rfl) | (apply wl_callR (GC); exact rfl; exact zM; exact rfl))
  refine zS ?_
  (apply res1; exact rfl; exact rfl; exact ⟨rfl, rfl⟩)
 | false =>
  have h2 := hg
  simp only [Bool.or_eq_false_iff, decide_eq_false_iff_not] at h2
  have := ready_con t (by omega) (by omega)
  rwa [hg] at this
theorem spanR {r : Rt} (h : r.ok = true) (t : Tl) : IsSpan (rateW r) (TrueL t.st t.fo) (spanF (rateW r) t.st t.fo).1 (spanF (rateW r) t.st t.fo).2 := span_is (rateW_b h) _ _
theorem spanR_b {r : Rt} (h : r.ok = true) {t : Tl} (ht : Rdy t) : -24000 ≤ (spanF (rateW r) t.st t.fo).1 ∧ (spanF (rateW r) t.st t.fo).1 ≤ (spanF (rateW r) t.st t.fo).2 ∧ (spanF (rateW r) t.st t.fo).2 ≤ 24000 := by
 have := span_b (rateW_b h) (spanR h t)
 have := ht.s
 have := ht.f
 omega
theorem owedR_ok {a : Tl} {r : Rt} (ha : Rdy a) (h : r.ok = true) : owedR a r = (spanF (rateW r) a.st a.fo, 0) := by
 have h1 : a.ok = true := ha.ok
 unfold owedR owesR errAll owesL
 simp [h1, h]
end Go.Proofs.YthddoikmgpgakaaDoor.Sw
namespace Go.Proofs.YthddoikmgpgakaaDoor
open Go.RowKit Go.Proofs Go.Shelf
theorem dist_max : ∀ a b : List Int, dist a b ≤ max a.length b.length
 | [], b => by rw [dist_nil]; exact Nat.le_max_right _ _
 | x :: a, [] => by rw [dist_nil']; exact Nat.le_max_left _ _
 | x :: a, y :: b => by
  have h1 := dist_both x y a b
  have h2 := dist_max a b
  have h3 : (if x = y then 0 else 1) ≤ 1 := by split <;> omega
  simp only [List.length_cons]
  omega
end Go.Proofs.YthddoikmgpgakaaDoor
namespace Go.Proofs.YthddoikmgpgakaaDoor.Sw
open Go.RowKit Go Go.Shelf Go.Proofs
open Go.Proofs.YthddoikmgpgakaaDoor.Ma
def tailTo : Nat → Code → Code → Code
 | 0, _, y => y
 | n + 1, .seq a b, y => .seq a (tailTo n b y)
 | _ + 1, x, _ => x
def tailOf : Nat → Code → Code
 | 0, x => x
 | n + 1, .seq _ b => tailOf n b
 | _ + 1, x => x
theorem tail_to : ∀ (n : Nat) (x : Code), tailTo n x (tailOf n x) = x
 | 0, _ => rfl
 | n + 1, x => by
  cases x <;> simp only [tailTo, tailOf]
  rw [tail_to n]
theorem W_cutN {β : Type} {c : Cx} {s : S} {x : Code} {Q : Exit → S → Prop} (n : Nat) (I : β → S) (J : β → Prop) (h : ∀ y, (∀ b, J b → W c y (I b) Q) → W c (tailTo n x y) s Q) (k : ∀ b, J b → W c (tailOf n x) (I b) Q) : W c x s Q := by
 have := h _ k
 rwa [tail_to] at this
theorem W_back {β : Type} {c : Cx} {s : S} {y : Code} {I : β → S} {J : β → Prop} {Q : Exit → S → Prop} (K : ∀ b, J b → W c y (I b) Q) (b : β) (hJ : J b) (hs : ∀ a w, St c s a w → St c (I b) a w) : W c y s Q := W_weak (I b) hs (K b hJ)
section
variable {P : Program} {rs : List (Nat × AV)} {d : Option Nat} {ty : TypeId} {pos : String} {af : Array Edge} {g : Option (Nat × Bool)}
theorem lt_convC {x : Operand} {u v : Value} {s t : TypeId} (hx : opv rs x = some (.val u)) (h : ∀ w, (convert s t u).run P w = .ok v w) : LT P ⟨d, .convert s t x, ty, pos, af, g⟩ rs [] (Is (.val v) []) :=
 LT_val (fun _ e => by cases e) fun a w G hR _ => ⟨_, rfl, by
  have e1 : a.eval x = _ := opv_ok hR hx
  simp only [execOp, e1, Sem.run_bind, h w, Result.andThen_ok]
  rfl⟩
end
section
variable {c : Cx} {rs : List (Nat × AV)} {hs : List HA} {Q : Exit → S → Prop} {ops : Array Oper} {tl : List Oper} {d : Nat} {ty : TypeId} {pos : String} {af : Array Edge}
theorem wl_convC {x : Operand} {u : Value} (v : Value) {s t : TypeId} (hx : opv rs x = some (.val u)) (h : ∀ w, (convert s t u).run c.P w = .ok v w) (hd : Nat.blt d c.nt = true) (k : WL c ops tl ⟨(d, .val v) :: rs, hs⟩ Q) : WL c ops (⟨some d, .convert s t x, ty, pos, af, none⟩ :: tl) ⟨rs, hs⟩ Q := wl_ex (lt_convC hx h) hd k
end
theorem falseR_ok {a : Tl} (h : Rdy a) : falseR a = ((dist a.st a.fo : Int), 0) := by unfold falseR; rw [if_pos h.ok]
theorem Rdy.dist {a : Tl} (h : Rdy a) : dist a.st a.fo ≤ 12 := by
 have := dist_max a.st a.fo
 have := h.s
 have := h.f
 omega
theorem Rdy.small {a : Tl} (h : Rdy a) : a.small := ⟨by have := h.s; omega, by have := h.f; omega⟩
theorem Rdy.lt {a : Tl} (h : Rdy a) : a.st.length ≤ 1000 ∧ a.fo.length ≤ 1000 := ⟨by have := h.s; omega, by have := h.f; omega⟩
end Go.Proofs.YthddoikmgpgakaaDoor.Sw
namespace Go.Proofs.YthddoikmgpgakaaDoor
open Go.RowKit Go.Proofs Go.Shelf
theorem okN_app {a b : List Int} (h1 : okN a = true) (h2 : okN b = true) : okN (a ++ b) = true := by
 unfold okN at *
 rw [List.all_append, h1, h2]; rfl
end Go.Proofs.YthddoikmgpgakaaDoor
namespace Go.Proofs.YthddoikmgpgakaaDoor.Sw
open Go.RowKit Go Go.Shelf Go.Proofs
open Go.Proofs.YthddoikmgpgakaaDoor.Ma
theorem lt_neqB {P : Program} {rs : List (Nat × AV)} {d : Option Nat} {ty : TypeId} {pos : String} {af : Array Edge} {g : Option (Nat × Bool)} {x y : Operand} {b b' : Bool} {t t' : TypeId} (ht : P.underlying t = some .bool) (hx : opv rs x = some (.val (.bool b))) (hy : opv rs y = some (.val (.bool b'))) : LT P ⟨d, .binOp .neq t x y t', ty, pos, af, g⟩ rs [] (Is (.val (.bool (!(b == b')))) []) :=
 LT_val (fun _ e => by cases e) fun a w G hR _ => ⟨_, rfl, by
  have e1 : a.eval x = _ := opv_ok hR hx
  have e2 : a.eval y = _ := opv_ok hR hy
  simp only [execOp, e1, e2]
  simp [go_sem, eqGuard, run_neq_bool (w := w) t b b' ht]⟩
theorem wl_neqB {c : Cx} {rs : List (Nat × AV)} {hs : List HA} {Q : Exit → S → Prop} {ops : Array Oper} {tl : List Oper} {d : Nat} {ty : TypeId} {pos : String} {af : Array Edge} {x y : Operand} {a b e : Bool} {t t' : TypeId} (ht : c.P.underlying t = some .bool) (hx : opv rs x = some (.val (.bool a))) (hy : opv rs y = some (.val (.bool b))) (he : (!(a == b)) = e) (hd : Nat.blt d c.nt = true) (k : WL c ops tl ⟨(d, .val (.bool e)) :: rs, hs⟩ Q) : WL c ops (⟨some d, .binOp .neq t x y t', ty, pos, af, none⟩ :: tl) ⟨rs, hs⟩ Q := by subst he; exact wl_ex (lt_neqB ht hx hy) hd k
theorem join_ok {x y : Tl} (hx : Rdy x) (hy : Rdy y) : joinF x y = if x.st.length + y.st.length ≤ 12 ∧ x.fo.length + y.fo.length ≤ 12 then (x.cat y, 0) else (zeroT, 9) := by
 have h1 : x.ok = true := hx.ok
 have h2 : y.ok = true := hy.ok
 unfold joinF
 rw [h1, h2, if_pos (show (true && true) = true from rfl)]
 have hk := hx.ok
 unfold okT at hk
 simp only [Bool.and_eq_true, decide_eq_true_eq] at hk
 have h3 : (x.cat y).ok = decide (x.st.length + y.st.length ≤ 12 ∧ x.fo.length + y.fo.length ≤ 12) := by
  refine Bool.eq_iff_iff.2 ?_
  unfold Tl.ok Tl.cat okT
  simp only [Bool.and_eq_true, decide_eq_true_eq, List.length_append, okN_app hx.os hy.os, okN_app hx.of hy.of]
  constructor
  ·rintro ⟨⟨⟨⟨_, h⟩, h'⟩, _⟩, _⟩; exact ⟨h, h'⟩
  ·rintro ⟨h, h'⟩; exact ⟨⟨⟨⟨hk.1.1.1.1, h⟩, h'⟩, trivial⟩, trivial⟩
 rw [h3]
 by_cases h : x.st.length + y.st.length ≤ 12 ∧ x.fo.length + y.fo.length ≤ 12
 ·rw [decide_eq_true h, if_pos rfl, if_pos h]
 ·rw [decide_eq_false h, if_neg h]; rfl
theorem rdy_cat {x y : Tl} (hx : Rdy x) (hy : Rdy y) (h : x.st.length + y.st.length ≤ 12 ∧ x.fo.length + y.fo.length ≤ 12) : Rdy (x.cat y) := by
 refine rdy_of ?_
 have hk := hx.ok
 unfold okT at hk
 simp only [Bool.and_eq_true, decide_eq_true_eq] at hk
 unfold Tl.cat okT
 simp only [Bool.and_eq_true, decide_eq_true_eq, List.length_append, okN_app hx.os hy.os, okN_app hx.of hy.of]
 exact ⟨⟨⟨⟨hk.1.1.1.1, h.1⟩, h.2⟩, trivial⟩, trivial⟩
theorem notch_ok {x : Tl} (hx : Rdy x) {k : Int} (hk : 1 ≤ k ∧ k ≤ 4) : notchF x k = if x.st.length < 12 ∧ x.fo.length < 12 then (⟨x.id, x.hs, x.st ++ [k], x.fo ++ [k]⟩, 0) else (zeroT, 9) := by
 have h1 : x.ok = true := hx.ok
 have h2 : okN [k] = true := by unfold okN; simp [hk]
 have hr : Rdy ⟨x.id, x.hs, [k], [k]⟩ := by
  refine rdy_of ?_
  have hk := hx.ok
  unfold okT at hk ⊢
  simp only [Bool.and_eq_true, decide_eq_true_eq] at hk ⊢
  exact ⟨⟨⟨⟨hk.1.1.1.1, by simp⟩, by simp⟩, h2⟩, h2⟩
 unfold notchF
 rw [if_pos h1, if_pos h2, join_ok hx hr]
 have e : (x.st.length + [k].length ≤ 12 ∧ x.fo.length + [k].length ≤ 12) ↔ (x.st.length < 12 ∧ x.fo.length < 12) := by simp; omega
 by_cases h : x.st.length < 12 ∧ x.fo.length < 12
 ·rw [if_pos h, if_pos (e.2 h)]; rfl
 ·rw [if_neg h, if_neg (fun h' => h (e.1 h'))]
theorem rdy_notch {x : Tl} (hx : Rdy x) {k : Int} (hk : 1 ≤ k ∧ k ≤ 4) (h : x.st.length < 12 ∧ x.fo.length < 12) : Rdy ⟨x.id, x.hs, x.st ++ [k], x.fo ++ [k]⟩ := by
 have h2 : okN [k] = true := by unfold okN; simp [hk]
 refine rdy_of ?_
 have hk := hx.ok
 unfold okT at hk ⊢
 simp only [Bool.and_eq_true, decide_eq_true_eq, List.length_append, List.length_singleton] at hk ⊢
 exact ⟨⟨⟨⟨hk.1.1.1.1, h.1⟩, h.2⟩, okN_app hx.os h2⟩, okN_app hx.of h2⟩
theorem tallyMore_con (x y : Tl) (which : Int) (r : Rt) (h1 : 0 ≤ which ∧ which ≤ 255) : Con Tryd.prog 15 [.agg (tC x), .agg (tC y), .val (.int .u8 which), .agg (rC r)] [HA.tab] (Is (.val (.bool true)) []) := by
 have RX := ready1_con x
 have RY := ready1_con y
 have c1 := fun w => run_conv8 (P := Tryd.prog) Tryd.underlying5 Tryd.underlying3 h1 w
 have hk0 : 0 ≤ which % 4 ∧ which % 4 < 4 := ⟨Int.emod_nonneg _ (by decide), Int.emod_lt_of_pos _ (by decide)⟩
 refine con_of Tryd.func15 rfl (enters_of Tryd.func15 (by kernel_rfl) rfl) rfl ?_; intro n w0 F0 G0
 refine W_cutN 11 (fun (b : Value × Value × Value) => ⟨[(4, .val b.1), (5, .val b.2.1), (7, .val b.2.2), (9, .val (.bool true)), (11, .val (.int .i64 (dist x.st x.fo : Nat))), (13, .val (.int .i64 (dist y.st y.fo : Nat)))], [.box b.2.2 (rC r) 64, .box b.2.1 (tC y) 24, .box b.1 (tC x) 24, HA.tab]⟩) (fun b => One (.val b.1) ∧ One (.val b.2.1) ∧ One (.val b.2.2) ∧ Rdy x ∧ Rdy y ∧ r.ok = true) ?_ ?_
 ·intro rest K
  refine zS ?_;repeat(refine yA ?_;intro p hp;refine zS ?_)
  rename_i p4 hp4 p5 hp5
  revert p
  intro p7 hp7
  (first | (apply wl_call (alive_con); exact rfl; exact rfl) | (apply wl_callR (alive_con); exact rfl; exact zM; exact rfl))
  refine zS ?_;repeat(refine yA ?_;intro p hp;refine zS ?_)
  (first | (apply wl_call (RX); exact rfl; exact rfl) | (apply wl_callR (RX); exact rfl; exact zM; exact rfl))
  cases hx : (!(decide ((30 : Int) < x.st.length) || decide ((30 : Int) < x.fo.length)) && okT x.id x.hs x.st x.fo) with
  | false =>
   refine zS ?_;repeat(refine yA ?_;intro p hp;refine zS ?_)
   (apply res1; exact rfl; exact rfl; exact ⟨rfl, rfl⟩)
  | true =>
   refine zS ?_;repeat(refine yA ?_;intro p hp;refine zS ?_)
   (first | (apply wl_call (RY); exact rfl; exact rfl) | (apply wl_callR (RY); exact rfl; exact zM; exact rfl))
   cases hy : (!(decide ((30 : Int) < y.st.length) || decide ((30 : Int) < y.fo.length)) && okT y.id y.hs y.st y.fo) with
   | false =>
    refine zS ?_;repeat(refine yA ?_;intro p hp;refine zS ?_)
    (apply res1; exact rfl; exact rfl; exact ⟨rfl, rfl⟩)
   | true =>
    have hX := Rdy.of' hx
    have hY := Rdy.of' hy
    refine zS ?_;repeat(refine yA ?_;intro p hp;refine zS ?_)
    (first | (apply wl_call (refRates_con r); exact rfl; exact rfl) | (apply wl_callR (refRates_con r); exact rfl; exact zM; exact rfl))
    cases hr : r.ok with
    | false =>
     refine zS ?_;repeat(refine yA ?_;intro p hp;refine zS ?_)
     (apply res1; exact rfl; exact rfl; exact ⟨rfl, rfl⟩)
    | true =>
     have C1 := falseP_con x hX.lt.1 hX.lt.2
     have C2 := falseP_con y hY.lt.1 hY.lt.2
     rw [falseR_ok hX] at C1
     rw [falseR_ok hY] at C2
     dsimp only at C1 C2
     have d1 := hX.dist
     have d2 := hY.dist
     have hk : 1 ≤ 1 + which % 4 ∧ 1 + which % 4 ≤ 4 := by omega
     have C3 := notchP_con x (1 + which % 4) hX.small
     rw [notch_ok hX hk] at C3
     refine zS ?_;repeat(refine yA ?_;intro p hp;refine zS ?_)
     (apply wl_convC (.int .i64 which); exact rfl; exact c1; exact rfl)
     refine zS ?_;repeat(refine yA ?_;intro p hp;refine zS ?_)
     (apply wl_rem; exact rfl; exact rfl; omega; omega; omega; exact rfl)
     refine zS ?_;repeat(refine yA ?_;intro p hp;refine zS ?_)
     (first | (apply wl_call (C1); exact rfl; exact rfl) | (apply wl_callR (C1); exact rfl; exact zM; exact rfl))
     refine zS ?_;repeat(refine yA ?_;intro p hp;refine zS ?_)
     (first | (apply wl_call (C2); exact rfl; exact rfl) | (apply wl_callR (C2); exact rfl; exact zM; exact rfl))
     refine zS ?_;repeat(refine yA ?_;intro p hp;refine zS ?_)
     rw [decide_eq_false (show ¬ ((dist x.st x.fo : Nat) : Int) < 0 by omega)]
     refine zS ?_;repeat(refine yA ?_;intro p hp;refine zS ?_)
     rw [decide_eq_false (show ¬ (12 : Int) < ((dist x.st x.fo : Nat) : Int) by omega)]
     refine zS ?_;repeat(refine yA ?_;intro p hp;refine zS ?_)
     rw [decide_eq_false (show ¬ ((dist y.st y.fo : Nat) : Int) < 0 by omega)]
     refine zS ?_;repeat(refine yA ?_;intro p hp;refine zS ?_)
     rw [decide_eq_false (show ¬ (12 : Int) < ((dist y.st y.fo : Nat) : Int) by omega)]
     refine zS ?_;repeat(refine yA ?_;intro p hp;refine zS ?_)
     by_cases hs12 : x.st.length = 12
     ·rw [if_neg (by omega)] at C3
      dsimp only at C3
      rw [decide_eq_true (show ((x.st.length : Nat) : Int) = 12 by omega)]
      refine zS ?_;repeat(refine yA ?_;intro p hp;refine zS ?_)
      (first | (apply wl_call (C3); exact rfl; exact rfl) | (apply wl_callR (C3); exact rfl; exact zM; exact rfl))
      refine zS ?_;repeat(refine yA ?_;intro p hp;refine zS ?_)
      (apply wl_neqB (e := false); exact Tryd.underlying4; exact rfl; exact rfl; exact rfl; exact rfl)
      refine zS ?_;repeat(refine yA ?_;intro p hp;refine zS ?_)
      refine W_back K (p4, p5, p7) ⟨hp4, hp5, hp7, hX, hY, hr⟩ (fun _ _ st => st_sub2 st zR zP)
     ·rw [decide_eq_false (show ¬ ((x.st.length : Nat) : Int) = 12 by omega)]
      refine zS ?_;repeat(refine yA ?_;intro p hp;refine zS ?_)
      by_cases hf12 : x.fo.length = 12
      ·rw [if_neg (by omega)] at C3
       dsimp only at C3
       rw [decide_eq_true (show ((x.fo.length : Nat) : Int) = 12 by omega)]
       refine zS ?_;repeat(refine yA ?_;intro p hp;refine zS ?_)
       (first | (apply wl_call (C3); exact rfl; exact rfl) | (apply wl_callR (C3); exact rfl; exact zM; exact rfl))
       refine zS ?_;repeat(refine yA ?_;intro p hp;refine zS ?_)
       (apply wl_neqB (e := false); exact Tryd.underlying4; exact rfl; exact rfl; exact rfl; exact rfl)
       refine zS ?_;repeat(refine yA ?_;intro p hp;refine zS ?_)
       refine W_back K (p4, p5, p7) ⟨hp4, hp5, hp7, hX, hY, hr⟩ (fun _ _ st => st_sub2 st zR zP)
      ·have hlt : x.st.length < 12 ∧ x.fo.length < 12 := by have := hX.s; have := hX.f; omega
       have hZ := rdy_notch hX hk hlt
       rw [if_pos hlt] at C3
       dsimp only at C3
       have C4 := falseP_con ⟨x.id, x.hs, x.st ++ [1 + which % 4], x.fo ++ [1 + which % 4]⟩ hZ.lt.1 hZ.lt.2
       rw [falseR_ok hZ] at C4
       dsimp only at C4
       rw [dist_same_r] at C4
       rw [decide_eq_false (show ¬ ((x.fo.length : Nat) : Int) = 12 by omega)]
       refine zS ?_;repeat(refine yA ?_;intro p hp;refine zS ?_)
       (first | (apply wl_call (C3); exact rfl; exact rfl) | (apply wl_callR (C3); exact rfl; exact zM; exact rfl))
       refine zS ?_;repeat(refine yA ?_;intro p hp;refine zS ?_)
       (apply wl_neqB (e := false); exact Tryd.underlying4; exact rfl; exact rfl; exact rfl; exact rfl)
       refine zS ?_;repeat(refine yA ?_;intro p hp;refine zS ?_)
       (first | (apply wl_call (C4); exact rfl; exact rfl) | (apply wl_callR (C4); exact rfl; exact zM; exact rfl))
       refine zS ?_;repeat(refine yA ?_;intro p hp;refine zS ?_)
       simp only [decide_true, Bool.not_true]
       refine zS ?_;repeat(refine yA ?_;intro p hp;refine zS ?_)
       refine W_back K (p4, p5, p7) ⟨hp4, hp5, hp7, hX, hY, hr⟩ (fun _ _ st => st_sub2 st zR zP)
 ·rintro ⟨p4, p5, p7⟩ ⟨hp4, hp5, hp7, hX, hY, hr⟩
  have hp4 : One (.val p4) := hp4
  have hp5 : One (.val p5) := hp5
  have hp7 : One (.val p7) := hp7
  have C1 := joinP_con x y hX.small hY.small
  rw [join_ok hX hY] at C1
  have hb1 := hX.dist
  have hb2 := hY.dist
  have l1 := hX.s
  have l2 := hX.f
  have l3 := hY.s
  have l4 := hY.f
  refine W_weak ⟨[(4, .val p4), (5, .val p5), (7, .val p7), (9, .val (.bool true)), (11, .val (.int .i64 (dist x.st x.fo : Nat))), (13, .val (.int .i64 (dist y.st y.fo : Nat)))], [.box p7 (rC r) 64, .box p5 (tC y) 24, .box p4 (tC x) 24, HA.tab]⟩ (fun _ _ st => st) ?_
  refine zS ?_;repeat(refine yA ?_;intro p hp;refine zS ?_)
  by_cases hj : x.st.length + y.st.length ≤ 12 ∧ x.fo.length + y.fo.length ≤ 12
  ·rw [if_pos hj] at C1
   have hZ := rdy_cat hX hY hj
   have C2 := falseP_con (x.cat y) hZ.lt.1 hZ.lt.2
   rw [falseR_ok hZ] at C2
   have C3 := owed_con x r hX.lt.1 hX.lt.2
   have C4 := owed_con y r hY.lt.1 hY.lt.2
   have C5 := owed_con (x.cat y) r hZ.lt.1 hZ.lt.2
   rw [owedR_ok hX hr] at C3
   rw [owedR_ok hY hr] at C4
   rw [owedR_ok hZ hr] at C5
   have hd := dist_append y.st y.fo x.st x.fo
   have B1 := spanR_b hr hX
   have B2 := spanR_b hr hY
   have B3 := spanR_b hr hZ
   have SA : dist (x.st ++ y.st) (x.fo ++ y.fo) = dist x.st x.fo + dist y.st y.fo → (spanF (rateW r) (x.cat y).st (x.cat y).fo).1 ≤ (spanF (rateW r) x.st x.fo).1 + (spanF (rateW r) y.st y.fo).1 ∧ (spanF (rateW r) x.st x.fo).2 + (spanF (rateW r) y.st y.fo).2 ≤ (spanF (rateW r) (x.cat y).st (x.cat y).fo).2 := fun e => span_app (spanR hr x) (spanR hr y) (spanR hr (x.cat y)) e
   have hcd : dist (x.cat y).st (x.cat y).fo = dist (x.st ++ y.st) (x.fo ++ y.fo) := rfl
   rw [hcd] at C2
   unfold seA at C3 C4 C5
   generalize spanF (rateW r) (x.cat y).st (x.cat y).fo = q3 at C5 B3 SA
   generalize spanF (rateW r) x.st x.fo = q1 at C3 B1 SA
   generalize spanF (rateW r) y.st y.fo = q2 at C4 B2 SA
   generalize dist (x.st ++ y.st) (x.fo ++ y.fo) = n3 at C2 hd SA
   obtain ⟨a1, b1⟩ := q1
   obtain ⟨a2, b2⟩ := q2
   obtain ⟨a3, b3⟩ := q3
   dsimp only at C1 C2 C3 C4 C5 B1 B2 B3 SA
   (first | (apply wl_call (C1); exact rfl; exact rfl) | (apply wl_callR (C1); exact rfl; exact zM; exact rfl))
   refine zS ?_;repeat(refine yA ?_;intro p hp;refine zS ?_)
   (first | (apply wl_call (C2); exact rfl; exact rfl) | (apply wl_callR (C2); exact rfl; exact zM; exact rfl))
   refine zS ?_;repeat(refine yA ?_;intro p hp;refine zS ?_)
   rw [decide_eq_false (show ¬ ((dist x.st x.fo : Nat) : Int) + ((dist y.st y.fo : Nat) : Int) < (n3 : Int) by omega)]
   refine zS ?_;repeat(refine yA ?_;intro p hp;refine zS ?_)
   by_cases hlt : n3 < dist x.st x.fo + dist y.st y.fo
   ·rw [decide_eq_true (show (n3 : Int) < ((dist x.st x.fo : Nat) : Int) + ((dist y.st y.fo : Nat) : Int) by omega)]
    refine zS ?_;repeat(refine yA ?_;intro p hp;refine zS ?_)
    (apply res1; exact rfl; exact rfl; exact ⟨rfl, rfl⟩)
   ·rw [decide_eq_false (show ¬ (n3 : Int) < ((dist x.st x.fo : Nat) : Int) + ((dist y.st y.fo : Nat) : Int) by omega)]
    obtain ⟨s1, s2⟩ := SA (by omega)
    refine zS ?_;repeat(refine yA ?_;intro p hp;refine zS ?_)
    (first | (apply wl_call (C3); exact rfl; exact rfl) | (apply wl_callR (C3); exact rfl; exact zM; exact rfl))
    refine zS ?_;repeat(refine yA ?_;intro p hp;refine zS ?_)
    (first | (apply wl_call (C4); exact rfl; exact rfl) | (apply wl_callR (C4); exact rfl; exact zM; exact rfl))
    refine zS ?_;repeat(refine yA ?_;intro p hp;refine zS ?_)
    (first | (apply wl_call (C5); exact rfl; exact rfl) | (apply wl_callR (C5); exact rfl; exact zM; exact rfl))
    refine zS ?_;repeat(refine yA ?_;intro p hp;refine zS ?_)
    rw [decide_eq_true (show (-24000 : Int) ≤ a1 by omega)]
    refine zS ?_;repeat(refine yA ?_;intro p hp;refine zS ?_)
    rw [decide_eq_true (show b1 ≤ (24000 : Int) by omega)]
    refine zS ?_;repeat(refine yA ?_;intro p hp;refine zS ?_)
    rw [decide_eq_true (show (-24000 : Int) ≤ a2 by omega)]
    refine zS ?_;repeat(refine yA ?_;intro p hp;refine zS ?_)
    rw [decide_eq_true (show b2 ≤ (24000 : Int) by omega)]
    refine zS ?_;repeat(refine yA ?_;intro p hp;refine zS ?_)
    rw [decide_eq_true (show a3 ≤ a1 + a2 by omega)]
    refine zS ?_;repeat(refine yA ?_;intro p hp;refine zS ?_)
    rw [decide_eq_true (show b1 + b2 ≤ b3 by omega)]
    refine zS ?_;repeat(refine yA ?_;intro p hp;refine zS ?_)
    (apply res1; exact rfl; exact rfl; exact ⟨rfl, rfl⟩)
  ·rw [if_neg hj] at C1
   dsimp only at C1
   (first | (apply wl_call (C1); exact rfl; exact rfl) | (apply wl_callR (C1); exact rfl; exact zM; exact rfl))
   refine zS ?_;repeat(refine yA ?_;intro p hp;refine zS ?_)
   by_cases hs : x.st.length + y.st.length ≤ 12
   ·rw [decide_eq_false (show ¬ (12 : Int) < (x.st.length : Int) + (y.st.length : Int) by omega)]
    refine zS ?_;repeat(refine yA ?_;intro p hp;refine zS ?_)
    rw [decide_eq_true (show (12 : Int) < (x.fo.length : Int) + (y.fo.length : Int) by omega)]
    refine zS ?_;repeat(refine yA ?_;intro p hp;refine zS ?_)
    (apply res1; exact rfl; exact rfl; exact ⟨rfl, rfl⟩)
   ·rw [decide_eq_true (show (12 : Int) < (x.st.length : Int) + (y.st.length : Int) by omega)]
    refine zS ?_;repeat(refine yA ?_;intro p hp;refine zS ?_)
    (apply res1; exact rfl; exact rfl; exact ⟨rfl, rfl⟩)
end Go.Proofs.YthddoikmgpgakaaDoor.Sw
