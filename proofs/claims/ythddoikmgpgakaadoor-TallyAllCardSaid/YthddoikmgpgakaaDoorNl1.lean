/- Proofs for one card: App, Frame, Reg, RegIn, Sw, SwOps, Fst, SwAny, SwOps2, SwOps3, SwR, Ty, SwF, Row, Steps, Left, Best, Comes, Wide, SwG, SwH, SwI, SwQ, SwL, SwB, SwS, SwM, SwX, Bk, SwN, MtA, LsB, LsD, LsG, Edits, LsK, Pa, Ota, Otb, Apt, Slt, TallyCut, Ots, Fnc, TallyAll. No condition of its own. -/
import Derived.WalkKit
import Derived.Handy
import Derived.Deep.AppendSrc
import Derived.Test.YthddoikmgpgakaaDoorProg
import Derived.Outline
import Derived.RangeFuncNested
import Derived.Shelf.Abstract
import Derived.Deep.QuietTactic
import Derived.BigQuiet
import Derived.Deep.RegionHeld3
import Derived.WalkSmall
import Derived.Laws.EntriesVeiled
import Derived.Maps.AppendAt
import Derived.Deep.AppendLies
import Derived.Test.YthddoikmgpgakaaDoorCards
import Derived.Test.YthddoikmgpgakaaDoorTie
import Derived.ProofKit
import Derived.OpenShut
import Derived.LaidMore
import Derived.LaidOnce
import Derived.ChangeOld
import Derived.Below
import Derived.Stop.Joined
import Derived.Lib.SmallJoins
import Derived.OrdersHeld
import Derived.Deep.RegionHeld
import Derived.OrdersIn
import Derived.RangeFuncCalls
import Derived.RangeFuncLeaves
import Derived.IntWalk
import Derived.WalkSpells
import Derived.OwnWalk
import Derived.LoopNIn
import Derived.DeepKeys4
import Derived.Maps.OwnIn
import Derived.OwnWalkIn
import Derived.RangeFuncBound
import Derived.Shelf.RegionOpen
import Derived.TacticsInMore
import Derived.Sort.BigQuietIn
import Derived.LoopIn
import Derived.WalkMore
import Derived.Maps.Views
import Derived.Lib.AppendZerosOnto
import Derived.Lib.Walk
import Derived.Lib.SliceRun
import Derived.Laws.MakeOwn
import Derived.Deep.Cut
import Derived.Deep.Slices
import Derived.Lib.LazyBuf
import Derived.Scope
import Derived.Maps.RangeRun
import Derived.ArgAppend
import Derived.WideKeyEntry
import Derived.Shelf.SlSortCmp.Whole1
import Derived.Shelf.Lay
import Derived.Test.YthddoikmgpgakaaDoorNa8
set_option linter.unusedVariables false
set_option linter.unusedSimpArgs false
set_option maxRecDepth 40000
set_option maxHeartbeats 32000000
namespace Go.Proofs.YthddoikmgpgakaaDoor
open Go.RowKit Go
section
variable {P : Program} (w : World)
end
end Go.Proofs.YthddoikmgpgakaaDoor
namespace Go.Proofs.YthddoikmgpgakaaDoor
open Go Go.ChangeShapes Go.WideShapes Go.ChangeAt Go.RowKit
theorem laidOut : laidOutB Tryd.prog = true := by kernel_rfl
set_option maxRecDepth 100000 in
theorem tab_of {W : World} (h : laidMetH Tryd.prog laidL W) : Tab W := by
 obtain ⟨g, t, cs, fuel, p, hg, ht, hv, hd⟩ := h.funcs (n := "aguador/tally.checks") (List.mem_cons_self ..)
 obtain rfl := Option.some.inj ((show Tryd.prog.globalNamed "aguador/tally.checks" = some 0 by kernel_rfl).symm.trans hg)
 obtain rfl := Option.some.inj ((show (Tryd.prog.globals[0]?).map (·.type) = some 146 by kernel_rfl).symm.trans ht)
 have hd' : DataW.trod (funcToken Tryd.prog) Tryd.prog W 0 (fun _ => true) true fuel 146 cs.toList = some (.agg [.agg [.held [97, 103, 117, 97, 100, 111, 114, 47, 116, 97, 108, 108, 121, 46, 99, 104, 101, 99, 107, 115, 36, 49]], .agg [.held [97, 103, 117, 97, 100, 111, 114, 47, 116, 97, 108, 108, 121, 46, 99, 104, 101, 99, 107, 115, 36, 50]], .agg [.held [97, 103, 117, 97, 100, 111, 114, 47, 116, 97, 108, 108, 121, 46, 99, 104, 101, 99, 107, 115, 36, 51]]], p) := hd
 obtain ⟨xs, m, rfl, hx, hlen, hn, hel⟩ := DataW.trod_array Tryd.underlying146 hd'
 rw [show Tryd.prog.cellsOf 145 = 1 by kernel_rfl] at hel
 rw [show Tryd.prog.cellsOf 146 = 3 by kernel_rfl] at hlen
 obtain ⟨cl⟩ := cs
 match cl, hlen, xs, hn with
 | [v0, v1, v2], _, [x0, x1, x2], _ =>
  simp only [Prod.mk.injEq, DataW.agg.injEq, List.map_cons, List.map_nil, List.cons.injEq] at hx
  have h0 := hel 0 (by decide); have h1 := hel 1 (by decide); have h2 := hel 2 (by decide)
  simp at h0 h1 h2
  have go : ∀ (v : Value) (x : DataW (List UInt8) × List MemPlace) (b : UInt8) (r : List UInt8) (f0 : FuncId), ((List.range Tryd.prog.funcs.size).filter fun f => (Tryd.prog.funcs[f]?).any (·.name.toUTF8.data.toList == b :: r)) = [f0] →
    DataW.trod (funcToken Tryd.prog) Tryd.prog W 0 (fun _ => true) true m 145 [v] = some x → x.1 = .agg [.held (b :: r)] → v = .func (.func f0) #[] #[] := by
   intro v x b r f0 hone h hx
   obtain ⟨y, n, rfl, _, hy⟩ := trod_struct1 Tryd.underlying145 h
   simp only [DataW.agg.injEq, List.cons.injEq, and_true] at hx
   obtain ⟨y1, y2⟩ := y
   simp only at hx
   subst hx
   exact func_of_trod (P := Tryd.prog) Tryd.underlying25 hone (by simpa [show Tryd.prog.cellsOf 25 = 1 by kernel_rfl] using hy)
  have e0 := go v0 x0 _ _ 164 (by kernel_rfl) h0 hx.1.1.symm
  have e1 := go v1 x1 _ _ 165 (by kernel_rfl) h1 hx.1.2.1.symm
  have e2 := go v2 x2 _ _ 166 (by kernel_rfl) h2 hx.1.2.2.1.symm
  subst e0; subst e1; subst e2
  have c0 := World.var?_cell hg hv 0; have c1 := World.var?_cell hg hv 1; have c2 := World.var?_cell hg hv 2
  exact ⟨by simpa using c0, by simpa using c1, by simpa using c2⟩
end Go.Proofs.YthddoikmgpgakaaDoor
namespace Go.Proofs.YthddoikmgpgakaaDoor
open Go.RowKit Go
section
variable {P : Program} {ops : Array Oper} {Q : Exit → Act → World → Prop} {S : World → Prop} {held : List Nat}
end
section
variable {F : Fence} {n : Nat} {P : Program} {ops : Array Oper} {Q : Exit → Act → World → Prop} {S : World → Prop} {held : List Nat}
end
end Go.Proofs.YthddoikmgpgakaaDoor
namespace Go.Proofs.YthddoikmgpgakaaDoor.Sw
open Go.RowKit Go
section
variable {c : Cx} {s : S} {Q : Exit → S → Prop}
end
section
variable {c : Cx} {s : S} {Q : Exit → S → Prop} {ops : Array Oper} {tl : List Oper}
end
section
variable {c : Cx} {s : S} {Q : Exit → S → Prop} {ops : Array Oper} {tl : List Oper}
end
section
variable {P : Program} {rs : List (Nat × AV)} {d : Option Nat} {ty : TypeId} {pos : String} {af : Array Edge} {g : Option (Nat × Bool)}
theorem lt_leq {x y : Operand} {m n : Int} {k : IntKind} {t t' : TypeId} (hx : opv rs x = some (.val (.int k m))) (hy : opv rs y = some (.val (.int k n))) :
  LT P ⟨d, .binOp .leq t x y t', ty, pos, af, g⟩ rs [] (Is (.val (.bool (decide (m ≤ n)))) []) :=
 LT_val (fun _ e => by cases e) fun a w G hR _ => ⟨_, rfl, by
  have e1 : a.eval x = _ := opv_ok hR hx
  have e2 : a.eval y = _ := opv_ok hR hy
  simp only [execOp, e1, e2]
  first | (simp [go_sem]; done) | (simp [go_sem]; rfl)⟩
theorem lt_max2 {x y : Operand} {m n : Int} {ts : Array TypeId} (hx : opv rs x = some (.val (.int .i64 m))) (hy : opv rs y = some (.val (.int .i64 n))) :
  LT P ⟨d, .call { callee := .builtin .max, args := #[x, y], argTypes := ts }, ty, pos, af, g⟩ rs [] (Is (.val (.int .i64 (max m n))) []) :=
 LT_val (fun _ e => by cases e) fun a w G hR hG => by
  have e1 : a.eval x = _ := opv_ok hR hx
  have e2 : a.eval y = _ := opv_ok hR hy
  refine ⟨_, rfl, ?_⟩
  have : (if m < n then n else m) = max m n := by split <;> omega
  simp [execOp, resolve, e1, e2, invoke, builtin, Builtin.max_, Builtin.max2, this]
end
section
variable {c : Cx} {s : S} {Q : Exit → S → Prop} {ops : Array Oper} {tl : List Oper}
end
section
variable {c : Cx} {rs : List (Nat × AV)} {hs : List HA} {Q : Exit → S → Prop} {ops : Array Oper} {tl : List Oper} {d : Nat} {op : Op} {ty : TypeId} {pos : String} {af : Array Edge}
end
section
variable {c : Cx} {rs : List (Nat × AV)} {hs : List HA} {Q : Exit → S → Prop} {ops : Array Oper} {tl : List Oper} {d : Nat} {ty : TypeId} {pos : String} {af : Array Edge} {x y : Operand} {t tb : TypeId} {p : Value} {j : Nat} {cs : List AV} {f : HA → List HA}
end
end Go.Proofs.YthddoikmgpgakaaDoor.Sw
namespace Go.Proofs.YthddoikmgpgakaaDoor
theorem ltL_nil_r (a : List Int) : ltL a [] = false := by cases a <;> rfl
end Go.Proofs.YthddoikmgpgakaaDoor
namespace Go.Proofs.YthddoikmgpgakaaDoor.Sw
open Go.RowKit Go
section
variable (ops : Array Oper) (m : Nat) (sp : List Sp) (hs0 : List HA)
end
section
variable {c : Cx} {ops : Array Oper} {m : Nat} {sp : List Sp} {hs0 hsR : List HA} {rsB : List (Nat × AV)} {Q : Exit → S → Prop}
end
section
variable {P : Program} {rs : List (Nat × AV)} {hsR : List HA} {d : Option Nat} {ty : TypeId} {pos : String} {af : Array Edge} {g : Option (Nat × Bool)} {x : Operand} {t tb : TypeId} {p : Value} {j : Nat} {cs : List AV} {f : HA → List HA}
end
section
variable {P : Program} {rs : List (Nat × AV)} {d : Option Nat} {ty : TypeId} {pos : String} {af : Array Edge} {g : Option (Nat × Bool)}
end
section
variable {P : Program} {rs : List (Nat × AV)} {d : Option Nat} {ty : TypeId} {pos : String} {af : Array Edge} {g : Option (Nat × Bool)}
theorem run_make {t e : TypeId} {n : Nat} [hT : TyE P t e n] {w : World} {m : Nat} (hm : m ≤ 1000000) {z : Value} {i : TypeInfo} (hi : P.info? e = some i) (hz : i.zero = some z) :
  (Instr.makeSlice t (.int .i64 (m : Int)) (.int .i64 (m : Int))).run P w = .ok (.slice (some ⟨w.heap.size, 0, none⟩) m m) (w.alloc (.cells ((List.range (m * n)).map fun j => z.cells[j % n]!).toArray e)) := by
 obtain ⟨i', z', hi', hz', hs, hb, hzs⟩ := hT.info
 rw [hi] at hi'
 obtain rfl := Option.some.inj hi'
 rw [hz] at hz'
 obtain rfl := Option.some.inj hz'
 have hw : IntKind.i64.wrap (m : Int) = (m : Int) := IntWalk.i64_in _ (by omega)
 have hbm : (i.bytes : Int) * (m : Int) ≤ 1000 * 1000000 := Int.mul_le_mul (by omega) (by omega) (by omega) (by omega)
 have hbm2 : m * i.bytes ≤ 1000000 * 1000 := Nat.mul_le_mul hm hb
 have h1 : ¬ (281474976710656 < (i.bytes : Int) * (m : Int)) := by omega
 have h2 : ¬ (roomBytes < m * i.bytes) := by unfold roomBytes; have : 2 ^ 47 = 140737488355328 := by decide
                                             omega
 have hnn : ¬ ((m : Int) < 0) := by omega
 have hrow : ∀ cs : Array Value, (newRow e cs).run P w = .ok ⟨w.heap.size, 0, none⟩ (w.alloc (.cells cs e)) := fun cs => by simp [newRow, go_sem]
 by_cases h0 : m * n = 0
 ·simp [Instr.makeSlice, run_underlying hT.und, asInt, asIntOf, typeInfo, sizeOf, hi, hs, hw, h1, hnn, askRoom, h2, h0, hrow]
  rw [show (Array.map (fun _ : Nat => (default : Value)) (Array.range 0)) = #[] by simp]
 ·have e0 : ((Array.range (m * n)).map fun j => z.cells[j % n]!) = ((List.range (m * n)).map fun j => z.cells[j % n]!).toArray := by apply Array.ext'; simp [Array.toList_range]
  simp [Instr.makeSlice, run_underlying hT.und, asInt, asIntOf, typeInfo, sizeOf, hi, hs, hw, h1, hnn, askRoom, h2, h0, zeroValue, hz, hzs, hrow]
  rw [e0]
theorem fits_zero {G : Nat → Option Obj} {α : Type} {f : α → List AV} {x0 : α} {zs : List Value} {n : Nat} (hl : zs.length = n) (hn : 0 < n) (h : Fits G (f x0) zs) : ∀ m, Fits G ((List.replicate m x0).flatMap f) ((List.range (m * n)).map fun j => zs.toArray[j % n]!)
 | 0 => by simp [Fits]
 | m + 1 => by
  have ih := fits_zero hl hn h m
  rw [List.replicate_succ', List.flatMap_append, Nat.succ_mul, List.range_add, List.map_append]
  refine Fits.append ih ?_
  simp only [List.flatMap_cons, List.flatMap_nil, List.append_nil, List.map_map]
  have : (List.range n).map ((fun j => zs.toArray[j % n]!) ∘ fun x => m * n + x) = zs := by
   refine List.ext_getElem (by simp [hl]) fun j h1 h2 => ?_
   have hj : j < n := by simpa using h1
   simp [Nat.mul_add_mod_of_lt, Nat.add_mod, Nat.mod_eq_of_lt hj, h2]
  rw [this]; exact h
theorem lt_make {α : Type} {x y : Operand} {t e : TypeId} {n : Nat} [hT : TyE P t e n] {f : α → List AV} [hO : OneF f] [hL : LenF f n] {x0 : α} [hZ : ZeroF P e f x0] {m : Nat} {mi : Int} (hx : opv rs x = some (.val (.int .i64 mi))) (hy : opv rs y = some (.val (.int .i64 mi))) (hmi : mi = (m : Int)) (hm : m ≤ 1000000) :
  LT P ⟨d, .makeSlice t x y, ty, pos, af, g⟩ rs [] (fun x y => ∃ u, x = .val u ∧ y = [.row u e n f (List.replicate m x0)]) :=
 LT_eff (fun _ e => by cases e) fun a w G F hR hI => by
  obtain rfl := inv_nil hI
  subst hmi
  obtain ⟨z, ⟨i, hi, hz⟩, zs, hzs, hf⟩ := hZ.out
  have e1 : a.eval x = _ := opv_ok hR hx
  have e2 : a.eval y = _ := opv_ok hR hy
  have hr := run_make (P := P) (t := t) (w := w) hm hi hz
  have hzl : zs.length = n := by rw [(hf G).length, hL.out]
  rw [hzs] at hr
  have hfit := fits_zero (G := G) hzl hT.pos (hf G) m
  have hin := new_row (e := e) (n := n) hI hfit (by simpa using hm)
  rw [List.length_replicate] at hin
  refine ⟨_, _, _, _, _, G, _, ?_, .inl rfl, ⟨_, rfl, rfl⟩, fr_alloc _ _ _, hin, rfl⟩
  simp only [execOp, e1, e2, Sem.run_bind, hr]
  rfl
end
section
variable {c : Cx} {rs : List (Nat × AV)} {hs : List HA} {Q : Exit → S → Prop} {ops : Array Oper} {tl : List Oper} {d : Nat} {ty : TypeId} {pos : String} {af : Array Edge}
theorem wl_sub {x y : Operand} {m n : Int} {t t' : TypeId} (hx : opv rs x = some (.val (.int .i64 m))) (hy : opv rs y = some (.val (.int .i64 n))) (h1 : -9223372036854775808 ≤ m - n) (h2 : m - n ≤ 9223372036854775807) (hd : Nat.blt d c.nt = true) (k : WL c ops tl ⟨(d, .val (.int .i64 (m - n))) :: rs, hs⟩ Q) : WL c ops (⟨some d, .binOp .sub t x y t', ty, pos, af, none⟩ :: tl) ⟨rs, hs⟩ Q := wl_ex (lt_sub hx hy h1 h2) hd k
theorem wl_leq {x y : Operand} {m n : Int} {kd : IntKind} {t t' : TypeId} (hx : opv rs x = some (.val (.int kd m))) (hy : opv rs y = some (.val (.int kd n))) (hd : Nat.blt d c.nt = true) (k : WL c ops tl ⟨(d, .val (.bool (decide (m ≤ n)))) :: rs, hs⟩ Q) : WL c ops (⟨some d, .binOp .leq t x y t', ty, pos, af, none⟩ :: tl) ⟨rs, hs⟩ Q := wl_ex (lt_leq hx hy) hd k
theorem wl_make {α : Type} {x y : Operand} {t e : TypeId} {n : Nat} (f : α → List AV) {x0 : α} {m : Nat} {mi : Int} (hE : TyE c.P t e n) (hO : OneF f) (hL : LenF f n) (hZ : ZeroF c.P e f x0) (hx : opv rs x = some (.val (.int .i64 mi))) (hy : opv rs y = some (.val (.int .i64 mi))) (hmi : mi = (m : Int)) (hm : m ≤ 1000000) (hd : Nat.blt d c.nt = true) (k : ∀ v, WL c ops tl ⟨(d, .val v) :: rs, .row v e n f (List.replicate m x0) :: hs⟩ Q) : WL c ops (⟨some d, .makeSlice t x y, ty, pos, af, none⟩ :: tl) ⟨rs, hs⟩ Q := wl_tok (lt_make hx hy hmi hm) hd k
end
section
variable {c : Cx} {rs : List (Nat × AV)} {hs : List HA} {Q : Exit → S → Prop} {ops : Array Oper} {tl : List Oper} {d : Nat} {ty : TypeId} {pos : String} {af : Array Edge}
end
instance : TyZ Tryd.prog 118 [.int .i64 0, .int .i64 0, .int .i64 0, .int .i64 0, .int .i64 0, .int .i64 0, .int .i64 0, .int .i64 0, .int .i64 0, .int .i64 0] := ⟨fun w => ⟨.agg #[.int .i64 0, .int .i64 0, .int .i64 0, .int .i64 0, .int .i64 0, .int .i64 0, .int .i64 0, .int .i64 0, .int .i64 0, .int .i64 0], by kernel_rfl, rfl⟩⟩
instance : TyZ Tryd.prog 120 [.int .i64 0, .int .i64 0, .int .i64 0, .int .i64 0, .int .i64 0] := ⟨fun w => ⟨.agg #[.int .i64 0, .int .i64 0, .int .i64 0, .int .i64 0, .int .i64 0], by kernel_rfl, rfl⟩⟩
instance : TyF Tryd.prog 64 0 0 := ⟨fun a w => by kernel_rfl⟩
instance : TyF Tryd.prog 64 1 1 := ⟨fun a w => by kernel_rfl⟩
instance : TyF Tryd.prog 64 2 2 := ⟨fun a w => by kernel_rfl⟩
instance : TyF Tryd.prog 64 3 3 := ⟨fun a w => by kernel_rfl⟩
instance : TyF Tryd.prog 68 0 0 := ⟨fun a w => by kernel_rfl⟩
instance : TyF Tryd.prog 68 1 1 := ⟨fun a w => by kernel_rfl⟩
instance : TyA Tryd.prog 118 5 2 := ⟨⟨68, by kernel_rfl, fun w => by kernel_rfl⟩, by decide⟩
instance : TyA Tryd.prog 120 5 1 := ⟨⟨3, by kernel_rfl, fun w => by kernel_rfl⟩, by decide⟩
section
variable {P : Program} {rs : List (Nat × AV)} {d : Option Nat} {ty : TypeId} {pos : String} {af : Array Edge} {g : Option (Nat × Bool)}
end
section
variable {c : Cx} {rs : List (Nat × AV)} {hs : List HA} {Q : Exit → S → Prop} {ops : Array Oper} {tl : List Oper} {d : Nat} {ty : TypeId} {pos : String} {af : Array Edge}
end
section
variable {P : Program} {rs : List (Nat × AV)} {hsR : List HA} {d : Option Nat} {ty : TypeId} {pos : String} {af : Array Edge} {g : Option (Nat × Bool)}
end
section
variable {P : Program} {rs : List (Nat × AV)} {hsR : List HA} {d : Option Nat} {ty : TypeId} {pos : String} {af : Array Edge} {g : Option (Nat × Bool)}
end
section
variable {c : Cx} {rs : List (Nat × AV)} {hs : List HA} {Q : Exit → S → Prop} {ops : Array Oper} {tl : List Oper} {d : Nat} {ty : TypeId} {pos : String} {af : Array Edge}
end
end Go.Proofs.YthddoikmgpgakaaDoor.Sw
namespace Go.Proofs.YthddoikmgpgakaaDoor
open Go.RowKit Go
section
variable {α : Type} {f : α → List Value} {n : Nat}
end
end Go.Proofs.YthddoikmgpgakaaDoor
namespace Go.Proofs.YthddoikmgpgakaaDoor
open Go.RowKit Go.Proofs Go.Shelf
attribute [local go_sem] Oper.semAt_some
attribute [local go_sem] Oper.semAt_some
attribute [local go_sem] eqPlace
attribute [local go_sem] Oper.semAt_some
attribute [local go_sem] Oper.semAt_some
theorem refRates_any (r : Rt) (w : World) :
  Calls Tryd.prog 70 #[r.val] w fun e w' => e = .returned (.bool r.ok) ∧ Below w.heap.size w w' := by
 have hok : r.ok = ((decide (0 ≤ r.skin) && decide (r.skin ≤ 1000)) && ((decide (0 ≤ r.half) && decide (r.half ≤ 1000)) && ((decide (0 ≤ r.barrel) && decide (r.barrel ≤ 1000)) && (decide (0 ≤ r.paid) && decide (r.paid ≤ 1000))))) := rfl
 have HOK := hid hok; clear hok
 obtain ⟨q1, hq1⟩ : ∃ q, (decide (0 ≤ r.skin) && decide (r.skin ≤ 1000)) = q := ⟨_, rfl⟩
 obtain ⟨q2, hq2⟩ : ∃ q, (decide (0 ≤ r.half) && decide (r.half ≤ 1000)) = q := ⟨_, rfl⟩
 obtain ⟨q3, hq3⟩ : ∃ q, (decide (0 ≤ r.barrel) && decide (r.barrel ≤ 1000)) = q := ⟨_, rfl⟩
 obtain ⟨q4, hq4⟩ : ∃ q, (decide (0 ≤ r.paid) && decide (r.paid ≤ 1000)) = q := ⟨_, rfl⟩
 rw [hq1, hq2, hq3, hq4] at HOK
 unfold Rt.val
 cases q1 with
 | false => (go_enter Tryd.func70, Tryd.ntmps70; go_wp2_with (refine (within_any _ _ _ _).mono ?_; rintro e w' ⟨rfl, rfl⟩); go_ret; exact ⟨(congrArg (fun b => Ending.returned (Value.bool b)) (by rw [HOK.out]; first | rfl | simp [*])), goBl⟩)
 | true =>
  cases q2 with
  | false => (go_enter Tryd.func70, Tryd.ntmps70; go_wp2_with (refine (within_any _ _ _ _).mono ?_; rintro e w' ⟨rfl, rfl⟩); go_ret; exact ⟨(congrArg (fun b => Ending.returned (Value.bool b)) (by rw [HOK.out]; first | rfl | simp [*])), goBl⟩)
  | true =>
   cases q3 with
   | false => (go_enter Tryd.func70, Tryd.ntmps70; go_wp2_with (refine (within_any _ _ _ _).mono ?_; rintro e w' ⟨rfl, rfl⟩); go_ret; exact ⟨(congrArg (fun b => Ending.returned (Value.bool b)) (by rw [HOK.out]; first | rfl | simp [*])), goBl⟩)
   | true =>
    cases q4 with
    | false => (go_enter Tryd.func70, Tryd.ntmps70; go_wp2_with (refine (within_any _ _ _ _).mono ?_; rintro e w' ⟨rfl, rfl⟩); go_ret; exact ⟨(congrArg (fun b => Ending.returned (Value.bool b)) (by rw [HOK.out]; first | rfl | simp [*])), goBl⟩)
    | true => (go_enter Tryd.func70, Tryd.ntmps70; go_wp2_with (refine (within_any _ _ _ _).mono ?_; rintro e w' ⟨rfl, rfl⟩); go_ret; exact ⟨(congrArg (fun b => Ending.returned (Value.bool b)) (by rw [HOK.out]; first | rfl | simp [*])), goBl⟩)
end Go.Proofs.YthddoikmgpgakaaDoor
namespace Go.Proofs.YthddoikmgpgakaaDoor.Sw
open Go.RowKit Go
section
variable {c : Cx} {rs : List (Nat × AV)} {hs : List HA} {Q : Exit → S → Prop} {g : Operand} {ps : Array Tmp} {assign body : Code} {gf : FuncId} {caps : List AV} {own r : List HA} {α β τ : Type} {f : α → τ → List AV} {t : α → τ → List HA} {xs : List α}
end
section
variable {P : Program} {rs : List (Nat × AV)} {hsR : List HA} {d : Option Nat} {ty : TypeId} {pos : String} {af : Array Edge} {g : Option (Nat × Bool)}
end
section
variable {c : Cx} {rs : List (Nat × AV)} {hs : List HA} {Q : Exit → S → Prop} {ops : Array Oper} {tl : List Oper} {d : Nat} {ty : TypeId} {pos : String} {af : Array Edge}
end
section
variable {P : Program} {rs : List (Nat × AV)} {hsR : List HA} {d : Option Nat} {ty : TypeId} {pos : String} {af : Array Edge} {g : Option (Nat × Bool)}
end
section
variable {c : Cx} {rs : List (Nat × AV)} {hs : List HA} {Q : Exit → S → Prop} {ops : Array Oper} {tl : List Oper} {d : Nat} {ty : TypeId} {pos : String} {af : Array Edge}
end
section
variable {P : Program} {rs : List (Nat × AV)} {d : Option Nat} {ty : TypeId} {pos : String} {af : Array Edge} {g : Option (Nat × Bool)}
end
section
variable {c : Cx} {rs : List (Nat × AV)} {hs : List HA} {Q : Exit → S → Prop} {ops : Array Oper} {tl : List Oper} {d : Nat} {ty : TypeId} {pos : String} {af : Array Edge}
end
section
variable {P : Program} {rs : List (Nat × AV)} {d : Option Nat} {ty : TypeId} {pos : String} {af : Array Edge} {g : Option (Nat × Bool)}
end
section
variable {P : Program} {rs : List (Nat × AV)} {d : Option Nat} {ty : TypeId} {pos : String} {af : Array Edge} {g : Option (Nat × Bool)}
end
section
variable {c : Cx} {rs : List (Nat × AV)} {hs : List HA} {Q : Exit → S → Prop} {ops : Array Oper} {tl : List Oper} {d : Nat} {ty : TypeId} {pos : String} {af : Array Edge}
end
section
variable {P : Program} {rs : List (Nat × AV)} {d : Option Nat} {ty : TypeId} {pos : String} {af : Array Edge} {g : Option (Nat × Bool)}
end
section
variable {c : Cx} {rs : List (Nat × AV)} {hs : List HA} {Q : Exit → S → Prop} {ops : Array Oper} {tl : List Oper} {d : Nat} {ty : TypeId} {pos : String} {af : Array Edge}
end
section
variable {P : Program} {rs : List (Nat × AV)} {d : Option Nat} {ty : TypeId} {pos : String} {af : Array Edge} {g : Option (Nat × Bool)}
end
section
variable {c : Cx} {rs : List (Nat × AV)} {hs r : List HA} {Q : Exit → S → Prop} {ops : Array Oper} {tl : List Oper} {d : Nat} {ty : TypeId} {pos : String} {af : Array Edge}
end
end Go.Proofs.YthddoikmgpgakaaDoor.Sw
namespace Go.Proofs.YthddoikmgpgakaaDoor.Sw
open Go.RowKit Go
open Go.WideElems (Fit)
open Go.ChangeMaps (setBlock heap_setBlock_same heap_setBlock_other)
section
variable {κ α : Type} [DecidableEq κ]
end
section
variable {κ α : Type} (kv : κ → Value) (g : α → AV)
variable {kv g}
variable (kv g)
variable {kv g}
end
section
variable {P : Program} {κ α : Type} [DecidableEq κ] {t : TypeId} {kv : κ → Value} {ok : κ → Prop} {g : α → AV} {l : List (κ × α)} {G : Nat → Option Obj} {F : List Nat} {w : World} {v : Value}
variable {rs : List (Nat × AV)} {d : Option Nat} {ty : TypeId} {pos : String} {af : Array Edge} {gd : Option (Nat × Bool)}
end
section
variable {c : Cx} {rs : List (Nat × AV)} {hs : List HA} {Q : Exit → S → Prop} {ops : Array Oper} {tl : List Oper} {d : Nat} {ty : TypeId} {pos : String} {af : Array Edge} {κ α : Type} [DecidableEq κ] {t : TypeId} {kv : κ → Value} {ok : κ → Prop} {g : α → AV} {l : List (κ × α)} {v : Value}
end
section
variable {P : Program} {rs : List (Nat × AV)} {d : Option Nat} {ty : TypeId} {pos : String} {af : Array Edge} {gd : Option (Nat × Bool)} {κ α : Type} {t : TypeId} {kv : κ → Value} {g : α → AV} {l rest : List (κ × α)} {v it : Value}
end
section
variable {c : Cx} {rs : List (Nat × AV)} {hs r : List HA} {Q : Exit → S → Prop} {ops : Array Oper} {tl : List Oper} {d : Nat} {ty : TypeId} {pos : String} {af : Array Edge} {κ α : Type} {t : TypeId} {kv : κ → Value} {g : α → AV} {l rest : List (κ × α)} {v it : Value}
end
end Go.Proofs.YthddoikmgpgakaaDoor.Sw
namespace Go.Proofs.YthddoikmgpgakaaDoor.Sw
open Go.RowKit Go
section
variable {P : Program} {w : World}
end
section
variable {P : Program} {rs : List (Nat × AV)} {d : Option Nat} {ty : TypeId} {pos : String} {af : Array Edge} {g : Option (Nat × Bool)}
end
end Go.Proofs.YthddoikmgpgakaaDoor.Sw
namespace Go.Proofs.YthddoikmgpgakaaDoor.Sw
open Go.RowKit Go
open Go.WideElems (Fit)
open Go.ChangeMaps (setBlock heap_setBlock_same heap_setBlock_other)
section
variable {P : Program} {κ α : Type} [DecidableEq κ] {t : TypeId} {kv : κ → Value} {ok : κ → Prop} {g : α → AV} {l : List (κ × α)} {G : Nat → Option Obj} {F : List Nat} {w : World} {v : Value}
variable {rs : List (Nat × AV)} {d : Option Nat} {ty : TypeId} {pos : String} {af : Array Edge} {gd : Option (Nat × Bool)}
end
section
variable {c : Cx} {rs : List (Nat × AV)} {hs : List HA} {Q : Exit → S → Prop} {ops : Array Oper} {tl : List Oper} {d : Nat} {ty : TypeId} {pos : String} {af : Array Edge} {κ α : Type} [DecidableEq κ] {t : TypeId} {kv : κ → Value} {ok : κ → Prop} {g : α → AV} {l : List (κ × α)} {v : Value}
end
end Go.Proofs.YthddoikmgpgakaaDoor.Sw
namespace Go.Proofs.YthddoikmgpgakaaDoor.Sw
open Go.RowKit Go
section
variable {P : Program} {rs : List (Nat × AV)} {d : Option Nat} {ty : TypeId} {pos : String} {af : Array Edge} {g : Option (Nat × Bool)}
end
end Go.Proofs.YthddoikmgpgakaaDoor.Sw
namespace Go.Proofs.YthddoikmgpgakaaDoor.Sw
open Go.RowKit Go Go.Shelf Go.Proofs
section
variable {P : Program} {rs : List (Nat × AV)} {d : Option Nat} {ty : TypeId} {pos : String} {af : Array Edge} {g : Option (Nat × Bool)}
end
attribute [local go_sem] eqPlace
section
variable {P : Program} {rs : List (Nat × AV)} {d : Option Nat} {ty : TypeId} {pos : String} {af : Array Edge} {g : Option (Nat × Bool)}
end
end Go.Proofs.YthddoikmgpgakaaDoor.Sw
namespace Go.Proofs.YthddoikmgpgakaaDoor
open Go.RowKit Go.Proofs Go.Shelf
attribute [local go_sem] Oper.semAt_some
attribute [local go_sem] eqPlace
attribute [local go_sem] eqEdit
end Go.Proofs.YthddoikmgpgakaaDoor
namespace Go.Proofs.YthddoikmgpgakaaDoor.Sw
open Go.RowKit Go Go.Shelf Go.Proofs
end Go.Proofs.YthddoikmgpgakaaDoor.Sw
namespace Go.Proofs.YthddoikmgpgakaaDoor
open Go.RowKit Go.Proofs Go.Shelf
theorem dist_rev_le : ∀ a b : List Int, dist a.reverse b.reverse ≤ dist a b
 | [], b => by rw [List.reverse_nil, dist_nil, dist_nil, List.length_reverse]; exact Nat.le_refl _
 | x :: a, [] => by rw [List.reverse_nil, dist_nil', dist_nil', List.length_reverse]; exact Nat.le_refl _
 | x :: a, y :: b => by
  have h1 := dist_rev_le a b
  have h2 := dist_rev_le a (y :: b)
  have h3 := dist_rev_le (x :: a) b
  have g1 := dist_append [x] [y] a.reverse b.reverse
  have g2 := dist_append [x] [] a.reverse (y :: b).reverse
  have g3 := dist_append [] [y] (x :: a).reverse b.reverse
  have e1 := dist_both x y [] []
  rw [dist_cons]
  simp only [List.reverse_cons, dist_nil, dist_nil', List.length_cons, List.length_nil, List.append_nil] at *
  omega
termination_by a b => a.length + b.length
theorem dist_rev (a b : List Int) : dist a.reverse b.reverse = dist a b := by
 have h1 := dist_rev_le a b
 have h2 := dist_rev_le a.reverse b.reverse
 rw [List.reverse_reverse, List.reverse_reverse] at h2
 omega
theorem dist_snoc (x y : Int) (a b : List Int) : dist (a ++ [x]) (b ++ [y]) = min (dist a b + (if x = y then 0 else 1)) (min (dist a (b ++ [y]) + 1) (dist (a ++ [x]) b + 1)) := by
 rw [← dist_rev (a ++ [x]) (b ++ [y]), ← dist_rev a (b ++ [y]), ← dist_rev (a ++ [x]) b, List.reverse_append, List.reverse_append]
 simp only [List.reverse_cons, List.reverse_nil, List.nil_append, List.singleton_append]
 rw [dist_cons]
 have h0 := dist_rev a b
 rw [h0]
def apR (a b : List Int) (i : Nat) : List Int := (List.range (b.length + 1)).map fun k => (dist (a.take i) (b.take k) : Int)
def apM (a b : List Int) (i k : Nat) : List Int := (List.range (b.length + 1)).map fun j => if j ≤ k then (dist (a.take (i + 1)) (b.take j) : Int) else (dist (a.take i) (b.take j) : Int)
theorem apR_len (a b : List Int) (i : Nat) : (apR a b i).length = b.length + 1 := by simp [apR]
theorem apM_len (a b : List Int) (i k : Nat) : (apM a b i k).length = b.length + 1 := by simp [apM]
theorem apR_0 (a b : List Int) : apR a b 0 = (List.range (b.length + 1)).map fun (k : Nat) => (k : Int) := by
 unfold apR
 refine List.map_congr_left fun k hk => ?_
 have := List.mem_range.1 hk
 rw [List.take_zero, dist_nil, List.length_take, Nat.min_eq_left (by omega)]
theorem apM_at (a b : List Int) (i k j : Nat) (hj : j < b.length + 1) : (apM a b i k)[j]'(by rw [apM_len]; exact hj) = if j ≤ k then (dist (a.take (i + 1)) (b.take j) : Int) else (dist (a.take i) (b.take j) : Int) := by
 unfold apM
 simp only [List.getElem_map, List.getElem_range]
theorem apR_at (a b : List Int) (i j : Nat) (hj : j < b.length + 1) : (apR a b i)[j]'(by rw [apR_len]; exact hj) = (dist (a.take i) (b.take j) : Int) := by
 unfold apR
 simp only [List.getElem_map, List.getElem_range]
theorem apM_0 {a b : List Int} {i : Nat} (hi : i < a.length) : (apR a b i).set 0 ((i + 1 : Nat) : Int) = apM a b i 0 := by
 refine List.ext_getElem (by simp [apR, apM]) fun j h1 h2 => ?_
 have hj : j < b.length + 1 := by rw [apM_len] at h2; exact h2
 rw [List.getElem_set, apM_at a b i 0 j hj]
 by_cases e : 0 = j
 ·subst e
  rw [if_pos rfl, if_pos (Nat.le_refl _), List.take_zero, dist_nil', List.length_take, Nat.min_eq_left (by omega)]
 ·rw [if_neg e, if_neg (by omega), apR_at a b i j hj]
theorem apM_step {a b : List Int} {i k : Nat} (hi : i < a.length) (hk : k < b.length) :
  (apM a b i k).set (k + 1) (min ((dist (a.take i) (b.take k) : Int) + (if a[i] = b[k] then 0 else 1)) (min ((dist (a.take (i + 1)) (b.take k) : Int) + 1) ((dist (a.take i) (b.take (k + 1)) : Int) + 1))) = apM a b i (k + 1) := by
 refine List.ext_getElem (by simp [apM]) fun j h1 h2 => ?_
 rw [List.getElem_set]
 have hj : j < b.length + 1 := by rw [apM_len] at h2; exact h2
 rw [apM_at a b i (k + 1) j hj]
 by_cases e : k + 1 = j
 ·subst e
  rw [if_pos rfl, if_pos (Nat.le_refl _), List.take_succ_eq_append_getElem hi, List.take_succ_eq_append_getElem hk]
  have h := dist_snoc a[i] b[k] (a.take i) (b.take k)
  rw [h]
  split <;> omega
 ·rw [if_neg e, apM_at a b i k j hj]
  by_cases h : j ≤ k
  ·rw [if_pos h, if_pos (by omega)]
  ·rw [if_neg h, if_neg (by omega)]
theorem apM_end (a b : List Int) (i : Nat) : apM a b i b.length = apR a b (i + 1) := by
 unfold apM apR
 refine List.map_congr_left fun k hk => ?_
 have := List.mem_range.1 hk
 rw [if_pos (by omega)]
theorem apR_last (a b : List Int) : (apR a b a.length)[b.length]'(by rw [apR_len]; omega) = (dist a b : Int) := by
 unfold apR
 simp only [List.getElem_map, List.getElem_range, List.take_length]
end Go.Proofs.YthddoikmgpgakaaDoor
namespace Go.Proofs.YthddoikmgpgakaaDoor.Sw
open Go.RowKit Go Go.Shelf Go.Proofs
open Go.Proofs.YthddoikmgpgakaaDoor.Ma
theorem refRates_con (r : Rt) : Con Tryd.prog 70 [.agg (rC r)] [] (Is (.val (.bool r.ok)) []) := by
 refine con_same (enters_of Tryd.func70 (by kernel_rfl) rfl) fun G vs w hf hG => ?_
 match vs, hf with
 | [v], ⟨h', _⟩ =>
  obtain rfl := fits_rt h'
  exact (refRates_any r w).mono fun e w' ⟨h, hb⟩ => ⟨_, h, rfl, hb⟩
structure Rdy (t : Tl) : Prop where
 ok : okT t.id t.hs t.st t.fo = true
 s : t.st.length ≤ 12
 f : t.fo.length ≤ 12
 os : okN t.st = true
 of : okN t.fo = true
theorem rdy_of {t : Tl} (h : okT t.id t.hs t.st t.fo = true) : Rdy t := by
 obtain ⟨a, b, c, d⟩ := okT_b h
 exact ⟨h, a, b, c, d⟩
theorem Rdy.of' {t : Tl} (h : (!(decide ((30 : Int) < t.st.length) || decide ((30 : Int) < t.fo.length)) && okT t.id t.hs t.st t.fo) = true) : Rdy t := by
 rw [Bool.and_eq_true] at h
 exact rdy_of h.2
theorem ready1_con (t : Tl) : Con Tryd.prog 67 [.agg (tC t)] [] (Is (.val (.bool (!(decide ((30 : Int) < t.st.length) || decide ((30 : Int) < t.fo.length)) && okT t.id t.hs t.st t.fo))) []) := by
 cases hg : (decide ((30 : Int) < t.st.length) || decide ((30 : Int) < t.fo.length)) with
 | true =>
  have GC := great_con t
  rw [hg] at GC
  refine con_of Tryd.func67 rfl (enters_of Tryd.func67 (by kernel_rfl) rfl) rfl ?_; intro n w0 F0 G0
  refine zS ?_;repeat(refine yA ?_;intro p hp;refine zS ?_)
  (first | (apply wl_call (GC); exact rfl; exact rfl) | (apply wl_callR (GC); exact rfl; exact zM; exact rfl))
  refine zS ?_
  (apply res1; exact rfl; exact rfl; exact ⟨rfl, rfl⟩)
 | false =>
  have h2 := hg
  simp only [Bool.or_eq_false_iff, decide_eq_false_iff_not] at h2
  have := ready_con t (by omega) (by omega)
  rwa [hg] at this
theorem owedR_ok {a : Tl} {r : Rt} (ha : Rdy a) (h : r.ok = true) : owedR a r = (spanF (rateW r) a.st a.fo, 0) := by
 have h1 : a.ok = true := ha.ok
 unfold owedR owesR errAll owesL
 simp [h1, h]
end Go.Proofs.YthddoikmgpgakaaDoor.Sw
namespace Go.Proofs.YthddoikmgpgakaaDoor
open Go.RowKit Go.Proofs Go.Shelf
theorem dist_max : ∀ a b : List Int, dist a b ≤ max a.length b.length
 | [], b => by rw [dist_nil]; exact Nat.le_max_right _ _
 | x :: a, [] => by rw [dist_nil']; exact Nat.le_max_left _ _
 | x :: a, y :: b => by
  have h1 := dist_both x y a b
  have h2 := dist_max a b
  have h3 : (if x = y then 0 else 1) ≤ 1 := by split <;> omega
  simp only [List.length_cons]
  omega
end Go.Proofs.YthddoikmgpgakaaDoor
namespace Go.Proofs.YthddoikmgpgakaaDoor.Sw
open Go.RowKit Go Go.Shelf Go.Proofs
open Go.Proofs.YthddoikmgpgakaaDoor.Ma
section
variable {P : Program} {rs : List (Nat × AV)} {d : Option Nat} {ty : TypeId} {pos : String} {af : Array Edge} {g : Option (Nat × Bool)}
end
section
variable {c : Cx} {rs : List (Nat × AV)} {hs : List HA} {Q : Exit → S → Prop} {ops : Array Oper} {tl : List Oper} {d : Nat} {ty : TypeId} {pos : String} {af : Array Edge}
end
theorem Rdy.dist {a : Tl} (h : Rdy a) : dist a.st a.fo ≤ 12 := by
 have := dist_max a.st a.fo
 have := h.s
 have := h.f
 omega
theorem Rdy.small {a : Tl} (h : Rdy a) : a.small := ⟨by have := h.s; omega, by have := h.f; omega⟩
theorem Rdy.lt {a : Tl} (h : Rdy a) : a.st.length ≤ 1000 ∧ a.fo.length ≤ 1000 := ⟨by have := h.s; omega, by have := h.f; omega⟩
theorem lt_min3 {P : Program} {rs : List (Nat × AV)} {d : Option Nat} {ty : TypeId} {pos : String} {af : Array Edge} {g : Option (Nat × Bool)} {x y z : Operand} {m n l : Int} {ts : Array TypeId} (hx : opv rs x = some (.val (.int .i64 m))) (hy : opv rs y = some (.val (.int .i64 n))) (hz : opv rs z = some (.val (.int .i64 l))) :
  LT P ⟨d, .call { callee := .builtin .min, args := #[x, y, z], argTypes := ts }, ty, pos, af, g⟩ rs [] (Is (.val (.int .i64 (min m (min n l)))) []) :=
 LT_val (fun _ e => by cases e) fun a w G hR hG => by
  have e1 : a.eval x = _ := opv_ok hR hx
  have e2 : a.eval y = _ := opv_ok hR hy
  have e3 : a.eval z = _ := opv_ok hR hz
  refine ⟨_, rfl, ?_⟩
  have h1 : (if n < m then n else m) = min m n := by split <;> omega
  have h2 : ∀ q : Int, (if l < q then l else q) = min q l := fun q => by split <;> omega
  have h3 : min (min m n) l = min m (min n l) := by omega
  simp [execOp, resolve, e1, e2, e3, invoke, builtin, Builtin.min_, Builtin.min2, h1, h2, h3]
theorem zeroF {α : Type} {P : Program} {e : TypeId} {f : α → List AV} {x0 : α} {n b : Nat} {z : Value} (h2 : (P.info? e).map (fun i => (i.zero, i.size, i.bytes)) = some (some z, n, b)) {zs : List Value} (h3 : z.cells = zs.toArray) (h4 : ∀ G, Fits G (f x0) zs) : ZeroF P e f x0 := by
 obtain ⟨i, hi, e1, _, _⟩ := info_parts h2
 exact ⟨z, ⟨i, hi, e1⟩, zs, h3, h4⟩
instance zeroI : ZeroF Tryd.prog 3 iC 0 := zeroF (z := .int .i64 0) (n := 1) (b := 8) (zs := [.int .i64 0]) (by kernel_rfl) rfl (fun _ => ⟨rfl, trivial⟩)
def upTo (n k : Nat) : List Int := (List.range n).map fun j => if j < k then (j : Int) else 0
theorem upTo_at (n k j : Nat) (h : j < (upTo n k).length) : (upTo n k)[j] = if j < k then (j : Int) else 0 := by
 unfold upTo at h ⊢
 simp only [List.getElem_map, List.getElem_range]
theorem upTo_step {n k : Nat} (hk : k < n) : (upTo n k).set k (k : Int) = upTo n (k + 1) := by
 refine List.ext_getElem (by simp [upTo]) fun j h1 h2 => ?_
 rw [List.getElem_set, upTo_at, upTo_at]
 split
 ·rename_i e; subst e; rw [if_pos (by omega)]
 ·split
  ·rw [if_pos (by omega)]
  ·rw [if_neg (by omega)]
theorem upTo_0 (n : Nat) : List.replicate n (0 : Int) = upTo n 0 := by
 unfold upTo
 refine List.ext_getElem (by simp) fun j h1 h2 => ?_
 simp
theorem upTo_len (n k : Nat) : (upTo n k).length = n := by simp [upTo]
theorem upTo_end (a b : List Int) : upTo (b.length + 1) (b.length + 1) = apR a b 0 := by
 rw [apR_0]
 unfold upTo
 refine List.map_congr_left fun k hk => ?_
 have := List.mem_range.1 hk
 rw [if_pos (by omega)]
theorem apart_con (a b : List Int) (h1 : a.length ≤ 1000) (h2 : b.length ≤ 1000) : Con Tryd.prog 68 [.sl 1 iC a, .sl 1 iC b] [] (Is (.val (.int .i64 (dist a b : Nat))) []) := by
 refine con_of Tryd.func68 rfl (enters_of Tryd.func68 (by kernel_rfl) rfl) rfl ?_; intro n w0 F0 G0
 refine zS ?_
 (apply wl_make iC; exact inferInstance; exact inferInstance; exact inferInstance; exact inferInstance; exact rfl; exact rfl; exact rfl; (first | omega | (simp; omega)); exact rfl)
 intro v
 refine WL_one At.here (fun hone => ?_)
 rw [upTo_0]
 refine zS ?_
 rw [upTo_len]
 refine W_loopJ (fun (k : Nat) => ⟨[(0, .sl 1 iC a), (1, .sl 1 iC b), (5, .val v), (18, .val (.int .i64 ((b.length + 1 : Nat) : Int))), (19, .val (.int .i64 k))], [.row v 3 1 iC (upTo (b.length + 1) k)]⟩) (fun k => k ≤ b.length + 1) (fun k => b.length + 1 - k) 0 (fun _ _ st => st_sub2 st zR zP) (Nat.zero_le _) ?_
 intro k hk
 refine zS ?_
 refine w_cond rfl (fun hlt => ?_) (fun hlt => ?_)
 ·have hlt' : k < b.length + 1 := by have := of_decide_eq_true hlt; omega
  have hll := upTo_len (b.length + 1) k
  have hst := upTo_step hlt'
  generalize upTo (b.length + 1) k = xs at hll hst ⊢
  refine zS ?_
  rw [hst]
  refine zS ?_
  (refine ⟨k + 1, fun _ _ st => st_sub2 st ?_ ?_, ?_, ?_⟩; exact zR; exact zP)
  ·exact hlt'
  ·omega
 ·have hkk : k = b.length + 1 := by have := of_decide_eq_false hlt; omega
  subst hkk
  rw [upTo_end a b]
  refine zS ?_
  refine W_loopJ (fun (i : Nat) => ⟨[(0, .sl 1 iC a), (1, .sl 1 iC b), (5, .val v), (27, .sl 1 iC a), (28, .val (.int .i64 a.length)), (29, .val (.int .i64 i))], [.row v 3 1 iC (apR a b i)]⟩) (fun i => i ≤ a.length) (fun i => a.length - i) 0 (fun _ _ st => st_sub2 st zR zP) (Nat.zero_le _) ?_
  intro i hi
  refine zS ?_
  refine w_cond rfl (fun hlt2 => ?_) (fun hlt2 => ?_)
  ·have hlt2' : i < a.length := by have := of_decide_eq_true hlt2; omega
   have hl1 := apR_len a b i
   have hs0 := apM_0 (a := a) (b := b) hlt2'
   have hv0 : (apR a b i)[0]? = some (dist (a.take i) (b.take 0) : Int) := by rw [List.getElem?_eq_getElem (by rw [apR_len]; omega), apR_at a b i 0 (by omega)]
   generalize apR a b i = xs at hl1 hs0 hv0 ⊢
   have hv1 : xs[0] = (dist (a.take i) (b.take 0) : Int) := by
    have := hv0
    rw [List.getElem?_eq_getElem (by omega)] at this
    exact Option.some.inj this
   refine zS ?_
   rw [show ((i : Int) + 1) = ((i + 1 : Nat) : Int) by omega, hs0, hv1]
   refine zS ?_
   refine W_loopJ (fun (k : Nat) => ⟨[(0, .sl 1 iC a), (1, .sl 1 iC b), (5, .val v), (8, .val (.int .i64 a[i])), (9, .val (.int .i64 (dist (a.take i) (b.take k) : Nat))), (27, .sl 1 iC a), (28, .val (.int .i64 a.length)), (29, .val (.int .i64 i)), (41, .sl 1 iC b), (42, .val (.int .i64 b.length)), (43, .val (.int .i64 k))], [.row v 3 1 iC (apM a b i k)]⟩) (fun k => k ≤ b.length) (fun k => b.length - k) 0 (fun _ _ st => st_sub2 st zR zP) (Nat.zero_le _) ?_
   intro k hk
   refine zS ?_
   refine w_cond rfl (fun hlt3 => ?_) (fun hlt3 => ?_)
   ·have hlt3' : k < b.length := by have := of_decide_eq_true hlt3; omega
    have hl2 := apM_len a b i k
    have hs1 := apM_step hlt2' hlt3'
    have hq1 : (apM a b i k)[k]? = some (dist (a.take (i + 1)) (b.take k) : Int) := by rw [List.getElem?_eq_getElem (by rw [apM_len]; omega), apM_at a b i k k (by omega), if_pos (Nat.le_refl _)]
    have hq2 : (apM a b i k)[k + 1]? = some (dist (a.take i) (b.take (k + 1)) : Int) := by rw [List.getElem?_eq_getElem (by rw [apM_len]; omega), apM_at a b i k (k + 1) (by omega), if_neg (by omega)]
    have hd1 := dist_le (a.take i) (b.take k)
    have hd2 := dist_le (a.take (i + 1)) (b.take k)
    have hd3 := dist_le (a.take i) (b.take (k + 1))
    simp only [List.length_take] at hd1 hd2 hd3
    generalize apM a b i k = ys at hl2 hs1 hq1 hq2 ⊢
    refine zS ?_
    have hv2 : ys[k + 1] = (dist (a.take i) (b.take (k + 1)) : Int) := by
     have := hq2
     rw [List.getElem?_eq_getElem (by omega)] at this
     exact Option.some.inj this
    refine w_cond rfl (fun hne => ?_) (fun hne => ?_)
    ·have hne' : ¬ a[i] = b[k] := by simpa using hne
     rw [if_neg hne'] at hs1
     refine zS ?_
     rw [hv2]
     refine W_run 16 [59, 60, 61, 62, 63, 64, 65, 66, 67, 68, 69, 70, 71, 72, 73, 74] [0, 1, 2, 3, 4, 5, 6, 7, 8, 9, 10, 11, 12, 13, 14, 15] Cut.nil rfl goFlt mixedS (by kernel_rfl) rfl ?_
     refine rpv [] [] ?_
     refine rpv [] [] ?_
     refine rpv [1] [] ?_
     refine rpv [] [] ?_
     refine rpv [] [] ?_
     refine rpv [] [] ?_
     refine rpv [4, 5] [] ?_
     refine rpv [6] [] ?_
     refine rpv [7] [] ?_
     refine rpv [] [] ?_
     refine rpv [] [] ?_
     refine rpv [10] [] ?_
     refine rpv [9, 11] [] ?_
     refine rpv [12] [] ?_
     refine rpv [13] [] ?_
     refine Run.pv [3, 8, 14] [] rfl (fun vs => by apply ltr_pk; exact goPk; (refine ltr ?_; apply lt_min3; exact rfl; exact rfl; exact rfl)) goApp ?_
     refine ⟨⟨by kernel_rfl, by kernel_rfl⟩, fun vs => ?_⟩
     apply WL_auto [0, 2, 15]
     ·exact goPk
     ·exact goNrm
     ·kernel_rfl
     ·kernel_rfl
     refine zS ?_
     refine zS ?_
     rw [hs1]
     (refine ⟨k + 1, fun _ _ st => st_sub2 st ?_ ?_, ?_, ?_⟩; exact zR; exact zP)
     ·exact hlt3'
     ·omega
    ·have heq' : a[i] = b[k] := by simpa using hne
     rw [if_pos heq', Int.add_zero] at hs1
     refine zS ?_
     rw [hv2]
     refine W_run 16 [59, 60, 61, 62, 63, 64, 65, 66, 67, 68, 69, 70, 71, 72, 73, 74] [0, 1, 2, 3, 4, 5, 6, 7, 8, 9, 10, 11, 12, 13, 14, 15] Cut.nil rfl goFlt mixedS (by kernel_rfl) rfl ?_
     refine rpv [] [] ?_
     refine rpv [] [] ?_
     refine rpv [1] [] ?_
     refine rpv [] [] ?_
     refine rpv [] [] ?_
     refine rpv [] [] ?_
     refine rpv [4, 5] [] ?_
     refine rpv [6] [] ?_
     refine rpv [7] [] ?_
     refine rpv [] [] ?_
     refine rpv [] [] ?_
     refine rpv [10] [] ?_
     refine rpv [9, 11] [] ?_
     refine rpv [12] [] ?_
     refine rpv [13] [] ?_
     refine Run.pv [3, 8, 14] [] rfl (fun vs => by apply ltr_pk; exact goPk; (refine ltr ?_; apply lt_min3; exact rfl; exact rfl; exact rfl)) goApp ?_
     refine ⟨⟨by kernel_rfl, by kernel_rfl⟩, fun vs => ?_⟩
     apply WL_auto [0, 2, 15]
     ·exact goPk
     ·exact goNrm
     ·kernel_rfl
     ·kernel_rfl
     refine zS ?_
     refine zS ?_
     rw [hs1]
     (refine ⟨k + 1, fun _ _ st => st_sub2 st ?_ ?_, ?_, ?_⟩; exact zR; exact zP)
     ·exact hlt3'
     ·omega
   ·have hkk : k = b.length := by have := of_decide_eq_false hlt3; omega
    subst hkk
    rw [apM_end]
    refine zS ?_
    (refine ⟨i + 1, fun _ _ st => st_sub2 st ?_ ?_, ?_, ?_⟩; exact zR; exact zP)
    ·exact hlt2'
    ·omega
  ·have hii : i = a.length := by have := of_decide_eq_false hlt2; omega
   subst hii
   have hl1 := apR_len a b a.length
   have hv0 : (apR a b a.length)[b.length]? = some (dist a b : Int) := by rw [List.getElem?_eq_getElem (by rw [apR_len]; omega), apR_last]
   generalize apR a b a.length = xs at hl1 hv0 ⊢
   have hv : xs[b.length] = (dist a b : Int) := by
    have := hv0
    rw [List.getElem?_eq_getElem (by omega)] at this
    exact Option.some.inj this
   refine zS ?_
   rw [hv]
   (apply res1; exact rfl; exact rfl; exact ⟨rfl, rfl⟩)
end Go.Proofs.YthddoikmgpgakaaDoor.Sw
namespace Go.Proofs.YthddoikmgpgakaaDoor.Sw
open Go.RowKit Go
section
variable {P : Program} {rs : List (Nat × AV)} {d : Option Nat} {ty : TypeId} {pos : String} {af : Array Edge} {g : Option (Nat × Bool)}
end
end Go.Proofs.YthddoikmgpgakaaDoor.Sw
namespace Go.Proofs.YthddoikmgpgakaaDoor.Sw
open Go.RowKit Go Go.Shelf Go.Proofs
open Go.Proofs.YthddoikmgpgakaaDoor.Ma
theorem Rdy.sub {a : Tl} (h : Rdy a) {s f : List Int} (h1 : s.length ≤ 12) (h2 : f.length ≤ 12) (h3 : okN s = true) (h4 : okN f = true) : Rdy ⟨a.id, a.hs, s, f⟩ := by
 refine rdy_of ?_
 have hk := h.ok
 unfold okT at hk ⊢
 simp only [Bool.and_eq_true, decide_eq_true_eq] at hk ⊢
 exact ⟨⟨⟨⟨hk.1.1.1.1, h1⟩, h2⟩, h3⟩, h4⟩
theorem firstR_ok {a : Tl} (h : Rdy a) : ∃ l, firstR a = (l, 0) ∧ TrueL a.st a.fo l := by
 unfold firstR
 rw [if_pos h.ok]
 have hne := tell_ne h.os h.of
 have hF := tellT_fst h.os h.of (Nat.zero_le a.st.length) (Nat.zero_le a.fo.length)
 rw [List.drop_zero, List.drop_zero] at hF
 cases e : tellT a.st a.fo 0 0 with
 | nil => exact absurd e hne
 | cons l t => exact ⟨l, rfl, hF.sub l (by rw [e]; simp)⟩
theorem sumW_take (W : Int → Int) (l : List Int) {k : Nat} (h : k < l.length) : sumW W (l.take (k + 1)) = sumW W (l.take k) + W l[k] := by
 rw [List.take_succ_eq_append_getElem h, sumW_app]
 simp [sumW]
theorem sumW_bt {r : Rt} (hr : r.ok = true) (l : List Int) (k : Nat) (hl : l.length ≤ 1000) : -1000000 ≤ sumW (rateW r) (l.take k) ∧ sumW (rateW r) (l.take k) ≤ 1000000 := by
 have := sumW_b (rateW_b hr) (l.take k)
 rw [List.length_take] at this
 omega
theorem sum_con (l : List Int) (r : Rt) (hr : r.ok = true) (hl : l.length ≤ 1000) : Con Tryd.prog 73 [.sl 1 iC l, .agg (rC r)] [] (Is (.val (.int .i64 (sumW (rateW r) l))) []) := by
 have hrb : (0 ≤ r.skin ∧ r.skin ≤ 1000) ∧ (0 ≤ r.half ∧ r.half ≤ 1000) ∧ (0 ≤ r.barrel ∧ r.barrel ≤ 1000) ∧ (0 ≤ r.paid ∧ r.paid ≤ 1000) := by
  exact Rt.ok_iff hr
 refine con_of Tryd.func73 rfl (enters_of Tryd.func73 (by kernel_rfl) rfl) rfl ?_; intro n w0 F0 G0
 refine zS ?_;repeat(refine yA ?_;intro p hp;refine zS ?_)
 refine W_loopJ (fun (k : Nat) => ⟨[(3, .val p), (5, .val (.int .i64 (sumW (rateW r) (l.take k)))), (8, .sl 1 iC l), (9, .val (.int .i64 l.length)), (10, .val (.int .i64 k))], [.box p (rC r) 64]⟩) (fun k => k ≤ l.length) (fun k => l.length - k) 0 (fun _ _ st => st_sub2 st zR zP) (Nat.zero_le _) ?_
 intro k hk
 refine zS ?_
 refine w_cond rfl (fun hlt => ?_) (fun hlt => ?_)
 ·have hlt' : k < l.length := by simpa using hlt
  have hq0 : l[k]? = some l[k] := List.getElem?_eq_getElem hlt'
  have hs := sumW_take (rateW r) l hlt'
  have hb := sumW_bt hr l k hl
  generalize hy : sumW (rateW r) (l.take (k + 1)) = y at hs
  have hgoal : ∀ w : Int, y = w → sumW (rateW r) (l.take (k + 1)) = w := fun w e => by rw [hy, e]
  generalize hx : sumW (rateW r) (l.take k) = x at hs hb ⊢
  unfold rateW at hs
  refine zS ?_
  generalize l[k] = z at hs ⊢
  by_cases c1 : z = 1
  ·rw [decide_eq_true c1]
   rw [if_pos c1] at hs
   refine zS ?_
   refine ⟨k + 1, fun _ _ st => st_sub2 st (by rw [hgoal _ hs]; exact zR) zP, hlt', ?_⟩
   omega
  ·rw [decide_eq_false c1]
   refine zS ?_
   by_cases c2 : z = 2
   ·rw [decide_eq_true c2]
    rw [if_neg c1, if_pos c2] at hs
    refine zS ?_
    refine ⟨k + 1, fun _ _ st => st_sub2 st (by rw [hgoal _ hs]; exact zR) zP, hlt', ?_⟩
    omega
   ·rw [decide_eq_false c2]
    refine zS ?_
    by_cases c3 : z = 3
    ·rw [decide_eq_true c3]
     rw [if_neg c1, if_neg c2, if_pos c3] at hs
     refine zS ?_
     refine ⟨k + 1, fun _ _ st => st_sub2 st (by rw [hgoal _ hs]; exact zR) zP, hlt', ?_⟩
     omega
    ·rw [decide_eq_false c3]
     refine zS ?_
     by_cases c4 : z = 4
     ·rw [decide_eq_true c4]
      rw [if_neg c1, if_neg c2, if_neg c3, if_pos c4] at hs
      refine zS ?_
      refine ⟨k + 1, fun _ _ st => st_sub2 st (by rw [hgoal _ (show y = x - r.paid by omega)]; exact zR) zP, hlt', ?_⟩
      omega
     ·rw [decide_eq_false c4]
      rw [if_neg c1, if_neg c2, if_neg c3, if_neg c4] at hs
      refine zS ?_
      refine ⟨k + 1, fun _ _ st => st_sub2 st (by rw [hgoal _ (show y = x by omega)]; exact zR) zP, hlt', ?_⟩
      omega
 ·have hkk : k = l.length := by simp at hlt; omega
  subst hkk
  rw [List.take_length]
  refine zS ?_
  (apply res1; exact rfl; exact rfl; exact ⟨rfl, rfl⟩)
theorem ltL_drop {a b : List Int} {k : Nat} (ha : k < a.length) (hb : k < b.length) : ltL (a.drop k) (b.drop k) = if a[k] = b[k] then ltL (a.drop (k + 1)) (b.drop (k + 1)) else decide (a[k] < b[k]) := by
 rw [List.drop_eq_getElem_cons ha, List.drop_eq_getElem_cons hb, ltL_cons]
theorem ltL_end {a b : List Int} {k : Nat} (hk : k ≤ a.length) (hk2 : k ≤ b.length) (h : ¬ (k < a.length ∧ k < b.length)) : ltL (a.drop k) (b.drop k) = decide ((a.length : Int) < (b.length : Int)) := by
 rcases Nat.lt_or_ge k a.length with h1 | h1
 ·have : k = b.length := by omega
  subst this
  rw [List.drop_length, ltL_nil_r, decide_eq_false (by omega)]
 ·have : k = a.length := by omega
  subst this
  rw [List.drop_length]
  rcases Nat.lt_or_ge a.length b.length with h2 | h2
  ·rw [List.drop_eq_getElem_cons h2, decide_eq_true (by omega)]; rfl
  ·rw [List.drop_eq_nil_of_le h2, decide_eq_false (by omega)]; rfl
theorem less7_con (a b : List Int) (h1 : a.length ≤ 1000000) (h2 : b.length ≤ 1000000) : Con Tryd.prog 74 [.sl 1 iC a, .sl 1 iC b] [] (Is (.val (.bool (ltL a b))) []) := by
 refine con_of Tryd.func74 rfl (enters_of Tryd.func74 (by kernel_rfl) rfl) rfl ?_; intro n w0 F0 G0
 refine zS ?_
 refine W_loopJ (fun (k : Nat) => ⟨[(0, .sl 1 iC a), (1, .sl 1 iC b), (5, .val (.int .i64 k))], []⟩) (fun k => k ≤ a.length ∧ k ≤ b.length ∧ ltL (a.drop k) (b.drop k) = ltL a b) (fun k => a.length - k) 0 (fun _ _ st => st_sub2 st zR zP) ⟨Nat.zero_le _, Nat.zero_le _, rfl⟩ ?_
 rintro k ⟨hk1, hk2, he⟩
 refine zS ?_
 by_cases ha : k < a.length
 ·rw [decide_eq_true (show (k : Int) < (a.length : Int) by omega)]
  refine zS ?_
  by_cases hb : k < b.length
  ·rw [decide_eq_true (show (k : Int) < (b.length : Int) by omega)]
   have hq0 : a[k]? = some a[k] := List.getElem?_eq_getElem ha
   have hq1 : b[k]? = some b[k] := List.getElem?_eq_getElem hb
   rw [ltL_drop ha hb] at he
   refine zS ?_
   refine W_run 8 [18, 19, 20, 21, 22, 23, 24, 25] [0, 1, 2, 3, 4, 5, 6, 7] Cut.nil rfl goFlt mixedS (by kernel_rfl) rfl ?_
   refine rpv [] [] ?_
   refine rpv [] [] ?_
   refine rpv [0, 1] [] ?_
   refine rpv [2] [] ?_
   refine rpv [] [] ?_
   refine rpv [] [] ?_
   refine rpv [4, 5] [] ?_
   refine rpv [6] [] ?_
   refine ⟨⟨by kernel_rfl, by kernel_rfl⟩, fun vs => ?_⟩
   apply WL_auto [3, 7]
   ·exact goPk
   ·exact goNrm
   ·kernel_rfl
   ·kernel_rfl
   refine zS ?_
   by_cases hab : a[k] = b[k]
   ·rw [if_pos hab] at he
    rw [decide_eq_true hab]
    refine zS ?_
    refine ⟨k + 1, fun _ _ st => st_sub2 st zR zP, ⟨ha, hb, he⟩, ?_⟩
    omega
   ·rw [if_neg hab] at he
    rw [decide_eq_false hab]
    refine zS ?_
    refine W_run 8 [27, 28, 29, 30, 31, 32, 33, 34] [0, 1, 2, 3, 4, 5, 6, 7] Cut.nil rfl goFlt mixedS (by kernel_rfl) rfl ?_
    refine rpv [] [] ?_
    refine rpv [] [] ?_
    refine rpv [0, 1] [] ?_
    refine rpv [2] [] ?_
    refine rpv [] [] ?_
    refine rpv [] [] ?_
    refine rpv [4, 5] [] ?_
    refine rpv [6] [] ?_
    refine ⟨⟨by kernel_rfl, by kernel_rfl⟩, fun vs => ?_⟩
    apply WL_auto [3, 7]
    ·exact goPk
    ·exact goNrm
    ·kernel_rfl
    ·kernel_rfl
    refine zS ?_
    (apply res1; exact rfl; exact rfl; exact ⟨by rw [he], rfl⟩)
  ·rw [decide_eq_false (show ¬ (k : Int) < (b.length : Int) by omega)]
   rw [ltL_end hk1 hk2 (fun h => hb h.2)] at he
   refine zS ?_
   (apply res1; exact rfl; exact rfl; exact ⟨by rw [he], rfl⟩)
 ·rw [decide_eq_false (show ¬ (k : Int) < (a.length : Int) by omega)]
  rw [ltL_end hk1 hk2 (fun h => ha h.1)] at he
  refine zS ?_
  (apply res1; exact rfl; exact rfl; exact ⟨by rw [he], rfl⟩)
end Go.Proofs.YthddoikmgpgakaaDoor.Sw
namespace Go.Proofs.YthddoikmgpgakaaDoor.Sw
open Go.RowKit Go
def fnC {β : Type} (e : β → AV) (n : Nat) (g : Nat → β) : List AV := (List.range n).map fun q => e (g q)
theorem fnC_at {β : Type} {e : β → AV} {n : Nat} {g : Nat → β} {j : Nat} (h : j < n) : (fnC e n g)[j]? = some (e (g j)) := by
 unfold fnC
 rw [List.getElem?_map, List.getElem?_range h]; rfl
theorem fnC_at1 {β : Type} {e : β → AV} {n : Nat} {g : Nat → β} {j : Nat} (h : j < n) : (fnC e n g)[j * 1]? = some (e (g j)) := by
 rw [Nat.mul_one]; exact fnC_at h
theorem fnC_len {β : Type} (e : β → AV) (n : Nat) (g : Nat → β) : (fnC e n g).length = n := by simp [fnC]
def upF {β : Type} (g : Nat → β) (j : Nat) (x : β) : Nat → β := fun q => if q = j then x else g q
theorem fnC_put {β : Type} {e : β → AV} {n : Nat} {g : Nat → β} {j : Nat} {x : β} (h : j < n) : spl (fnC e n g) j [e x] = fnC e n (upF g j x) := by
 unfold spl fnC upF
 refine List.ext_getElem? fun i => ?_
 rw [List.getElem?_map]
 rcases Nat.lt_or_ge i n with hi | hi
 ·rw [List.getElem?_range hi]
  rcases Nat.lt_trichotomy i j with q | q | q
  ·rw [List.append_assoc, List.getElem?_append_left (by simp; omega), List.getElem?_take, if_pos q, List.getElem?_map, List.getElem?_range hi]
   simp [show i ≠ j by omega]
  ·subst q
   rw [List.append_assoc, List.getElem?_append_right (by rw [List.length_take]; exact Nat.min_le_left _ _)]
   simp [show min i n = i by omega]
  ·rw [List.append_assoc, List.getElem?_append_right (by simp; omega), List.getElem?_append_right (by simp; omega)]
   simp only [List.length_take, List.length_map, List.length_range, List.length_singleton, List.getElem?_drop, List.getElem?_map]
   rw [show j + 1 + (i - min j n - 1) = i by omega, List.getElem?_range hi]
   simp [show i ≠ j by omega]
 ·rw [List.getElem?_eq_none (by simp; omega), List.getElem?_eq_none (by simp; omega)]; rfl
theorem fnC_put1 {β : Type} {e : β → AV} {n : Nat} {g : Nat → β} {j : Nat} {x : β} (h : j < n) : spl (fnC e n g) (j * 1) [e x] = fnC e n (upF g j x) := by
 rw [Nat.mul_one]; exact fnC_put h
theorem fnC_put2 {β : Type} {e : β → AV} {n : Nat} {g : Nat → β} {j : Nat} {x y : β} (h : j + 2 ≤ n) : spl (fnC e n g) j [e x, e y] = fnC e n (upF (upF g j x) (j + 1) y) := by
 have h1 : spl (fnC e n g) j [e x, e y] = spl (spl (fnC e n g) j [e x]) (j + 1) [e y] := by
  have hl := fnC_len e n g
  generalize fnC e n g = l at hl
  unfold spl
  refine List.ext_getElem? fun i => ?_
  simp only [List.length_cons, List.length_nil, List.append_assoc]
  rw [List.take_append, List.take_append, List.drop_append, List.drop_append, List.length_take]
  simp only [Nat.min_eq_left (show j ≤ l.length by omega)]
  rw [List.take_take, Nat.min_eq_right (show j ≤ j + 1 by omega)]
  simp [show j + 1 - j = 1 by omega, show j + 1 + 1 - j = 2 by omega, List.drop_drop]
  congr 3
  rw [List.drop_eq_nil_of_le (show (List.take j l).length ≤ j + 1 + 1 by rw [List.length_take]; omega)]; rfl
 rw [h1, fnC_put (by omega), fnC_put (by omega)]
theorem fnC_two {β : Type} {e : β → AV} {n : Nat} {g : Nat → β} {j : Nat} (h : j + 2 ≤ n) : ((fnC e n g).drop j).take 2 = [e (g j), e (g (j + 1))] := by
 refine List.ext_getElem? fun i => ?_
 rw [List.getElem?_take]
 match i with
 | 0 => rw [if_pos (by omega), List.getElem?_drop, Nat.add_zero, fnC_at (by omega)]; rfl
 | 1 => rw [if_pos (by omega), List.getElem?_drop, fnC_at (by omega)]; rfl
 | i + 2 => rw [if_neg (by omega)]; rfl
section
variable {P : Program} {rs : List (Nat × AV)} {d : Option Nat} {ty : TypeId} {pos : String} {af : Array Edge} {g : Option (Nat × Bool)}
theorem lt_loadAt {x : Operand} {t tb : TypeId} {n j : Nat} [TyN P t n] {p : Value} {cs : List AV} (hx : Pt rs x p j) (hj : j + n ≤ cs.length) : LT P ⟨d, .load t x, ty, pos, af, g⟩ rs [.box p cs tb] (Is (.agg ((cs.drop j).take n)) [.box p cs tb]) :=
 LT_read (fun _ e => by cases e) fun a w G F hR _ ⟨b, vs, hp, _, hf, hb⟩ => by
  have hl := hf.length
  refine ⟨.agg ((vs.drop j).take n).toArray, ⟨_, rfl, (hf.drop j).take n⟩, ?_⟩
  simp only [execOp, hx.ok hR hp, Sem.run_bind]
  rw [run_loadN (n := n) (vs := (vs.drop j).take n) (by rw [List.length_take, List.length_drop]; omega) (fun k u e => by
   rw [cell_of_row w b _ _ _ _ hb]
   rw [List.getElem?_take] at e
   split at e
   ·rw [List.getElem?_drop] at e; simpa using e
   ·cases e)]
  rfl
theorem ltr_loadAt {x : Operand} {t tb : TypeId} {n j : Nat} [TyN P t n] {p : Value} {cs : List AV} {f : HA → List HA} {hsR : List HA} {av : AV} (hx : Pt rs x p j) (hat : At hsR (.box p cs tb) f) (hj : j + n ≤ cs.length) (hav : AV.agg ((cs.drop j).take n) = av) : LTr P ⟨d, .load t x, ty, pos, af, g⟩ rs hsR [] (Is av []) := by
 subst hav
 exact ltr_rd (lt_loadAt hx hj) hat
end
def eB : Bool → AV := fun b => .val (.bool b)
def eI : Int → AV := fun b => .val (.int .i64 b)
end Go.Proofs.YthddoikmgpgakaaDoor.Sw
namespace Go.Proofs.YthddoikmgpgakaaDoor.Sw
open Go.RowKit Go Go.Shelf Go.Proofs
open Go.Proofs.YthddoikmgpgakaaDoor.Ma
theorem notches7_con (xs : List Int) (hl : xs.length ≤ 4000) : Con Tryd.prog 75 [.sl 1 iC xs] [] (Is (.val (.bool (okN xs))) []) := by
 refine con_same (enters_of Tryd.func75 (by kernel_rfl) rfl) fun G vs w hf hG => ?_
 match vs, hf with
 | [v], ⟨⟨a, c, h2, _, h4⟩, _⟩ =>
  subst h2
  exact (notches_any a c xs w hl (rdI_of hG h4)).mono fun e w' ⟨h, hb⟩ => ⟨_, h, rfl, hb ▸ Below.refl _ _⟩
def foW (W : Int → Int) (a : List Int) (L : List (List Int)) (i : Nat) : Int × Int := (L.take i).foldl (fun s l => endF s (sumW W l, sumW W l)) (sumW W a, sumW W a)
theorem foW_0 (W : Int → Int) (a : List Int) (L : List (List Int)) : foW W a L 0 = (sumW W a, sumW W a) := rfl
theorem foW_step (W : Int → Int) (a : List Int) {L : List (List Int)} {i : Nat} (h : i < L.length) : foW W a L (i + 1) = (min (foW W a L i).1 (sumW W L[i]), max (foW W a L i).2 (sumW W L[i])) := by
 unfold foW
 rw [List.take_succ_eq_append_getElem h, List.foldl_append]
 rfl
theorem foW_is {W : Int → Int} : ∀ {L : List (List Int)} (h : 0 < L.length), IsSpan W (fun l => l ∈ L) (foW W L[0] L L.length).1 (foW W L[0] L L.length).2
 | [], h => absurd h (Nat.lt_irrefl _)
 | x :: t, _ => by
  have h1 := ends_in W (L := x :: t) (by simp)
  have h2 : endsL ((x :: t).map fun l => (sumW W l, sumW W l)) = foW W x (x :: t) (x :: t).length := by
   unfold endsL foW
   rw [List.take_length, List.foldl_map]
   rfl
  rw [h2] at h1
  exact h1
theorem isSpan_iff {W : Int → Int} {P Q : List Int → Prop} {a b : Int} (h : IsSpan W P a b) (hpq : ∀ l, P l ↔ Q l) : IsSpan W Q a b := by
 obtain ⟨l, h1, h2⟩ := h.lo
 obtain ⟨m, h3, h4⟩ := h.hi
 exact ⟨⟨l, (hpq l).1 h1, h2⟩, ⟨m, (hpq m).1 h3, h4⟩, fun q hq => h.all q ((hpq q).2 hq)⟩
theorem headD_get : ∀ {L : List (List Int)} (h : 0 < L.length), L.headD [] = L[0]
 | [], h => absurd h (Nat.lt_irrefl _)
 | _ :: _, _ => rfl
theorem listsR_all {a : Tl} (h : Rdy a) : (listsR a = ([], 4)) ∨ ∃ L : List (List Int), ∃ h0 : 0 < L.length, listsR a = (L, 0) ∧ L.length ≤ 200 ∧ (∀ l, TrueL a.st a.fo l ↔ l ∈ L) ∧ SrtL L ∧ firstR a = (L[0], 0) := by
 unfold listsR firstR
 rw [if_pos h.ok, if_pos h.ok]
 by_cases hl : (tellT a.st a.fo 0 0).length > 200
 ·rw [if_pos hl]; exact .inl rfl
 ·rw [if_neg hl]
  have hne := tell_ne h.os h.of
  have hF := tellT_fst h.os h.of (Nat.zero_le a.st.length) (Nat.zero_le a.fo.length)
  refine .inr ⟨_, List.length_pos_iff.2 hne, rfl, by omega, tell_all h.os h.of (by omega), hF.srt, ?_⟩
  rw [headD_get (List.length_pos_iff.2 hne)]
theorem kind_cnt2 (k : Int) : ∀ l : List Int, 0 ≤ sumW (kindW k) l ∧ sumW (kindW k) l ≤ l.length
 | [] => by simp [sumW]
 | x :: l => by
  have := kind_cnt2 k l
  unfold sumW at *
  rw [List.map_cons, List.sum_cons, List.length_cons]
  have : kindW k x = 0 ∨ kindW k x = 1 := by unfold kindW; split <;> simp
  omega
def kgC (L : List (List Int)) (a : List Int) (i k : Nat) : Nat → Int := fun q =>
 if i = 0 ∧ k ≤ q / 2 then 0 else if q % 2 = 0 then (foW (kindW ((q / 2 : Nat) : Int)) a L (if q / 2 < k then i + 1 else i)).1 else (foW (kindW ((q / 2 : Nat) : Int)) a L (if q / 2 < k then i + 1 else i)).2
theorem kgC_ne {L : List (List Int)} {a : List Int} {i k q : Nat} (h : ¬ (i = 0 ∧ k ≤ q / 2)) : kgC L a i k q = if q % 2 = 0 then (foW (kindW ((q / 2 : Nat) : Int)) a L (if q / 2 < k then i + 1 else i)).1 else (foW (kindW ((q / 2 : Nat) : Int)) a L (if q / 2 < k then i + 1 else i)).2 := by
 unfold kgC; rw [if_neg h]
theorem kgC_next (L : List (List Int)) (a : List Int) (i : Nat) : fnC eI 10 (kgC L a i 5) = fnC eI 10 (kgC L a (i + 1) 0) := by
 unfold fnC
 refine List.map_congr_left fun q hq => ?_
 have := List.mem_range.1 hq
 rw [kgC_ne (show ¬ (i = 0 ∧ 5 ≤ q / 2) by omega), kgC_ne (show ¬ (i + 1 = 0 ∧ 0 ≤ q / 2) by omega), if_pos (show q / 2 < 5 by omega), if_neg (show ¬ q / 2 < 0 by omega)]
theorem kgC_step {L : List (List Int)} {a : List Int} {i k : Nat} {g : Nat → Int} (hi : i < L.length) (hg : ∀ q, q / 2 ≠ k → g q = kgC L a i k q) : upF (upF g (k * 2) (min (foW (kindW (k : Int)) a L i).1 (sumW (kindW (k : Int)) L[i]))) (k * 2 + 1) (max (foW (kindW (k : Int)) a L i).2 (sumW (kindW (k : Int)) L[i])) = kgC L a i (k + 1) := by
 funext q
 have hs := foW_step (kindW (k : Int)) a hi
 unfold upF
 by_cases h1 : q = k * 2 + 1
 ·rw [if_pos h1]
  have e : q / 2 = k := by omega
  rw [kgC_ne (show ¬ (i = 0 ∧ k + 1 ≤ q / 2) by omega), if_neg (show ¬ q % 2 = 0 by omega), e, if_pos (Nat.lt_succ_self k), hs]
 ·rw [if_neg h1]
  by_cases h2 : q = k * 2
  ·rw [if_pos h2]
   have e : q / 2 = k := by omega
   rw [kgC_ne (show ¬ (i = 0 ∧ k + 1 ≤ q / 2) by omega), if_pos (show q % 2 = 0 by omega), e, if_pos (Nat.lt_succ_self k), hs]
  ·rw [if_neg h2, hg q (by omega)]
   have e : (q / 2 < k) = (q / 2 < k + 1) := propext ⟨fun h => by omega, fun h => by omega⟩
   by_cases h3 : i = 0 ∧ k + 1 ≤ q / 2
   ·unfold kgC
    rw [if_pos h3, if_pos (show i = 0 ∧ k ≤ q / 2 by omega)]
   ·rw [kgC_ne h3, kgC_ne (show ¬ (i = 0 ∧ k ≤ q / 2) by omega)]
    by_cases h4 : q / 2 < k
    ·rw [if_pos h4, if_pos (show q / 2 < k + 1 by omega)]
    ·rw [if_neg h4, if_neg (show ¬ q / 2 < k + 1 by omega)]
theorem kgC_at {L : List (List Int)} {a : List Int} {i k m : Nat} (hi : i ≠ 0) (hm : m ≤ k) : kgC L a i m (k * 2) = (foW (kindW (k : Int)) a L i).1 ∧ kgC L a i m (k * 2 + 1) = (foW (kindW (k : Int)) a L i).2 := by
 rw [kgC_ne (fun h => hi h.1), kgC_ne (fun h => hi h.1), if_pos (show k * 2 % 2 = 0 by omega), if_neg (show ¬ (k * 2 + 1) % 2 = 0 by omega), show k * 2 / 2 = k by omega, show (k * 2 + 1) / 2 = k by omega, if_neg (show ¬ k < m by omega)]
 exact ⟨rfl, rfl⟩
theorem kgC_00 (L : List (List Int)) (a : List Int) : kgC L a 0 0 = fun _ => 0 := by
 funext q; unfold kgC; rw [if_pos ⟨rfl, Nat.zero_le _⟩]
def cntC (l : List Int) (j : Nat) : Nat → Int := fun q => sumW (kindW (q : Int)) (l.take j)
theorem cntC_step {l : List Int} {j kk : Nat} (h : j < l.length) (e : l[j] = (kk : Int)) : upF (cntC l j) kk (sumW (kindW (kk : Int)) (l.take j) + 1) = cntC l (j + 1) := by
 funext q
 unfold upF cntC
 rw [List.take_succ_eq_append_getElem h, sumW_app]
 by_cases hq : q = kk
 ·subst hq
  rw [if_pos rfl]
  simp [sumW, kindW, e]
 ·rw [if_neg hq]
  have : kindW (q : Int) l[j] = 0 := by unfold kindW; rw [e, if_neg (by omega)]
  simp [sumW, this]
theorem kindsR_ok2 {a : Tl} (h : Rdy a) {k : Int} (hk : 1 ≤ k ∧ k ≤ 4) : kindsR a k = (spanF (kindW k) a.st a.fo, 0) := by
 unfold kindsR
 rw [if_pos h.ok, if_pos hk]
theorem tallyAll_con (x : Tl) (r : Rt) : Con Tryd.prog 12 [.agg (tC x), .agg (rC r)] [HA.tab] (Is (.val (.bool true)) []) := by
 have RX := ready1_con x
 have RR := refRates_con r
 refine con_of Tryd.func12 rfl (enters_of Tryd.func12 (by kernel_rfl) rfl) rfl ?_; intro n w0 F0 G0
 refine zS ?_;repeat(refine yA ?_;intro p hp;refine zS ?_)
 rename_i p2 hp2
 revert p
 intro p3 hp3
 (first | (apply wl_call (alive_con); exact rfl; exact rfl) | (apply wl_callR (alive_con); exact rfl; exact zM; exact rfl))
 refine zS ?_;repeat(refine yA ?_;intro p hp;refine zS ?_)
 (first | (apply wl_call (RX); exact rfl; exact rfl) | (apply wl_callR (RX); exact rfl; exact zM; exact rfl))
 cases hx : (!(decide ((30 : Int) < x.st.length) || decide ((30 : Int) < x.fo.length)) && okT x.id x.hs x.st x.fo) with
 | false =>
  refine zS ?_;repeat(refine yA ?_;intro p hp;refine zS ?_)
  (apply res1; exact rfl; exact rfl; exact ⟨rfl, rfl⟩)
 | true =>
  refine zS ?_;repeat(refine yA ?_;intro p hp;refine zS ?_)
  (first | (apply wl_call (RR); exact rfl; exact rfl) | (apply wl_callR (RR); exact rfl; exact zM; exact rfl))
  cases hr : r.ok with
  | false =>
   refine zS ?_;repeat(refine yA ?_;intro p hp;refine zS ?_)
   (apply res1; exact rfl; exact rfl; exact ⟨rfl, rfl⟩)
  | true =>
   have hX := Rdy.of' hx
   have l1 := hX.s
   have l2 := hX.f
   have d0 := hX.dist
   have CL := listsF_con x hX.small
   have CF := firstF_con x hX.small
   have CO := owed_con x r hX.lt.1 hX.lt.2
   rw [owedR_ok hX hr] at CO
   unfold seA at CO
   dsimp only at CO
   rcases listsR_all hX with hL | ⟨L, h0, hL, hl2, hall, hsrt, hfi⟩
   ·rw [hL] at CL
    obtain ⟨fi, f1, f2⟩ := firstR_ok hX
    rw [f1] at CF
    dsimp only at CL CF
    refine zS ?_;repeat(refine yA ?_;intro p hp;refine zS ?_)
    (first | (apply wl_call (CL); exact rfl; exact rfl) | (apply wl_callR (CL); exact rfl; exact zM; exact rfl))
    refine zS ?_;repeat(refine yA ?_;intro p hp;refine zS ?_)
    (first | (apply wl_call (CF); exact rfl; exact rfl) | (apply wl_callR (CF); exact rfl; exact zM; exact rfl))
    refine zS ?_;repeat(refine yA ?_;intro p hp;refine zS ?_)
    (first | (apply wl_call (CO); exact rfl; exact rfl) | (apply wl_callR (CO); exact rfl; exact zM; exact rfl))
    refine zS ?_;repeat(refine yA ?_;intro p hp;refine zS ?_)
    (apply res1; exact rfl; exact rfl; exact ⟨rfl, rfl⟩)
   ·rw [hL] at CL
    rw [hfi] at CF
    dsimp only at CL CF
    have hsp : spanF (rateW r) x.st x.fo = foW (rateW r) L[0] L L.length := by
     have := isSpan_iff (foW_is (W := rateW r) h0) (Q := TrueL x.st x.fo) fun l => (hall l).symm
     rw [spanF_eq this]
    have hkd : ∀ k : Int, spanF (kindW k) x.st x.fo = foW (kindW k) L[0] L L.length := fun k => by
     have := isSpan_iff (foW_is (W := kindW k) h0) (Q := TrueL x.st x.fo) fun l => (hall l).symm
     rw [spanF_eq this]
    rw [hsp] at CO
    have hlen : ∀ i (h : i < L.length), L[i].length ≤ 24 := fun i h => by
     have := ((hall _).2 (List.getElem_mem h)).length_le
     omega
    have hq0 : L[0]? = some L[0] := List.getElem?_eq_getElem h0
    have hl0 := hlen 0 h0
    have S1 := sameI_con L[0] L[0] (by omega) (by omega)
    rw [decide_eq_true rfl] at S1
    have CA := apart_con x.st x.fo (by omega) (by omega)
    have SU0 := sum_con L[0] r hr (by omega)
    refine zS ?_;repeat(refine yA ?_;intro p hp;refine zS ?_)
    (first | (apply wl_call (CL); exact rfl; exact rfl) | (apply wl_callR (CL); exact rfl; exact zM; exact rfl))
    refine zS ?_;repeat(refine yA ?_;intro p hp;refine zS ?_)
    (first | (apply wl_call (CF); exact rfl; exact rfl) | (apply wl_callR (CF); exact rfl; exact zM; exact rfl))
    refine zS ?_;repeat(refine yA ?_;intro p hp;refine zS ?_)
    (first | (apply wl_call (CO); exact rfl; exact rfl) | (apply wl_callR (CO); exact rfl; exact zM; exact rfl))
    refine zS ?_;repeat(refine yA ?_;intro p hp;refine zS ?_)
    revert p
    intro p10 hp10
    rw [decide_eq_false (show ¬ (L.length : Int) = 0 by omega)]
    refine zS ?_;repeat(refine yA ?_;intro p hp;refine zS ?_)
    rw [decide_eq_false (show ¬ (200 : Int) < (L.length : Int) by omega)]
    refine zS ?_;repeat(refine yA ?_;intro p hp;refine zS ?_)
    (first | (apply wl_call (S1); exact rfl; exact rfl) | (apply wl_callR (S1); exact rfl; exact zM; exact rfl))
    refine zS ?_;repeat(refine yA ?_;intro p hp;refine zS ?_)
    (first | (apply wl_call (CA); exact rfl; exact rfl) | (apply wl_callR (CA); exact rfl; exact zM; exact rfl))
    refine zS ?_;repeat(refine yA ?_;intro p hp;refine zS ?_)
    refine W_run 12 [93, 94, 95, 96, 97, 98, 99, 100, 101, 102, 103, 13] [0, 1, 2, 3, 4, 5, 6, 7, 8, 9, 10, 11] Cut.nil rfl goFlt mixedS (by kernel_rfl) rfl ?_
    refine rpv [] [] ?_
    refine rpv [0] [] ?_
    refine rpv [1] [] ?_
    refine rpv [] [] ?_
    refine Run.pv [2, 3] [] rfl (fun vs => by apply ltr_pk; exact goPk; (refine ltr ?_; refine lt_call ?_ (SU0); exact rfl)) goApp ?_
    refine rpv [] [] ?_
    refine rpv [5] [] ?_
    refine rpv [6] [] ?_
    refine rpv [] [] ?_
    refine Run.pv [7, 8] [] rfl (fun vs => by apply ltr_pk; exact goPk; (refine ltr ?_; refine lt_call ?_ (SU0); exact rfl)) goApp ?_
    refine Run.pv [4, 9] [] rfl (fun vs => by apply ltr_pk; exact goPk; (refine ltr ?_; refine lt_call ?_ ((span_con (sumW (rateW r) L[0]) (sumW (rateW r) L[0]))); exact rfl)) goApp ?_
    refine Run.tok [] [] rfl (fun vs => by apply ltr_pk; exact goPk; exact goLtr) goApp ?_
    refine ⟨⟨by kernel_rfl, by kernel_rfl⟩, fun vs => ?_⟩
    apply WL_auto [10, 11]
    ·exact goPk
    ·exact goNrm
    ·kernel_rfl
    ·kernel_rfl
    refine zS ?_;repeat(refine yA ?_;intro p hp;refine zS ?_)
    refine zS ?_;repeat(refine yA ?_;intro p hp;refine zS ?_)
    generalize vs 11 = p13
    revert p
    intro p14 hp14
    refine W_loopJ (fun (i : Nat) => ⟨[(2, .val p2), (3, .val p3), (5, .val (.bool true)), (6, .sl 1 (slC 1 iC) L), (10, .val p10), (12, .val (.int .i64 (dist x.st x.fo : Nat))), (13, .val p13), (14, .val p14), (104, .sl 1 (slC 1 iC) L), (105, .val (.int .i64 L.length)), (106, .val (.int .i64 i))], [.box p14 (fnC eI 10 (kgC L L[0] i 0)) 118, .box p13 (pC (foW (rateW r) L[0] L i)) 68, .box p10 (pC (foW (rateW r) L[0] L L.length)) 68, .box p3 (rC r) 64, .box p2 (tC x) 24, HA.tab]⟩) (fun i => i ≤ L.length) (fun i => L.length - i) 0 (fun _ _ st => st_sub2 st zR (by rw [kgC_00]; exact zP)) (Nat.zero_le _) ?_
    intro i hi
    refine zS ?_;repeat(refine yA ?_;intro p hp;refine zS ?_)
    refine w_cond rfl (fun hlt => ?_) (fun hlt => ?_)
    ·have hlt' : i < L.length := by simpa using hlt
     have hqi : L[i]? = some L[i] := List.getElem?_eq_getElem hlt'
     have hli := hlen i hlt'
     have hT := (hall _).2 (List.getElem_mem hlt')
     have NO := notches7_con L[i] (by omega)
     rw [hT.ok hX.os hX.of] at NO
     have A1 := apart_con x.st L[i] (by omega) (by omega)
     have A2 := apart_con L[i] x.fo (by omega) (by omega)
     have hd : dist x.st L[i] + dist L[i] x.fo = dist x.st x.fo := hT
     have SUi := sum_con L[i] r hr (by omega)
     have hoN := hT.ok hX.os hX.of
     refine zS ?_;repeat(refine yA ?_;intro p hp;refine zS ?_)
     refine W_meetE (fun (_ : Unit) => ⟨[(145, .val (.bool false)), (2, .val p2), (3, .val p3), (5, .val (.bool true)), (6, .sl 1 (slC 1 iC) L), (10, .val p10), (12, .val (.int .i64 (dist x.st x.fo : Nat))), (13, .val p13), (14, .val p14), (15, .val (.int .i64 i)), (16, .sl 1 iC L[i]), (104, .sl 1 (slC 1 iC) L), (105, .val (.int .i64 L.length)), (106, .val (.int .i64 i))], [.box p14 (fnC eI 10 (kgC L L[0] i 0)) 118, .box p13 (pC (foW (rateW r) L[0] L i)) 68, .box p10 (pC (foW (rateW r) L[0] L L.length)) 68, .box p3 (rC r) 64, .box p2 (tC x) 24, HA.tab]⟩) (fun _ => True) ?_ ?_
     ·rcases Nat.eq_zero_or_pos i with hi0 | hi0
      ·subst hi0
       refine W_run 33 [111, 112, 113, 114, 115, 116, 117, 118, 119, 120, 121, 122, 123, 124, 125, 126, 127, 128, 129, 130, 131, 132, 133, 134, 135, 136, 137, 138, 139, 140, 141, 142, 143] [0, 1, 2, 3, 4, 5, 6, 7, 8, 9, 10, 11, 12, 13, 14, 15, 16, 17, 18, 19, 20, 21, 22, 23, 24, 25, 26, 27, 28, 29, 30, 31, 32] Cut.nil rfl goFlt mixedS (by kernel_rfl) rfl ?_
       refine rpv [] [] ?_
       refine rpv [0] [] ?_
       refine Run.pv [1] [] rfl (fun vs => by apply ltr_pk; exact goPk; (refine ltr ?_; apply LT_bool false; apply lt_gtr; exact rfl; exact rfl; exact decide_eq_false (by omega))) goApp ?_
       refine rpv [2] [] ?_
       refine ryv [3] ?_
       refine ryx [3, 4] (fun vs => by apply ltr_pk; exact goPk; (refine ltr ?_; refine lt_call ?_ (NO); exact rfl)) ?_
       refine ryv [3, 5] ?_
       refine rpv [3, 6] [] ?_
       refine rpv [7] [] ?_
       refine ryv [8] ?_
       refine ryv [8, 9] ?_
       refine ryv [8] ?_
       refine ryx [8, 10, 11] (fun vs => by apply ltr_pk; exact goPk; (refine ltr ?_; refine lt_call ?_ (A1); exact rfl)) ?_
       refine ryv [8] ?_
       refine ryv [8] ?_
       refine ryv [8, 14] ?_
       refine ryx [8, 13, 15] (fun vs => by apply ltr_pk; exact goPk; (refine ltr ?_; refine lt_call ?_ (A2); exact rfl)) ?_
       refine ryv [8, 12, 16] ?_
       refine ryv [8] ?_
       refine ryx [8, 17, 18] (fun vs => by apply ltr_pk; exact goPk; (refine ltr ?_; apply LT_bool false; apply lt_neq; exact rfl; exact rfl; (simp; omega))) ?_
       refine rpv [8, 19] [] ?_
       refine rpv [20] [] ?_
       refine ryv [21] ?_
       refine ryx [21, 22] (fun vs => by apply ltr_pk; exact goPk; (refine ltr ?_; apply LT_bool false; apply lt_gtr; exact rfl; exact rfl; exact rfl)) ?_
       refine ryv [21, 23] ?_
       refine rno [24] ?_
       refine rno [24] ?_
       refine rno [24, 26] ?_
       refine rno [24, 25, 27] ?_
       refine rno [24, 28] ?_
       refine rno [24] ?_
       refine rno [24, 29, 30] ?_
       refine rno [24, 31] ?_
       refine ⟨⟨by kernel_rfl, by kernel_rfl⟩, fun vs => ?_⟩
       apply WL_auto [21, 24, 32]
       ·exact goPk
       ·exact goNrm
       ·kernel_rfl
       ·kernel_rfl
       refine zS ?_;repeat(refine yA ?_;intro p hp;refine zS ?_)
       refine zS ?_;repeat(refine yA ?_;intro p hp;refine zS ?_)
       exact ⟨rfl, (), fun _ _ st => st_sub2 st zR zP, trivial⟩
      ·obtain ⟨j, rfl⟩ : ∃ j, i = j + 1 := ⟨i - 1, by omega⟩
       have hjl : j < L.length := by omega
       have hqj : L[j]? = some L[j] := List.getElem?_eq_getElem hjl
       have hlj := hlen j hjl
       have LE := less7_con L[j] L[j + 1] (by omega) (by omega)
       rw [List.pairwise_iff_getElem.1 hsrt j (j + 1) hjl hlt' (by omega)] at LE
       refine W_run 33 [111, 112, 113, 114, 115, 116, 117, 118, 119, 120, 121, 122, 123, 124, 125, 126, 127, 128, 129, 130, 131, 132, 133, 134, 135, 136, 137, 138, 139, 140, 141, 142, 143] [0, 1, 2, 3, 4, 5, 6, 7, 8, 9, 10, 11, 12, 13, 14, 15, 16, 17, 18, 19, 20, 21, 22, 23, 24, 25, 26, 27, 28, 29, 30, 31, 32] Cut.nil rfl goFlt mixedS (by kernel_rfl) rfl ?_
       refine rpv [] [] ?_
       refine rpv [0] [] ?_
       refine Run.pv [1] [] rfl (fun vs => by apply ltr_pk; exact goPk; (refine ltr ?_; apply LT_bool false; apply lt_gtr; exact rfl; exact rfl; exact decide_eq_false (by omega))) goApp ?_
       refine rpv [2] [] ?_
       refine ryv [3] ?_
       refine ryx [3, 4] (fun vs => by apply ltr_pk; exact goPk; (refine ltr ?_; refine lt_call ?_ (NO); exact rfl)) ?_
       refine ryv [3, 5] ?_
       refine rpv [3, 6] [] ?_
       refine rpv [7] [] ?_
       refine ryv [8] ?_
       refine ryv [8, 9] ?_
       refine ryv [8] ?_
       refine ryx [8, 10, 11] (fun vs => by apply ltr_pk; exact goPk; (refine ltr ?_; refine lt_call ?_ (A1); exact rfl)) ?_
       refine ryv [8] ?_
       refine ryv [8] ?_
       refine ryv [8, 14] ?_
       refine ryx [8, 13, 15] (fun vs => by apply ltr_pk; exact goPk; (refine ltr ?_; refine lt_call ?_ (A2); exact rfl)) ?_
       refine ryv [8, 12, 16] ?_
       refine ryv [8] ?_
       refine ryx [8, 17, 18] (fun vs => by apply ltr_pk; exact goPk; (refine ltr ?_; apply LT_bool false; apply lt_neq; exact rfl; exact rfl; (simp; omega))) ?_
       refine rpv [8, 19] [] ?_
       refine rpv [20] [] ?_
       refine ryv [21] ?_
       refine ryx [21, 22] (fun vs => by apply ltr_pk; exact goPk; (refine ltr ?_; apply LT_bool true; apply lt_gtr; exact rfl; exact rfl; exact decide_eq_true (by omega))) ?_
       refine ryv [21, 23] ?_
       refine ryv [24] ?_
       refine ryv [24] ?_
       refine ryx [24, 26] (fun vs => by apply ltr_pk; exact goPk; (refine ltr ?_; apply LT_int (j : Int); apply lt_sub; exact rfl; exact rfl; omega; omega; omega)) ?_
       refine ryv [24, 25, 27] ?_
       refine ryv [24, 28] ?_
       refine ryv [24] ?_
       refine ryx [24, 29, 30] (fun vs => by apply ltr_pk; exact goPk; (refine ltr ?_; refine lt_call ?_ (LE); exact rfl)) ?_
       refine ryv [24, 31] ?_
       refine ⟨⟨by kernel_rfl, by kernel_rfl⟩, fun vs => ?_⟩
       apply WL_auto [21, 24, 32]
       ·exact goPk
       ·exact goNrm
       ·kernel_rfl
       ·kernel_rfl
       refine zS ?_;repeat(refine yA ?_;intro p hp;refine zS ?_)
       refine zS ?_;repeat(refine yA ?_;intro p hp;refine zS ?_)
       exact ⟨rfl, (), fun _ _ st => st_sub2 st zR zP, trivial⟩
     ·intro _ _
      refine zS ?_;repeat(refine yA ?_;intro p hp;refine zS ?_)
      refine W_run 12 [146, 147, 148, 149, 150, 151, 152, 153, 154, 155, 156, 157] [0, 1, 2, 3, 4, 5, 6, 7, 8, 9, 10, 11] Cut.nil rfl goFlt mixedS (by kernel_rfl) rfl ?_
      refine rpv [] [] ?_
      refine rpv [0] [] ?_
      refine rpv [] [] ?_
      refine rpv [] [] ?_
      refine Run.pv [2, 3] [] rfl (fun vs => by apply ltr_pk; exact goPk; (refine ltr ?_; refine lt_call ?_ (SUi); exact rfl)) goApp ?_
      refine rpv [1, 4] [] ?_
      refine rpv [] [] ?_
      refine rpv [6] [] ?_
      refine rpv [] [] ?_
      refine rpv [] [] ?_
      refine Run.pv [8, 9] [] rfl (fun vs => by apply ltr_pk; exact goPk; (refine ltr ?_; refine lt_call ?_ (SUi); exact rfl)) goApp ?_
      refine rpv [7, 10] [] ?_
      refine ⟨⟨by kernel_rfl, by kernel_rfl⟩, fun vs => ?_⟩
      apply WL_auto [5, 11]
      ·exact goPk
      ·exact goNrm
      ·kernel_rfl
      ·kernel_rfl
      refine zS ?_;repeat(refine yA ?_;intro p hp;refine zS ?_)
      (first | (apply wl_call (span_con (min (foW (rateW r) L[0] L i).1 (sumW (rateW r) L[i])) (max (foW (rateW r) L[0] L i).2 (sumW (rateW r) L[i]))); exact rfl; exact rfl) | (apply wl_callR (span_con (min (foW (rateW r) L[0] L i).1 (sumW (rateW r) L[i])) (max (foW (rateW r) L[0] L i).2 (sumW (rateW r) L[i]))); exact rfl; exact zM; exact rfl))
      refine zS ?_;repeat(refine yA ?_;intro p hp;refine zS ?_)
      revert p
      intro p17 hp17
      have hc0 : cntC L[i] 0 = fun _ => 0 := by funext q; simp [cntC, sumW]
      refine W_loopJ (fun (j : Nat) => ⟨[(2, .val p2), (3, .val p3), (5, .val (.bool true)), (6, .sl 1 (slC 1 iC) L), (10, .val p10), (12, .val (.int .i64 (dist x.st x.fo : Nat))), (13, .val p13), (14, .val p14), (15, .val (.int .i64 i)), (16, .sl 1 iC L[i]), (17, .val p17), (104, .sl 1 (slC 1 iC) L), (105, .val (.int .i64 L.length)), (106, .val (.int .i64 i)), (159, .sl 1 iC L[i]), (160, .val (.int .i64 L[i].length)), (161, .val (.int .i64 j))], [.box p17 (fnC eI 5 (cntC L[i] j)) 120, .box p14 (fnC eI 10 (kgC L L[0] i 0)) 118, .box p13 (pC (foW (rateW r) L[0] L (i + 1))) 68, .box p10 (pC (foW (rateW r) L[0] L L.length)) 68, .box p3 (rC r) 64, .box p2 (tC x) 24, HA.tab]⟩) (fun j => j ≤ L[i].length) (fun j => L[i].length - j) 0 (fun _ _ st => st_sub2 st zR (by rw [foW_step _ _ hlt', hc0]; exact zP)) (Nat.zero_le _) ?_
      intro j hj
      refine zS ?_;repeat(refine yA ?_;intro p hp;refine zS ?_)
      refine w_cond rfl (fun hlt2 => ?_) (fun hlt2 => ?_)
      ·have hlt2' : j < L[i].length := by simpa using hlt2
       have hqz : L[i][j]? = some L[i][j] := List.getElem?_eq_getElem hlt2'
       obtain ⟨kk, hkk, hk5⟩ : ∃ kk : Nat, L[i][j] = (kk : Int) ∧ kk < 5 := by
        have := List.all_eq_true.1 hoN _ (List.getElem_mem hlt2')
        simp only [Bool.and_eq_true, decide_eq_true_eq] at this
        exact ⟨L[i][j].toNat, by omega, by omega⟩
       have hb : 0 ≤ cntC L[i] j kk ∧ cntC L[i] j kk ≤ 24 := by
        have := kind_cnt2 (kk : Int) (L[i].take j)
        rw [List.length_take] at this
        unfold cntC
        omega
       have hput : spl (fnC eI 5 (cntC L[i] j)) (kk * 1) [.val (.int .i64 (cntC L[i] j kk + 1))] = fnC eI 5 (cntC L[i] (j + 1)) := by
        rw [show [AV.val (.int .i64 (cntC L[i] j kk + 1))] = [eI (cntC L[i] j kk + 1)] from rfl, fnC_put1 hk5]
        exact congrArg _ (cntC_step hlt2' hkk)
       refine zS ?_;repeat(refine yA ?_;intro p hp;refine zS ?_)
       rw [hkk]
       refine zS ?_;repeat(refine yA ?_;intro p hp;refine zS ?_)
       (apply wl_load1; (first | exact .inl rfl | exact .inr ⟨rfl, rfl⟩); exact zM; exact fnC_at1 hk5; exact rfl)
       refine zS ?_;repeat(refine yA ?_;intro p hp;refine zS ?_)
       (apply wl_store; (first | exact .inl rfl | exact .inr ⟨rfl, rfl⟩); exact zM; exact rfl; exact inferInstance; exact inferInstance; exact inferInstance; exact rfl; (rw [fnC_len]; omega))
       rw [hput]
       refine zS ?_;repeat(refine yA ?_;intro p hp;refine zS ?_)
       (refine ⟨j + 1, fun _ _ st => st_sub2 st ?_ ?_, ?_, ?_⟩; exact zR; exact zP)
       ·exact hlt2'
       ·omega
      ·have hjj : j = L[i].length := by simp at hlt2; omega
       subst hjj
       refine zS ?_;repeat(refine yA ?_;intro p hp;refine zS ?_)
       refine W_loopJ (fun (k : Nat) => ⟨[(2, .val p2), (3, .val p3), (5, .val (.bool true)), (6, .sl 1 (slC 1 iC) L), (10, .val p10), (12, .val (.int .i64 (dist x.st x.fo : Nat))), (13, .val p13), (14, .val p14), (15, .val (.int .i64 i)), (16, .sl 1 iC L[i]), (17, .val p17), (104, .sl 1 (slC 1 iC) L), (105, .val (.int .i64 L.length)), (106, .val (.int .i64 i)), (171, .val (.int .i64 k))], [.box p17 (fnC eI 5 (cntC L[i] L[i].length)) 120, .box p14 (fnC eI 10 (kgC L L[0] i k)) 118, .box p13 (pC (foW (rateW r) L[0] L (i + 1))) 68, .box p10 (pC (foW (rateW r) L[0] L L.length)) 68, .box p3 (rC r) 64, .box p2 (tC x) 24, HA.tab]⟩) (fun k => k ≤ 5) (fun k => 5 - k) 0 (fun _ _ st => st_sub2 st zR zP) (Nat.zero_le _) ?_
       intro k hk
       have hcn : cntC L[i] L[i].length k = sumW (kindW (k : Int)) L[i] := by unfold cntC; rw [List.take_length]
       refine zS ?_;repeat(refine yA ?_;intro p hp;refine zS ?_)
       by_cases hk5 : k < 5
       ·rw [decide_eq_true (show (k : Int) < 5 by omega)]
        refine zS ?_;repeat(refine yA ?_;intro p hp;refine zS ?_)
        refine W_meetE (fun (g : Nat → Int) => ⟨[(2, .val p2), (3, .val p3), (5, .val (.bool true)), (6, .sl 1 (slC 1 iC) L), (10, .val p10), (12, .val (.int .i64 (dist x.st x.fo : Nat))), (13, .val p13), (14, .val p14), (15, .val (.int .i64 i)), (16, .sl 1 iC L[i]), (17, .val p17), (20, .val (.int .i64 k)), (104, .sl 1 (slC 1 iC) L), (105, .val (.int .i64 L.length)), (106, .val (.int .i64 i)), (171, .val (.int .i64 k))], [.box p17 (fnC eI 5 (cntC L[i] L[i].length)) 120, .box p14 (fnC eI 10 (g)) 118, .box p13 (pC (foW (rateW r) L[0] L (i + 1))) 68, .box p10 (pC (foW (rateW r) L[0] L L.length)) 68, .box p3 (rC r) 64, .box p2 (tC x) 24, HA.tab]⟩) (fun g => (∀ q, q / 2 ≠ k → g q = kgC L L[0] i k q) ∧ g (k * 2) = (foW (kindW (k : Int)) L[0] L i).1 ∧ g (k * 2 + 1) = (foW (kindW (k : Int)) L[0] L i).2) ?_ ?_
        ·by_cases hi0 : i = 0
         ·subst hi0
          have hput : spl (fnC eI 10 (kgC L L[0] 0 k)) (k * 2) [.val (.int .i64 (cntC L[0] L[0].length k)), .val (.int .i64 (cntC L[0] L[0].length k))] = fnC eI 10 (upF (upF (kgC L L[0] 0 k) (k * 2) (cntC L[0] L[0].length k)) (k * 2 + 1) (cntC L[0] L[0].length k)) := fnC_put2 (by omega)
          refine zS ?_;repeat(refine yA ?_;intro p hp;refine zS ?_)
          refine W_run 8 [176, 177, 178, 179, 180, 181, 182, 183] [0, 1, 2, 3, 4, 5, 6, 7] Cut.nil rfl goFlt mixedS (by kernel_rfl) rfl ?_
          refine rpv [] [] ?_
          refine rpv [] [] ?_
          refine rpv [1] [] ?_
          refine Run.pv [2] [] rfl (fun vs => by apply ltr_pk; exact goPk; (apply ltr_load1; (first | exact .inl rfl | exact .inr ⟨rfl, rfl⟩); exact zM; exact fnC_at1 hk5)) goApp ?_
          refine rpv [] [] ?_
          refine rpv [4] [] ?_
          refine Run.pv [5] [] rfl (fun vs => by apply ltr_pk; exact goPk; (apply ltr_load1; (first | exact .inl rfl | exact .inr ⟨rfl, rfl⟩); exact zM; exact fnC_at1 hk5)) goApp ?_
          refine Run.pv [3, 6] [] rfl (fun vs => by apply ltr_pk; exact goPk; (refine ltr ?_; refine lt_call ?_ ((span_con (cntC L[0] L[0].length k) (cntC L[0] L[0].length k))); exact rfl)) goApp ?_
          refine ⟨⟨by kernel_rfl, by kernel_rfl⟩, fun vs => ?_⟩
          apply WL_auto [0, 7]
          ·exact goPk
          ·exact goNrm
          ·kernel_rfl
          ·kernel_rfl
          refine zS ?_;repeat(refine yA ?_;intro p hp;refine zS ?_)
          refine zS ?_;repeat(refine yA ?_;intro p hp;refine zS ?_)
          (apply wl_store; (first | exact .inl rfl | exact .inr ⟨rfl, rfl⟩); exact zM; exact rfl; exact inferInstance; exact inferInstance; exact inferInstance; exact rfl; (rw [fnC_len]; omega))
          rw [hput]
          refine zS ?_;repeat(refine yA ?_;intro p hp;refine zS ?_)
          refine ⟨rfl, _, fun _ _ st => st_sub2 st zR zP, fun q hq => ?_, ?_, ?_⟩
          ·unfold upF; rw [if_neg (by omega), if_neg (by omega)]
          ·unfold upF; rw [if_neg (by omega), if_pos rfl, foW_0, hcn]
          ·unfold upF; rw [if_pos rfl, foW_0, hcn]
         ·rw [decide_eq_false (show ¬ (i : Int) = 0 by omega)]
          refine zS ?_;repeat(refine yA ?_;intro p hp;refine zS ?_)
          exact ⟨rfl, kgC L L[0] i k, fun _ _ st => st_sub2 st zR zP, fun _ _ => rfl, kgC_at hi0 (Nat.le_refl _)⟩
        ·rintro g ⟨hg1, hg2, hg3⟩
         have hcA : (fnC eI 10 g)[k * 2 + 0]? = some (.val (.int .i64 (foW (kindW (k : Int)) L[0] L i).1)) := by
          rw [Nat.add_zero, fnC_at (by omega), hg2]; rfl
         have hcB : (fnC eI 10 g)[k * 2 + 1]? = some (.val (.int .i64 (foW (kindW (k : Int)) L[0] L i).2)) := by
          rw [fnC_at (by omega), hg3]; rfl
         have hcC : (fnC eI 5 (cntC L[i] L[i].length))[k * 1]? = some (.val (.int .i64 (sumW (kindW (k : Int)) L[i]))) := by
          rw [fnC_at1 hk5, hcn]; rfl
         have hput : spl (fnC eI 10 g) (k * 2) [.val (.int .i64 (min (foW (kindW (k : Int)) L[0] L i).1 (sumW (kindW (k : Int)) L[i]))), .val (.int .i64 (max (foW (kindW (k : Int)) L[0] L i).2 (sumW (kindW (k : Int)) L[i])))] = fnC eI 10 (kgC L L[0] i (k + 1)) := by
          rw [← kgC_step hlt' hg1]
          exact fnC_put2 (by omega)
         refine W_run 18 [185, 186, 187, 188, 189, 190, 191, 192, 193, 194, 195, 196, 197, 198, 199, 200, 201, 202] [0, 1, 2, 3, 4, 5, 6, 7, 8, 9, 10, 11, 12, 13, 14, 15, 16, 17] Cut.nil rfl goFlt mixedS (by kernel_rfl) rfl ?_
         refine rpv [] [] ?_
         refine rpv [] [] ?_
         refine rpv [1] [] ?_
         refine rpv [2] [] ?_
         refine Run.pv [3] [] rfl (fun vs => by apply ltr_pk; exact goPk; (apply ltr_load1; (first | exact .inl rfl | exact .inr ⟨rfl, rfl⟩); exact zM; exact hcA)) goApp ?_
         refine rpv [] [] ?_
         refine rpv [5] [] ?_
         refine Run.pv [6] [] rfl (fun vs => by apply ltr_pk; exact goPk; (apply ltr_load1; (first | exact .inl rfl | exact .inr ⟨rfl, rfl⟩); exact zM; exact hcC)) goApp ?_
         refine rpv [4, 7] [] ?_
         refine rpv [] [] ?_
         refine rpv [9] [] ?_
         refine rpv [10] [] ?_
         refine Run.pv [11] [] rfl (fun vs => by apply ltr_pk; exact goPk; (apply ltr_load1; (first | exact .inl rfl | exact .inr ⟨rfl, rfl⟩); exact zM; exact hcB)) goApp ?_
         refine rpv [] [] ?_
         refine rpv [13] [] ?_
         refine Run.pv [14] [] rfl (fun vs => by apply ltr_pk; exact goPk; (apply ltr_load1; (first | exact .inl rfl | exact .inr ⟨rfl, rfl⟩); exact zM; exact hcC)) goApp ?_
         refine rpv [12, 15] [] ?_
         refine Run.pv [8, 16] [] rfl (fun vs => by apply ltr_pk; exact goPk; (refine ltr ?_; refine lt_call ?_ ((span_con (min (foW (kindW (k : Int)) L[0] L i).1 (sumW (kindW (k : Int)) L[i])) (max (foW (kindW (k : Int)) L[0] L i).2 (sumW (kindW (k : Int)) L[i])))); exact rfl)) goApp ?_
         refine ⟨⟨by kernel_rfl, by kernel_rfl⟩, fun vs => ?_⟩
         apply WL_auto [0, 17]
         ·exact goPk
         ·exact goNrm
         ·kernel_rfl
         ·kernel_rfl
         refine zS ?_;repeat(refine yA ?_;intro p hp;refine zS ?_)
         refine zS ?_;repeat(refine yA ?_;intro p hp;refine zS ?_)
         (apply wl_store; (first | exact .inl rfl | exact .inr ⟨rfl, rfl⟩); exact zM; exact rfl; exact inferInstance; exact inferInstance; exact inferInstance; exact rfl; (rw [fnC_len]; omega))
         rw [hput]
         refine zS ?_;repeat(refine yA ?_;intro p hp;refine zS ?_)
         (refine ⟨k + 1, fun _ _ st => st_sub2 st ?_ ?_, ?_, ?_⟩; exact zR; exact zP)
         ·exact hk5
         ·omega
       ·have hk6 : k = 5 := by omega
        subst hk6
        refine zS ?_;repeat(refine yA ?_;intro p hp;refine zS ?_)
        refine ⟨i + 1, fun _ _ st => st_sub2 st zR (by rw [← kgC_next]; exact zP), hlt', ?_⟩
        omega
    ·have hii : i = L.length := by simp at hlt; omega
     subst hii
     refine zS ?_;repeat(refine yA ?_;intro p hp;refine zS ?_)
     refine W_loopJ (fun (k : Nat) => ⟨[(2, .val p2), (5, .val (.bool true)), (10, .val p10), (13, .val p13), (14, .val p14), (21, .val (.int .i64 k))], [.box p14 (fnC eI 10 (kgC L L[0] L.length 0)) 118, .box p13 (pC (foW (rateW r) L[0] L L.length)) 68, .box p10 (pC (foW (rateW r) L[0] L L.length)) 68, .box p2 (tC x) 24, HA.tab]⟩) (fun k => 1 ≤ k ∧ k ≤ 5) (fun k => 5 - k) 1 (fun _ _ st => st_sub2 st zR zP) ⟨by decide, by decide⟩ ?_
     rintro k ⟨hk1, hk2⟩
     refine zS ?_;repeat(refine yA ?_;intro p hp;refine zS ?_)
     by_cases hk4 : k = 5
     ·subst hk4
      refine zS ?_;repeat(refine yA ?_;intro p hp;refine zS ?_)
      (apply res1; exact rfl; exact rfl; exact ⟨by simp, rfl⟩)
     ·rw [decide_eq_true (show (k : Int) ≤ 4 by omega)]
      have CK := kinds_con x (k : Int) hX.lt.1 hX.lt.2
      rw [kindsR_ok2 hX (by omega), hkd] at CK
      unfold seA at CK
      dsimp only at CK
      have hat := kgC_at (L := L) (a := L[0]) (i := L.length) (k := k) (m := 0) (by omega) (Nat.zero_le _)
      have hc2 : AV.agg (((fnC eI 10 (kgC L L[0] L.length 0)).drop (k * 2)).take 2) = AV.agg (pC (foW (kindW (k : Int)) L[0] L L.length)) := by
       rw [fnC_two (by omega), hat.1, hat.2]; rfl
      refine zS ?_;repeat(refine yA ?_;intro p hp;refine zS ?_)
      (first | (apply wl_call (CK); exact rfl; exact rfl) | (apply wl_callR (CK); exact rfl; exact zM; exact rfl))
      refine zS ?_;repeat(refine yA ?_;intro p hp;refine zS ?_)
      refine W_run 7 [216, 217, 218, 219, 220, 221, 222] [0, 1, 2, 3, 4, 5, 6] Cut.nil rfl goFlt mixedS (by kernel_rfl) rfl ?_
      refine rpv [] [] ?_
      refine rpv [0] [] ?_
      refine rpv [1] [] ?_
      refine ryv [2] ?_
      refine ryv [2] ?_
      refine ryv [2, 4] ?_
      refine ryx [2, 5] (fun vs => by apply ltr_pk; exact goPk; (apply ltr_loadAt; (first | exact .inl rfl | exact .inr ⟨rfl, rfl⟩); exact zM; (rw [fnC_len]; omega); exact hc2)) ?_
      refine ⟨⟨by kernel_rfl, by kernel_rfl⟩, fun vs => ?_⟩
      apply WL_auto [2, 3, 6]
      ·exact goPk
      ·exact goNrm
      ·kernel_rfl
      ·kernel_rfl
      refine zS ?_;repeat(refine yA ?_;intro p hp;refine zS ?_)
      simp only [decide_true, Bool.not_true]
      refine zS ?_;repeat(refine yA ?_;intro p hp;refine zS ?_)
      refine ⟨k + 1, fun _ _ st => st_sub2 st zR zP, ⟨by omega, by omega⟩, ?_⟩
      omega
end Go.Proofs.YthddoikmgpgakaaDoor.Sw
