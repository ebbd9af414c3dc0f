/- Proofs for one card: App, Frame, Reg, RegIn, Sw, SwOps, SwAny, SwOps2, SwOps3, SwR, SwF, Row, Steps, Left, Best, Comes, DoorU7, SwG, SwH, SwI, SwQ, SwL, SwB, SwS, SwM, SwX, Bk, SwN, MtA, LsB, LsD, LsG, Edits, LsK, Pa, Ota, Otb, Apt, Slt, TallyCut. No condition of its own. -/
import Derived.WalkKit
import Derived.Handy
import Derived.Deep.AppendSrc
import Derived.Test.YthddoikmgpgakaaDoorProg
import Derived.Outline
import Derived.RangeFuncNested
import Derived.Shelf.Abstract
import Derived.Deep.QuietTactic
import Derived.BigQuiet
import Derived.Deep.RegionHeld3
import Derived.WalkSmall
import Derived.Laws.EntriesVeiled
import Derived.Maps.AppendAt
import Derived.Deep.AppendLies
import Derived.Test.YthddoikmgpgakaaDoorCards
import Derived.Test.YthddoikmgpgakaaDoorTie
import Derived.ProofKit
import Derived.OpenShut
import Derived.LaidMore
import Derived.LaidOnce
import Derived.ChangeOld
import Derived.Below
import Derived.Stop.Joined
import Derived.Lib.SmallJoins
import Derived.OrdersHeld
import Derived.Deep.RegionHeld
import Derived.OrdersIn
import Derived.RangeFuncCalls
import Derived.RangeFuncLeaves
import Derived.IntWalk
import Derived.WalkSpells
import Derived.OwnWalk
import Derived.LoopNIn
import Derived.DeepKeys4
import Derived.Maps.OwnIn
import Derived.OwnWalkIn
import Derived.RangeFuncBound
import Derived.Shelf.RegionOpen
import Derived.TacticsInMore
import Derived.Sort.BigQuietIn
import Derived.LoopIn
import Derived.WalkMore
import Derived.Maps.Views
import Derived.Lib.AppendZerosOnto
import Derived.Lib.Walk
import Derived.Lib.SliceRun
import Derived.Laws.MakeOwn
import Derived.Deep.Cut
import Derived.Deep.Slices
import Derived.Lib.LazyBuf
import Derived.Scope
import Derived.Maps.RangeRun
import Derived.ArgAppend
import Derived.WideKeyEntry
import Derived.Shelf.SlSortCmp.Whole1
import Derived.Shelf.Lay
import Derived.Test.YthddoikmgpgakaaDoorNa8
set_option linter.unusedVariables false
set_option linter.unusedSimpArgs false
set_option maxRecDepth 40000
set_option maxHeartbeats 32000000
namespace Go.Proofs.YthddoikmgpgakaaDoor
open Go.RowKit Go
section
variable {P : Program} (w : World)
end
end Go.Proofs.YthddoikmgpgakaaDoor
namespace Go.Proofs.YthddoikmgpgakaaDoor
open Go Go.ChangeShapes Go.WideShapes Go.ChangeAt Go.RowKit
theorem laidOut : laidOutB Tryd.prog = true := by kernel_rfl
set_option maxRecDepth 100000 in
theorem tab_of {W : World} (h : laidMetH Tryd.prog laidL W) : Tab W := by
 obtain ⟨g, t, cs, fuel, p, hg, ht, hv, hd⟩ := h.funcs (n := "aguador/tally.checks") (List.mem_cons_self ..)
 obtain rfl := Option.some.inj ((show Tryd.prog.globalNamed "aguador/tally.checks" = some 0 by kernel_rfl).symm.trans hg)
 obtain rfl := Option.some.inj ((show (Tryd.prog.globals[0]?).map (·.type) = some 146 by kernel_rfl).symm.trans ht)
 have hd' : DataW.trod (funcToken Tryd.prog) Tryd.prog W 0 (fun _ => true) true fuel 146 cs.toList = some (.agg [.agg [.held [97, 103, 117, 97, 100, 111, 114, 47, 116, 97, 108, 108, 121, 46, 99, 104, 101, 99, 107, 115, 36, 49]], .agg [.held [97, 103, 117, 97, 100, 111, 114, 47, 116, 97, 108, 108, 121, 46, 99, 104, 101, 99, 107, 115, 36, 50]], .agg [.held [97, 103, 117, 97, 100, 111, 114, 47, 116, 97, 108, 108, 121, 46, 99, 104, 101, 99, 107, 115, 36, 51]]], p) := hd
 obtain ⟨xs, m, rfl, hx, hlen, hn, hel⟩ := DataW.trod_array Tryd.underlying146 hd'
 rw [show Tryd.prog.cellsOf 145 = 1 by kernel_rfl] at hel
 rw [show Tryd.prog.cellsOf 146 = 3 by kernel_rfl] at hlen
 obtain ⟨cl⟩ := cs
 match cl, hlen, xs, hn with
 | [v0, v1, v2], _, [x0, x1, x2], _ =>
  simp only [Prod.mk.injEq, DataW.agg.injEq, List.map_cons, List.map_nil, List.cons.injEq] at hx
  have h0 := hel 0 (by decide); have h1 := hel 1 (by decide); have h2 := hel 2 (by decide)
  simp at h0 h1 h2
  have go : ∀ (v : Value) (x : DataW (List UInt8) × List MemPlace) (b : UInt8) (r : List UInt8) (f0 : FuncId), ((List.range Tryd.prog.funcs.size).filter fun f => (Tryd.prog.funcs[f]?).any (·.name.toUTF8.data.toList == b :: r)) = [f0] →
    DataW.trod (funcToken Tryd.prog) Tryd.prog W 0 (fun _ => true) true m 145 [v] = some x → x.1 = .agg [.held (b :: r)] → v = .func (.func f0) #[] #[] := by
   intro v x b r f0 hone h hx
   obtain ⟨y, n, rfl, _, hy⟩ := trod_struct1 Tryd.underlying145 h
   simp only [DataW.agg.injEq, List.cons.injEq, and_true] at hx
   obtain ⟨y1, y2⟩ := y
   simp only at hx
   subst hx
   exact func_of_trod (P := Tryd.prog) Tryd.underlying25 hone (by simpa [show Tryd.prog.cellsOf 25 = 1 by kernel_rfl] using hy)
  have e0 := go v0 x0 _ _ 164 (by kernel_rfl) h0 hx.1.1.symm
  have e1 := go v1 x1 _ _ 165 (by kernel_rfl) h1 hx.1.2.1.symm
  have e2 := go v2 x2 _ _ 166 (by kernel_rfl) h2 hx.1.2.2.1.symm
  subst e0; subst e1; subst e2
  have c0 := World.var?_cell hg hv 0; have c1 := World.var?_cell hg hv 1; have c2 := World.var?_cell hg hv 2
  exact ⟨by simpa using c0, by simpa using c1, by simpa using c2⟩
end Go.Proofs.YthddoikmgpgakaaDoor
namespace Go.Proofs.YthddoikmgpgakaaDoor
open Go.RowKit Go
section
variable {P : Program} {ops : Array Oper} {Q : Exit → Act → World → Prop} {S : World → Prop} {held : List Nat}
end
section
variable {F : Fence} {n : Nat} {P : Program} {ops : Array Oper} {Q : Exit → Act → World → Prop} {S : World → Prop} {held : List Nat}
end
end Go.Proofs.YthddoikmgpgakaaDoor
namespace Go.Proofs.YthddoikmgpgakaaDoor.Sw
open Go.RowKit Go
section
variable {c : Cx} {s : S} {Q : Exit → S → Prop}
end
section
variable {c : Cx} {s : S} {Q : Exit → S → Prop} {ops : Array Oper} {tl : List Oper}
end
section
variable {c : Cx} {s : S} {Q : Exit → S → Prop} {ops : Array Oper} {tl : List Oper}
end
section
variable {P : Program} {rs : List (Nat × AV)} {d : Option Nat} {ty : TypeId} {pos : String} {af : Array Edge} {g : Option (Nat × Bool)}
theorem lt_leq {x y : Operand} {m n : Int} {k : IntKind} {t t' : TypeId} (hx : opv rs x = some (.val (.int k m))) (hy : opv rs y = some (.val (.int k n))) :
  LT P ⟨d, .binOp .leq t x y t', ty, pos, af, g⟩ rs [] (Is (.val (.bool (decide (m ≤ n)))) []) :=
 LT_val (fun _ e => by cases e) fun a w G hR _ => ⟨_, rfl, by
  have e1 : a.eval x = _ := opv_ok hR hx
  have e2 : a.eval y = _ := opv_ok hR hy
  simp only [execOp, e1, e2]
  first | (simp [go_sem]; done) | (simp [go_sem]; rfl)⟩
end
section
variable {c : Cx} {s : S} {Q : Exit → S → Prop} {ops : Array Oper} {tl : List Oper}
end
section
variable {c : Cx} {rs : List (Nat × AV)} {hs : List HA} {Q : Exit → S → Prop} {ops : Array Oper} {tl : List Oper} {d : Nat} {op : Op} {ty : TypeId} {pos : String} {af : Array Edge}
end
section
variable {c : Cx} {rs : List (Nat × AV)} {hs : List HA} {Q : Exit → S → Prop} {ops : Array Oper} {tl : List Oper} {d : Nat} {ty : TypeId} {pos : String} {af : Array Edge} {x y : Operand} {t tb : TypeId} {p : Value} {j : Nat} {cs : List AV} {f : HA → List HA}
end
section
variable (ops : Array Oper) (m : Nat) (sp : List Sp) (hs0 : List HA)
end
section
variable {c : Cx} {ops : Array Oper} {m : Nat} {sp : List Sp} {hs0 hsR : List HA} {rsB : List (Nat × AV)} {Q : Exit → S → Prop}
end
section
variable {P : Program} {rs : List (Nat × AV)} {hsR : List HA} {d : Option Nat} {ty : TypeId} {pos : String} {af : Array Edge} {g : Option (Nat × Bool)} {x : Operand} {t tb : TypeId} {p : Value} {j : Nat} {cs : List AV} {f : HA → List HA}
end
section
variable {P : Program} {rs : List (Nat × AV)} {d : Option Nat} {ty : TypeId} {pos : String} {af : Array Edge} {g : Option (Nat × Bool)}
end
section
variable {P : Program} {rs : List (Nat × AV)} {d : Option Nat} {ty : TypeId} {pos : String} {af : Array Edge} {g : Option (Nat × Bool)}
theorem run_make {t e : TypeId} {n : Nat} [hT : TyE P t e n] {w : World} {m : Nat} (hm : m ≤ 1000000) {z : Value} {i : TypeInfo} (hi : P.info? e = some i) (hz : i.zero = some z) :
  (Instr.makeSlice t (.int .i64 (m : Int)) (.int .i64 (m : Int))).run P w = .ok (.slice (some ⟨w.heap.size, 0, none⟩) m m) (w.alloc (.cells ((List.range (m * n)).map fun j => z.cells[j % n]!).toArray e)) := by
 obtain ⟨i', z', hi', hz', hs, hb, hzs⟩ := hT.info
 rw [hi] at hi'
 obtain rfl := Option.some.inj hi'
 rw [hz] at hz'
 obtain rfl := Option.some.inj hz'
 have hw : IntKind.i64.wrap (m : Int) = (m : Int) := IntWalk.i64_in _ (by omega)
 have hbm : (i.bytes : Int) * (m : Int) ≤ 1000 * 1000000 := Int.mul_le_mul (by omega) (by omega) (by omega) (by omega)
 have hbm2 : m * i.bytes ≤ 1000000 * 1000 := Nat.mul_le_mul hm hb
 have h1 : ¬ (281474976710656 < (i.bytes : Int) * (m : Int)) := by omega
 have h2 : ¬ (roomBytes < m * i.bytes) := by unfold roomBytes; have : 2 ^ 47 = 140737488355328 := by decide
                                             omega
 have hnn : ¬ ((m : Int) < 0) := by omega
 have hrow : ∀ cs : Array Value, (newRow e cs).run P w = .ok ⟨w.heap.size, 0, none⟩ (w.alloc (.cells cs e)) := fun cs => by simp [newRow, go_sem]
 by_cases h0 : m * n = 0
 ·simp [Instr.makeSlice, run_underlying hT.und, asInt, asIntOf, typeInfo, sizeOf, hi, hs, hw, h1, hnn, askRoom, h2, h0, hrow]
  rw [show (Array.map (fun _ : Nat => (default : Value)) (Array.range 0)) = #[] by simp]
 ·have e0 : ((Array.range (m * n)).map fun j => z.cells[j % n]!) = ((List.range (m * n)).map fun j => z.cells[j % n]!).toArray := by apply Array.ext'; simp [Array.toList_range]
  simp [Instr.makeSlice, run_underlying hT.und, asInt, asIntOf, typeInfo, sizeOf, hi, hs, hw, h1, hnn, askRoom, h2, h0, zeroValue, hz, hzs, hrow]
  rw [e0]
theorem fits_zero {G : Nat → Option Obj} {α : Type} {f : α → List AV} {x0 : α} {zs : List Value} {n : Nat} (hl : zs.length = n) (hn : 0 < n) (h : Fits G (f x0) zs) : ∀ m, Fits G ((List.replicate m x0).flatMap f) ((List.range (m * n)).map fun j => zs.toArray[j % n]!)
 | 0 => by simp [Fits]
 | m + 1 => by
  have ih := fits_zero hl hn h m
  rw [List.replicate_succ', List.flatMap_append, Nat.succ_mul, List.range_add, List.map_append]
  refine Fits.append ih ?_
  simp only [List.flatMap_cons, List.flatMap_nil, List.append_nil, List.map_map]
  have : (List.range n).map ((fun j => zs.toArray[j % n]!) ∘ fun x => m * n + x) = zs := by
   refine List.ext_getElem (by simp [hl]) fun j h1 h2 => ?_
   have hj : j < n := by simpa using h1
   simp [Nat.mul_add_mod_of_lt, Nat.add_mod, Nat.mod_eq_of_lt hj, h2]
  rw [this]; exact h
theorem lt_make {α : Type} {x y : Operand} {t e : TypeId} {n : Nat} [hT : TyE P t e n] {f : α → List AV} [hO : OneF f] [hL : LenF f n] {x0 : α} [hZ : ZeroF P e f x0] {m : Nat} {mi : Int} (hx : opv rs x = some (.val (.int .i64 mi))) (hy : opv rs y = some (.val (.int .i64 mi))) (hmi : mi = (m : Int)) (hm : m ≤ 1000000) :
  LT P ⟨d, .makeSlice t x y, ty, pos, af, g⟩ rs [] (fun x y => ∃ u, x = .val u ∧ y = [.row u e n f (List.replicate m x0)]) :=
 LT_eff (fun _ e => by cases e) fun a w G F hR hI => by
  obtain rfl := inv_nil hI
  subst hmi
  obtain ⟨z, ⟨i, hi, hz⟩, zs, hzs, hf⟩ := hZ.out
  have e1 : a.eval x = _ := opv_ok hR hx
  have e2 : a.eval y = _ := opv_ok hR hy
  have hr := run_make (P := P) (t := t) (w := w) hm hi hz
  have hzl : zs.length = n := by rw [(hf G).length, hL.out]
  rw [hzs] at hr
  have hfit := fits_zero (G := G) hzl hT.pos (hf G) m
  have hin := new_row (e := e) (n := n) hI hfit (by simpa using hm)
  rw [List.length_replicate] at hin
  refine ⟨_, _, _, _, _, G, _, ?_, .inl rfl, ⟨_, rfl, rfl⟩, fr_alloc _ _ _, hin, rfl⟩
  simp only [execOp, e1, e2, Sem.run_bind, hr]
  rfl
end
section
variable {c : Cx} {rs : List (Nat × AV)} {hs : List HA} {Q : Exit → S → Prop} {ops : Array Oper} {tl : List Oper} {d : Nat} {ty : TypeId} {pos : String} {af : Array Edge}
theorem wl_leq {x y : Operand} {m n : Int} {kd : IntKind} {t t' : TypeId} (hx : opv rs x = some (.val (.int kd m))) (hy : opv rs y = some (.val (.int kd n))) (hd : Nat.blt d c.nt = true) (k : WL c ops tl ⟨(d, .val (.bool (decide (m ≤ n)))) :: rs, hs⟩ Q) : WL c ops (⟨some d, .binOp .leq t x y t', ty, pos, af, none⟩ :: tl) ⟨rs, hs⟩ Q := wl_ex (lt_leq hx hy) hd k
theorem wl_make {α : Type} {x y : Operand} {t e : TypeId} {n : Nat} (f : α → List AV) {x0 : α} {m : Nat} {mi : Int} (hE : TyE c.P t e n) (hO : OneF f) (hL : LenF f n) (hZ : ZeroF c.P e f x0) (hx : opv rs x = some (.val (.int .i64 mi))) (hy : opv rs y = some (.val (.int .i64 mi))) (hmi : mi = (m : Int)) (hm : m ≤ 1000000) (hd : Nat.blt d c.nt = true) (k : ∀ v, WL c ops tl ⟨(d, .val v) :: rs, .row v e n f (List.replicate m x0) :: hs⟩ Q) : WL c ops (⟨some d, .makeSlice t x y, ty, pos, af, none⟩ :: tl) ⟨rs, hs⟩ Q := wl_tok (lt_make hx hy hmi hm) hd k
end
section
variable {c : Cx} {rs : List (Nat × AV)} {hs : List HA} {Q : Exit → S → Prop} {ops : Array Oper} {tl : List Oper} {d : Nat} {ty : TypeId} {pos : String} {af : Array Edge}
end
section
variable {P : Program} {rs : List (Nat × AV)} {d : Option Nat} {ty : TypeId} {pos : String} {af : Array Edge} {g : Option (Nat × Bool)}
end
section
variable {c : Cx} {rs : List (Nat × AV)} {hs : List HA} {Q : Exit → S → Prop} {ops : Array Oper} {tl : List Oper} {d : Nat} {ty : TypeId} {pos : String} {af : Array Edge}
end
section
variable {P : Program} {rs : List (Nat × AV)} {hsR : List HA} {d : Option Nat} {ty : TypeId} {pos : String} {af : Array Edge} {g : Option (Nat × Bool)}
end
section
variable {P : Program} {rs : List (Nat × AV)} {hsR : List HA} {d : Option Nat} {ty : TypeId} {pos : String} {af : Array Edge} {g : Option (Nat × Bool)}
theorem ltr_callR {k : FuncId} {xs : List Operand} {ts : Array TypeId} {avs : List AV} {av : AV} {h : HA} {f : HA → List HA} (hc : Con P k avs [h] (Is av [h])) (hx : opvs rs xs = some avs) (hat : At hsR h f) : LTr P ⟨d, .call { callee := .value (.func k), args := xs.toArray, argTypes := ts }, ty, pos, af, g⟩ rs hsR [] (Is av []) := ltr_rd (lt_call hx hc) hat
end
section
variable {c : Cx} {rs : List (Nat × AV)} {hs : List HA} {Q : Exit → S → Prop} {ops : Array Oper} {tl : List Oper} {d : Nat} {ty : TypeId} {pos : String} {af : Array Edge}
end
end Go.Proofs.YthddoikmgpgakaaDoor.Sw
namespace Go.Proofs.YthddoikmgpgakaaDoor
open Go.RowKit Go
section
variable {α : Type} {f : α → List Value} {n : Nat}
end
end Go.Proofs.YthddoikmgpgakaaDoor
namespace Go.Proofs.YthddoikmgpgakaaDoor
open Go.RowKit Go.Proofs Go.Shelf
attribute [local go_sem] Oper.semAt_some
attribute [local go_sem] Oper.semAt_some
attribute [local go_sem] eqPlace
attribute [local go_sem] Oper.semAt_some
attribute [local go_sem] Oper.semAt_some
end Go.Proofs.YthddoikmgpgakaaDoor
namespace Go.Proofs.YthddoikmgpgakaaDoor.Sw
open Go Go.RowKit Go.ChangeShapes Go.WideShapes Go.ChangeAt
theorem u8_ok {n : Int} (h : (Lit.int .u8 n).wf = true) : 0 ≤ n ∧ n ≤ 255 := by
 simp only [Lit.wf, IntKind.min, IntKind.max, IntKind.signed, IntKind.bits, Bool.and_eq_true, decide_eq_true_eq] at h
 simp at h
 omega
set_option maxRecDepth 100000
end Go.Proofs.YthddoikmgpgakaaDoor.Sw
namespace Go.Proofs.YthddoikmgpgakaaDoor.Sw
open Go.RowKit Go
section
variable {c : Cx} {rs : List (Nat × AV)} {hs : List HA} {Q : Exit → S → Prop} {g : Operand} {ps : Array Tmp} {assign body : Code} {gf : FuncId} {caps : List AV} {own r : List HA} {α β τ : Type} {f : α → τ → List AV} {t : α → τ → List HA} {xs : List α}
end
section
variable {P : Program} {rs : List (Nat × AV)} {hsR : List HA} {d : Option Nat} {ty : TypeId} {pos : String} {af : Array Edge} {g : Option (Nat × Bool)}
end
section
variable {c : Cx} {rs : List (Nat × AV)} {hs : List HA} {Q : Exit → S → Prop} {ops : Array Oper} {tl : List Oper} {d : Nat} {ty : TypeId} {pos : String} {af : Array Edge}
end
section
variable {P : Program} {rs : List (Nat × AV)} {hsR : List HA} {d : Option Nat} {ty : TypeId} {pos : String} {af : Array Edge} {g : Option (Nat × Bool)}
end
section
variable {c : Cx} {rs : List (Nat × AV)} {hs : List HA} {Q : Exit → S → Prop} {ops : Array Oper} {tl : List Oper} {d : Nat} {ty : TypeId} {pos : String} {af : Array Edge}
end
section
variable {P : Program} {rs : List (Nat × AV)} {d : Option Nat} {ty : TypeId} {pos : String} {af : Array Edge} {g : Option (Nat × Bool)}
end
section
variable {c : Cx} {rs : List (Nat × AV)} {hs : List HA} {Q : Exit → S → Prop} {ops : Array Oper} {tl : List Oper} {d : Nat} {ty : TypeId} {pos : String} {af : Array Edge}
end
section
variable {P : Program} {rs : List (Nat × AV)} {d : Option Nat} {ty : TypeId} {pos : String} {af : Array Edge} {g : Option (Nat × Bool)}
theorem lt_rem {x y : Operand} {m n : Int} {t t' : TypeId} (hx : opv rs x = some (.val (.int .i64 m))) (hy : opv rs y = some (.val (.int .i64 n))) (h0 : 0 < n) (h1 : 0 ≤ m) (h2 : m ≤ 9223372036854775807) :
  LT P ⟨d, .binOp .rem t x y t', ty, pos, af, g⟩ rs [] (Is (.val (.int .i64 (m % n))) []) :=
 LT_val (fun _ e => by cases e) fun a w G hR _ => ⟨_, rfl, by
  have e1 : a.eval x = _ := opv_ok hR hx
  have e2 : a.eval y = _ := opv_ok hR hy
  have hq : m.tmod n = m % n := Int.tmod_eq_emod_of_nonneg h1
  have hr1 : 0 ≤ m % n := Int.emod_nonneg m (by omega)
  have hr2 : m % n < n := Int.emod_lt_of_pos m h0
  have hr3 : m % n ≤ m := by
   have e := Int.emod_add_mul_ediv m n
   have p := Int.mul_nonneg (show 0 ≤ n by omega) (Int.ediv_nonneg h1 (show 0 ≤ n by omega))
   generalize n * (m / n) = q at e p
   omega
  have hz : n ≠ 0 := by omega
  simp only [execOp, e1, e2]
  simp [go_sem, hz, hq, IntWalk.i64_in (m % n) (by omega)]⟩
theorem run_conv8 {s t : TypeId} (hs : P.underlying s = some (.int .u8)) (ht : P.underlying t = some (.int .i64)) {n : Int} (h : 0 ≤ n ∧ n ≤ 255) (w : World) : (convert s t (.int .u8 n)).run P w = .ok (.int .i64 n) w := by
 simp [convert, run_underlying hs, run_underlying ht, Conv.intToInt, IntWalk.i64_in n (by omega)]
end
theorem wl_rem {c : Cx} {rs : List (Nat × AV)} {hs : List HA} {Q : Exit → S → Prop} {ops : Array Oper} {tl : List Oper} {d : Nat} {ty : TypeId} {pos : String} {af : Array Edge} {x y : Operand} {m n : Int} {t t' : TypeId} (hx : opv rs x = some (.val (.int .i64 m))) (hy : opv rs y = some (.val (.int .i64 n))) (h0 : 0 < n) (h1 : 0 ≤ m) (h2 : m ≤ 9223372036854775807) (hd : Nat.blt d c.nt = true) (k : WL c ops tl ⟨(d, .val (.int .i64 (m % n))) :: rs, hs⟩ Q) : WL c ops (⟨some d, .binOp .rem t x y t', ty, pos, af, none⟩ :: tl) ⟨rs, hs⟩ Q := wl_ex (lt_rem hx hy h0 h1 h2) hd k
section
variable {P : Program} {rs : List (Nat × AV)} {d : Option Nat} {ty : TypeId} {pos : String} {af : Array Edge} {g : Option (Nat × Bool)}
end
section
variable {c : Cx} {rs : List (Nat × AV)} {hs : List HA} {Q : Exit → S → Prop} {ops : Array Oper} {tl : List Oper} {d : Nat} {ty : TypeId} {pos : String} {af : Array Edge}
end
section
variable {P : Program} {rs : List (Nat × AV)} {d : Option Nat} {ty : TypeId} {pos : String} {af : Array Edge} {g : Option (Nat × Bool)}
end
section
variable {c : Cx} {rs : List (Nat × AV)} {hs : List HA} {Q : Exit → S → Prop} {ops : Array Oper} {tl : List Oper} {d : Nat} {ty : TypeId} {pos : String} {af : Array Edge}
end
section
variable {P : Program} {rs : List (Nat × AV)} {d : Option Nat} {ty : TypeId} {pos : String} {af : Array Edge} {g : Option (Nat × Bool)}
end
section
variable {c : Cx} {rs : List (Nat × AV)} {hs r : List HA} {Q : Exit → S → Prop} {ops : Array Oper} {tl : List Oper} {d : Nat} {ty : TypeId} {pos : String} {af : Array Edge}
end
end Go.Proofs.YthddoikmgpgakaaDoor.Sw
namespace Go.Proofs.YthddoikmgpgakaaDoor.Sw
open Go.RowKit Go
open Go.WideElems (Fit)
open Go.ChangeMaps (setBlock heap_setBlock_same heap_setBlock_other)
section
variable {κ α : Type} [DecidableEq κ]
end
section
variable {κ α : Type} (kv : κ → Value) (g : α → AV)
variable {kv g}
variable (kv g)
variable {kv g}
end
section
variable {P : Program} {κ α : Type} [DecidableEq κ] {t : TypeId} {kv : κ → Value} {ok : κ → Prop} {g : α → AV} {l : List (κ × α)} {G : Nat → Option Obj} {F : List Nat} {w : World} {v : Value}
variable {rs : List (Nat × AV)} {d : Option Nat} {ty : TypeId} {pos : String} {af : Array Edge} {gd : Option (Nat × Bool)}
end
section
variable {c : Cx} {rs : List (Nat × AV)} {hs : List HA} {Q : Exit → S → Prop} {ops : Array Oper} {tl : List Oper} {d : Nat} {ty : TypeId} {pos : String} {af : Array Edge} {κ α : Type} [DecidableEq κ] {t : TypeId} {kv : κ → Value} {ok : κ → Prop} {g : α → AV} {l : List (κ × α)} {v : Value}
end
section
variable {P : Program} {rs : List (Nat × AV)} {d : Option Nat} {ty : TypeId} {pos : String} {af : Array Edge} {gd : Option (Nat × Bool)} {κ α : Type} {t : TypeId} {kv : κ → Value} {g : α → AV} {l rest : List (κ × α)} {v it : Value}
end
section
variable {c : Cx} {rs : List (Nat × AV)} {hs r : List HA} {Q : Exit → S → Prop} {ops : Array Oper} {tl : List Oper} {d : Nat} {ty : TypeId} {pos : String} {af : Array Edge} {κ α : Type} {t : TypeId} {kv : κ → Value} {g : α → AV} {l rest : List (κ × α)} {v it : Value}
end
end Go.Proofs.YthddoikmgpgakaaDoor.Sw
namespace Go.Proofs.YthddoikmgpgakaaDoor.Sw
open Go.RowKit Go
section
variable {P : Program} {w : World}
end
section
variable {P : Program} {rs : List (Nat × AV)} {d : Option Nat} {ty : TypeId} {pos : String} {af : Array Edge} {g : Option (Nat × Bool)}
end
end Go.Proofs.YthddoikmgpgakaaDoor.Sw
namespace Go.Proofs.YthddoikmgpgakaaDoor.Sw
open Go.RowKit Go
open Go.WideElems (Fit)
open Go.ChangeMaps (setBlock heap_setBlock_same heap_setBlock_other)
section
variable {P : Program} {κ α : Type} [DecidableEq κ] {t : TypeId} {kv : κ → Value} {ok : κ → Prop} {g : α → AV} {l : List (κ × α)} {G : Nat → Option Obj} {F : List Nat} {w : World} {v : Value}
variable {rs : List (Nat × AV)} {d : Option Nat} {ty : TypeId} {pos : String} {af : Array Edge} {gd : Option (Nat × Bool)}
end
section
variable {c : Cx} {rs : List (Nat × AV)} {hs : List HA} {Q : Exit → S → Prop} {ops : Array Oper} {tl : List Oper} {d : Nat} {ty : TypeId} {pos : String} {af : Array Edge} {κ α : Type} [DecidableEq κ] {t : TypeId} {kv : κ → Value} {ok : κ → Prop} {g : α → AV} {l : List (κ × α)} {v : Value}
end
end Go.Proofs.YthddoikmgpgakaaDoor.Sw
namespace Go.Proofs.YthddoikmgpgakaaDoor.Sw
open Go.RowKit Go
section
variable {P : Program} {rs : List (Nat × AV)} {d : Option Nat} {ty : TypeId} {pos : String} {af : Array Edge} {g : Option (Nat × Bool)}
end
end Go.Proofs.YthddoikmgpgakaaDoor.Sw
namespace Go.Proofs.YthddoikmgpgakaaDoor.Sw
open Go.RowKit Go Go.Shelf Go.Proofs
section
variable {P : Program} {rs : List (Nat × AV)} {d : Option Nat} {ty : TypeId} {pos : String} {af : Array Edge} {g : Option (Nat × Bool)}
end
attribute [local go_sem] eqPlace
section
variable {P : Program} {rs : List (Nat × AV)} {d : Option Nat} {ty : TypeId} {pos : String} {af : Array Edge} {g : Option (Nat × Bool)}
end
end Go.Proofs.YthddoikmgpgakaaDoor.Sw
namespace Go.Proofs.YthddoikmgpgakaaDoor
open Go.RowKit Go.Proofs Go.Shelf
attribute [local go_sem] Oper.semAt_some
attribute [local go_sem] eqPlace
attribute [local go_sem] eqEdit
end Go.Proofs.YthddoikmgpgakaaDoor
namespace Go.Proofs.YthddoikmgpgakaaDoor.Sw
open Go.RowKit Go Go.Shelf Go.Proofs
end Go.Proofs.YthddoikmgpgakaaDoor.Sw
namespace Go.Proofs.YthddoikmgpgakaaDoor
open Go.RowKit Go.Proofs Go.Shelf
theorem dist_rev_le : ∀ a b : List Int, dist a.reverse b.reverse ≤ dist a b
 | [], b => by rw [List.reverse_nil, dist_nil, dist_nil, List.length_reverse]; exact Nat.le_refl _
 | x :: a, [] => by rw [List.reverse_nil, dist_nil', dist_nil', List.length_reverse]; exact Nat.le_refl _
 | x :: a, y :: b => by
  have h1 := dist_rev_le a b
  have h2 := dist_rev_le a (y :: b)
  have h3 := dist_rev_le (x :: a) b
  have g1 := dist_append [x] [y] a.reverse b.reverse
  have g2 := dist_append [x] [] a.reverse (y :: b).reverse
  have g3 := dist_append [] [y] (x :: a).reverse b.reverse
  have e1 := dist_both x y [] []
  rw [dist_cons]
  simp only [List.reverse_cons, dist_nil, dist_nil', List.length_cons, List.length_nil, List.append_nil] at *
  omega
termination_by a b => a.length + b.length
theorem dist_rev (a b : List Int) : dist a.reverse b.reverse = dist a b := by
 have h1 := dist_rev_le a b
 have h2 := dist_rev_le a.reverse b.reverse
 rw [List.reverse_reverse, List.reverse_reverse] at h2
 omega
theorem dist_snoc (x y : Int) (a b : List Int) : dist (a ++ [x]) (b ++ [y]) = min (dist a b + (if x = y then 0 else 1)) (min (dist a (b ++ [y]) + 1) (dist (a ++ [x]) b + 1)) := by
 rw [← dist_rev (a ++ [x]) (b ++ [y]), ← dist_rev a (b ++ [y]), ← dist_rev (a ++ [x]) b, List.reverse_append, List.reverse_append]
 simp only [List.reverse_cons, List.reverse_nil, List.nil_append, List.singleton_append]
 rw [dist_cons]
 have h0 := dist_rev a b
 rw [h0]
def apR (a b : List Int) (i : Nat) : List Int := (List.range (b.length + 1)).map fun k => (dist (a.take i) (b.take k) : Int)
def apM (a b : List Int) (i k : Nat) : List Int := (List.range (b.length + 1)).map fun j => if j ≤ k then (dist (a.take (i + 1)) (b.take j) : Int) else (dist (a.take i) (b.take j) : Int)
theorem apR_len (a b : List Int) (i : Nat) : (apR a b i).length = b.length + 1 := by simp [apR]
theorem apM_len (a b : List Int) (i k : Nat) : (apM a b i k).length = b.length + 1 := by simp [apM]
theorem apR_0 (a b : List Int) : apR a b 0 = (List.range (b.length + 1)).map fun (k : Nat) => (k : Int) := by
 unfold apR
 refine List.map_congr_left fun k hk => ?_
 have := List.mem_range.1 hk
 rw [List.take_zero, dist_nil, List.length_take, Nat.min_eq_left (by omega)]
theorem apM_at (a b : List Int) (i k j : Nat) (hj : j < b.length + 1) : (apM a b i k)[j]'(by rw [apM_len]; exact hj) = if j ≤ k then (dist (a.take (i + 1)) (b.take j) : Int) else (dist (a.take i) (b.take j) : Int) := by
 unfold apM
 simp only [List.getElem_map, List.getElem_range]
theorem apR_at (a b : List Int) (i j : Nat) (hj : j < b.length + 1) : (apR a b i)[j]'(by rw [apR_len]; exact hj) = (dist (a.take i) (b.take j) : Int) := by
 unfold apR
 simp only [List.getElem_map, List.getElem_range]
theorem apM_0 {a b : List Int} {i : Nat} (hi : i < a.length) : (apR a b i).set 0 ((i + 1 : Nat) : Int) = apM a b i 0 := by
 refine List.ext_getElem (by simp [apR, apM]) fun j h1 h2 => ?_
 have hj : j < b.length + 1 := by rw [apM_len] at h2; exact h2
 rw [List.getElem_set, apM_at a b i 0 j hj]
 by_cases e : 0 = j
 ·subst e
  rw [if_pos rfl, if_pos (Nat.le_refl _), List.take_zero, dist_nil', List.length_take, Nat.min_eq_left (by omega)]
 ·rw [if_neg e, if_neg (by omega), apR_at a b i j hj]
theorem apM_step {a b : List Int} {i k : Nat} (hi : i < a.length) (hk : k < b.length) :
  (apM a b i k).set (k + 1) (min ((dist (a.take i) (b.take k) : Int) + (if a[i] = b[k] then 0 else 1)) (min ((dist (a.take (i + 1)) (b.take k) : Int) + 1) ((dist (a.take i) (b.take (k + 1)) : Int) + 1))) = apM a b i (k + 1) := by
 refine List.ext_getElem (by simp [apM]) fun j h1 h2 => ?_
 rw [List.getElem_set]
 have hj : j < b.length + 1 := by rw [apM_len] at h2; exact h2
 rw [apM_at a b i (k + 1) j hj]
 by_cases e : k + 1 = j
 ·subst e
  rw [if_pos rfl, if_pos (Nat.le_refl _), List.take_succ_eq_append_getElem hi, List.take_succ_eq_append_getElem hk]
  have h := dist_snoc a[i] b[k] (a.take i) (b.take k)
  rw [h]
  split <;> omega
 ·rw [if_neg e, apM_at a b i k j hj]
  by_cases h : j ≤ k
  ·rw [if_pos h, if_pos (by omega)]
  ·rw [if_neg h, if_neg (by omega)]
theorem apM_end (a b : List Int) (i : Nat) : apM a b i b.length = apR a b (i + 1) := by
 unfold apM apR
 refine List.map_congr_left fun k hk => ?_
 have := List.mem_range.1 hk
 rw [if_pos (by omega)]
theorem apR_last (a b : List Int) : (apR a b a.length)[b.length]'(by rw [apR_len]; omega) = (dist a b : Int) := by
 unfold apR
 simp only [List.getElem_map, List.getElem_range, List.take_length]
end Go.Proofs.YthddoikmgpgakaaDoor
namespace Go.Proofs.YthddoikmgpgakaaDoor.Sw
open Go.RowKit Go Go.Shelf Go.Proofs
open Go.Proofs.YthddoikmgpgakaaDoor.Ma
structure Rdy (t : Tl) : Prop where
 ok : okT t.id t.hs t.st t.fo = true
 s : t.st.length ≤ 12
 f : t.fo.length ≤ 12
 os : okN t.st = true
 of : okN t.fo = true
theorem rdy_of {t : Tl} (h : okT t.id t.hs t.st t.fo = true) : Rdy t := by
 obtain ⟨a, b, c, d⟩ := okT_b h
 exact ⟨h, a, b, c, d⟩
theorem Rdy.of' {t : Tl} (h : (!(decide ((30 : Int) < t.st.length) || decide ((30 : Int) < t.fo.length)) && okT t.id t.hs t.st t.fo) = true) : Rdy t := by
 rw [Bool.and_eq_true] at h
 exact rdy_of h.2
theorem ready1_con (t : Tl) : Con Tryd.prog 67 [.agg (tC t)] [] (Is (.val (.bool (!(decide ((30 : Int) < t.st.length) || decide ((30 : Int) < t.fo.length)) && okT t.id t.hs t.st t.fo))) []) := by
 cases hg : (decide ((30 : Int) < t.st.length) || decide ((30 : Int) < t.fo.length)) with
 | true =>
  have GC := great_con t
  rw [hg] at GC
  refine con_of Tryd.func67 rfl (enters_of Tryd.func67 (by kernel_rfl) rfl) rfl ?_; intro n w0 F0 G0
  refine zS ?_;repeat(refine yA ?_;intro p hp;refine zS ?_)
  (first | (apply wl_call (GC); exact rfl; exact rfl) | (apply wl_callR (GC); exact rfl; exact zM; exact rfl))
  refine zS ?_
  (apply res1; exact rfl; exact rfl; exact ⟨rfl, rfl⟩)
 | false =>
  have h2 := hg
  simp only [Bool.or_eq_false_iff, decide_eq_false_iff_not] at h2
  have := ready_con t (by omega) (by omega)
  rwa [hg] at this
end Go.Proofs.YthddoikmgpgakaaDoor.Sw
namespace Go.Proofs.YthddoikmgpgakaaDoor
open Go.RowKit Go.Proofs Go.Shelf
theorem dist_max : ∀ a b : List Int, dist a b ≤ max a.length b.length
 | [], b => by rw [dist_nil]; exact Nat.le_max_right _ _
 | x :: a, [] => by rw [dist_nil']; exact Nat.le_max_left _ _
 | x :: a, y :: b => by
  have h1 := dist_both x y a b
  have h2 := dist_max a b
  have h3 : (if x = y then 0 else 1) ≤ 1 := by split <;> omega
  simp only [List.length_cons]
  omega
end Go.Proofs.YthddoikmgpgakaaDoor
namespace Go.Proofs.YthddoikmgpgakaaDoor.Sw
open Go.RowKit Go Go.Shelf Go.Proofs
open Go.Proofs.YthddoikmgpgakaaDoor.Ma
section
variable {P : Program} {rs : List (Nat × AV)} {d : Option Nat} {ty : TypeId} {pos : String} {af : Array Edge} {g : Option (Nat × Bool)}
theorem lt_convC {x : Operand} {u v : Value} {s t : TypeId} (hx : opv rs x = some (.val u)) (h : ∀ w, (convert s t u).run P w = .ok v w) : LT P ⟨d, .convert s t x, ty, pos, af, g⟩ rs [] (Is (.val v) []) :=
 LT_val (fun _ e => by cases e) fun a w G hR _ => ⟨_, rfl, by
  have e1 : a.eval x = _ := opv_ok hR hx
  simp only [execOp, e1, Sem.run_bind, h w, Result.andThen_ok]
  rfl⟩
end
section
variable {c : Cx} {rs : List (Nat × AV)} {hs : List HA} {Q : Exit → S → Prop} {ops : Array Oper} {tl : List Oper} {d : Nat} {ty : TypeId} {pos : String} {af : Array Edge}
theorem wl_convC {x : Operand} {u : Value} (v : Value) {s t : TypeId} (hx : opv rs x = some (.val u)) (h : ∀ w, (convert s t u).run c.P w = .ok v w) (hd : Nat.blt d c.nt = true) (k : WL c ops tl ⟨(d, .val v) :: rs, hs⟩ Q) : WL c ops (⟨some d, .convert s t x, ty, pos, af, none⟩ :: tl) ⟨rs, hs⟩ Q := wl_ex (lt_convC hx h) hd k
end
theorem falseR_ok {a : Tl} (h : Rdy a) : falseR a = ((dist a.st a.fo : Int), 0) := by unfold falseR; rw [if_pos h.ok]
theorem Rdy.dist {a : Tl} (h : Rdy a) : dist a.st a.fo ≤ 12 := by
 have := dist_max a.st a.fo
 have := h.s
 have := h.f
 omega
theorem Rdy.small {a : Tl} (h : Rdy a) : a.small := ⟨by have := h.s; omega, by have := h.f; omega⟩
theorem Rdy.lt {a : Tl} (h : Rdy a) : a.st.length ≤ 1000 ∧ a.fo.length ≤ 1000 := ⟨by have := h.s; omega, by have := h.f; omega⟩
theorem lt_min3 {P : Program} {rs : List (Nat × AV)} {d : Option Nat} {ty : TypeId} {pos : String} {af : Array Edge} {g : Option (Nat × Bool)} {x y z : Operand} {m n l : Int} {ts : Array TypeId} (hx : opv rs x = some (.val (.int .i64 m))) (hy : opv rs y = some (.val (.int .i64 n))) (hz : opv rs z = some (.val (.int .i64 l))) :
  LT P ⟨d, .call { callee := .builtin .min, args := #[x, y, z], argTypes := ts }, ty, pos, af, g⟩ rs [] (Is (.val (.int .i64 (min m (min n l)))) []) :=
 LT_val (fun _ e => by cases e) fun a w G hR hG => by
  have e1 : a.eval x = _ := opv_ok hR hx
  have e2 : a.eval y = _ := opv_ok hR hy
  have e3 : a.eval z = _ := opv_ok hR hz
  refine ⟨_, rfl, ?_⟩
  have h1 : (if n < m then n else m) = min m n := by split <;> omega
  have h2 : ∀ q : Int, (if l < q then l else q) = min q l := fun q => by split <;> omega
  have h3 : min (min m n) l = min m (min n l) := by omega
  simp [execOp, resolve, e1, e2, e3, invoke, builtin, Builtin.min_, Builtin.min2, h1, h2, h3]
theorem zeroF {α : Type} {P : Program} {e : TypeId} {f : α → List AV} {x0 : α} {n b : Nat} {z : Value} (h2 : (P.info? e).map (fun i => (i.zero, i.size, i.bytes)) = some (some z, n, b)) {zs : List Value} (h3 : z.cells = zs.toArray) (h4 : ∀ G, Fits G (f x0) zs) : ZeroF P e f x0 := by
 obtain ⟨i, hi, e1, _, _⟩ := info_parts h2
 exact ⟨z, ⟨i, hi, e1⟩, zs, h3, h4⟩
instance zeroI : ZeroF Tryd.prog 3 iC 0 := zeroF (z := .int .i64 0) (n := 1) (b := 8) (zs := [.int .i64 0]) (by kernel_rfl) rfl (fun _ => ⟨rfl, trivial⟩)
def upTo (n k : Nat) : List Int := (List.range n).map fun j => if j < k then (j : Int) else 0
theorem upTo_at (n k j : Nat) (h : j < (upTo n k).length) : (upTo n k)[j] = if j < k then (j : Int) else 0 := by
 unfold upTo at h ⊢
 simp only [List.getElem_map, List.getElem_range]
theorem upTo_step {n k : Nat} (hk : k < n) : (upTo n k).set k (k : Int) = upTo n (k + 1) := by
 refine List.ext_getElem (by simp [upTo]) fun j h1 h2 => ?_
 rw [List.getElem_set, upTo_at, upTo_at]
 split
 ·rename_i e; subst e; rw [if_pos (by omega)]
 ·split
  ·rw [if_pos (by omega)]
  ·rw [if_neg (by omega)]
theorem upTo_0 (n : Nat) : List.replicate n (0 : Int) = upTo n 0 := by
 unfold upTo
 refine List.ext_getElem (by simp) fun j h1 h2 => ?_
 simp
theorem upTo_len (n k : Nat) : (upTo n k).length = n := by simp [upTo]
theorem upTo_end (a b : List Int) : upTo (b.length + 1) (b.length + 1) = apR a b 0 := by
 rw [apR_0]
 unfold upTo
 refine List.map_congr_left fun k hk => ?_
 have := List.mem_range.1 hk
 rw [if_pos (by omega)]
theorem apart_con (a b : List Int) (h1 : a.length ≤ 1000) (h2 : b.length ≤ 1000) : Con Tryd.prog 68 [.sl 1 iC a, .sl 1 iC b] [] (Is (.val (.int .i64 (dist a b : Nat))) []) := by
 refine con_of Tryd.func68 rfl (enters_of Tryd.func68 (by kernel_rfl) rfl) rfl ?_; intro n w0 F0 G0
 refine zS ?_
 (apply wl_make iC; exact inferInstance; exact inferInstance; exact inferInstance; exact inferInstance; exact rfl; exact rfl; exact rfl; (first | omega | (simp; omega)); exact rfl)
 intro v
 refine WL_one At.here (fun hone => ?_)
 rw [upTo_0]
 refine zS ?_
 rw [upTo_len]
 refine W_loopJ (fun (k : Nat) => ⟨[(0, .sl 1 iC a), (1, .sl 1 iC b), (5, .val v), (18, .val (.int .i64 ((b.length + 1 : Nat) : Int))), (19, .val (.int .i64 k))], [.row v 3 1 iC (upTo (b.length + 1) k)]⟩) (fun k => k ≤ b.length + 1) (fun k => b.length + 1 - k) 0 (fun _ _ st => st_sub2 st zR zP) (Nat.zero_le _) ?_
 intro k hk
 refine zS ?_
 refine w_cond rfl (fun hlt => ?_) (fun hlt => ?_)
 ·have hlt' : k < b.length + 1 := by have := of_decide_eq_true hlt; omega
  have hll := upTo_len (b.length + 1) k
  have hst := upTo_step hlt'
  generalize upTo (b.length + 1) k = xs at hll hst ⊢
  refine zS ?_
  rw [hst]
  refine zS ?_
  (refine ⟨k + 1, fun _ _ st => st_sub2 st ?_ ?_, ?_, ?_⟩; exact zR; exact zP)
  ·exact hlt'
  ·omega
 ·have hkk : k = b.length + 1 := by have := of_decide_eq_false hlt; omega
  subst hkk
  rw [upTo_end a b]
  refine zS ?_
  refine W_loopJ (fun (i : Nat) => ⟨[(0, .sl 1 iC a), (1, .sl 1 iC b), (5, .val v), (27, .sl 1 iC a), (28, .val (.int .i64 a.length)), (29, .val (.int .i64 i))], [.row v 3 1 iC (apR a b i)]⟩) (fun i => i ≤ a.length) (fun i => a.length - i) 0 (fun _ _ st => st_sub2 st zR zP) (Nat.zero_le _) ?_
  intro i hi
  refine zS ?_
  refine w_cond rfl (fun hlt2 => ?_) (fun hlt2 => ?_)
  ·have hlt2' : i < a.length := by have := of_decide_eq_true hlt2; omega
   have hl1 := apR_len a b i
   have hs0 := apM_0 (a := a) (b := b) hlt2'
   have hv0 : (apR a b i)[0]? = some (dist (a.take i) (b.take 0) : Int) := by rw [List.getElem?_eq_getElem (by rw [apR_len]; omega), apR_at a b i 0 (by omega)]
   generalize apR a b i = xs at hl1 hs0 hv0 ⊢
   have hv1 : xs[0] = (dist (a.take i) (b.take 0) : Int) := by
    have := hv0
    rw [List.getElem?_eq_getElem (by omega)] at this
    exact Option.some.inj this
   refine zS ?_
   rw [show ((i : Int) + 1) = ((i + 1 : Nat) : Int) by omega, hs0, hv1]
   refine zS ?_
   refine W_loopJ (fun (k : Nat) => ⟨[(0, .sl 1 iC a), (1, .sl 1 iC b), (5, .val v), (8, .val (.int .i64 a[i])), (9, .val (.int .i64 (dist (a.take i) (b.take k) : Nat))), (27, .sl 1 iC a), (28, .val (.int .i64 a.length)), (29, .val (.int .i64 i)), (41, .sl 1 iC b), (42, .val (.int .i64 b.length)), (43, .val (.int .i64 k))], [.row v 3 1 iC (apM a b i k)]⟩) (fun k => k ≤ b.length) (fun k => b.length - k) 0 (fun _ _ st => st_sub2 st zR zP) (Nat.zero_le _) ?_
   intro k hk
   refine zS ?_
   refine w_cond rfl (fun hlt3 => ?_) (fun hlt3 => ?_)
   ·have hlt3' : k < b.length := by have := of_decide_eq_true hlt3; omega
    have hl2 := apM_len a b i k
    have hs1 := apM_step hlt2' hlt3'
    have hq1 : (apM a b i k)[k]? = some (dist (a.take (i + 1)) (b.take k) : Int) := by rw [List.getElem?_eq_getElem (by rw [apM_len]; omega), apM_at a b i k k (by omega), if_pos (Nat.le_refl _)]
    have hq2 : (apM a b i k)[k + 1]? = some (dist (a.take i) (b.take (k + 1)) : Int) := by rw [List.getElem?_eq_getElem (by rw [apM_len]; omega), apM_at a b i k (k + 1) (by omega), if_neg (by omega)]
    have hd1 := dist_le (a.take i) (b.take k)
    have hd2 := dist_le (a.take (i + 1)) (b.take k)
    have hd3 := dist_le (a.take i) (b.take (k + 1))
    simp only [List.length_take] at hd1 hd2 hd3
    generalize apM a b i k = ys at hl2 hs1 hq1 hq2 ⊢
    refine zS ?_
    have hv2 : ys[k + 1] = (dist (a.take i) (b.take (k + 1)) : Int) := by
     have := hq2
     rw [List.getElem?_eq_getElem (by omega)] at this
     exact Option.some.inj this
    refine w_cond rfl (fun hne => ?_) (fun hne => ?_)
    ·have hne' : ¬ a[i] = b[k] := by simpa using hne
     rw [if_neg hne'] at hs1
     refine zS ?_
     rw [hv2]
     refine W_run 16 [59, 60, 61, 62, 63, 64, 65, 66, 67, 68, 69, 70, 71, 72, 73, 74] [0, 1, 2, 3, 4, 5, 6, 7, 8, 9, 10, 11, 12, 13, 14, 15] Cut.nil rfl goFlt mixedS (by kernel_rfl) rfl ?_
     refine rpv [] [] ?_
     refine rpv [] [] ?_
     refine rpv [1] [] ?_
     refine rpv [] [] ?_
     refine rpv [] [] ?_
     refine rpv [] [] ?_
     refine rpv [4, 5] [] ?_
     refine rpv [6] [] ?_
     refine rpv [7] [] ?_
     refine rpv [] [] ?_
     refine rpv [] [] ?_
     refine rpv [10] [] ?_
     refine rpv [9, 11] [] ?_
     refine rpv [12] [] ?_
     refine rpv [13] [] ?_
     refine Run.pv [3, 8, 14] [] rfl (fun vs => by apply ltr_pk; exact goPk; (refine ltr ?_; apply lt_min3; exact rfl; exact rfl; exact rfl)) goApp ?_
     refine ⟨⟨by kernel_rfl, by kernel_rfl⟩, fun vs => ?_⟩
     apply WL_auto [0, 2, 15]
     ·exact goPk
     ·exact goNrm
     ·kernel_rfl
     ·kernel_rfl
     refine zS ?_
     refine zS ?_
     rw [hs1]
     (refine ⟨k + 1, fun _ _ st => st_sub2 st ?_ ?_, ?_, ?_⟩; exact zR; exact zP)
     ·exact hlt3'
     ·omega
    ·have heq' : a[i] = b[k] := by simpa using hne
     rw [if_pos heq', Int.add_zero] at hs1
     refine zS ?_
     rw [hv2]
     refine W_run 16 [59, 60, 61, 62, 63, 64, 65, 66, 67, 68, 69, 70, 71, 72, 73, 74] [0, 1, 2, 3, 4, 5, 6, 7, 8, 9, 10, 11, 12, 13, 14, 15] Cut.nil rfl goFlt mixedS (by kernel_rfl) rfl ?_
     refine rpv [] [] ?_
     refine rpv [] [] ?_
     refine rpv [1] [] ?_
     refine rpv [] [] ?_
     refine rpv [] [] ?_
     refine rpv [] [] ?_
     refine rpv [4, 5] [] ?_
     refine rpv [6] [] ?_
     refine rpv [7] [] ?_
     refine rpv [] [] ?_
     refine rpv [] [] ?_
     refine rpv [10] [] ?_
     refine rpv [9, 11] [] ?_
     refine rpv [12] [] ?_
     refine rpv [13] [] ?_
     refine Run.pv [3, 8, 14] [] rfl (fun vs => by apply ltr_pk; exact goPk; (refine ltr ?_; apply lt_min3; exact rfl; exact rfl; exact rfl)) goApp ?_
     refine ⟨⟨by kernel_rfl, by kernel_rfl⟩, fun vs => ?_⟩
     apply WL_auto [0, 2, 15]
     ·exact goPk
     ·exact goNrm
     ·kernel_rfl
     ·kernel_rfl
     refine zS ?_
     refine zS ?_
     rw [hs1]
     (refine ⟨k + 1, fun _ _ st => st_sub2 st ?_ ?_, ?_, ?_⟩; exact zR; exact zP)
     ·exact hlt3'
     ·omega
   ·have hkk : k = b.length := by have := of_decide_eq_false hlt3; omega
    subst hkk
    rw [apM_end]
    refine zS ?_
    (refine ⟨i + 1, fun _ _ st => st_sub2 st ?_ ?_, ?_, ?_⟩; exact zR; exact zP)
    ·exact hlt2'
    ·omega
  ·have hii : i = a.length := by have := of_decide_eq_false hlt2; omega
   subst hii
   have hl1 := apR_len a b a.length
   have hv0 : (apR a b a.length)[b.length]? = some (dist a b : Int) := by rw [List.getElem?_eq_getElem (by rw [apR_len]; omega), apR_last]
   generalize apR a b a.length = xs at hl1 hv0 ⊢
   have hv : xs[b.length] = (dist a b : Int) := by
    have := hv0
    rw [List.getElem?_eq_getElem (by omega)] at this
    exact Option.some.inj this
   refine zS ?_
   rw [hv]
   (apply res1; exact rfl; exact rfl; exact ⟨rfl, rfl⟩)
end Go.Proofs.YthddoikmgpgakaaDoor.Sw
namespace Go.Proofs.YthddoikmgpgakaaDoor.Sw
open Go.RowKit Go
section
variable {P : Program} {rs : List (Nat × AV)} {d : Option Nat} {ty : TypeId} {pos : String} {af : Array Edge} {g : Option (Nat × Bool)}
theorem lt_slTo {α : Type} {f : α → List AV} {xs : List α} {x y : Operand} {t e : TypeId} {n : Nat} [hE : TyE P t e n] {h : Nat} (hx : opv rs x = some (.sl n f xs)) (hy : opv rs y = some (.val (.int .i64 (h : Int)))) (h2 : h ≤ xs.length) : LT P ⟨d, .slice t x none (some y) none, ty, pos, af, g⟩ rs [] (Is (.sl n f (xs.take h)) []) := by
 have := lt_slice (P := P) (rs := rs) (d := d) (ty := ty) (pos := pos) (af := af) (g := g) (t := t) (e := e) (l := 0) (h := h) (li := 0) hx (.inr ⟨rfl, rfl⟩) rfl (.inl (by rw [Option.map_some, hy])) rfl (Nat.zero_le _) h2
 rwa [List.drop_zero] at this
theorem lt_slFrom {α : Type} {f : α → List AV} {xs : List α} {x y : Operand} {t e : TypeId} {n : Nat} [hE : TyE P t e n] {l : Nat} (hx : opv rs x = some (.sl n f xs)) (hy : opv rs y = some (.val (.int .i64 (l : Int)))) (h2 : l ≤ xs.length) : LT P ⟨d, .slice t x (some y) none none, ty, pos, af, g⟩ rs [] (Is (.sl n f (xs.drop l)) []) := by
 have := lt_slice (P := P) (rs := rs) (d := d) (ty := ty) (pos := pos) (af := af) (g := g) (t := t) (e := e) (l := l) (h := xs.length) (hi' := (xs.length : Int)) hx (.inl (by rw [Option.map_some, hy])) rfl (.inr ⟨rfl, rfl⟩) rfl h2 (Nat.le_refl _)
 rwa [List.take_length] at this
end
end Go.Proofs.YthddoikmgpgakaaDoor.Sw
namespace Go.Proofs.YthddoikmgpgakaaDoor.Sw
open Go.RowKit Go Go.Shelf Go.Proofs
open Go.Proofs.YthddoikmgpgakaaDoor.Ma
theorem cut_is (st fo : List Int) {n : Nat} (h : n ≤ st.length) : ∃ k, IsCut st fo n k := by
 obtain ⟨j, hj, hc⟩ := cut_ex st fo n h
 obtain ⟨m, ⟨hm1, hm2⟩, hm3⟩ := exists_min (p := fun j => j ≤ fo.length ∧ cutSum st fo n j ≤ dist st fo) j ⟨hj, hc⟩
 refine ⟨m, hm1, by have := cut_ge st fo n m; omega, fun i hi => ?_⟩
 rcases Nat.lt_or_ge (dist st fo) (cutSum st fo n i) with h | h
 ·exact h
 ·exact absurd (hm3 i ⟨by omega, h⟩) (by omega)
theorem whereR_ok {a : Tl} (h : Rdy a) {n k : Nat} (hn : n ≤ a.st.length) (hk : IsCut a.st a.fo n k) : whereR a n = ((k : Int), 0) := whereR_eq (.inr (.inr ⟨h.ok, n, k, rfl, hn, hk, rfl⟩))
theorem okN_take {a : List Int} (h : okN a = true) (n : Nat) : okN (a.take n) = true := List.all_eq_true.2 fun x hx => List.all_eq_true.1 h x (List.mem_of_mem_take hx)
theorem okN_drop {a : List Int} (h : okN a = true) (n : Nat) : okN (a.drop n) = true := List.all_eq_true.2 fun x hx => List.all_eq_true.1 h x (List.mem_of_mem_drop hx)
theorem splitR_ok {a : Tl} (h : Rdy a) {n k : Nat} (hn : n ≤ a.st.length) (hk : k ≤ a.fo.length) : splitF a n k = (⟨a.id, a.hs, a.st.take n, a.fo.take k⟩, ⟨a.id, a.hs, a.st.drop n, a.fo.drop k⟩, 0) := by
 have h1 : a.ok = true := h.ok
 unfold splitF
 rw [if_pos h1, if_pos (by omega)]
 rfl
theorem Rdy.sub {a : Tl} (h : Rdy a) {s f : List Int} (h1 : s.length ≤ 12) (h2 : f.length ≤ 12) (h3 : okN s = true) (h4 : okN f = true) : Rdy ⟨a.id, a.hs, s, f⟩ := by
 refine rdy_of ?_
 have hk := h.ok
 unfold okT at hk ⊢
 simp only [Bool.and_eq_true, decide_eq_true_eq] at hk ⊢
 exact ⟨⟨⟨⟨hk.1.1.1.1, h1⟩, h2⟩, h3⟩, h4⟩
theorem firstR_ok {a : Tl} (h : Rdy a) : ∃ l, firstR a = (l, 0) ∧ TrueL a.st a.fo l := by
 unfold firstR
 rw [if_pos h.ok]
 have hne := tell_ne h.os h.of
 have hF := tellT_fst h.os h.of (Nat.zero_le a.st.length) (Nat.zero_le a.fo.length)
 rw [List.drop_zero, List.drop_zero] at hF
 cases e : tellT a.st a.fo 0 0 with
 | nil => exact absurd e hne
 | cons l t => exact ⟨l, rfl, hF.sub l (by rw [e]; simp)⟩
theorem joinR_ok {x y : Tl} (hx : Rdy x) (hy : Rdy y) (h1 : (x.st ++ y.st).length ≤ 12) (h2 : (x.fo ++ y.fo).length ≤ 12) (h3 : okN (x.st ++ y.st) = true) (h4 : okN (x.fo ++ y.fo) = true) : joinF x y = (⟨x.id, x.hs, x.st ++ y.st, x.fo ++ y.fo⟩, 0) := by
 have e1 : x.ok = true := hx.ok
 have e2 : y.ok = true := hy.ok
 have e3 : (x.cat y).ok = true := (hx.sub h1 h2 h3 h4).ok
 unfold joinF
 rw [e1, e2, if_pos (show (true && true) = true from rfl), if_pos e3]; rfl
theorem isR_ok {a : Tl} (h : Rdy a) (l : List Int) : isR a l = (okN l && decide (dist a.st l + dist l a.fo = dist a.st a.fo), 0) := by
 unfold isR
 rw [if_pos h.ok]; rfl
theorem isR_true {a : Tl} (h : Rdy a) {l : List Int} (hl : TrueL a.st a.fo l) : isR a l = (true, 0) := by
 rw [isR_ok h, hl.ok h.os h.of, decide_eq_true (show dist a.st l + dist l a.fo = dist a.st a.fo from hl)]; rfl
theorem tallyCut_con (x : Tl) (which : Int) (h1 : 0 ≤ which ∧ which ≤ 255) : Con Tryd.prog 14 [.agg (tC x), .val (.int .u8 which)] [HA.tab] (Is (.val (.bool true)) []) := by
 have RX := ready1_con x
 have c1 := fun w => run_conv8 (P := Tryd.prog) Tryd.underlying5 Tryd.underlying3 h1 w
 refine con_of Tryd.func14 rfl (enters_of Tryd.func14 (by kernel_rfl) rfl) rfl ?_; intro n w0 F0 G0
 refine zS ?_;repeat(refine yA ?_;intro p hp;refine zS ?_)
 revert p
 intro p2 hp2
 (first | (apply wl_call (alive_con); exact rfl; exact rfl) | (apply wl_callR (alive_con); exact rfl; exact zM; exact rfl))
 refine zS ?_;repeat(refine yA ?_;intro p hp;refine zS ?_)
 (first | (apply wl_call (RX); exact rfl; exact rfl) | (apply wl_callR (RX); exact rfl; exact zM; exact rfl))
 cases hx : (!(decide ((30 : Int) < x.st.length) || decide ((30 : Int) < x.fo.length)) && okT x.id x.hs x.st x.fo) with
 | false =>
  refine zS ?_;repeat(refine yA ?_;intro p hp;refine zS ?_)
  (apply res1; exact rfl; exact rfl; exact ⟨rfl, rfl⟩)
 | true =>
  have hX := Rdy.of' hx
  have l1 := hX.s
  have l2 := hX.f
  obtain ⟨k, hke, hk⟩ : ∃ k : Nat, which % ((x.st.length : Int) + 1) = k ∧ k ≤ x.st.length := by
   have a := Int.emod_nonneg which (show (x.st.length : Int) + 1 ≠ 0 by omega)
   have b := Int.emod_lt_of_pos which (show 0 < (x.st.length : Int) + 1 by omega)
   exact ⟨(which % ((x.st.length : Int) + 1)).toNat, by omega, by omega⟩
  obtain ⟨j, hcut⟩ := cut_is x.st x.fo hk
  have hj := hcut.1
  have hA : Rdy ⟨x.id, x.hs, x.st.take k, x.fo.take j⟩ := hX.sub (by rw [List.length_take]; omega) (by rw [List.length_take]; omega) (okN_take hX.os k) (okN_take hX.of j)
  have hB : Rdy ⟨x.id, x.hs, x.st.drop k, x.fo.drop j⟩ := hX.sub (by rw [List.length_drop]; omega) (by rw [List.length_drop]; omega) (okN_drop hX.os k) (okN_drop hX.of j)
  have RA := ready1_con ⟨x.id, x.hs, x.st.take k, x.fo.take j⟩
  have RB := ready1_con ⟨x.id, x.hs, x.st.drop k, x.fo.drop j⟩
  have CW := whereP_con x (k : Int) hX.lt.1 hX.lt.2
  rw [whereR_ok hX hk hcut] at CW
  have CS := splitP_con x (k : Int) (j : Int) hX.lt
  rw [splitR_ok hX hk hj] at CS
  have CF := falseP_con x hX.lt.1 hX.lt.2
  rw [falseR_ok hX] at CF
  have CA := falseP_con _ hA.lt.1 hA.lt.2
  rw [falseR_ok hA] at CA
  have CB := falseP_con _ hB.lt.1 hB.lt.2
  rw [falseR_ok hB] at CB
  have FA := firstF_con _ hA.small
  have FB := firstF_con _ hB.small
  obtain ⟨one, e1, t1⟩ := firstR_ok hA
  obtain ⟨two, e2, t2⟩ := firstR_ok hB
  rw [e1] at FA
  rw [e2] at FB
  dsimp only at CW CS CF CA CB FA FB RA RB t1 t2
  have n1 := t1.length_le
  have n2 := t2.length_le
  rw [List.length_take, List.length_take] at n1
  rw [List.length_drop, List.length_drop] at n2
  have hsum : dist (x.st.take k) (x.fo.take j) + dist (x.st.drop k) (x.fo.drop j) = dist x.st x.fo := hcut.2.1
  have ht : TrueL x.st x.fo (one ++ two) := by
   have := t1.app t2 (by rw [List.take_append_drop, List.take_append_drop]; exact hsum.symm)
   rwa [List.take_append_drop, List.take_append_drop] at this
  have CI := isP_con x (([] ++ one) ++ two) hX.lt.1 hX.lt.2 (by rw [List.length_append, List.nil_append]; omega)
  rw [isR_true hX (l := ([] ++ one) ++ two) ht] at CI
  have CJ := joinP_con _ _ hA.small hB.small
  rw [joinR_ok hA hB (by dsimp only; rw [List.take_append_drop]; exact l1) (by dsimp only; rw [List.take_append_drop]; exact l2) (by dsimp only; rw [List.take_append_drop]; exact hX.os) (by dsimp only; rw [List.take_append_drop]; exact hX.of)] at CJ
  dsimp only at CJ CI
  rw [List.take_append_drop, List.take_append_drop] at CJ
  have d0 := hX.dist
  have d1 := hA.dist
  have d2 := hB.dist
  dsimp only at d1 d2
  have hmin := hcut.2.2
  have SX := same_con x x hX.lt.1 hX.lt.2
  rw [sameTl_self] at SX
  have rA : (!(decide ((30 : Int) < ((x.st.take k).length : Nat)) || decide ((30 : Int) < ((x.fo.take j).length : Nat))) && okT x.id x.hs (x.st.take k) (x.fo.take j)) = true := by
   have a1 := hA.s
   have a2 := hA.f
   dsimp only at a1 a2
   rw [show okT x.id x.hs (x.st.take k) (x.fo.take j) = true from hA.ok, decide_eq_false (by omega), decide_eq_false (by omega)]; rfl
  have rB : (!(decide ((30 : Int) < ((x.st.drop k).length : Nat)) || decide ((30 : Int) < ((x.fo.drop j).length : Nat))) && okT x.id x.hs (x.st.drop k) (x.fo.drop j)) = true := by
   have a1 := hB.s
   have a2 := hB.f
   dsimp only at a1 a2
   rw [show okT x.id x.hs (x.st.drop k) (x.fo.drop j) = true from hB.ok, decide_eq_false (by omega), decide_eq_false (by omega)]; rfl
  rw [rA] at RA
  rw [rB] at RB
  refine zS ?_;repeat(refine yA ?_;intro p hp;refine zS ?_)
  (apply wl_convC (.int .i64 which); exact rfl; exact c1; exact rfl)
  refine zS ?_;repeat(refine yA ?_;intro p hp;refine zS ?_)
  (apply wl_rem; exact rfl; exact rfl; omega; omega; omega; exact rfl)
  rw [hke]
  refine zS ?_;repeat(refine yA ?_;intro p hp;refine zS ?_)
  (first | (apply wl_call (CW); exact rfl; exact rfl) | (apply wl_callR (CW); exact rfl; exact zM; exact rfl))
  refine zS ?_;repeat(refine yA ?_;intro p hp;refine zS ?_)
  (first | (apply wl_call (CS); exact rfl; exact rfl) | (apply wl_callR (CS); exact rfl; exact zM; exact rfl))
  refine zS ?_;repeat(refine yA ?_;intro p hp;refine zS ?_)
  rename_i p9 hp9
  revert p
  intro p10 hp10
  (first | (apply wl_call (CF); exact rfl; exact rfl) | (apply wl_callR (CF); exact rfl; exact zM; exact rfl))
  refine zS ?_;repeat(refine yA ?_;intro p hp;refine zS ?_)
  rw [decide_eq_false (show ¬ (j : Int) < 0 by omega)]
  refine zS ?_;repeat(refine yA ?_;intro p hp;refine zS ?_)
  rw [decide_eq_false (show ¬ (x.fo.length : Int) < (j : Int) by omega)]
  refine zS ?_;repeat(refine yA ?_;intro p hp;refine zS ?_)
  (first | (apply wl_call (RA); exact rfl; exact rfl) | (apply wl_callR (RA); exact rfl; exact zM; exact rfl))
  refine zS ?_;repeat(refine yA ?_;intro p hp;refine zS ?_)
  (first | (apply wl_call (RB); exact rfl; exact rfl) | (apply wl_callR (RB); exact rfl; exact zM; exact rfl))
  refine zS ?_;repeat(refine yA ?_;intro p hp;refine zS ?_)
  (first | (apply wl_call (CA); exact rfl; exact rfl) | (apply wl_callR (CA); exact rfl; exact zM; exact rfl))
  refine zS ?_;repeat(refine yA ?_;intro p hp;refine zS ?_)
  (first | (apply wl_call (CB); exact rfl; exact rfl) | (apply wl_callR (CB); exact rfl; exact zM; exact rfl))
  refine zS ?_;repeat(refine yA ?_;intro p hp;refine zS ?_)
  rw [decide_eq_false (show ¬ ((dist (x.st.take k) (x.fo.take j) : Nat) : Int) < 0 by omega)]
  refine zS ?_;repeat(refine yA ?_;intro p hp;refine zS ?_)
  rw [decide_eq_false (show ¬ ((dist (x.st.drop k) (x.fo.drop j) : Nat) : Int) < 0 by omega)]
  refine zS ?_;repeat(refine yA ?_;intro p hp;refine zS ?_)
  rw [decide_eq_false (show ¬ (12 : Int) < ((dist (x.st.take k) (x.fo.take j) : Nat) : Int) by omega)]
  refine zS ?_;repeat(refine yA ?_;intro p hp;refine zS ?_)
  rw [decide_eq_false (show ¬ (12 : Int) < ((dist (x.st.drop k) (x.fo.drop j) : Nat) : Int) by omega)]
  refine zS ?_;repeat(refine yA ?_;intro p hp;refine zS ?_)
  rw [decide_eq_true (show ((dist (x.st.take k) (x.fo.take j) : Nat) : Int) + ((dist (x.st.drop k) (x.fo.drop j) : Nat) : Int) = ((dist x.st x.fo : Nat) : Int) by omega)]
  refine zS ?_;repeat(refine yA ?_;intro p hp;refine zS ?_)
  refine W_loopJ (fun (m : Nat) => ⟨[(2, .val p2), (5, .val (.bool true)), (6, .val (.int .i64 k)), (9, .val p9), (10, .val p10), (12, .val (.int .i64 (dist x.st x.fo : Nat))), (130, .val (.int .i64 j)), (131, .val (.int .i64 m))], [.box p10 (tC ⟨x.id, x.hs, x.st.drop k, x.fo.drop j⟩) 24, .box p9 (tC ⟨x.id, x.hs, x.st.take k, x.fo.take j⟩) 24, .box p2 (tC x) 24, HA.tab]⟩) (fun m => m ≤ j) (fun m => j - m) 0 (fun _ _ st => st_sub2 st zR zP) (Nat.zero_le _) ?_
  intro m hm
  refine zS ?_;repeat(refine yA ?_;intro p hp;refine zS ?_)
  refine w_cond rfl (fun hlt => ?_) (fun hlt => ?_)
  ·have hlt' : m < j := by have := of_decide_eq_true hlt; omega
   have hmn := hmin m hlt'
   unfold cutSum dd at hmn
   have A1 := apart_con (x.st.take k) (x.fo.take m) (by rw [List.length_take]; omega) (by rw [List.length_take]; omega)
   have A2 := apart_con (x.st.drop k) (x.fo.drop m) (by rw [List.length_drop]; omega) (by rw [List.length_drop]; omega)
   have b1 := dist_le (x.st.take k) (x.fo.take m)
   have b2 := dist_le (x.st.drop k) (x.fo.drop m)
   rw [List.length_take, List.length_take] at b1
   rw [List.length_drop, List.length_drop] at b2
   refine zS ?_;repeat(refine yA ?_;intro p hp;refine zS ?_)
   refine W_run 20 [134, 135, 136, 137, 138, 139, 140, 141, 142, 143, 144, 145, 146, 147, 148, 149, 150, 151, 152, 153] [0, 1, 2, 3, 4, 5, 6, 7, 8, 9, 10, 11, 12, 13, 14, 15, 16, 17, 18, 19] Cut.nil rfl goFlt mixedS (by kernel_rfl) rfl ?_
   refine rpv [] [] ?_
   refine rpv [0] [] ?_
   refine rpv [] [] ?_
   refine Run.pv [1, 2] [] rfl (fun vs => by apply ltr_pk; exact goPk; (refine ltr ?_; apply lt_slTo (h := k); exact rfl; exact rfl; omega)) goApp ?_
   refine rpv [] [] ?_
   refine rpv [4] [] ?_
   refine rpv [] [] ?_
   refine Run.pv [5, 6] [] rfl (fun vs => by apply ltr_pk; exact goPk; (refine ltr ?_; apply lt_slTo (h := m); exact rfl; exact rfl; omega)) goApp ?_
   refine Run.pv [3, 7] [] rfl (fun vs => by apply ltr_pk; exact goPk; (refine ltr ?_; refine lt_call ?_ (A1); exact rfl)) goApp ?_
   refine rpv [] [] ?_
   refine rpv [9] [] ?_
   refine rpv [] [] ?_
   refine Run.pv [10, 11] [] rfl (fun vs => by apply ltr_pk; exact goPk; (refine ltr ?_; apply lt_slFrom (l := k); exact rfl; exact rfl; omega)) goApp ?_
   refine rpv [] [] ?_
   refine rpv [13] [] ?_
   refine rpv [] [] ?_
   refine Run.pv [14, 15] [] rfl (fun vs => by apply ltr_pk; exact goPk; (refine ltr ?_; apply lt_slFrom (l := m); exact rfl; exact rfl; omega)) goApp ?_
   refine Run.pv [12, 16] [] rfl (fun vs => by apply ltr_pk; exact goPk; (refine ltr ?_; refine lt_call ?_ (A2); exact rfl)) goApp ?_
   refine rpv [8, 17] [] ?_
   refine rpv [] [] ?_
   refine ⟨⟨by kernel_rfl, by kernel_rfl⟩, fun vs => ?_⟩
   apply WL_auto [18, 19]
   ·exact goPk
   ·exact goNrm
   ·kernel_rfl
   ·kernel_rfl
   refine zS ?_;repeat(refine yA ?_;intro p hp;refine zS ?_)
   refine zS ?_;repeat(refine yA ?_;intro p hp;refine zS ?_)
   rw [decide_eq_false (show ¬ ((dist (x.st.take k) (x.fo.take m) : Nat) : Int) + ((dist (x.st.drop k) (x.fo.drop m) : Nat) : Int) ≤ ((dist x.st x.fo : Nat) : Int) by omega)]
   refine zS ?_;repeat(refine yA ?_;intro p hp;refine zS ?_)
   (refine ⟨m + 1, fun _ _ st => st_sub2 st ?_ ?_, ?_, ?_⟩; exact zR; exact zP)
   ·exact hlt'
   ·omega
  ·refine zS ?_;repeat(refine yA ?_;intro p hp;refine zS ?_)
   (first | (apply wl_call (FA); exact rfl; exact rfl) | (apply wl_callR (FA); exact rfl; exact zM; exact rfl))
   refine zS ?_;repeat(refine yA ?_;intro p hp;refine zS ?_)
   (first | (apply wl_call (FB); exact rfl; exact rfl) | (apply wl_callR (FB); exact rfl; exact zM; exact rfl))
   refine zS ?_;repeat(refine yA ?_;intro p hp;refine zS ?_)
   rw [decide_eq_false (show ¬ (24 : Int) < (one.length : Int) by omega)]
   refine zS ?_;repeat(refine yA ?_;intro p hp;refine zS ?_)
   rw [decide_eq_false (show ¬ (24 : Int) < (two.length : Int) by omega)]
   refine zS ?_;repeat(refine yA ?_;intro p hp;refine zS ?_)
   refine W_run 11 [183, 184, 185, 186, 187, 188, 189, 182, 190, 191, 21] [0, 2, 4, 5, 6, 7, 8, 9, 10] Cut.nil rfl goFlt mixedS (by kernel_rfl) rfl ?_
   refine rpv [] [] ?_
   refine Run.tok [] [] rfl (fun vs => by apply ltr_pk; exact goPk; (refine ltr ?_; apply lt_lit (f := iC); exact zE; exact rfl; (first | exact (of_decide_eq_true rfl) | decide | (simp; done) | (simp; omega)))) goApp ?_
   refine rpv [] [] ?_
   refine Run.tok [1, 2] [1] rfl (fun vs => by apply ltr_pk; exact goPk; (refine ltr ?_; apply lt_append; exact rfl; exact rfl; (first | omega | (simp; omega)))) goApp ?_
   refine rpv [] [] ?_
   refine Run.pv [3, 4] [3] rfl (fun vs => by apply ltr_pk; exact goPk; (refine ltr ?_; apply LT_frz; apply lt_append; exact rfl; exact rfl; (first | omega | (simp; omega)))) goApp ?_
   refine Run.pv [0, 5] [] rfl (fun vs => by apply ltr_pk; exact goPk; (apply ltr_callR ((CI)); exact rfl; exact zM)) goApp ?_
   refine rpv [6] [] ?_
   refine rpv [7] [] ?_
   refine rpv [7] [] ?_
   refine rpv [8] [] ?_
   refine ⟨⟨by kernel_rfl, by kernel_rfl⟩, fun vs => ?_⟩
   apply WL_auto [9, 10]
   ·exact goPk
   ·exact goNrm
   ·kernel_rfl
   ·kernel_rfl
   refine zS ?_;repeat(refine yA ?_;intro p hp;refine zS ?_)
   refine zS ?_;repeat(refine yA ?_;intro p hp;refine zS ?_)
   (first | (apply wl_call (CJ); exact rfl; exact rfl) | (apply wl_callR (CJ); exact rfl; exact zM; exact rfl))
   refine zS ?_;repeat(refine yA ?_;intro p hp;refine zS ?_)
   (first | (apply wl_call (SX); exact rfl; exact rfl) | (apply wl_callR (SX); exact rfl; exact zM; exact rfl))
   refine zS ?_;repeat(refine yA ?_;intro p hp;refine zS ?_)
   (apply res1; exact rfl; exact rfl; exact ⟨rfl, rfl⟩)
end Go.Proofs.YthddoikmgpgakaaDoor.Sw
