/- Proofs for one card: App, Frame, Reg, RegIn, Sw, SwOps, Fst, SwAny, SwOps2, SwOps3, SwR, Ty, SwF, Row, Steps, Left, Best, Comes, DoorU7, SwG, SwH, SwI, SwQ, SwL, SwB, SwS, SwM, SwX, Bk, Mats, SwN, MtA, LsB, LsD, LsG, Edits, LsK, Pa, Pm, Ota, Otb, Apt, Slt, TallyCut, Ots, Pq, Fnc, TallyMatch. No condition of its own. -/
import Derived.WalkKit
import Derived.Handy
import Derived.Deep.AppendSrc
import Derived.Test.YthddoikmgpgakaaDoorProg
import Derived.Outline
import Derived.RangeFuncNested
import Derived.Shelf.Abstract
import Derived.Deep.QuietTactic
import Derived.BigQuiet
import Derived.Deep.RegionHeld3
import Derived.WalkSmall
import Derived.Laws.EntriesVeiled
import Derived.Maps.AppendAt
import Derived.Deep.AppendLies
import Derived.Test.YthddoikmgpgakaaDoorCards
import Derived.Test.YthddoikmgpgakaaDoorTie
import Derived.ProofKit
import Derived.OpenShut
import Derived.LaidMore
import Derived.LaidOnce
import Derived.ChangeOld
import Derived.Below
import Derived.Stop.Joined
import Derived.Lib.SmallJoins
import Derived.OrdersHeld
import Derived.Deep.RegionHeld
import Derived.OrdersIn
import Derived.RangeFuncCalls
import Derived.RangeFuncLeaves
import Derived.IntWalk
import Derived.WalkSpells
import Derived.OwnWalk
import Derived.LoopNIn
import Derived.DeepKeys4
import Derived.Maps.OwnIn
import Derived.OwnWalkIn
import Derived.RangeFuncBound
import Derived.Shelf.RegionOpen
import Derived.TacticsInMore
import Derived.Sort.BigQuietIn
import Derived.LoopIn
import Derived.WalkMore
import Derived.Maps.Views
import Derived.Lib.AppendZerosOnto
import Derived.Lib.Walk
import Derived.Lib.SliceRun
import Derived.Laws.MakeOwn
import Derived.Deep.Cut
import Derived.Deep.Slices
import Derived.Lib.LazyBuf
import Derived.Scope
import Derived.Maps.RangeRun
import Derived.ArgAppend
import Derived.WideKeyEntry
import Derived.Shelf.SlSortCmp.Whole1
import Derived.Shelf.Lay
import Derived.Test.YthddoikmgpgakaaDoorNa8
set_option linter.unusedVariables false
set_option linter.unusedSimpArgs false
set_option maxRecDepth 40000
set_option maxHeartbeats 32000000
namespace Go.Proofs.YthddoikmgpgakaaDoor
open Go.RowKit Go
section
variable {P : Program} (w : World)
end
end Go.Proofs.YthddoikmgpgakaaDoor
namespace Go.Proofs.YthddoikmgpgakaaDoor
open Go Go.ChangeShapes Go.WideShapes Go.ChangeAt Go.RowKit
theorem laidOut : laidOutB Tryd.prog = true := by kernel_rfl
set_option maxRecDepth 100000 in
theorem tab_of {W : World} (h : laidMetH Tryd.prog laidL W) : Tab W := by
 obtain ⟨g, t, cs, fuel, p, hg, ht, hv, hd⟩ := h.funcs (n := "aguador/tally.checks") (List.mem_cons_self ..)
 obtain rfl := Option.some.inj ((show Tryd.prog.globalNamed "aguador/tally.checks" = some 0 by kernel_rfl).symm.trans hg)
 obtain rfl := Option.some.inj ((show (Tryd.prog.globals[0]?).map (·.type) = some 146 by kernel_rfl).symm.trans ht)
 have hd' : DataW.trod (funcToken Tryd.prog) Tryd.prog W 0 (fun _ => true) true fuel 146 cs.toList = some (.agg [.agg [.held [97, 103, 117, 97, 100, 111, 114, 47, 116, 97, 108, 108, 121, 46, 99, 104, 101, 99, 107, 115, 36, 49]], .agg [.held [97, 103, 117, 97, 100, 111, 114, 47, 116, 97, 108, 108, 121, 46, 99, 104, 101, 99, 107, 115, 36, 50]], .agg [.held [97, 103, 117, 97, 100, 111, 114, 47, 116, 97, 108, 108, 121, 46, 99, 104, 101, 99, 107, 115, 36, 51]]], p) := hd
 obtain ⟨xs, m, rfl, hx, hlen, hn, hel⟩ := DataW.trod_array Tryd.underlying146 hd'
 rw [show Tryd.prog.cellsOf 145 = 1 by kernel_rfl] at hel
 rw [show Tryd.prog.cellsOf 146 = 3 by kernel_rfl] at hlen
 obtain ⟨cl⟩ := cs
 match cl, hlen, xs, hn with
 | [v0, v1, v2], _, [x0, x1, x2], _ =>
  simp only [Prod.mk.injEq, DataW.agg.injEq, List.map_cons, List.map_nil, List.cons.injEq] at hx
  have h0 := hel 0 (by decide); have h1 := hel 1 (by decide); have h2 := hel 2 (by decide)
  simp at h0 h1 h2
  have go : ∀ (v : Value) (x : DataW (List UInt8) × List MemPlace) (b : UInt8) (r : List UInt8) (f0 : FuncId), ((List.range Tryd.prog.funcs.size).filter fun f => (Tryd.prog.funcs[f]?).any (·.name.toUTF8.data.toList == b :: r)) = [f0] →
    DataW.trod (funcToken Tryd.prog) Tryd.prog W 0 (fun _ => true) true m 145 [v] = some x → x.1 = .agg [.held (b :: r)] → v = .func (.func f0) #[] #[] := by
   intro v x b r f0 hone h hx
   obtain ⟨y, n, rfl, _, hy⟩ := trod_struct1 Tryd.underlying145 h
   simp only [DataW.agg.injEq, List.cons.injEq, and_true] at hx
   obtain ⟨y1, y2⟩ := y
   simp only at hx
   subst hx
   exact func_of_trod (P := Tryd.prog) Tryd.underlying25 hone (by simpa [show Tryd.prog.cellsOf 25 = 1 by kernel_rfl] using hy)
  have e0 := go v0 x0 _ _ 164 (by kernel_rfl) h0 hx.1.1.symm
  have e1 := go v1 x1 _ _ 165 (by kernel_rfl) h1 hx.1.2.1.symm
  have e2 := go v2 x2 _ _ 166 (by kernel_rfl) h2 hx.1.2.2.1.symm
  subst e0; subst e1; subst e2
  have c0 := World.var?_cell hg hv 0; have c1 := World.var?_cell hg hv 1; have c2 := World.var?_cell hg hv 2
  exact ⟨by simpa using c0, by simpa using c1, by simpa using c2⟩
end Go.Proofs.YthddoikmgpgakaaDoor
namespace Go.Proofs.YthddoikmgpgakaaDoor
open Go.RowKit Go
section
variable {P : Program} {ops : Array Oper} {Q : Exit → Act → World → Prop} {S : World → Prop} {held : List Nat}
end
section
variable {F : Fence} {n : Nat} {P : Program} {ops : Array Oper} {Q : Exit → Act → World → Prop} {S : World → Prop} {held : List Nat}
end
end Go.Proofs.YthddoikmgpgakaaDoor
namespace Go.Proofs.YthddoikmgpgakaaDoor.Sw
open Go.RowKit Go
section
variable {c : Cx} {s : S} {Q : Exit → S → Prop}
end
section
variable {c : Cx} {s : S} {Q : Exit → S → Prop} {ops : Array Oper} {tl : List Oper}
end
section
variable {c : Cx} {s : S} {Q : Exit → S → Prop} {ops : Array Oper} {tl : List Oper}
end
section
variable {P : Program} {rs : List (Nat × AV)} {d : Option Nat} {ty : TypeId} {pos : String} {af : Array Edge} {g : Option (Nat × Bool)}
theorem lt_geq {x y : Operand} {m n : Int} {k : IntKind} {t t' : TypeId} (hx : opv rs x = some (.val (.int k m))) (hy : opv rs y = some (.val (.int k n))) :
  LT P ⟨d, .binOp .geq t x y t', ty, pos, af, g⟩ rs [] (Is (.val (.bool (decide (n ≤ m)))) []) :=
 LT_val (fun _ e => by cases e) fun a w G hR _ => ⟨_, rfl, by
  have e1 : a.eval x = _ := opv_ok hR hx
  have e2 : a.eval y = _ := opv_ok hR hy
  simp only [execOp, e1, e2]
  first | (simp [go_sem]; done) | (simp [go_sem]; rfl)⟩
instance {b : Bool} : One (.val (.bool b)) := ⟨fun _ _ h => by subst h; rfl⟩
end
section
variable {c : Cx} {s : S} {Q : Exit → S → Prop} {ops : Array Oper} {tl : List Oper}
end
section
variable {c : Cx} {rs : List (Nat × AV)} {hs : List HA} {Q : Exit → S → Prop} {ops : Array Oper} {tl : List Oper} {d : Nat} {op : Op} {ty : TypeId} {pos : String} {af : Array Edge}
end
section
variable {c : Cx} {rs : List (Nat × AV)} {hs : List HA} {Q : Exit → S → Prop} {ops : Array Oper} {tl : List Oper} {d : Nat} {ty : TypeId} {pos : String} {af : Array Edge} {x y : Operand} {t tb : TypeId} {p : Value} {j : Nat} {cs : List AV} {f : HA → List HA}
end
end Go.Proofs.YthddoikmgpgakaaDoor.Sw
namespace Go.Proofs.YthddoikmgpgakaaDoor
theorem ltL_nil_r (a : List Int) : ltL a [] = false := by cases a <;> rfl
theorem ltL_asymm {a b : List Int} (h : ltL a b = true) : ltL b a = false := by
 cases hb : ltL b a with
 | false => rfl
 | true => have := ltL_trans h hb; rw [ltL_irrefl] at this; cases this
end Go.Proofs.YthddoikmgpgakaaDoor
namespace Go.Proofs.YthddoikmgpgakaaDoor.Sw
open Go.RowKit Go
section
variable (ops : Array Oper) (m : Nat) (sp : List Sp) (hs0 : List HA)
end
section
variable {c : Cx} {ops : Array Oper} {m : Nat} {sp : List Sp} {hs0 hsR : List HA} {rsB : List (Nat × AV)} {Q : Exit → S → Prop}
end
section
variable {P : Program} {rs : List (Nat × AV)} {hsR : List HA} {d : Option Nat} {ty : TypeId} {pos : String} {af : Array Edge} {g : Option (Nat × Bool)} {x : Operand} {t tb : TypeId} {p : Value} {j : Nat} {cs : List AV} {f : HA → List HA}
end
section
variable {P : Program} {rs : List (Nat × AV)} {d : Option Nat} {ty : TypeId} {pos : String} {af : Array Edge} {g : Option (Nat × Bool)}
end
theorem st_frz {α : Type} {c : Cx} {rs : List (Nat × AV)} {hs r : List HA} {e : TypeId} {n : Nat} {f : α → List AV} {xs : List α} {v : Value} {i : Nat} {a : Act} {w : World} (hl : look rs i = some (.val v)) (hr : Rm hs (.row v e n f xs) r) (st : St c ⟨rs, hs⟩ a w) : St c ⟨(i, .sl n f xs) :: rs, r⟩ a w := by
 obtain ⟨G, F, hI, hF, hR, rr⟩ := st
 obtain ⟨G', F', h1, h2, h3⟩ := row_freeze (rest := r) ⟨hI.gin, hI.nd, hI.own, hr.sel hI.hs⟩
 refine ⟨G', F', h1, hF.trans h2, fun k av ek => ?_, rr.1, rr.2.step h2⟩
 simp only [look] at ek
 cases hb : Nat.beq i k with
 | true =>
  rw [hb] at ek
  obtain rfl := Nat.eq_of_beq_eq_true hb
  simp only [cond_true, Option.some.injEq] at ek
  subst ek
  have : a.tmps.getD i undef = v := hR _ _ hl
  rw [this]; exact h3
 | false => rw [hb] at ek; exact av.mono h2.gle (hR k av (by simpa using ek))
theorem W_frz {α : Type} {c : Cx} {rs : List (Nat × AV)} {hs r : List HA} {Q : Exit → S → Prop} {x : Code} {e : TypeId} {n : Nat} {f : α → List AV} {xs : List α} {v : Value} (i : Nat) (hl : look rs i = some (.val v)) (hr : Rm hs (.row v e n f xs) r) (k : W c x ⟨(i, .sl n f xs) :: rs, r⟩ Q) : W c x ⟨rs, hs⟩ Q := ⟨fun a w st => k.out a w (st_frz hl hr st)⟩
section
variable {P : Program} {rs : List (Nat × AV)} {d : Option Nat} {ty : TypeId} {pos : String} {af : Array Edge} {g : Option (Nat × Bool)}
theorem run_make {t e : TypeId} {n : Nat} [hT : TyE P t e n] {w : World} {m : Nat} (hm : m ≤ 1000000) {z : Value} {i : TypeInfo} (hi : P.info? e = some i) (hz : i.zero = some z) :
  (Instr.makeSlice t (.int .i64 (m : Int)) (.int .i64 (m : Int))).run P w = .ok (.slice (some ⟨w.heap.size, 0, none⟩) m m) (w.alloc (.cells ((List.range (m * n)).map fun j => z.cells[j % n]!).toArray e)) := by
 obtain ⟨i', z', hi', hz', hs, hb, hzs⟩ := hT.info
 rw [hi] at hi'
 obtain rfl := Option.some.inj hi'
 rw [hz] at hz'
 obtain rfl := Option.some.inj hz'
 have hw : IntKind.i64.wrap (m : Int) = (m : Int) := IntWalk.i64_in _ (by omega)
 have hbm : (i.bytes : Int) * (m : Int) ≤ 1000 * 1000000 := Int.mul_le_mul (by omega) (by omega) (by omega) (by omega)
 have hbm2 : m * i.bytes ≤ 1000000 * 1000 := Nat.mul_le_mul hm hb
 have h1 : ¬ (281474976710656 < (i.bytes : Int) * (m : Int)) := by omega
 have h2 : ¬ (roomBytes < m * i.bytes) := by unfold roomBytes; have : 2 ^ 47 = 140737488355328 := by decide
                                             omega
 have hnn : ¬ ((m : Int) < 0) := by omega
 have hrow : ∀ cs : Array Value, (newRow e cs).run P w = .ok ⟨w.heap.size, 0, none⟩ (w.alloc (.cells cs e)) := fun cs => by simp [newRow, go_sem]
 by_cases h0 : m * n = 0
 ·simp [Instr.makeSlice, run_underlying hT.und, asInt, asIntOf, typeInfo, sizeOf, hi, hs, hw, h1, hnn, askRoom, h2, h0, hrow]
  rw [show (Array.map (fun _ : Nat => (default : Value)) (Array.range 0)) = #[] by simp]
 ·have e0 : ((Array.range (m * n)).map fun j => z.cells[j % n]!) = ((List.range (m * n)).map fun j => z.cells[j % n]!).toArray := by apply Array.ext'; simp [Array.toList_range]
  simp [Instr.makeSlice, run_underlying hT.und, asInt, asIntOf, typeInfo, sizeOf, hi, hs, hw, h1, hnn, askRoom, h2, h0, zeroValue, hz, hzs, hrow]
  rw [e0]
theorem fits_zero {G : Nat → Option Obj} {α : Type} {f : α → List AV} {x0 : α} {zs : List Value} {n : Nat} (hl : zs.length = n) (hn : 0 < n) (h : Fits G (f x0) zs) : ∀ m, Fits G ((List.replicate m x0).flatMap f) ((List.range (m * n)).map fun j => zs.toArray[j % n]!)
 | 0 => by simp [Fits]
 | m + 1 => by
  have ih := fits_zero hl hn h m
  rw [List.replicate_succ', List.flatMap_append, Nat.succ_mul, List.range_add, List.map_append]
  refine Fits.append ih ?_
  simp only [List.flatMap_cons, List.flatMap_nil, List.append_nil, List.map_map]
  have : (List.range n).map ((fun j => zs.toArray[j % n]!) ∘ fun x => m * n + x) = zs := by
   refine List.ext_getElem (by simp [hl]) fun j h1 h2 => ?_
   have hj : j < n := by simpa using h1
   simp [Nat.mul_add_mod_of_lt, Nat.add_mod, Nat.mod_eq_of_lt hj, h2]
  rw [this]; exact h
theorem lt_make {α : Type} {x y : Operand} {t e : TypeId} {n : Nat} [hT : TyE P t e n] {f : α → List AV} [hO : OneF f] [hL : LenF f n] {x0 : α} [hZ : ZeroF P e f x0] {m : Nat} {mi : Int} (hx : opv rs x = some (.val (.int .i64 mi))) (hy : opv rs y = some (.val (.int .i64 mi))) (hmi : mi = (m : Int)) (hm : m ≤ 1000000) :
  LT P ⟨d, .makeSlice t x y, ty, pos, af, g⟩ rs [] (fun x y => ∃ u, x = .val u ∧ y = [.row u e n f (List.replicate m x0)]) :=
 LT_eff (fun _ e => by cases e) fun a w G F hR hI => by
  obtain rfl := inv_nil hI
  subst hmi
  obtain ⟨z, ⟨i, hi, hz⟩, zs, hzs, hf⟩ := hZ.out
  have e1 : a.eval x = _ := opv_ok hR hx
  have e2 : a.eval y = _ := opv_ok hR hy
  have hr := run_make (P := P) (t := t) (w := w) hm hi hz
  have hzl : zs.length = n := by rw [(hf G).length, hL.out]
  rw [hzs] at hr
  have hfit := fits_zero (G := G) hzl hT.pos (hf G) m
  have hin := new_row (e := e) (n := n) hI hfit (by simpa using hm)
  rw [List.length_replicate] at hin
  refine ⟨_, _, _, _, _, G, _, ?_, .inl rfl, ⟨_, rfl, rfl⟩, fr_alloc _ _ _, hin, rfl⟩
  simp only [execOp, e1, e2, Sem.run_bind, hr]
  rfl
end
section
variable {c : Cx} {rs : List (Nat × AV)} {hs : List HA} {Q : Exit → S → Prop} {ops : Array Oper} {tl : List Oper} {d : Nat} {ty : TypeId} {pos : String} {af : Array Edge}
theorem wl_make {α : Type} {x y : Operand} {t e : TypeId} {n : Nat} (f : α → List AV) {x0 : α} {m : Nat} {mi : Int} (hE : TyE c.P t e n) (hO : OneF f) (hL : LenF f n) (hZ : ZeroF c.P e f x0) (hx : opv rs x = some (.val (.int .i64 mi))) (hy : opv rs y = some (.val (.int .i64 mi))) (hmi : mi = (m : Int)) (hm : m ≤ 1000000) (hd : Nat.blt d c.nt = true) (k : ∀ v, WL c ops tl ⟨(d, .val v) :: rs, .row v e n f (List.replicate m x0) :: hs⟩ Q) : WL c ops (⟨some d, .makeSlice t x y, ty, pos, af, none⟩ :: tl) ⟨rs, hs⟩ Q := wl_tok (lt_make hx hy hmi hm) hd k
end
section
variable {c : Cx} {rs : List (Nat × AV)} {hs : List HA} {Q : Exit → S → Prop} {ops : Array Oper} {tl : List Oper} {d : Nat} {ty : TypeId} {pos : String} {af : Array Edge}
end
instance : Ty1 Tryd.prog 4 := ⟨fun w => by kernel_rfl, fun w => by kernel_rfl⟩
instance : Ty1 Tryd.prog 5 := ⟨fun w => by kernel_rfl, fun w => by kernel_rfl⟩
instance : TyZ Tryd.prog 124 [.bool false, .bool false, .bool false, .bool false, .bool false, .bool false] := ⟨fun w => ⟨.agg #[.bool false, .bool false, .bool false, .bool false, .bool false, .bool false], by kernel_rfl, rfl⟩⟩
instance : TyF Tryd.prog 24 0 0 := ⟨fun a w => by kernel_rfl⟩
instance : TyF Tryd.prog 24 1 1 := ⟨fun a w => by kernel_rfl⟩
instance : TyE Tryd.prog 106 5 1 := tyE (z := .int .u8 0) (b := 1) (by kernel_rfl) (by kernel_rfl) (by decide) rfl (by decide)
instance : TyA Tryd.prog 124 6 1 := ⟨⟨4, by kernel_rfl, fun w => by kernel_rfl⟩, by decide⟩
section
variable {P : Program} {rs : List (Nat × AV)} {d : Option Nat} {ty : TypeId} {pos : String} {af : Array Edge} {g : Option (Nat × Bool)}
end
section
variable {c : Cx} {rs : List (Nat × AV)} {hs : List HA} {Q : Exit → S → Prop} {ops : Array Oper} {tl : List Oper} {d : Nat} {ty : TypeId} {pos : String} {af : Array Edge}
end
section
variable {P : Program} {rs : List (Nat × AV)} {hsR : List HA} {d : Option Nat} {ty : TypeId} {pos : String} {af : Array Edge} {g : Option (Nat × Bool)}
end
section
variable {P : Program} {rs : List (Nat × AV)} {hsR : List HA} {d : Option Nat} {ty : TypeId} {pos : String} {af : Array Edge} {g : Option (Nat × Bool)}
end
section
variable {c : Cx} {rs : List (Nat × AV)} {hs : List HA} {Q : Exit → S → Prop} {ops : Array Oper} {tl : List Oper} {d : Nat} {ty : TypeId} {pos : String} {af : Array Edge}
end
end Go.Proofs.YthddoikmgpgakaaDoor.Sw
namespace Go.Proofs.YthddoikmgpgakaaDoor
open Go.RowKit Go
section
variable {α : Type} {f : α → List Value} {n : Nat}
end
end Go.Proofs.YthddoikmgpgakaaDoor
namespace Go.Proofs.YthddoikmgpgakaaDoor
open Go.RowKit Go.Proofs Go.Shelf
attribute [local go_sem] Oper.semAt_some
attribute [local go_sem] Oper.semAt_some
attribute [local go_sem] eqPlace
attribute [local go_sem] Oper.semAt_some
attribute [local go_sem] Oper.semAt_some
end Go.Proofs.YthddoikmgpgakaaDoor
namespace Go.Proofs.YthddoikmgpgakaaDoor.Sw
open Go Go.RowKit Go.ChangeShapes Go.WideShapes Go.ChangeAt
theorem u8_ok {n : Int} (h : (Lit.int .u8 n).wf = true) : 0 ≤ n ∧ n ≤ 255 := by
 simp only [Lit.wf, IntKind.min, IntKind.max, IntKind.signed, IntKind.bits, Bool.and_eq_true, decide_eq_true_eq] at h
 simp at h
 omega
def u8C (b : Fin 256) : List AV := [.val (.int .u8 (b.val : Int))]
set_option maxRecDepth 100000
theorem reads_u8 : Reads 5 u8C := fun {H enc W n cs y} h => by
 obtain ⟨m, rfl, _, hw⟩ := DataW.trod_int Tryd.underlying5 h
 have := u8_ok hw
 have e : ((m.toNat : Nat) : Int) = m := by omega
 exact ⟨⟨m.toNat, by omega⟩, (by show Value.int .u8 m = .int .u8 ((m.toNat : Nat) : Int); rw [e]), trivial⟩
theorem reads_u8s : Reads 106 fun xs : List (Fin 256) => [AV.sl 1 u8C xs] := reads_sl Tryd.underlying106 (n := 1) (by kernel_rfl) Nat.one_pos (fun _ => rfl) reads_u8
end Go.Proofs.YthddoikmgpgakaaDoor.Sw
namespace Go.Proofs.YthddoikmgpgakaaDoor.Sw
open Go.RowKit Go
section
variable {c : Cx} {rs : List (Nat × AV)} {hs : List HA} {Q : Exit → S → Prop} {g : Operand} {ps : Array Tmp} {assign body : Code} {gf : FuncId} {caps : List AV} {own r : List HA} {α β τ : Type} {f : α → τ → List AV} {t : α → τ → List HA} {xs : List α}
end
section
variable {P : Program} {rs : List (Nat × AV)} {hsR : List HA} {d : Option Nat} {ty : TypeId} {pos : String} {af : Array Edge} {g : Option (Nat × Bool)}
end
section
variable {c : Cx} {rs : List (Nat × AV)} {hs : List HA} {Q : Exit → S → Prop} {ops : Array Oper} {tl : List Oper} {d : Nat} {ty : TypeId} {pos : String} {af : Array Edge}
end
section
variable {P : Program} {rs : List (Nat × AV)} {hsR : List HA} {d : Option Nat} {ty : TypeId} {pos : String} {af : Array Edge} {g : Option (Nat × Bool)}
end
section
variable {c : Cx} {rs : List (Nat × AV)} {hs : List HA} {Q : Exit → S → Prop} {ops : Array Oper} {tl : List Oper} {d : Nat} {ty : TypeId} {pos : String} {af : Array Edge}
end
section
variable {P : Program} {rs : List (Nat × AV)} {d : Option Nat} {ty : TypeId} {pos : String} {af : Array Edge} {g : Option (Nat × Bool)}
end
section
variable {c : Cx} {rs : List (Nat × AV)} {hs : List HA} {Q : Exit → S → Prop} {ops : Array Oper} {tl : List Oper} {d : Nat} {ty : TypeId} {pos : String} {af : Array Edge}
end
section
variable {P : Program} {rs : List (Nat × AV)} {d : Option Nat} {ty : TypeId} {pos : String} {af : Array Edge} {g : Option (Nat × Bool)}
theorem lt_rem {x y : Operand} {m n : Int} {t t' : TypeId} (hx : opv rs x = some (.val (.int .i64 m))) (hy : opv rs y = some (.val (.int .i64 n))) (h0 : 0 < n) (h1 : 0 ≤ m) (h2 : m ≤ 9223372036854775807) :
  LT P ⟨d, .binOp .rem t x y t', ty, pos, af, g⟩ rs [] (Is (.val (.int .i64 (m % n))) []) :=
 LT_val (fun _ e => by cases e) fun a w G hR _ => ⟨_, rfl, by
  have e1 : a.eval x = _ := opv_ok hR hx
  have e2 : a.eval y = _ := opv_ok hR hy
  have hq : m.tmod n = m % n := Int.tmod_eq_emod_of_nonneg h1
  have hr1 : 0 ≤ m % n := Int.emod_nonneg m (by omega)
  have hr2 : m % n < n := Int.emod_lt_of_pos m h0
  have hr3 : m % n ≤ m := by
   have e := Int.emod_add_mul_ediv m n
   have p := Int.mul_nonneg (show 0 ≤ n by omega) (Int.ediv_nonneg h1 (show 0 ≤ n by omega))
   generalize n * (m / n) = q at e p
   omega
  have hz : n ≠ 0 := by omega
  simp only [execOp, e1, e2]
  simp [go_sem, hz, hq, IntWalk.i64_in (m % n) (by omega)]⟩
theorem run_conv8 {s t : TypeId} (hs : P.underlying s = some (.int .u8)) (ht : P.underlying t = some (.int .i64)) {n : Int} (h : 0 ≤ n ∧ n ≤ 255) (w : World) : (convert s t (.int .u8 n)).run P w = .ok (.int .i64 n) w := by
 simp [convert, run_underlying hs, run_underlying ht, Conv.intToInt, IntWalk.i64_in n (by omega)]
end
theorem wl_rem {c : Cx} {rs : List (Nat × AV)} {hs : List HA} {Q : Exit → S → Prop} {ops : Array Oper} {tl : List Oper} {d : Nat} {ty : TypeId} {pos : String} {af : Array Edge} {x y : Operand} {m n : Int} {t t' : TypeId} (hx : opv rs x = some (.val (.int .i64 m))) (hy : opv rs y = some (.val (.int .i64 n))) (h0 : 0 < n) (h1 : 0 ≤ m) (h2 : m ≤ 9223372036854775807) (hd : Nat.blt d c.nt = true) (k : WL c ops tl ⟨(d, .val (.int .i64 (m % n))) :: rs, hs⟩ Q) : WL c ops (⟨some d, .binOp .rem t x y t', ty, pos, af, none⟩ :: tl) ⟨rs, hs⟩ Q := wl_ex (lt_rem hx hy h0 h1 h2) hd k
section
variable {P : Program} {rs : List (Nat × AV)} {d : Option Nat} {ty : TypeId} {pos : String} {af : Array Edge} {g : Option (Nat × Bool)}
end
section
variable {c : Cx} {rs : List (Nat × AV)} {hs : List HA} {Q : Exit → S → Prop} {ops : Array Oper} {tl : List Oper} {d : Nat} {ty : TypeId} {pos : String} {af : Array Edge}
end
section
variable {P : Program} {rs : List (Nat × AV)} {d : Option Nat} {ty : TypeId} {pos : String} {af : Array Edge} {g : Option (Nat × Bool)}
end
section
variable {c : Cx} {rs : List (Nat × AV)} {hs : List HA} {Q : Exit → S → Prop} {ops : Array Oper} {tl : List Oper} {d : Nat} {ty : TypeId} {pos : String} {af : Array Edge}
end
section
variable {P : Program} {rs : List (Nat × AV)} {d : Option Nat} {ty : TypeId} {pos : String} {af : Array Edge} {g : Option (Nat × Bool)}
end
section
variable {c : Cx} {rs : List (Nat × AV)} {hs r : List HA} {Q : Exit → S → Prop} {ops : Array Oper} {tl : List Oper} {d : Nat} {ty : TypeId} {pos : String} {af : Array Edge}
end
end Go.Proofs.YthddoikmgpgakaaDoor.Sw
namespace Go.Proofs.YthddoikmgpgakaaDoor.Sw
open Go.RowKit Go
open Go.WideElems (Fit)
open Go.ChangeMaps (setBlock heap_setBlock_same heap_setBlock_other)
section
variable {κ α : Type} [DecidableEq κ]
end
section
variable {κ α : Type} (kv : κ → Value) (g : α → AV)
variable {kv g}
variable (kv g)
variable {kv g}
end
section
variable {P : Program} {κ α : Type} [DecidableEq κ] {t : TypeId} {kv : κ → Value} {ok : κ → Prop} {g : α → AV} {l : List (κ × α)} {G : Nat → Option Obj} {F : List Nat} {w : World} {v : Value}
variable {rs : List (Nat × AV)} {d : Option Nat} {ty : TypeId} {pos : String} {af : Array Edge} {gd : Option (Nat × Bool)}
end
section
variable {c : Cx} {rs : List (Nat × AV)} {hs : List HA} {Q : Exit → S → Prop} {ops : Array Oper} {tl : List Oper} {d : Nat} {ty : TypeId} {pos : String} {af : Array Edge} {κ α : Type} [DecidableEq κ] {t : TypeId} {kv : κ → Value} {ok : κ → Prop} {g : α → AV} {l : List (κ × α)} {v : Value}
end
section
variable {P : Program} {rs : List (Nat × AV)} {d : Option Nat} {ty : TypeId} {pos : String} {af : Array Edge} {gd : Option (Nat × Bool)} {κ α : Type} {t : TypeId} {kv : κ → Value} {g : α → AV} {l rest : List (κ × α)} {v it : Value}
end
section
variable {c : Cx} {rs : List (Nat × AV)} {hs r : List HA} {Q : Exit → S → Prop} {ops : Array Oper} {tl : List Oper} {d : Nat} {ty : TypeId} {pos : String} {af : Array Edge} {κ α : Type} {t : TypeId} {kv : κ → Value} {g : α → AV} {l rest : List (κ × α)} {v it : Value}
end
end Go.Proofs.YthddoikmgpgakaaDoor.Sw
namespace Go.Proofs.YthddoikmgpgakaaDoor.Sw
open Go.RowKit Go
section
variable {P : Program} {w : World}
end
section
variable {P : Program} {rs : List (Nat × AV)} {d : Option Nat} {ty : TypeId} {pos : String} {af : Array Edge} {g : Option (Nat × Bool)}
end
end Go.Proofs.YthddoikmgpgakaaDoor.Sw
namespace Go.Proofs.YthddoikmgpgakaaDoor.Ma
theorem costOf_append (cost : Nat → Nat → Int) : ∀ (l r : List Nat) (i : Nat), costOf cost i (l ++ r) = costOf cost i l + costOf cost (i + l.length) r
 | [], r, i => by simp [costOf]
 | k :: l, r, i => by
  show cost i k + costOf cost (i + 1) (l ++ r) = _
  rw [costOf_append cost l r (i + 1), costOf, List.length_cons]
  rw [show i + 1 + l.length = i + (l.length + 1) by omega]; omega
end Go.Proofs.YthddoikmgpgakaaDoor.Ma
namespace Go.Proofs.YthddoikmgpgakaaDoor.Sw
open Go.RowKit Go
open Go.WideElems (Fit)
open Go.ChangeMaps (setBlock heap_setBlock_same heap_setBlock_other)
section
variable {P : Program} {κ α : Type} [DecidableEq κ] {t : TypeId} {kv : κ → Value} {ok : κ → Prop} {g : α → AV} {l : List (κ × α)} {G : Nat → Option Obj} {F : List Nat} {w : World} {v : Value}
variable {rs : List (Nat × AV)} {d : Option Nat} {ty : TypeId} {pos : String} {af : Array Edge} {gd : Option (Nat × Bool)}
end
section
variable {c : Cx} {rs : List (Nat × AV)} {hs : List HA} {Q : Exit → S → Prop} {ops : Array Oper} {tl : List Oper} {d : Nat} {ty : TypeId} {pos : String} {af : Array Edge} {κ α : Type} [DecidableEq κ] {t : TypeId} {kv : κ → Value} {ok : κ → Prop} {g : α → AV} {l : List (κ × α)} {v : Value}
end
end Go.Proofs.YthddoikmgpgakaaDoor.Sw
namespace Go.Proofs.YthddoikmgpgakaaDoor.Sw
open Go.RowKit Go
section
variable {P : Program} {rs : List (Nat × AV)} {d : Option Nat} {ty : TypeId} {pos : String} {af : Array Edge} {g : Option (Nat × Bool)}
end
end Go.Proofs.YthddoikmgpgakaaDoor.Sw
namespace Go.Proofs.YthddoikmgpgakaaDoor.Sw
open Go.RowKit Go Go.Shelf Go.Proofs
section
variable {P : Program} {rs : List (Nat × AV)} {d : Option Nat} {ty : TypeId} {pos : String} {af : Array Edge} {g : Option (Nat × Bool)}
end
attribute [local go_sem] eqPlace
section
variable {P : Program} {rs : List (Nat × AV)} {d : Option Nat} {ty : TypeId} {pos : String} {af : Array Edge} {g : Option (Nat × Bool)}
end
end Go.Proofs.YthddoikmgpgakaaDoor.Sw
namespace Go.Proofs.YthddoikmgpgakaaDoor
open Go.RowKit Go.Proofs Go.Shelf
attribute [local go_sem] Oper.semAt_some
attribute [local go_sem] eqPlace
attribute [local go_sem] eqEdit
end Go.Proofs.YthddoikmgpgakaaDoor
namespace Go.Proofs.YthddoikmgpgakaaDoor.Sw
open Go.RowKit Go Go.Shelf Go.Proofs
end Go.Proofs.YthddoikmgpgakaaDoor.Sw
namespace Go.Proofs.YthddoikmgpgakaaDoor
open Go.RowKit Go.Proofs Go.Shelf
theorem dist_rev_le : ∀ a b : List Int, dist a.reverse b.reverse ≤ dist a b
 | [], b => by rw [List.reverse_nil, dist_nil, dist_nil, List.length_reverse]; exact Nat.le_refl _
 | x :: a, [] => by rw [List.reverse_nil, dist_nil', dist_nil', List.length_reverse]; exact Nat.le_refl _
 | x :: a, y :: b => by
  have h1 := dist_rev_le a b
  have h2 := dist_rev_le a (y :: b)
  have h3 := dist_rev_le (x :: a) b
  have g1 := dist_append [x] [y] a.reverse b.reverse
  have g2 := dist_append [x] [] a.reverse (y :: b).reverse
  have g3 := dist_append [] [y] (x :: a).reverse b.reverse
  have e1 := dist_both x y [] []
  rw [dist_cons]
  simp only [List.reverse_cons, dist_nil, dist_nil', List.length_cons, List.length_nil, List.append_nil] at *
  omega
termination_by a b => a.length + b.length
theorem dist_rev (a b : List Int) : dist a.reverse b.reverse = dist a b := by
 have h1 := dist_rev_le a b
 have h2 := dist_rev_le a.reverse b.reverse
 rw [List.reverse_reverse, List.reverse_reverse] at h2
 omega
theorem dist_snoc (x y : Int) (a b : List Int) : dist (a ++ [x]) (b ++ [y]) = min (dist a b + (if x = y then 0 else 1)) (min (dist a (b ++ [y]) + 1) (dist (a ++ [x]) b + 1)) := by
 rw [← dist_rev (a ++ [x]) (b ++ [y]), ← dist_rev a (b ++ [y]), ← dist_rev (a ++ [x]) b, List.reverse_append, List.reverse_append]
 simp only [List.reverse_cons, List.reverse_nil, List.nil_append, List.singleton_append]
 rw [dist_cons]
 have h0 := dist_rev a b
 rw [h0]
def apR (a b : List Int) (i : Nat) : List Int := (List.range (b.length + 1)).map fun k => (dist (a.take i) (b.take k) : Int)
def apM (a b : List Int) (i k : Nat) : List Int := (List.range (b.length + 1)).map fun j => if j ≤ k then (dist (a.take (i + 1)) (b.take j) : Int) else (dist (a.take i) (b.take j) : Int)
theorem apR_len (a b : List Int) (i : Nat) : (apR a b i).length = b.length + 1 := by simp [apR]
theorem apM_len (a b : List Int) (i k : Nat) : (apM a b i k).length = b.length + 1 := by simp [apM]
theorem apR_0 (a b : List Int) : apR a b 0 = (List.range (b.length + 1)).map fun (k : Nat) => (k : Int) := by
 unfold apR
 refine List.map_congr_left fun k hk => ?_
 have := List.mem_range.1 hk
 rw [List.take_zero, dist_nil, List.length_take, Nat.min_eq_left (by omega)]
theorem apM_at (a b : List Int) (i k j : Nat) (hj : j < b.length + 1) : (apM a b i k)[j]'(by rw [apM_len]; exact hj) = if j ≤ k then (dist (a.take (i + 1)) (b.take j) : Int) else (dist (a.take i) (b.take j) : Int) := by
 unfold apM
 simp only [List.getElem_map, List.getElem_range]
theorem apR_at (a b : List Int) (i j : Nat) (hj : j < b.length + 1) : (apR a b i)[j]'(by rw [apR_len]; exact hj) = (dist (a.take i) (b.take j) : Int) := by
 unfold apR
 simp only [List.getElem_map, List.getElem_range]
theorem apM_0 {a b : List Int} {i : Nat} (hi : i < a.length) : (apR a b i).set 0 ((i + 1 : Nat) : Int) = apM a b i 0 := by
 refine List.ext_getElem (by simp [apR, apM]) fun j h1 h2 => ?_
 have hj : j < b.length + 1 := by rw [apM_len] at h2; exact h2
 rw [List.getElem_set, apM_at a b i 0 j hj]
 by_cases e : 0 = j
 ·subst e
  rw [if_pos rfl, if_pos (Nat.le_refl _), List.take_zero, dist_nil', List.length_take, Nat.min_eq_left (by omega)]
 ·rw [if_neg e, if_neg (by omega), apR_at a b i j hj]
theorem apM_step {a b : List Int} {i k : Nat} (hi : i < a.length) (hk : k < b.length) :
  (apM a b i k).set (k + 1) (min ((dist (a.take i) (b.take k) : Int) + (if a[i] = b[k] then 0 else 1)) (min ((dist (a.take (i + 1)) (b.take k) : Int) + 1) ((dist (a.take i) (b.take (k + 1)) : Int) + 1))) = apM a b i (k + 1) := by
 refine List.ext_getElem (by simp [apM]) fun j h1 h2 => ?_
 rw [List.getElem_set]
 have hj : j < b.length + 1 := by rw [apM_len] at h2; exact h2
 rw [apM_at a b i (k + 1) j hj]
 by_cases e : k + 1 = j
 ·subst e
  rw [if_pos rfl, if_pos (Nat.le_refl _), List.take_succ_eq_append_getElem hi, List.take_succ_eq_append_getElem hk]
  have h := dist_snoc a[i] b[k] (a.take i) (b.take k)
  rw [h]
  split <;> omega
 ·rw [if_neg e, apM_at a b i k j hj]
  by_cases h : j ≤ k
  ·rw [if_pos h, if_pos (by omega)]
  ·rw [if_neg h, if_neg (by omega)]
theorem apM_end (a b : List Int) (i : Nat) : apM a b i b.length = apR a b (i + 1) := by
 unfold apM apR
 refine List.map_congr_left fun k hk => ?_
 have := List.mem_range.1 hk
 rw [if_pos (by omega)]
theorem apR_last (a b : List Int) : (apR a b a.length)[b.length]'(by rw [apR_len]; omega) = (dist a b : Int) := by
 unfold apR
 simp only [List.getElem_map, List.getElem_range, List.take_length]
end Go.Proofs.YthddoikmgpgakaaDoor
namespace Go.Proofs.YthddoikmgpgakaaDoor.Ma
open Go.Proofs.YthddoikmgpgakaaDoor
def bef (p q : List Nat × Int) : Prop := ltL (ints p.1) (ints q.1) = true
theorem ints_app (a b : List Nat) : ints (a ++ b) = ints a ++ ints b := by simp [ints]
theorem ltL_app (s : List Int) {x y : Int} (h : x < y) (a b : List Int) : ltL (s ++ x :: a) (s ++ y :: b) = true := by
 induction s with
 | nil => rw [List.nil_append, List.nil_append, ltL_cons, if_neg (by omega)]; simpa using h
 | cons z s ih => rw [List.cons_append, List.cons_append, ltL_same]; exact ih
theorem mats_sorted (N : Nat) (c : Nat → Nat → Int) : ∀ (m : Nat) (s : List Nat) (n : Int), (mats N c m s n).Pairwise bef
 | 0, _, _ => List.pairwise_singleton _ _
 | m + 1, s, n => by
  rw [mats_succ, List.pairwise_flatMap]
  refine ⟨fun k _ => ?_, (List.pairwise_lt_range (n := N)).imp fun {k j} hkj p hp q hq => ?_⟩
  ·split
   ·exact List.Pairwise.nil
   ·exact mats_sorted N c m _ _
  ·split at hp
   ·cases hp
   ·split at hq
    ·cases hq
    ·obtain ⟨r, e, _⟩ := mats_mem.1 hp
     obtain ⟨r', e', _⟩ := mats_mem.1 hq
     unfold bef
     rw [e, e', List.append_assoc, List.append_assoc, List.singleton_append, List.singleton_append, ints_app, ints_app]
     show ltL (ints s ++ (k : Int) :: ints r) (ints s ++ (j : Int) :: ints r') = true
     exact ltL_app _ (by omega) _ _
theorem bst_first_of {R : List Nat × Int → List Nat × Int → Prop} : ∀ (s l : List (List Nat × Int)), (l ++ s).Pairwise R → Bi l → (∀ q ∈ s, 0 ≤ q.2) → (∀ q ∈ l, q.2 = (bst l).2 → q = bst l ∨ R (bst l) q) → ∀ q ∈ l ++ s, q.2 = (bst (l ++ s)).2 → q = bst (l ++ s) ∨ R (bst (l ++ s)) q
 | [], l, _, _, _, h => by rw [List.append_nil]; exact h
 | p :: s, l, hp, hB, hs, h => by
  have hstep : ∀ q ∈ l ++ [p], q.2 = (bst (l ++ [p])).2 → q = bst (l ++ [p]) ∨ R (bst (l ++ [p])) q := by
   intro q hq he
   rw [bst_snoc, stepB] at he ⊢
   by_cases hc : (bst l).2 < 0 ∨ p.2 < (bst l).2
   ·rw [if_pos hc] at he ⊢
    rcases List.mem_append.1 hq with hq | hq
    ·exfalso
     rcases hc with hc | hc
     ·rw [hB.neg hc] at hq; cases hq
     ·have := hB.le q hq; omega
    ·exact .inl (by simpa using hq)
   ·rw [if_neg hc] at he ⊢
    rcases List.mem_append.1 hq with hq | hq
    ·exact h q hq he
    ·right
     have hqp : q = p := by simpa using hq
     subst hqp
     have hne : l ≠ [] := fun e => hc (.inl (by rw [e]; decide))
     have h2 := (List.pairwise_append.1 hp).2.2 (bst l) (hB.mem hne) q (by simp)
     exact h2
  have h2 := bst_first_of s (l ++ [p]) (by rw [List.append_assoc]; exact hp) (hB.snoc (hs p (by simp))) (fun q hq => hs q (by simp [hq])) hstep
  rwa [List.append_assoc] at h2
theorem bst_first {R : List Nat × Int → List Nat × Int → Prop} {l : List (List Nat × Int)} (hp : l.Pairwise R) (hn : ∀ q ∈ l, 0 ≤ q.2) : ∀ q ∈ l, q.2 = (bst l).2 → q = bst l ∨ R (bst l) q := by
 have h := bst_first_of (R := R) l [] (by simpa using hp) bi_nil hn (fun q hq => by cases hq)
 simpa using h
theorem fit_msk {a : List Int} {q m : List Nat} (h : Fit a q) : Fit (msk a m) q := fun i h1 h2 => by
 have h3 : i < a.length := by simp [msk] at h1; omega
 have h4 : i < m.length := by simp [msk] at h1; omega
 have e : (msk a m)[i] = if a[i] = (m[i] : Int) then a[i] else -1 := by simp [msk]
 rw [e]
 split
 ·exact h i h3 h2
 ·exact .inl rfl
theorem fit_new (a : List Int) (q : List Nat) : Fit (msk a q) q := fun i h1 h2 => by
 have h3 : i < a.length := by simp [msk] at h1; omega
 have e : (msk a q)[i] = if a[i] = (q[i] : Int) then a[i] else -1 := by simp [msk]
 rw [e]
 split
 ·rename_i h; exact .inr h
 ·exact .inl rfl
theorem fit_fold {q : List Nat} : ∀ (l : List (List Nat × Int)) {a : List Int}, Fit a q → Fit (l.foldl (fun a p => msk a p.1) a) q
 | [], _, h => h
 | p :: l, a, h => fit_fold l (a := msk a p.1) (fit_msk h)
theorem fit_mem {q : List Nat × Int} : ∀ (l : List (List Nat × Int)) (a : List Int), q ∈ l → Fit (l.foldl (fun a p => msk a p.1) a) q.1
 | p :: l, a, h => by
  rcases List.mem_cons.1 h with rfl | h
  ·exact fit_fold l (a := msk a q.1) (fit_new a q.1)
  ·exact fit_mem l (msk a p.1) h
 | [], _, h => by cases h
theorem sure_fit {l : List (List Nat × Int)} {q : List Nat × Int} (h : q ∈ l) (he : q.2 ≤ (bst l).2) : Fit (sure l) q.1 := by
 unfold sure
 exact fit_mem _ _ (List.mem_filter.2 ⟨h, by simpa using he⟩)
end Go.Proofs.YthddoikmgpgakaaDoor.Ma
namespace Go.Proofs.YthddoikmgpgakaaDoor.Sw
open Go.RowKit Go Go.Shelf Go.Proofs
open Go.Proofs.YthddoikmgpgakaaDoor.Ma
structure Rdy (t : Tl) : Prop where
 ok : okT t.id t.hs t.st t.fo = true
 s : t.st.length ≤ 12
 f : t.fo.length ≤ 12
 os : okN t.st = true
 of : okN t.fo = true
theorem rdy_of {t : Tl} (h : okT t.id t.hs t.st t.fo = true) : Rdy t := by
 obtain ⟨a, b, c, d⟩ := okT_b h
 exact ⟨h, a, b, c, d⟩
end Go.Proofs.YthddoikmgpgakaaDoor.Sw
namespace Go.Proofs.YthddoikmgpgakaaDoor
open Go.RowKit Go.Proofs Go.Shelf
theorem dist_max : ∀ a b : List Int, dist a b ≤ max a.length b.length
 | [], b => by rw [dist_nil]; exact Nat.le_max_right _ _
 | x :: a, [] => by rw [dist_nil']; exact Nat.le_max_left _ _
 | x :: a, y :: b => by
  have h1 := dist_both x y a b
  have h2 := dist_max a b
  have h3 : (if x = y then 0 else 1) ≤ 1 := by split <;> omega
  simp only [List.length_cons]
  omega
end Go.Proofs.YthddoikmgpgakaaDoor
namespace Go.Proofs.YthddoikmgpgakaaDoor.Sw
open Go.RowKit Go Go.Shelf Go.Proofs
open Go.Proofs.YthddoikmgpgakaaDoor.Ma
section
variable {P : Program} {rs : List (Nat × AV)} {d : Option Nat} {ty : TypeId} {pos : String} {af : Array Edge} {g : Option (Nat × Bool)}
theorem lt_convC {x : Operand} {u v : Value} {s t : TypeId} (hx : opv rs x = some (.val u)) (h : ∀ w, (convert s t u).run P w = .ok v w) : LT P ⟨d, .convert s t x, ty, pos, af, g⟩ rs [] (Is (.val v) []) :=
 LT_val (fun _ e => by cases e) fun a w G hR _ => ⟨_, rfl, by
  have e1 : a.eval x = _ := opv_ok hR hx
  simp only [execOp, e1, Sem.run_bind, h w, Result.andThen_ok]
  rfl⟩
end
section
variable {c : Cx} {rs : List (Nat × AV)} {hs : List HA} {Q : Exit → S → Prop} {ops : Array Oper} {tl : List Oper} {d : Nat} {ty : TypeId} {pos : String} {af : Array Edge}
theorem wl_convC {x : Operand} {u : Value} (v : Value) {s t : TypeId} (hx : opv rs x = some (.val u)) (h : ∀ w, (convert s t u).run c.P w = .ok v w) (hd : Nat.blt d c.nt = true) (k : WL c ops tl ⟨(d, .val v) :: rs, hs⟩ Q) : WL c ops (⟨some d, .convert s t x, ty, pos, af, none⟩ :: tl) ⟨rs, hs⟩ Q := wl_ex (lt_convC hx h) hd k
end
theorem Rdy.dist {a : Tl} (h : Rdy a) : dist a.st a.fo ≤ 12 := by
 have := dist_max a.st a.fo
 have := h.s
 have := h.f
 omega
theorem Rdy.lt {a : Tl} (h : Rdy a) : a.st.length ≤ 1000 ∧ a.fo.length ≤ 1000 := ⟨by have := h.s; omega, by have := h.f; omega⟩
theorem lt_min3 {P : Program} {rs : List (Nat × AV)} {d : Option Nat} {ty : TypeId} {pos : String} {af : Array Edge} {g : Option (Nat × Bool)} {x y z : Operand} {m n l : Int} {ts : Array TypeId} (hx : opv rs x = some (.val (.int .i64 m))) (hy : opv rs y = some (.val (.int .i64 n))) (hz : opv rs z = some (.val (.int .i64 l))) :
  LT P ⟨d, .call { callee := .builtin .min, args := #[x, y, z], argTypes := ts }, ty, pos, af, g⟩ rs [] (Is (.val (.int .i64 (min m (min n l)))) []) :=
 LT_val (fun _ e => by cases e) fun a w G hR hG => by
  have e1 : a.eval x = _ := opv_ok hR hx
  have e2 : a.eval y = _ := opv_ok hR hy
  have e3 : a.eval z = _ := opv_ok hR hz
  refine ⟨_, rfl, ?_⟩
  have h1 : (if n < m then n else m) = min m n := by split <;> omega
  have h2 : ∀ q : Int, (if l < q then l else q) = min q l := fun q => by split <;> omega
  have h3 : min (min m n) l = min m (min n l) := by omega
  simp [execOp, resolve, e1, e2, e3, invoke, builtin, Builtin.min_, Builtin.min2, h1, h2, h3]
theorem zeroF {α : Type} {P : Program} {e : TypeId} {f : α → List AV} {x0 : α} {n b : Nat} {z : Value} (h2 : (P.info? e).map (fun i => (i.zero, i.size, i.bytes)) = some (some z, n, b)) {zs : List Value} (h3 : z.cells = zs.toArray) (h4 : ∀ G, Fits G (f x0) zs) : ZeroF P e f x0 := by
 obtain ⟨i, hi, e1, _, _⟩ := info_parts h2
 exact ⟨z, ⟨i, hi, e1⟩, zs, h3, h4⟩
instance zeroI : ZeroF Tryd.prog 3 iC 0 := zeroF (z := .int .i64 0) (n := 1) (b := 8) (zs := [.int .i64 0]) (by kernel_rfl) rfl (fun _ => ⟨rfl, trivial⟩)
def upTo (n k : Nat) : List Int := (List.range n).map fun j => if j < k then (j : Int) else 0
theorem upTo_at (n k j : Nat) (h : j < (upTo n k).length) : (upTo n k)[j] = if j < k then (j : Int) else 0 := by
 unfold upTo at h ⊢
 simp only [List.getElem_map, List.getElem_range]
theorem upTo_step {n k : Nat} (hk : k < n) : (upTo n k).set k (k : Int) = upTo n (k + 1) := by
 refine List.ext_getElem (by simp [upTo]) fun j h1 h2 => ?_
 rw [List.getElem_set, upTo_at, upTo_at]
 split
 ·rename_i e; subst e; rw [if_pos (by omega)]
 ·split
  ·rw [if_pos (by omega)]
  ·rw [if_neg (by omega)]
theorem upTo_0 (n : Nat) : List.replicate n (0 : Int) = upTo n 0 := by
 unfold upTo
 refine List.ext_getElem (by simp) fun j h1 h2 => ?_
 simp
theorem upTo_len (n k : Nat) : (upTo n k).length = n := by simp [upTo]
theorem upTo_end (a b : List Int) : upTo (b.length + 1) (b.length + 1) = apR a b 0 := by
 rw [apR_0]
 unfold upTo
 refine List.map_congr_left fun k hk => ?_
 have := List.mem_range.1 hk
 rw [if_pos (by omega)]
theorem apart_con (a b : List Int) (h1 : a.length ≤ 1000) (h2 : b.length ≤ 1000) : Con Tryd.prog 68 [.sl 1 iC a, .sl 1 iC b] [] (Is (.val (.int .i64 (dist a b : Nat))) []) := by
 refine con_of Tryd.func68 rfl (enters_of Tryd.func68 (by kernel_rfl) rfl) rfl ?_; intro n w0 F0 G0
 refine zS ?_
 (apply wl_make iC; exact inferInstance; exact inferInstance; exact inferInstance; exact inferInstance; exact rfl; exact rfl; exact rfl; (first | omega | (simp; omega)); exact rfl)
 intro v
 refine WL_one At.here (fun hone => ?_)
 rw [upTo_0]
 refine zS ?_
 rw [upTo_len]
 refine W_loopJ (fun (k : Nat) => ⟨[(0, .sl 1 iC a), (1, .sl 1 iC b), (5, .val v), (18, .val (.int .i64 ((b.length + 1 : Nat) : Int))), (19, .val (.int .i64 k))], [.row v 3 1 iC (upTo (b.length + 1) k)]⟩) (fun k => k ≤ b.length + 1) (fun k => b.length + 1 - k) 0 (fun _ _ st => st_sub2 st zR zP) (Nat.zero_le _) ?_
 intro k hk
 refine zS ?_
 refine w_cond rfl (fun hlt => ?_) (fun hlt => ?_)
 ·have hlt' : k < b.length + 1 := by have := of_decide_eq_true hlt; omega
  have hll := upTo_len (b.length + 1) k
  have hst := upTo_step hlt'
  generalize upTo (b.length + 1) k = xs at hll hst ⊢
  refine zS ?_
  rw [hst]
  refine zS ?_
  (refine ⟨k + 1, fun _ _ st => st_sub2 st ?_ ?_, ?_, ?_⟩; exact zR; exact zP)
  ·exact hlt'
  ·omega
 ·have hkk : k = b.length + 1 := by have := of_decide_eq_false hlt; omega
  subst hkk
  rw [upTo_end a b]
  refine zS ?_
  refine W_loopJ (fun (i : Nat) => ⟨[(0, .sl 1 iC a), (1, .sl 1 iC b), (5, .val v), (27, .sl 1 iC a), (28, .val (.int .i64 a.length)), (29, .val (.int .i64 i))], [.row v 3 1 iC (apR a b i)]⟩) (fun i => i ≤ a.length) (fun i => a.length - i) 0 (fun _ _ st => st_sub2 st zR zP) (Nat.zero_le _) ?_
  intro i hi
  refine zS ?_
  refine w_cond rfl (fun hlt2 => ?_) (fun hlt2 => ?_)
  ·have hlt2' : i < a.length := by have := of_decide_eq_true hlt2; omega
   have hl1 := apR_len a b i
   have hs0 := apM_0 (a := a) (b := b) hlt2'
   have hv0 : (apR a b i)[0]? = some (dist (a.take i) (b.take 0) : Int) := by rw [List.getElem?_eq_getElem (by rw [apR_len]; omega), apR_at a b i 0 (by omega)]
   generalize apR a b i = xs at hl1 hs0 hv0 ⊢
   have hv1 : xs[0] = (dist (a.take i) (b.take 0) : Int) := by
    have := hv0
    rw [List.getElem?_eq_getElem (by omega)] at this
    exact Option.some.inj this
   refine zS ?_
   rw [show ((i : Int) + 1) = ((i + 1 : Nat) : Int) by omega, hs0, hv1]
   refine zS ?_
   refine W_loopJ (fun (k : Nat) => ⟨[(0, .sl 1 iC a), (1, .sl 1 iC b), (5, .val v), (8, .val (.int .i64 a[i])), (9, .val (.int .i64 (dist (a.take i) (b.take k) : Nat))), (27, .sl 1 iC a), (28, .val (.int .i64 a.length)), (29, .val (.int .i64 i)), (41, .sl 1 iC b), (42, .val (.int .i64 b.length)), (43, .val (.int .i64 k))], [.row v 3 1 iC (apM a b i k)]⟩) (fun k => k ≤ b.length) (fun k => b.length - k) 0 (fun _ _ st => st_sub2 st zR zP) (Nat.zero_le _) ?_
   intro k hk
   refine zS ?_
   refine w_cond rfl (fun hlt3 => ?_) (fun hlt3 => ?_)
   ·have hlt3' : k < b.length := by have := of_decide_eq_true hlt3; omega
    have hl2 := apM_len a b i k
    have hs1 := apM_step hlt2' hlt3'
    have hq1 : (apM a b i k)[k]? = some (dist (a.take (i + 1)) (b.take k) : Int) := by rw [List.getElem?_eq_getElem (by rw [apM_len]; omega), apM_at a b i k k (by omega), if_pos (Nat.le_refl _)]
    have hq2 : (apM a b i k)[k + 1]? = some (dist (a.take i) (b.take (k + 1)) : Int) := by rw [List.getElem?_eq_getElem (by rw [apM_len]; omega), apM_at a b i k (k + 1) (by omega), if_neg (by omega)]
    have hd1 := dist_le (a.take i) (b.take k)
    have hd2 := dist_le (a.take (i + 1)) (b.take k)
    have hd3 := dist_le (a.take i) (b.take (k + 1))
    simp only [List.length_take] at hd1 hd2 hd3
    generalize apM a b i k = ys at hl2 hs1 hq1 hq2 ⊢
    refine zS ?_
    have hv2 : ys[k + 1] = (dist (a.take i) (b.take (k + 1)) : Int) := by
     have := hq2
     rw [List.getElem?_eq_getElem (by omega)] at this
     exact Option.some.inj this
    refine w_cond rfl (fun hne => ?_) (fun hne => ?_)
    ·have hne' : ¬ a[i] = b[k] := by simpa using hne
     rw [if_neg hne'] at hs1
     refine zS ?_
     rw [hv2]
     refine W_run 16 [59, 60, 61, 62, 63, 64, 65, 66, 67, 68, 69, 70, 71, 72, 73, 74] [0, 1, 2, 3, 4, 5, 6, 7, 8, 9, 10, 11, 12, 13, 14, 15] Cut.nil rfl goFlt mixedS (by kernel_rfl) rfl ?_
     refine rpv [] [] ?_
     refine rpv [] [] ?_
     refine rpv [1] [] ?_
     refine rpv [] [] ?_
     refine rpv [] [] ?_
     refine rpv [] [] ?_
     refine rpv [4, 5] [] ?_
     refine rpv [6] [] ?_
     refine rpv [7] [] ?_
     refine rpv [] [] ?_
     refine rpv [] [] ?_
     refine rpv [10] [] ?_
     refine rpv [9, 11] [] ?_
     refine rpv [12] [] ?_
     refine rpv [13] [] ?_
     refine Run.pv [3, 8, 14] [] rfl (fun vs => by apply ltr_pk; exact goPk; (refine ltr ?_; apply lt_min3; exact rfl; exact rfl; exact rfl)) goApp ?_
     refine ⟨⟨by kernel_rfl, by kernel_rfl⟩, fun vs => ?_⟩
     apply WL_auto [0, 2, 15]
     ·exact goPk
     ·exact goNrm
     ·kernel_rfl
     ·kernel_rfl
     refine zS ?_
     refine zS ?_
     rw [hs1]
     (refine ⟨k + 1, fun _ _ st => st_sub2 st ?_ ?_, ?_, ?_⟩; exact zR; exact zP)
     ·exact hlt3'
     ·omega
    ·have heq' : a[i] = b[k] := by simpa using hne
     rw [if_pos heq', Int.add_zero] at hs1
     refine zS ?_
     rw [hv2]
     refine W_run 16 [59, 60, 61, 62, 63, 64, 65, 66, 67, 68, 69, 70, 71, 72, 73, 74] [0, 1, 2, 3, 4, 5, 6, 7, 8, 9, 10, 11, 12, 13, 14, 15] Cut.nil rfl goFlt mixedS (by kernel_rfl) rfl ?_
     refine rpv [] [] ?_
     refine rpv [] [] ?_
     refine rpv [1] [] ?_
     refine rpv [] [] ?_
     refine rpv [] [] ?_
     refine rpv [] [] ?_
     refine rpv [4, 5] [] ?_
     refine rpv [6] [] ?_
     refine rpv [7] [] ?_
     refine rpv [] [] ?_
     refine rpv [] [] ?_
     refine rpv [10] [] ?_
     refine rpv [9, 11] [] ?_
     refine rpv [12] [] ?_
     refine rpv [13] [] ?_
     refine Run.pv [3, 8, 14] [] rfl (fun vs => by apply ltr_pk; exact goPk; (refine ltr ?_; apply lt_min3; exact rfl; exact rfl; exact rfl)) goApp ?_
     refine ⟨⟨by kernel_rfl, by kernel_rfl⟩, fun vs => ?_⟩
     apply WL_auto [0, 2, 15]
     ·exact goPk
     ·exact goNrm
     ·kernel_rfl
     ·kernel_rfl
     refine zS ?_
     refine zS ?_
     rw [hs1]
     (refine ⟨k + 1, fun _ _ st => st_sub2 st ?_ ?_, ?_, ?_⟩; exact zR; exact zP)
     ·exact hlt3'
     ·omega
   ·have hkk : k = b.length := by have := of_decide_eq_false hlt3; omega
    subst hkk
    rw [apM_end]
    refine zS ?_
    (refine ⟨i + 1, fun _ _ st => st_sub2 st ?_ ?_, ?_, ?_⟩; exact zR; exact zP)
    ·exact hlt2'
    ·omega
  ·have hii : i = a.length := by have := of_decide_eq_false hlt2; omega
   subst hii
   have hl1 := apR_len a b a.length
   have hv0 : (apR a b a.length)[b.length]? = some (dist a b : Int) := by rw [List.getElem?_eq_getElem (by rw [apR_len]; omega), apR_last]
   generalize apR a b a.length = xs at hl1 hv0 ⊢
   have hv : xs[b.length] = (dist a b : Int) := by
    have := hv0
    rw [List.getElem?_eq_getElem (by omega)] at this
    exact Option.some.inj this
   refine zS ?_
   rw [hv]
   (apply res1; exact rfl; exact rfl; exact ⟨rfl, rfl⟩)
end Go.Proofs.YthddoikmgpgakaaDoor.Sw
namespace Go.Proofs.YthddoikmgpgakaaDoor.Sw
open Go.RowKit Go
section
variable {P : Program} {rs : List (Nat × AV)} {d : Option Nat} {ty : TypeId} {pos : String} {af : Array Edge} {g : Option (Nat × Bool)}
theorem lt_slTo {α : Type} {f : α → List AV} {xs : List α} {x y : Operand} {t e : TypeId} {n : Nat} [hE : TyE P t e n] {h : Nat} (hx : opv rs x = some (.sl n f xs)) (hy : opv rs y = some (.val (.int .i64 (h : Int)))) (h2 : h ≤ xs.length) : LT P ⟨d, .slice t x none (some y) none, ty, pos, af, g⟩ rs [] (Is (.sl n f (xs.take h)) []) := by
 have := lt_slice (P := P) (rs := rs) (d := d) (ty := ty) (pos := pos) (af := af) (g := g) (t := t) (e := e) (l := 0) (h := h) (li := 0) hx (.inr ⟨rfl, rfl⟩) rfl (.inl (by rw [Option.map_some, hy])) rfl (Nat.zero_le _) h2
 rwa [List.drop_zero] at this
theorem lt_slFrom {α : Type} {f : α → List AV} {xs : List α} {x y : Operand} {t e : TypeId} {n : Nat} [hE : TyE P t e n] {l : Nat} (hx : opv rs x = some (.sl n f xs)) (hy : opv rs y = some (.val (.int .i64 (l : Int)))) (h2 : l ≤ xs.length) : LT P ⟨d, .slice t x (some y) none none, ty, pos, af, g⟩ rs [] (Is (.sl n f (xs.drop l)) []) := by
 have := lt_slice (P := P) (rs := rs) (d := d) (ty := ty) (pos := pos) (af := af) (g := g) (t := t) (e := e) (l := l) (h := xs.length) (hi' := (xs.length : Int)) hx (.inl (by rw [Option.map_some, hy])) rfl (.inr ⟨rfl, rfl⟩) rfl h2 (Nat.le_refl _)
 rwa [List.take_length] at this
end
end Go.Proofs.YthddoikmgpgakaaDoor.Sw
namespace Go.Proofs.YthddoikmgpgakaaDoor.Sw
open Go.RowKit Go Go.Shelf Go.Proofs
open Go.Proofs.YthddoikmgpgakaaDoor.Ma
theorem Rdy.sub {a : Tl} (h : Rdy a) {s f : List Int} (h1 : s.length ≤ 12) (h2 : f.length ≤ 12) (h3 : okN s = true) (h4 : okN f = true) : Rdy ⟨a.id, a.hs, s, f⟩ := by
 refine rdy_of ?_
 have hk := h.ok
 unfold okT at hk ⊢
 simp only [Bool.and_eq_true, decide_eq_true_eq] at hk ⊢
 exact ⟨⟨⟨⟨hk.1.1.1.1, h1⟩, h2⟩, h3⟩, h4⟩
theorem ltL_drop {a b : List Int} {k : Nat} (ha : k < a.length) (hb : k < b.length) : ltL (a.drop k) (b.drop k) = if a[k] = b[k] then ltL (a.drop (k + 1)) (b.drop (k + 1)) else decide (a[k] < b[k]) := by
 rw [List.drop_eq_getElem_cons ha, List.drop_eq_getElem_cons hb, ltL_cons]
theorem ltL_end {a b : List Int} {k : Nat} (hk : k ≤ a.length) (hk2 : k ≤ b.length) (h : ¬ (k < a.length ∧ k < b.length)) : ltL (a.drop k) (b.drop k) = decide ((a.length : Int) < (b.length : Int)) := by
 rcases Nat.lt_or_ge k a.length with h1 | h1
 ·have : k = b.length := by omega
  subst this
  rw [List.drop_length, ltL_nil_r, decide_eq_false (by omega)]
 ·have : k = a.length := by omega
  subst this
  rw [List.drop_length]
  rcases Nat.lt_or_ge a.length b.length with h2 | h2
  ·rw [List.drop_eq_getElem_cons h2, decide_eq_true (by omega)]; rfl
  ·rw [List.drop_eq_nil_of_le h2, decide_eq_false (by omega)]; rfl
theorem less7_con (a b : List Int) (h1 : a.length ≤ 1000000) (h2 : b.length ≤ 1000000) : Con Tryd.prog 74 [.sl 1 iC a, .sl 1 iC b] [] (Is (.val (.bool (ltL a b))) []) := by
 refine con_of Tryd.func74 rfl (enters_of Tryd.func74 (by kernel_rfl) rfl) rfl ?_; intro n w0 F0 G0
 refine zS ?_
 refine W_loopJ (fun (k : Nat) => ⟨[(0, .sl 1 iC a), (1, .sl 1 iC b), (5, .val (.int .i64 k))], []⟩) (fun k => k ≤ a.length ∧ k ≤ b.length ∧ ltL (a.drop k) (b.drop k) = ltL a b) (fun k => a.length - k) 0 (fun _ _ st => st_sub2 st zR zP) ⟨Nat.zero_le _, Nat.zero_le _, rfl⟩ ?_
 rintro k ⟨hk1, hk2, he⟩
 refine zS ?_
 by_cases ha : k < a.length
 ·rw [decide_eq_true (show (k : Int) < (a.length : Int) by omega)]
  refine zS ?_
  by_cases hb : k < b.length
  ·rw [decide_eq_true (show (k : Int) < (b.length : Int) by omega)]
   have hq0 : a[k]? = some a[k] := List.getElem?_eq_getElem ha
   have hq1 : b[k]? = some b[k] := List.getElem?_eq_getElem hb
   rw [ltL_drop ha hb] at he
   refine zS ?_
   refine W_run 8 [18, 19, 20, 21, 22, 23, 24, 25] [0, 1, 2, 3, 4, 5, 6, 7] Cut.nil rfl goFlt mixedS (by kernel_rfl) rfl ?_
   refine rpv [] [] ?_
   refine rpv [] [] ?_
   refine rpv [0, 1] [] ?_
   refine rpv [2] [] ?_
   refine rpv [] [] ?_
   refine rpv [] [] ?_
   refine rpv [4, 5] [] ?_
   refine rpv [6] [] ?_
   refine ⟨⟨by kernel_rfl, by kernel_rfl⟩, fun vs => ?_⟩
   apply WL_auto [3, 7]
   ·exact goPk
   ·exact goNrm
   ·kernel_rfl
   ·kernel_rfl
   refine zS ?_
   by_cases hab : a[k] = b[k]
   ·rw [if_pos hab] at he
    rw [decide_eq_true hab]
    refine zS ?_
    refine ⟨k + 1, fun _ _ st => st_sub2 st zR zP, ⟨ha, hb, he⟩, ?_⟩
    omega
   ·rw [if_neg hab] at he
    rw [decide_eq_false hab]
    refine zS ?_
    refine W_run 8 [27, 28, 29, 30, 31, 32, 33, 34] [0, 1, 2, 3, 4, 5, 6, 7] Cut.nil rfl goFlt mixedS (by kernel_rfl) rfl ?_
    refine rpv [] [] ?_
    refine rpv [] [] ?_
    refine rpv [0, 1] [] ?_
    refine rpv [2] [] ?_
    refine rpv [] [] ?_
    refine rpv [] [] ?_
    refine rpv [4, 5] [] ?_
    refine rpv [6] [] ?_
    refine ⟨⟨by kernel_rfl, by kernel_rfl⟩, fun vs => ?_⟩
    apply WL_auto [3, 7]
    ·exact goPk
    ·exact goNrm
    ·kernel_rfl
    ·kernel_rfl
    refine zS ?_
    (apply res1; exact rfl; exact rfl; exact ⟨by rw [he], rfl⟩)
  ·rw [decide_eq_false (show ¬ (k : Int) < (b.length : Int) by omega)]
   rw [ltL_end hk1 hk2 (fun h => hb h.2)] at he
   refine zS ?_
   (apply res1; exact rfl; exact rfl; exact ⟨by rw [he], rfl⟩)
 ·rw [decide_eq_false (show ¬ (k : Int) < (a.length : Int) by omega)]
  rw [ltL_end hk1 hk2 (fun h => ha h.1)] at he
  refine zS ?_
  (apply res1; exact rfl; exact rfl; exact ⟨by rw [he], rfl⟩)
theorem costT_eq {ts : List Tl} {i k : Nat} (hi : i < ts.length) (hk : k < ts.length) : costT ts i k = (dist ts[i].st ts[k].fo : Int) := by
 unfold costT; rw [dif_pos ⟨hi, hk⟩]
structure Pm (N : Nat) (q : List Nat) : Prop where
 len : q.length = N
 lt : ∀ k ∈ q, k < N
 nd : q.Nodup
structure MatchF (ts : List Tl) (best : List Nat) (n : Int) (su : List Int) (so : List Tl) : Prop where
 pm : Pm ts.length best
 cost : costOf (costT ts) 0 best = n
 nn : 0 ≤ n
 slen : su.length = ts.length
 solen : so.length = ts.length
 fit : ∀ q, Pm ts.length q → costOf (costT ts) 0 q = n → Fit su q
 le : ∀ q, Pm ts.length q → n ≤ costOf (costT ts) 0 q
 first : ∀ q, Pm ts.length q → costOf (costT ts) 0 q = n → ltL (ints q) (ints best) = false
 sort : ∀ i (h : i < so.length) (h1 : i < ts.length) (h2 : i < best.length) (h3 : best[i] < ts.length), so[i] = ⟨ts[i].id, ts[i].hs, ts[i].st, ts[best[i]].fo⟩
theorem sure_len (l : List (List Nat × Int)) {N : Nat} (h : ∀ q ∈ l, q.1.length = N) (hb : (bst l).1.length = N) : (sure l).length = N := by
 unfold sure
 have h0 : (ints (bst l).1).length = N := by unfold ints; rw [List.length_map]; exact hb
 have hf : ∀ q ∈ l.filter fun p => decide (p.2 ≤ (bst l).2), q.1.length = N := fun q hq => h q (List.mem_filter.1 hq).1
 generalize l.filter (fun p => decide (p.2 ≤ (bst l).2)) = f at hf
 generalize ints (bst l).1 = a at h0
 induction f generalizing a with
 | nil => exact h0
 | cons p f ih =>
  exact ih (fun q hq => hf q (by simp [hq])) (msk a p.1) (by rw [msk_len, h0, hf p (by simp)]; exact Nat.min_self _)
theorem matchF_of {ts : List Tl} (hl : ts.length ≤ 6) (hr : ∀ t ∈ ts, Rdy t) : errAll ts = 0 ∧ MatchF ts (matchR ts).1 (matchR ts).2.1 (sureR ts).1 (sortR ts).1 := by
 have he : errAll ts = 0 := by
  unfold errAll
  have h2 : ts.all Tl.ok = true := List.all_eq_true.2 fun t ht => (hr t ht).ok
  rw [if_neg (by omega), if_pos h2]
 have hne : matsT ts ≠ [] := mats_ne _ _ _ _ List.nodup_nil (fun _ h => by cases h) (by simp)
 have hnn := matsT_nonneg ts
 have B := bi _ hnn
 have hm := B.mem hne
 obtain ⟨b1, b2⟩ := best_ok ts hne
 have pm : Pm ts.length (bst (matsT ts)).1 := by
  obtain ⟨r, h1, h2, h3, h4, _⟩ := mats_mem.1 hm
  rw [List.nil_append] at h1
  exact ⟨b1, b2, by rw [h1]; exact h4⟩
 have mem : ∀ q, Pm ts.length q → (q, costOf (costT ts) 0 q) ∈ matsT ts := fun q hq => mats_mem.2 ⟨q, rfl, hq.len, fun k hk => ⟨hq.lt k hk, by simp⟩, hq.nd, by simp⟩
 have hcost : costOf (costT ts) 0 (bst (matsT ts)).1 = (bst (matsT ts)).2 := by
  obtain ⟨r, h1, h2, h3, h4, h5⟩ := mats_mem.1 hm
  rw [List.nil_append] at h1
  rw [h1, h5]; simp
 refine ⟨he, ?_⟩
 unfold matchR sureR sortR
 rw [if_pos he, if_pos he, if_pos he]
 dsimp only
 refine ⟨pm, hcost, hnn _ hm, sure_len _ (fun q hq => by have := mats_len q hq; rw [this]; simp) b1, by rw [List.length_zipWith, b1]; exact Nat.min_self _, fun q hq e => sure_fit (mem q hq) (by dsimp only; omega), fun q hq => B.le _ (mem q hq), fun q hq e => ?_, fun i h h1 h2 h3 => ?_⟩
 ·have hsr : (matsT ts).Pairwise bef := mats_sorted _ _ _ _ _
  rcases bst_first (R := bef) hsr hnn _ (mem q hq) e with h | h
  ·rw [← h]; exact ltL_irrefl _
  ·exact ltL_asymm h
 ·rw [List.getElem_zipWith]
  unfold sorT
  rw [dif_pos h3]
theorem costOf_take {c : Nat → Nat → Int} {q : List Nat} {i : Nat} (h : i < q.length) : costOf c 0 (q.take (i + 1)) = costOf c 0 (q.take i) + c i q[i] := by
 rw [List.take_succ_eq_append_getElem h, costOf_append, List.length_take, Nat.min_eq_left (Nat.le_of_lt h)]
 simp [costOf]
theorem costOf_bt {ts : List Tl} (hr : ∀ t ∈ ts, Rdy t) (q : List Nat) : ∀ i, i ≤ q.length → 0 ≤ costOf (costT ts) 0 (q.take i) ∧ costOf (costT ts) 0 (q.take i) ≤ 12 * i
 | 0, _ => by simp [costOf]
 | i + 1, h => by
  have ih := costOf_bt hr q i (by omega)
  rw [costOf_take (show i < q.length by omega)]
  have : 0 ≤ costT ts i q[i] ∧ costT ts i q[i] ≤ 12 := by
   unfold costT
   split
   ·rename_i hh
    have h1 := dist_max ts[i].st ts[q[i]].fo
    have h2 := (hr _ (List.getElem_mem hh.1)).s
    have h3 := (hr _ (List.getElem_mem hh.2)).f
    omega
   ·omega
  omega
end Go.Proofs.YthddoikmgpgakaaDoor.Sw
namespace Go.Proofs.YthddoikmgpgakaaDoor.Sw
open Go.RowKit Go
def fnC {β : Type} (e : β → AV) (n : Nat) (g : Nat → β) : List AV := (List.range n).map fun q => e (g q)
theorem fnC_at {β : Type} {e : β → AV} {n : Nat} {g : Nat → β} {j : Nat} (h : j < n) : (fnC e n g)[j]? = some (e (g j)) := by
 unfold fnC
 rw [List.getElem?_map, List.getElem?_range h]; rfl
theorem fnC_at1 {β : Type} {e : β → AV} {n : Nat} {g : Nat → β} {j : Nat} (h : j < n) : (fnC e n g)[j * 1]? = some (e (g j)) := by
 rw [Nat.mul_one]; exact fnC_at h
theorem fnC_len {β : Type} (e : β → AV) (n : Nat) (g : Nat → β) : (fnC e n g).length = n := by simp [fnC]
def upF {β : Type} (g : Nat → β) (j : Nat) (x : β) : Nat → β := fun q => if q = j then x else g q
theorem fnC_put {β : Type} {e : β → AV} {n : Nat} {g : Nat → β} {j : Nat} {x : β} (h : j < n) : spl (fnC e n g) j [e x] = fnC e n (upF g j x) := by
 unfold spl fnC upF
 refine List.ext_getElem? fun i => ?_
 rw [List.getElem?_map]
 rcases Nat.lt_or_ge i n with hi | hi
 ·rw [List.getElem?_range hi]
  rcases Nat.lt_trichotomy i j with q | q | q
  ·rw [List.append_assoc, List.getElem?_append_left (by simp; omega), List.getElem?_take, if_pos q, List.getElem?_map, List.getElem?_range hi]
   simp [show i ≠ j by omega]
  ·subst q
   rw [List.append_assoc, List.getElem?_append_right (by rw [List.length_take]; exact Nat.min_le_left _ _)]
   simp [show min i n = i by omega]
  ·rw [List.append_assoc, List.getElem?_append_right (by simp; omega), List.getElem?_append_right (by simp; omega)]
   simp only [List.length_take, List.length_map, List.length_range, List.length_singleton, List.getElem?_drop, List.getElem?_map]
   rw [show j + 1 + (i - min j n - 1) = i by omega, List.getElem?_range hi]
   simp [show i ≠ j by omega]
 ·rw [List.getElem?_eq_none (by simp; omega), List.getElem?_eq_none (by simp; omega)]; rfl
theorem fnC_put1 {β : Type} {e : β → AV} {n : Nat} {g : Nat → β} {j : Nat} {x : β} (h : j < n) : spl (fnC e n g) (j * 1) [e x] = fnC e n (upF g j x) := by
 rw [Nat.mul_one]; exact fnC_put h
section
variable {P : Program} {rs : List (Nat × AV)} {d : Option Nat} {ty : TypeId} {pos : String} {af : Array Edge} {g : Option (Nat × Bool)}
end
def eB : Bool → AV := fun b => .val (.bool b)
end Go.Proofs.YthddoikmgpgakaaDoor.Sw
namespace Go.Proofs.YthddoikmgpgakaaDoor.Sw
open Go.RowKit Go Go.Shelf Go.Proofs
open Go.Proofs.YthddoikmgpgakaaDoor.Ma
theorem perm_pick {N : Nat} {o l : List Nat} {k : Nat} (h : (o ++ l).Perm (List.range N)) (hk : k < l.length) : ((o ++ [l[k]]) ++ (l.take k ++ l.drop (k + 1))).Perm (List.range N) := by
 refine List.Perm.trans ?_ h
 rw [List.append_assoc]
 refine List.Perm.append_left o ?_
 have e : l = l.take k ++ l[k] :: l.drop (k + 1) := by rw [← List.drop_eq_getElem_cons hk, List.take_append_drop]
 have m := List.perm_middle (a := l[k]) (l₁ := l.take k) (l₂ := l.drop (k + 1))
 exact m.symm.trans (List.Perm.of_eq e.symm)
theorem pm_of {N : Nat} {o : List Nat} (h : (o ++ []).Perm (List.range N)) : Pm N o := by
 rw [List.append_nil] at h
 exact ⟨by rw [h.length_eq, List.length_range], fun k hk => List.mem_range.1 (h.mem_iff.1 hk), h.nodup_iff.2 List.nodup_range⟩
theorem ints_at {q : List Nat} {i : Nat} (h : i < q.length) : (ints q)[i]? = some (q[i] : Int) := by
 unfold ints; rw [List.getElem?_map, List.getElem?_eq_getElem h]; rfl
theorem nd_take {q : List Nat} (h : q.Nodup) {i : Nat} (hi : i < q.length) : q[i] ∉ q.take i := fun hm => by
 obtain ⟨j, hj, e⟩ := List.getElem_of_mem hm
 rw [List.length_take] at hj
 rw [List.getElem_take] at e
 have := (List.getElem_inj (h₀ := by omega) (h₁ := hi) h).1 e
 omega
theorem tallyMatch_con (ts : List Tl) (by_ : List (Fin 256)) : Con Tryd.prog 16 [.sl 4 tC ts, .sl 1 u8C by_] [HA.tab] (Is (.val (.bool true)) []) := by
 refine con_of Tryd.func16 rfl (enters_of Tryd.func16 (by kernel_rfl) rfl) rfl ?_; intro n w0 F0 G0
 refine zS ?_;repeat(refine yA ?_;intro p hp;refine zS ?_)
 (first | (apply wl_call (alive_con); exact rfl; exact rfl) | (apply wl_callR (alive_con); exact rfl; exact zM; exact rfl))
 refine zS ?_;repeat(refine yA ?_;intro p hp;refine zS ?_)
 (first | (apply wl_call (greatAll_con ts); exact rfl; exact rfl) | (apply wl_callR (greatAll_con ts); exact rfl; exact zM; exact rfl))
 refine zS ?_;repeat(refine yA ?_;intro p hp;refine zS ?_)
 cases hg : (decide ((12 : Int) < ts.length) || ts.any greatT) with
 | true =>
  refine zS ?_;repeat(refine yA ?_;intro p hp;refine zS ?_)
  (apply res1; exact rfl; exact rfl; exact ⟨rfl, rfl⟩)
 | false =>
  have hts : small3 ts := fun u hu => by
   simp only [Bool.or_eq_false_iff, List.any_eq_false] at hg
   have := hg.2 u hu
   simp [greatT] at this; omega
  refine zS ?_;repeat(refine yA ?_;intro p hp;refine zS ?_)
  refine wl_part rfl rfl (fun h6 => ?_) (fun h6 => ?_)
  ·refine zS ?_;repeat(refine yA ?_;intro p hp;refine zS ?_)
   (apply res1; exact rfl; exact rfl; exact ⟨rfl, rfl⟩)
  ·have hl : ts.length ≤ 6 := by simp at h6; omega
   refine zS ?_;repeat(refine yA ?_;intro p hp;refine zS ?_)
   refine W_loopJ (fun (k : Nat) => ⟨[(0, .sl 4 tC ts), (1, .sl 1 u8C by_), (5, .val (.bool true)), (40, .sl 4 tC ts), (41, .val (.int .i64 ts.length)), (42, .val (.int .i64 k))], [HA.tab]⟩) (fun k => k ≤ ts.length ∧ ∀ t ∈ ts.take k, Rdy t) (fun k => ts.length - k) 0 (fun _ _ st => st_sub2 st zR zP) ⟨Nat.zero_le _, fun t ht => by simp at ht⟩ ?_
   rintro k ⟨hk, hok⟩
   refine zS ?_;repeat(refine yA ?_;intro p hp;refine zS ?_)
   refine w_cond rfl (fun hlt => ?_) (fun hlt => ?_)
   ·have hlt' : k < ts.length := by simpa using hlt
    have hm := hts _ (List.getElem_mem hlt')
    refine zS ?_;repeat(refine yA ?_;intro p hp;refine zS ?_)
    (first | (apply wl_call (tally_con _ hm.1 hm.2); exact rfl; exact rfl) | (apply wl_callR (tally_con _ hm.1 hm.2); exact rfl; exact zM; exact rfl))
    cases ho : okT ts[k].id ts[k].hs ts[k].st ts[k].fo with
    | false =>
     refine zS ?_;repeat(refine yA ?_;intro p hp;refine zS ?_)
     (apply res1; exact rfl; exact rfl; exact ⟨rfl, rfl⟩)
    | true =>
     refine zS ?_;repeat(refine yA ?_;intro p hp;refine zS ?_)
     (refine ⟨k + 1, fun _ _ st => st_sub2 st ?_ ?_, ?_, ?_⟩; exact zR; exact zP)
     ·refine ⟨hlt', fun t ht => ?_⟩
      rw [List.take_succ_eq_append_getElem hlt', List.mem_append] at ht
      rcases ht with ht | ht
      ·exact hok t ht
      ·rw [List.mem_singleton] at ht; subst ht; exact rdy_of ho
     ·omega
   ·have hkk : k = ts.length := by simp at hlt; omega
    subst hkk
    rw [List.take_length] at hok
    obtain ⟨he, MF⟩ := matchF_of hl hok
    have CM := matchF_con ts (by omega) hts
    have CS := sureF_con ts (by omega) hts
    have CT := sortF_con ts (by omega) hts
    have em : (matchR ts).2.2 = 0 := by unfold matchR; rw [if_pos he]
    have es : (sureR ts).2 = 0 := by unfold sureR; rw [if_pos he]
    have et : (sortR ts).2 = 0 := by unfold sortR; rw [if_pos he]
    rw [em] at CM
    rw [es] at CS
    rw [et] at CT
    generalize (matchR ts).1 = best at MF CM
    generalize (matchR ts).2.1 = least at MF CM
    generalize (sureR ts).1 = su at MF CS
    generalize (sortR ts).1 = so at MF CT
    have hbl := MF.pm.len
    have hsl := MF.slen
    have hol := MF.solen
    have hil := ints_len best
    refine zS ?_;repeat(refine yA ?_;intro p hp;refine zS ?_)
    (first | (apply wl_call (CM); exact rfl; exact rfl) | (apply wl_callR (CM); exact rfl; exact zM; exact rfl))
    refine zS ?_;repeat(refine yA ?_;intro p hp;refine zS ?_)
    (first | (apply wl_call (CS); exact rfl; exact rfl) | (apply wl_callR (CS); exact rfl; exact zM; exact rfl))
    refine zS ?_;repeat(refine yA ?_;intro p hp;refine zS ?_)
    (first | (apply wl_call (CT); exact rfl; exact rfl) | (apply wl_callR (CT); exact rfl; exact zM; exact rfl))
    refine zS ?_;repeat(refine yA ?_;intro p hp;refine zS ?_)
    rw [show (ints best).length = ts.length by omega, decide_eq_true rfl]
    refine zS ?_;repeat(refine yA ?_;intro p hp;refine zS ?_)
    rw [hsl, decide_eq_true rfl]
    refine zS ?_;repeat(refine yA ?_;intro p hp;refine zS ?_)
    rw [hol, decide_eq_true rfl]
    refine zS ?_;repeat(refine yA ?_;intro p hp;refine zS ?_)
    -- the numbers of all
    refine W_loopJ (fun (b : Nat × Value) => ⟨[(0, .sl 4 tC ts), (1, .sl 1 u8C by_), (5, .val (.bool true)), (8, .sl 1 iC (ints best)), (9, .val (.int .i64 least)), (11, .sl 1 iC su), (13, .sl 4 tC so), (15, .val (.slice none 0 0)), (16, .val b.2), (98, .sl 4 tC ts), (99, .val (.int .i64 ts.length)), (100, .val (.int .i64 b.1))], [.row b.2 3 1 iC (ints (List.range b.1)), HA.tab]⟩) (fun b => b.1 ≤ ts.length) (fun b => ts.length - b.1) (0, .slice none 0 0) (fun _ _ st => st_sub2 (st_nil 3 1 iC st) zR zP) (Nat.zero_le _) ?_
    rintro ⟨k, v⟩ hk2
    dsimp only at hk2 ⊢
    refine zS ?_;repeat(refine yA ?_;intro p hp;refine zS ?_)
    refine w_cond rfl (fun hlt2 => ?_) (fun hlt2 => ?_)
    ·have hlt2' : k < ts.length := by simpa using hlt2
     have hr1 : ints (List.range (k + 1)) = ints (List.range k) ++ [(k : Int)] := by
      rw [List.range_succ]; simp [ints]
     have hr2 : (ints (List.range k)).length = k := by simp [ints]
     refine zS ?_;repeat(refine yA ?_;intro p hp;refine zS ?_)
     (apply wl_litF iC; exact inferInstance; exact inferInstance; exact inferInstance; exact zE; exact rfl; (first | exact (of_decide_eq_true rfl) | decide | (simp; done) | (simp; omega)); exact rfl)
     (first | (apply wl_append; exact rfl; exact rfl; exact zN; exact inferInstance; exact inferInstance; (first | omega | (simp; omega)); exact rfl) | (apply wl_appendN; exact rfl; exact rfl; exact inferInstance; exact inferInstance; (first | omega | (simp; omega)); exact rfl))
     intro v2
     refine zS ?_;repeat(refine yA ?_;intro p hp;refine zS ?_)
     refine ⟨(k + 1, v2), fun _ _ st => st_sub2 st zR (by rw [hr1]; exact zP), hlt2', ?_⟩
     dsimp only; omega
    ·have hkk2 : k = ts.length := by simp at hlt2; omega
     subst hkk2
     refine zS ?_;repeat(refine yA ?_;intro p hp;refine zS ?_)
     -- another one
     refine W_loopJ (fun (b : Nat × (Value × List Nat) × (Value × List Nat)) => ⟨[(0, .sl 4 tC ts), (1, .sl 1 u8C by_), (5, .val (.bool true)), (8, .sl 1 iC (ints best)), (9, .val (.int .i64 least)), (11, .sl 1 iC su), (13, .sl 4 tC so), (15, .val b.2.1.1), (16, .val b.2.2.1), (108, .sl 4 tC ts), (109, .val (.int .i64 ts.length)), (110, .val (.int .i64 b.1))], [.row b.2.1.1 3 1 iC (ints b.2.1.2), .row b.2.2.1 3 1 iC (ints b.2.2.2), HA.tab]⟩) (fun b => b.1 ≤ ts.length ∧ b.2.1.2.length = b.1 ∧ (b.2.1.2 ++ b.2.2.2).Perm (List.range ts.length)) (fun b => ts.length - b.1) (0, (.slice none 0 0, []), (v, List.range ts.length)) (fun _ _ st => st_sub2 (st_nil 3 1 iC st) zR zP) ⟨Nat.zero_le _, rfl, List.Perm.refl _⟩ ?_
     rintro ⟨i, ⟨vo, ot⟩, ⟨vl, lf⟩⟩ ⟨hi, hoi, hpm⟩
     dsimp only at hi hoi hpm ⊢
     have hlen : ot.length + lf.length = ts.length := by
      have := hpm.length_eq
      rwa [List.length_append, List.length_range] at this
     have hll := ints_len lf
     have hlo := ints_len ot
     refine zS ?_;repeat(refine yA ?_;intro p hp;refine zS ?_)
     refine w_cond rfl (fun hlt3 => ?_) (fun hlt3 => ?_)
     ·have hlt3' : i < ts.length := by simpa using hlt3
      have hlf : 0 < lf.length := by omega
      refine zS ?_;repeat(refine yA ?_;intro p hp;refine zS ?_)
      rcases Nat.eq_zero_or_pos by_.length with hb0 | hb0
      ·rw [decide_eq_false (show ¬ (0 : Int) < (by_.length : Int) by omega)]
       have hq0 := ints_at (q := lf) hlf
       have hpp := perm_pick hpm hlf
       have hx1 : ints (ot ++ [lf[0]]) = ints ot ++ [(ints lf)[0]'(by rw [hll]; exact hlf)] := by simp [ints]
       have hx2 : ints (lf.take 0 ++ lf.drop (0 + 1)) = [] ++ (ints lf).take 0 ++ (ints lf).drop (0 + 1) := by simp [ints]
       refine zS ?_;repeat(refine yA ?_;intro p hp;refine zS ?_)
       (apply wl_litF iC; exact inferInstance; exact inferInstance; exact inferInstance; exact zE; exact rfl; (first | exact (of_decide_eq_true rfl) | decide | (simp; done) | (simp; omega)); exact rfl)
       (first | (apply wl_append; exact rfl; exact rfl; exact zN; exact inferInstance; exact inferInstance; (first | omega | (simp; omega)); exact rfl) | (apply wl_appendN; exact rfl; exact rfl; exact inferInstance; exact inferInstance; (first | omega | (simp; omega)); exact rfl))
       intro v2
       refine zS ?_;repeat(refine yA ?_;intro p hp;refine zS ?_)
       (apply W_frz 16; exact rfl; exact zN)
       refine W_run 9 [134, 135, 136, 137, 138, 139, 140, 141, 142] [1, 2, 3, 4, 5, 6, 7, 8] Cut.nil rfl goFlt mixedS (by kernel_rfl) rfl ?_
       refine Run.tok [] [] rfl (fun vs => by apply ltr_pk; exact goPk; (refine ltr ?_; apply lt_lit (f := iC); exact zE; exact rfl; (first | exact (of_decide_eq_true rfl) | decide | (simp; done) | (simp; omega)))) goApp ?_
       refine rpv [] [] ?_
       refine rpv [] [] ?_
       refine Run.pv [1, 2] [] rfl (fun vs => by apply ltr_pk; exact goPk; (refine ltr ?_; apply lt_slTo (h := 0); exact rfl; exact rfl; omega)) goApp ?_
       refine Run.tok [0, 3] [0] rfl (fun vs => by apply ltr_pk; exact goPk; (refine ltr ?_; apply lt_append; exact rfl; exact rfl; (simp))) goApp ?_
       refine rpv [] [] ?_
       refine rpv [] [] ?_
       refine rpv [6] [] ?_
       refine Run.pv [5, 7] [] rfl (fun vs => by apply ltr_pk; exact goPk; (refine ltr ?_; apply lt_slFrom (l := 0 + 1); exact rfl; exact rfl; omega)) goApp ?_
       refine ⟨⟨by kernel_rfl, by kernel_rfl⟩, fun vs => ?_⟩
       apply WL_auto [4, 8]
       ·exact goPk
       ·exact goNrm
       ·kernel_rfl
       ·kernel_rfl
       refine zS ?_;repeat(refine yA ?_;intro p hp;refine zS ?_)
       (first | (apply wl_append; exact rfl; exact rfl; exact zN; exact inferInstance; exact inferInstance; (first | omega | (simp; omega)); exact rfl) | (apply wl_appendN; exact rfl; exact rfl; exact inferInstance; exact inferInstance; (first | omega | (simp; omega)); exact rfl))
       intro v3
       refine zS ?_;repeat(refine yA ?_;intro p hp;refine zS ?_)
       refine ⟨(i + 1, (v2, ot ++ [lf[0]]), (v3, lf.take 0 ++ lf.drop (0 + 1))), fun _ _ st => st_sub2 st zR (by rw [hx1, hx2]; exact zP), ⟨hlt3', by rw [List.length_append, List.length_singleton, hoi], hpp⟩, ?_⟩
       dsimp only; omega
      ·rw [decide_eq_true (show (0 : Int) < (by_.length : Int) by omega)]
       have hm : i % by_.length < by_.length := Nat.mod_lt _ hb0
       have hqb : by_[i % by_.length]? = some by_[i % by_.length] := List.getElem?_eq_getElem hm
       obtain ⟨x, hx⟩ : ∃ x, x = by_[i % by_.length] := ⟨_, rfl⟩
       rw [← hx] at hqb
       have c1 := fun w => run_conv8 (P := Tryd.prog) Tryd.underlying5 Tryd.underlying3 (n := ((x.val : Nat) : Int)) ⟨by omega, by have := x.isLt; omega⟩ w
       refine zS ?_;repeat(refine yA ?_;intro p hp;refine zS ?_)
       (apply wl_rem; exact rfl; exact rfl; omega; omega; omega; exact rfl)
       rw [show (i : Int) % (by_.length : Int) = ((i % by_.length : Nat) : Int) by omega]
       refine zS ?_;repeat(refine yA ?_;intro p hp;refine zS ?_)
       rw [← hx]
       (apply wl_convC (.int .i64 ((x.val : Nat) : Int)); exact rfl; exact c1; exact rfl)
       refine zS ?_;repeat(refine yA ?_;intro p hp;refine zS ?_)
       (apply wl_rem; exact rfl; exact rfl; omega; (have := x.isLt; omega); (have := x.isLt; omega); exact rfl)
       rw [hll]
       rw [show ((x.val : Nat) : Int) % (lf.length : Int) = ((x.val % lf.length : Nat) : Int) by omega]
       have hkl : x.val % lf.length < lf.length := Nat.mod_lt _ hlf
       generalize x.val % lf.length = kk at hkl ⊢
       have hq0 := ints_at (q := lf) hkl
       have hpp := perm_pick hpm hkl
       have hx1 : ints (ot ++ [lf[kk]]) = ints ot ++ [(ints lf)[kk]'(by rw [hll]; exact hkl)] := by simp [ints]
       have hx2 : ints (lf.take kk ++ lf.drop (kk + 1)) = [] ++ (ints lf).take kk ++ (ints lf).drop (kk + 1) := by simp [ints]
       refine zS ?_;repeat(refine yA ?_;intro p hp;refine zS ?_)
       (apply wl_litF iC; exact inferInstance; exact inferInstance; exact inferInstance; exact zE; exact rfl; (first | exact (of_decide_eq_true rfl) | decide | (simp; done) | (simp; omega)); exact rfl)
       (first | (apply wl_append; exact rfl; exact rfl; exact zN; exact inferInstance; exact inferInstance; (first | omega | (simp; omega)); exact rfl) | (apply wl_appendN; exact rfl; exact rfl; exact inferInstance; exact inferInstance; (first | omega | (simp; omega)); exact rfl))
       intro v2
       refine zS ?_;repeat(refine yA ?_;intro p hp;refine zS ?_)
       (apply W_frz 16; exact rfl; exact zN)
       refine W_run 9 [134, 135, 136, 137, 138, 139, 140, 141, 142] [1, 2, 3, 4, 5, 6, 7, 8] Cut.nil rfl goFlt mixedS (by kernel_rfl) rfl ?_
       refine Run.tok [] [] rfl (fun vs => by apply ltr_pk; exact goPk; (refine ltr ?_; apply lt_lit (f := iC); exact zE; exact rfl; (first | exact (of_decide_eq_true rfl) | decide | (simp; done) | (simp; omega)))) goApp ?_
       refine rpv [] [] ?_
       refine rpv [] [] ?_
       refine Run.pv [1, 2] [] rfl (fun vs => by apply ltr_pk; exact goPk; (refine ltr ?_; apply lt_slTo (h := kk); exact rfl; exact rfl; omega)) goApp ?_
       refine Run.tok [0, 3] [0] rfl (fun vs => by apply ltr_pk; exact goPk; (refine ltr ?_; apply lt_append; exact rfl; exact rfl; (first | omega | (simp; omega)))) goApp ?_
       refine rpv [] [] ?_
       refine rpv [] [] ?_
       refine rpv [6] [] ?_
       refine Run.pv [5, 7] [] rfl (fun vs => by apply ltr_pk; exact goPk; (refine ltr ?_; apply lt_slFrom (l := kk + 1); exact rfl; exact rfl; omega)) goApp ?_
       refine ⟨⟨by kernel_rfl, by kernel_rfl⟩, fun vs => ?_⟩
       apply WL_auto [4, 8]
       ·exact goPk
       ·exact goNrm
       ·kernel_rfl
       ·kernel_rfl
       refine zS ?_;repeat(refine yA ?_;intro p hp;refine zS ?_)
       (first | (apply wl_append; exact rfl; exact rfl; exact zN; exact inferInstance; exact inferInstance; (first | omega | (simp; omega)); exact rfl) | (apply wl_appendN; exact rfl; exact rfl; exact inferInstance; exact inferInstance; (first | omega | (simp; omega)); exact rfl))
       intro v3
       refine zS ?_;repeat(refine yA ?_;intro p hp;refine zS ?_)
       refine ⟨(i + 1, (v2, ot ++ [lf[kk]]), (v3, lf.take kk ++ lf.drop (kk + 1))), fun _ _ st => st_sub2 st zR (by rw [hx1, hx2]; exact zP), ⟨hlt3', by rw [List.length_append, List.length_singleton, hoi], hpp⟩, ?_⟩
       dsimp only; omega
     ·have hii : i = ts.length := by simp at hlt3; omega
      have hl0 : lf = [] := List.length_eq_zero_iff.1 (by omega)
      subst hl0
      have PO := pm_of hpm
      have CLs := less7_con (ints ot) (ints best) (by omega) (by omega)
      have hci : 0 ≤ costOf (costT ts) 0 ot := by have := MF.le ot PO; have := MF.nn; omega
      have hof : costOf (costT ts) 0 (ot.take 0) = 0 := rfl
      have hbe : costOf (costT ts) 0 (best.take 0) = 0 := rfl
      refine zS ?_;repeat(refine yA ?_;intro p hp;refine zS ?_)
      revert p
      intro p20 hp20
      (apply W_frz 15; exact rfl; exact zN)
      refine W_loopJ (fun (i : Nat) => ⟨[(0, .sl 4 tC ts), (5, .val (.bool true)), (8, .sl 1 iC (ints best)), (9, .val (.int .i64 least)), (11, .sl 1 iC su), (13, .sl 4 tC so), (15, .sl 1 iC (ints ot)), (20, .val p20), (21, .val (.int .i64 (costOf (costT ts) 0 (best.take i)))), (22, .val (.int .i64 (costOf (costT ts) 0 (ot.take i)))), (145, .sl 1 iC (ints best)), (146, .val (.int .i64 (ints best).length)), (147, .val (.int .i64 i))], [.box p20 (fnC eB 6 (fun q => decide (q ∈ best.take i))) 124]⟩) (fun i => i ≤ ts.length) (fun i => ts.length - i) 0 (fun _ _ st => st_sub2 st zR zP) (Nat.zero_le _) ?_
      intro i hi2
      refine zS ?_;repeat(refine yA ?_;intro p hp;refine zS ?_)
      refine w_cond rfl (fun hlt4 => ?_) (fun hlt4 => ?_)
      ·have hib : i < best.length := by have := of_decide_eq_true hlt4; omega
       have hio : i < ot.length := by have := PO.len; omega
       have hiT : i < ts.length := by omega
       have hbN := MF.pm.lt _ (List.getElem_mem hib)
       have hoN := PO.lt _ (List.getElem_mem hio)
       have q8 := ints_at hib
       have q15 := ints_at hio
       have qs : su[i]? = some su[i] := List.getElem?_eq_getElem (by omega)
       have qo : so[i]? = some so[i] := List.getElem?_eq_getElem (by omega)
       have qt : ts[i]? = some ts[i] := List.getElem?_eq_getElem hiT
       have qtb : ts[best[i]]? = some ts[best[i]] := List.getElem?_eq_getElem hbN
       have qto : ts[ot[i]]? = some ts[ot[i]] := List.getElem?_eq_getElem hoN
       have e8 : (ints best)[i]'(by rw [hil]; exact hib) = (best[i] : Int) := by simp [ints]
       have hsort := MF.sort i (by omega) hiT hib hbN
       have hfit := MF.fit best MF.pm MF.cost i (by omega) hib
       have hnd := nd_take MF.pm.nd hib
       have hc1 := costOf_take (c := costT ts) hib
       have hc2 := costOf_take (c := costT ts) hio
       rw [costT_eq hiT hbN] at hc1
       rw [costT_eq hiT hoN] at hc2
       have hb1 := costOf_bt hok best i (by omega)
       have hb2 := costOf_bt hok ot i (by omega)
       have r1 := hok _ (List.getElem_mem hiT)
       have r2 := hok _ (List.getElem_mem hbN)
       have r3 := hok _ (List.getElem_mem hoN)
       have a1 := apart_con ts[i].st ts[best[i]].fo (by have := r1.s; omega) (by have := r2.f; omega)
       have a2 := apart_con ts[i].st ts[ot[i]].fo (by have := r1.s; omega) (by have := r3.f; omega)
       have d1 := dist_max ts[i].st ts[best[i]].fo
       have d2 := dist_max ts[i].st ts[ot[i]].fo
       have s1 := r1.s
       have s2 := r2.f
       have s3 := r3.f
       have SF := sameI_con ts[best[i]].fo ts[best[i]].fo (by omega) (by omega)
       have SS := sameI_con ts[i].st ts[i].st (by omega) (by omega)
       rw [decide_eq_true rfl] at SF SS
       rw [hsort] at qo
       have htk : ∀ q, (q ∈ best.take (i + 1)) = (q ∈ best.take i ∨ q = best[i]) := fun q => by
        rw [List.take_succ_eq_append_getElem hib, List.mem_append, List.mem_singleton]
       generalize hb : best[i] = b at q8 e8 hbN qtb hsort hfit hnd hc1 r2 a1 d1 s2 SF qo htk
       generalize hto : ot[i] = o at q15 hoN qto hc2 r3 a2 d2 s3
       have hb6 : b < 6 := by omega
       have hcell : (fnC eB 6 (fun q => decide (q ∈ best.take i)))[b * 1]? = some (.val (.bool false)) := by
        rw [fnC_at1 hb6, decide_eq_false hnd]; rfl
       have hput : spl (fnC eB 6 (fun q => decide (q ∈ best.take i))) (b * 1) [.val (.bool true)] = fnC eB 6 (fun q => decide (q ∈ best.take (i + 1))) := by
        rw [show [AV.val (.bool true)] = [eB true] from rfl, fnC_put1 hb6]
        congr 1
        funext q
        unfold upF
        by_cases hq : q = b
        ·rw [if_pos hq]; exact (decide_eq_true (by rw [htk]; exact .inr hq)).symm
        ·rw [if_neg hq]; exact decide_eq_decide.2 (by rw [htk]; simp [hq])
       refine zS ?_;repeat(refine yA ?_;intro p hp;refine zS ?_)
       rw [e8]
       rcases hfit with hf | hf
       ·rw [hf] at qs
        refine W_run 82 [152, 153, 154, 155, 156, 157, 158, 159, 160, 161, 162, 163, 164, 165, 166, 167, 168, 169, 170, 171, 172, 173, 174, 175, 176, 177, 178, 179, 180, 181, 182, 183, 184, 185, 186, 187, 188, 189, 190, 191, 192, 193, 194, 195, 196, 197, 198, 199, 200, 201, 202, 203, 204, 205, 206, 207, 208, 209, 210, 211, 212, 213, 214, 215, 216, 217, 218, 219, 220, 221, 222, 223, 224, 225, 226, 227, 228, 229, 230, 231, 232, 233] [0, 1, 2, 3, 4, 5, 6, 7, 8, 9, 10, 11, 12, 13, 14, 15, 16, 17, 18, 19, 20, 21, 22, 23, 24, 25, 26, 27, 28, 29, 30, 31, 32, 33, 34, 35, 36, 37, 38, 39, 40, 41, 42, 43, 44, 45, 46, 47, 48, 49, 50, 51, 52, 53, 54, 55, 56, 57, 58, 59, 60, 61, 62, 63, 64, 65, 66, 67, 68, 69, 70, 71, 72, 73, 74, 75, 76, 77, 78, 79, 80, 81] Cut.nil rfl goFlt mixedS (by kernel_rfl) rfl ?_
        refine rpv [] [] ?_
        refine Run.pv [0] [] rfl (fun vs => by apply ltr_pk; exact goPk; (refine ltr ?_; apply LT_bool false; apply lt_lss; exact rfl; exact rfl; exact decide_eq_false (by omega))) goApp ?_
        refine rpv [1] [] ?_
        refine ryv [2] ?_
        refine ryv [2] ?_
        refine ryv [2, 4] ?_
        refine ryx [2, 3, 5] (fun vs => by apply ltr_pk; exact goPk; (refine ltr ?_; apply LT_bool false; apply lt_geq; exact rfl; exact rfl; exact decide_eq_false (by omega))) ?_
        refine rpv [2, 6] [] ?_
        refine rpv [7] [] ?_
        refine ryv [8] ?_
        refine ryv [8, 9] ?_
        refine ryx [8, 10] (fun vs => by apply ltr_pk; exact goPk; (apply ltr_load1; (first | exact .inl rfl | exact .inr ⟨rfl, rfl⟩); exact zM; exact hcell)) ?_
        refine rpv [8, 11] [] ?_
        refine rpv [12] [] ?_
        refine ryv [13] ?_
        refine ryv [13] ?_
        refine ryv [13, 14, 15] ?_
        refine ryv [13, 16] ?_
        refine ryx [13, 17] (fun vs => by apply ltr_pk; exact goPk; (refine ltr ?_; apply LT_bool false; apply lt_neq; exact rfl; exact rfl; exact rfl)) ?_
        refine ryv [13, 18] ?_
        refine rno [19] ?_
        refine rno [19] ?_
        refine rno [19, 20, 21] ?_
        refine rno [19, 22] ?_
        refine rno [19] ?_
        refine rno [19, 23, 24] ?_
        refine ryv [13, 19, 25] ?_
        refine rpv [13, 26] [] ?_
        refine rpv [27] [] ?_
        refine ryv [28] ?_
        refine ryv [28] ?_
        refine ryv [28, 29, 30] ?_
        refine ryv [28, 31] ?_
        refine ryv [28, 32] ?_
        refine ryv [28] ?_
        refine ryv [28] ?_
        refine ryv [28, 34, 35] ?_
        refine ryv [28, 36] ?_
        refine ryv [28, 37] ?_
        refine ryx [28, 33, 38] (fun vs => by apply ltr_pk; exact goPk; (refine ltr ?_; refine lt_call ?_ (SF); exact rfl)) ?_
        refine ryv [28, 39] ?_
        refine rpv [28, 40] [] ?_
        refine rpv [41] [] ?_
        refine ryv [42] ?_
        refine ryv [42] ?_
        refine ryv [42, 43, 44] ?_
        refine ryv [42, 45] ?_
        refine ryv [42, 46] ?_
        refine ryv [42] ?_
        refine ryv [42] ?_
        refine ryv [42, 48, 49] ?_
        refine ryv [42, 50] ?_
        refine ryv [42, 51] ?_
        refine ryx [42, 47, 52] (fun vs => by apply ltr_pk; exact goPk; (refine ltr ?_; refine lt_call ?_ (SS); exact rfl)) ?_
        refine ryv [42, 53] ?_
        refine rpv [42, 54] [] ?_
        refine rpv [55] [] ?_
        refine ryv [56] ?_
        refine ryv [56] ?_
        refine ryv [56, 57, 58] ?_
        refine ryv [56, 59] ?_
        refine ryv [56, 60] ?_
        refine ryv [56] ?_
        refine ryv [56] ?_
        refine ryv [56, 62, 63] ?_
        refine ryv [56, 64] ?_
        refine ryv [56, 65] ?_
        refine ryx [56, 61, 66] (fun vs => by apply ltr_pk; exact goPk; (refine ltr ?_; apply LT_bool false; apply lt_neq; exact rfl; exact rfl; (simp))) ?_
        refine rpv [56, 67] [] ?_
        refine rpv [68] [] ?_
        refine ryv [69] ?_
        refine ryv [69] ?_
        refine ryv [69, 70, 71] ?_
        refine ryv [69, 72] ?_
        refine ryv [69, 73] ?_
        refine ryv [69] ?_
        refine ryv [69] ?_
        refine ryv [69, 75, 76] ?_
        refine ryv [69, 77] ?_
        refine ryv [69, 78] ?_
        refine ryx [69, 74, 79] (fun vs => by apply ltr_pk; exact goPk; (refine ltr ?_; apply LT_bool false; apply lt_neq; exact rfl; exact rfl; (simp))) ?_
        refine rpv [69, 80] [] ?_
        refine ⟨⟨by kernel_rfl, by kernel_rfl⟩, fun vs => ?_⟩
        apply WL_auto [81]
        ·exact goPk
        ·exact goNrm
        ·kernel_rfl
        ·kernel_rfl
        refine zS ?_;repeat(refine yA ?_;intro p hp;refine zS ?_)
        refine zS ?_;repeat(refine yA ?_;intro p hp;refine zS ?_)
        (apply wl_store; (first | exact .inl rfl | exact .inr ⟨rfl, rfl⟩); exact zM; exact rfl; exact inferInstance; exact inferInstance; exact inferInstance; exact rfl; (rw [fnC_len]; omega))
        rw [hput]
        refine zS ?_;repeat(refine yA ?_;intro p hp;refine zS ?_)
        refine W_run 12 [236, 237, 238, 239, 240, 241, 242, 243, 244, 245, 246, 247] [0, 1, 2, 3, 4, 5, 6, 7, 8, 9, 10, 11] Cut.nil rfl goFlt mixedS (by kernel_rfl) rfl ?_
        refine rpv [] [] ?_
        refine rpv [] [] ?_
        refine rpv [] [] ?_
        refine rpv [1, 2] [] ?_
        refine rpv [3] [] ?_
        refine rpv [4] [] ?_
        refine rpv [] [] ?_
        refine rpv [] [] ?_
        refine rpv [6, 7] [] ?_
        refine rpv [8] [] ?_
        refine rpv [9] [] ?_
        refine Run.pv [5, 10] [] rfl (fun vs => by apply ltr_pk; exact goPk; (refine ltr ?_; refine lt_call ?_ (a1); exact rfl)) goApp ?_
        refine ⟨⟨by kernel_rfl, by kernel_rfl⟩, fun vs => ?_⟩
        apply WL_auto [0, 11]
        ·exact goPk
        ·exact goNrm
        ·kernel_rfl
        ·kernel_rfl
        refine zS ?_;repeat(refine yA ?_;intro p hp;refine zS ?_)
        refine zS ?_;repeat(refine yA ?_;intro p hp;refine zS ?_)
        refine W_run 15 [249, 250, 251, 252, 253, 254, 255, 256, 257, 258, 259, 260, 261, 262, 263] [0, 1, 2, 3, 4, 5, 6, 7, 8, 9, 10, 11, 12, 13, 14] Cut.nil rfl goFlt mixedS (by kernel_rfl) rfl ?_
        refine rpv [] [] ?_
        refine rpv [] [] ?_
        refine rpv [] [] ?_
        refine rpv [1, 2] [] ?_
        refine rpv [3] [] ?_
        refine rpv [4] [] ?_
        refine rpv [] [] ?_
        refine rpv [] [] ?_
        refine rpv [] [] ?_
        refine rpv [7, 8] [] ?_
        refine rpv [9] [] ?_
        refine rpv [6, 10] [] ?_
        refine rpv [11] [] ?_
        refine rpv [12] [] ?_
        refine Run.pv [5, 13] [] rfl (fun vs => by apply ltr_pk; exact goPk; (refine ltr ?_; refine lt_call ?_ (a2); exact rfl)) goApp ?_
        refine ⟨⟨by kernel_rfl, by kernel_rfl⟩, fun vs => ?_⟩
        apply WL_auto [0, 14]
        ·exact goPk
        ·exact goNrm
        ·kernel_rfl
        ·kernel_rfl
        refine zS ?_;repeat(refine yA ?_;intro p hp;refine zS ?_)
        refine zS ?_;repeat(refine yA ?_;intro p hp;refine zS ?_)
        refine ⟨i + 1, fun _ _ st => st_sub2 st (by rw [hc1, hc2]; exact zR) zP, hiT, ?_⟩
        omega
       ·rw [hf] at qs
        refine W_run 82 [152, 153, 154, 155, 156, 157, 158, 159, 160, 161, 162, 163, 164, 165, 166, 167, 168, 169, 170, 171, 172, 173, 174, 175, 176, 177, 178, 179, 180, 181, 182, 183, 184, 185, 186, 187, 188, 189, 190, 191, 192, 193, 194, 195, 196, 197, 198, 199, 200, 201, 202, 203, 204, 205, 206, 207, 208, 209, 210, 211, 212, 213, 214, 215, 216, 217, 218, 219, 220, 221, 222, 223, 224, 225, 226, 227, 228, 229, 230, 231, 232, 233] [0, 1, 2, 3, 4, 5, 6, 7, 8, 9, 10, 11, 12, 13, 14, 15, 16, 17, 18, 19, 20, 21, 22, 23, 24, 25, 26, 27, 28, 29, 30, 31, 32, 33, 34, 35, 36, 37, 38, 39, 40, 41, 42, 43, 44, 45, 46, 47, 48, 49, 50, 51, 52, 53, 54, 55, 56, 57, 58, 59, 60, 61, 62, 63, 64, 65, 66, 67, 68, 69, 70, 71, 72, 73, 74, 75, 76, 77, 78, 79, 80, 81] Cut.nil rfl goFlt mixedS (by kernel_rfl) rfl ?_
        refine rpv [] [] ?_
        refine Run.pv [0] [] rfl (fun vs => by apply ltr_pk; exact goPk; (refine ltr ?_; apply LT_bool false; apply lt_lss; exact rfl; exact rfl; exact decide_eq_false (by omega))) goApp ?_
        refine rpv [1] [] ?_
        refine ryv [2] ?_
        refine ryv [2] ?_
        refine ryv [2, 4] ?_
        refine ryx [2, 3, 5] (fun vs => by apply ltr_pk; exact goPk; (refine ltr ?_; apply LT_bool false; apply lt_geq; exact rfl; exact rfl; exact decide_eq_false (by omega))) ?_
        refine rpv [2, 6] [] ?_
        refine rpv [7] [] ?_
        refine ryv [8] ?_
        refine ryv [8, 9] ?_
        refine ryx [8, 10] (fun vs => by apply ltr_pk; exact goPk; (apply ltr_load1; (first | exact .inl rfl | exact .inr ⟨rfl, rfl⟩); exact zM; exact hcell)) ?_
        refine rpv [8, 11] [] ?_
        refine rpv [12] [] ?_
        refine ryv [13] ?_
        refine ryv [13] ?_
        refine ryv [13, 14, 15] ?_
        refine ryv [13, 16] ?_
        refine ryx [13, 17] (fun vs => by apply ltr_pk; exact goPk; (refine ltr ?_; apply LT_bool true; apply lt_neq; exact rfl; exact rfl; (first | (simp; done) | (simp; omega)))) ?_
        refine ryv [13, 18] ?_
        refine ryv [19] ?_
        refine ryv [19] ?_
        refine ryv [19, 20, 21] ?_
        refine ryv [19, 22] ?_
        refine ryv [19] ?_
        refine ryx [19, 23, 24] (fun vs => by apply ltr_pk; exact goPk; (refine ltr ?_; apply LT_bool false; apply lt_neq; exact rfl; exact rfl; (simp))) ?_
        refine ryv [13, 19, 25] ?_
        refine rpv [13, 26] [] ?_
        refine rpv [27] [] ?_
        refine ryv [28] ?_
        refine ryv [28] ?_
        refine ryv [28, 29, 30] ?_
        refine ryv [28, 31] ?_
        refine ryv [28, 32] ?_
        refine ryv [28] ?_
        refine ryv [28] ?_
        refine ryv [28, 34, 35] ?_
        refine ryv [28, 36] ?_
        refine ryv [28, 37] ?_
        refine ryx [28, 33, 38] (fun vs => by apply ltr_pk; exact goPk; (refine ltr ?_; refine lt_call ?_ (SF); exact rfl)) ?_
        refine ryv [28, 39] ?_
        refine rpv [28, 40] [] ?_
        refine rpv [41] [] ?_
        refine ryv [42] ?_
        refine ryv [42] ?_
        refine ryv [42, 43, 44] ?_
        refine ryv [42, 45] ?_
        refine ryv [42, 46] ?_
        refine ryv [42] ?_
        refine ryv [42] ?_
        refine ryv [42, 48, 49] ?_
        refine ryv [42, 50] ?_
        refine ryv [42, 51] ?_
        refine ryx [42, 47, 52] (fun vs => by apply ltr_pk; exact goPk; (refine ltr ?_; refine lt_call ?_ (SS); exact rfl)) ?_
        refine ryv [42, 53] ?_
        refine rpv [42, 54] [] ?_
        refine rpv [55] [] ?_
        refine ryv [56] ?_
        refine ryv [56] ?_
        refine ryv [56, 57, 58] ?_
        refine ryv [56, 59] ?_
        refine ryv [56, 60] ?_
        refine ryv [56] ?_
        refine ryv [56] ?_
        refine ryv [56, 62, 63] ?_
        refine ryv [56, 64] ?_
        refine ryv [56, 65] ?_
        refine ryx [56, 61, 66] (fun vs => by apply ltr_pk; exact goPk; (refine ltr ?_; apply LT_bool false; apply lt_neq; exact rfl; exact rfl; (simp))) ?_
        refine rpv [56, 67] [] ?_
        refine rpv [68] [] ?_
        refine ryv [69] ?_
        refine ryv [69] ?_
        refine ryv [69, 70, 71] ?_
        refine ryv [69, 72] ?_
        refine ryv [69, 73] ?_
        refine ryv [69] ?_
        refine ryv [69] ?_
        refine ryv [69, 75, 76] ?_
        refine ryv [69, 77] ?_
        refine ryv [69, 78] ?_
        refine ryx [69, 74, 79] (fun vs => by apply ltr_pk; exact goPk; (refine ltr ?_; apply LT_bool false; apply lt_neq; exact rfl; exact rfl; (simp))) ?_
        refine rpv [69, 80] [] ?_
        refine ⟨⟨by kernel_rfl, by kernel_rfl⟩, fun vs => ?_⟩
        apply WL_auto [81]
        ·exact goPk
        ·exact goNrm
        ·kernel_rfl
        ·kernel_rfl
        refine zS ?_;repeat(refine yA ?_;intro p hp;refine zS ?_)
        refine zS ?_;repeat(refine yA ?_;intro p hp;refine zS ?_)
        (apply wl_store; (first | exact .inl rfl | exact .inr ⟨rfl, rfl⟩); exact zM; exact rfl; exact inferInstance; exact inferInstance; exact inferInstance; exact rfl; (rw [fnC_len]; omega))
        rw [hput]
        refine zS ?_;repeat(refine yA ?_;intro p hp;refine zS ?_)
        refine W_run 12 [236, 237, 238, 239, 240, 241, 242, 243, 244, 245, 246, 247] [0, 1, 2, 3, 4, 5, 6, 7, 8, 9, 10, 11] Cut.nil rfl goFlt mixedS (by kernel_rfl) rfl ?_
        refine rpv [] [] ?_
        refine rpv [] [] ?_
        refine rpv [] [] ?_
        refine rpv [1, 2] [] ?_
        refine rpv [3] [] ?_
        refine rpv [4] [] ?_
        refine rpv [] [] ?_
        refine rpv [] [] ?_
        refine rpv [6, 7] [] ?_
        refine rpv [8] [] ?_
        refine rpv [9] [] ?_
        refine Run.pv [5, 10] [] rfl (fun vs => by apply ltr_pk; exact goPk; (refine ltr ?_; refine lt_call ?_ (a1); exact rfl)) goApp ?_
        refine ⟨⟨by kernel_rfl, by kernel_rfl⟩, fun vs => ?_⟩
        apply WL_auto [0, 11]
        ·exact goPk
        ·exact goNrm
        ·kernel_rfl
        ·kernel_rfl
        refine zS ?_;repeat(refine yA ?_;intro p hp;refine zS ?_)
        refine zS ?_;repeat(refine yA ?_;intro p hp;refine zS ?_)
        refine W_run 15 [249, 250, 251, 252, 253, 254, 255, 256, 257, 258, 259, 260, 261, 262, 263] [0, 1, 2, 3, 4, 5, 6, 7, 8, 9, 10, 11, 12, 13, 14] Cut.nil rfl goFlt mixedS (by kernel_rfl) rfl ?_
        refine rpv [] [] ?_
        refine rpv [] [] ?_
        refine rpv [] [] ?_
        refine rpv [1, 2] [] ?_
        refine rpv [3] [] ?_
        refine rpv [4] [] ?_
        refine rpv [] [] ?_
        refine rpv [] [] ?_
        refine rpv [] [] ?_
        refine rpv [7, 8] [] ?_
        refine rpv [9] [] ?_
        refine rpv [6, 10] [] ?_
        refine rpv [11] [] ?_
        refine rpv [12] [] ?_
        refine Run.pv [5, 13] [] rfl (fun vs => by apply ltr_pk; exact goPk; (refine ltr ?_; refine lt_call ?_ (a2); exact rfl)) goApp ?_
        refine ⟨⟨by kernel_rfl, by kernel_rfl⟩, fun vs => ?_⟩
        apply WL_auto [0, 14]
        ·exact goPk
        ·exact goNrm
        ·kernel_rfl
        ·kernel_rfl
        refine zS ?_;repeat(refine yA ?_;intro p hp;refine zS ?_)
        refine zS ?_;repeat(refine yA ?_;intro p hp;refine zS ?_)
        refine ⟨i + 1, fun _ _ st => st_sub2 st (by rw [hc1, hc2]; exact zR) zP, hiT, ?_⟩
        omega
      ·have hin : i = ts.length := by have := of_decide_eq_false hlt4; omega
       have e1 : best.take i = best := List.take_of_length_le (by omega)
       have e2 : ot.take i = ot := List.take_of_length_le (by have := PO.len; omega)
       rw [e1, e2, MF.cost]
       refine zS ?_;repeat(refine yA ?_;intro p hp;refine zS ?_)
       rw [decide_eq_true rfl]
       refine zS ?_;repeat(refine yA ?_;intro p hp;refine zS ?_)
       rw [decide_eq_false (show ¬ costOf (costT ts) 0 ot < least by have := MF.le ot PO; omega)]
       refine zS ?_;repeat(refine yA ?_;intro p hp;refine zS ?_)
       by_cases hbn : costOf (costT ts) 0 ot = least
       ·rw [decide_eq_true hbn]
        rw [MF.first ot PO hbn] at CLs
        have hfit := MF.fit ot PO hbn
        refine zS ?_;repeat(refine yA ?_;intro p hp;refine zS ?_)
        (first | (apply wl_call (CLs); exact rfl; exact rfl) | (apply wl_callR (CLs); exact rfl; exact zM; exact rfl))
        refine zS ?_;repeat(refine yA ?_;intro p hp;refine zS ?_)
        refine W_loopJ (fun (j : Nat) => ⟨[(5, .val (.bool true)), (9, .val (.int .i64 least)), (11, .sl 1 iC su), (22, .val (.int .i64 (costOf (costT ts) 0 ot))), (284, .sl 1 iC (ints ot)), (285, .val (.int .i64 (ints ot).length)), (286, .val (.int .i64 j))], []⟩) (fun j => j ≤ ot.length) (fun j => ot.length - j) 0 (fun _ _ st => st_sub2 st zR zP) (Nat.zero_le _) ?_
        intro j hj
        refine zS ?_;repeat(refine yA ?_;intro p hp;refine zS ?_)
        refine w_cond rfl (fun hlt5 => ?_) (fun hlt5 => ?_)
        ·have hjo : j < ot.length := by have := of_decide_eq_true hlt5; omega
         have hjs : j < su.length := by have := PO.len; omega
         have q15 := ints_at hjo
         have qs : su[j]? = some su[j] := List.getElem?_eq_getElem hjs
         have hf := hfit j hjs hjo
         refine zS ?_;repeat(refine yA ?_;intro p hp;refine zS ?_)
         rw [decide_eq_true hbn]
         rcases hf with hf | hf
         ·refine zS ?_;repeat(refine yA ?_;intro p hp;refine zS ?_)
          rw [hf, decide_eq_true rfl]
          refine zS ?_;repeat(refine yA ?_;intro p hp;refine zS ?_)
          (refine ⟨j + 1, fun _ _ st => st_sub2 st ?_ ?_, ?_, ?_⟩; exact zR; exact zP)
          ·exact hjo
          ·omega
         ·have he9 : su[j] = (ints ot)[j]'(by rw [ints_len]; exact hjo) := by rw [hf]; simp [ints]
          refine zS ?_;repeat(refine yA ?_;intro p hp;refine zS ?_)
          rw [decide_eq_false (show ¬ su[j] = -1 by rw [hf]; omega)]
          refine zS ?_;repeat(refine yA ?_;intro p hp;refine zS ?_)
          rw [decide_eq_true he9]
          refine zS ?_;repeat(refine yA ?_;intro p hp;refine zS ?_)
          (refine ⟨j + 1, fun _ _ st => st_sub2 st ?_ ?_, ?_, ?_⟩; exact zR; exact zP)
          ·exact hjo
          ·omega
        ·refine zS ?_;repeat(refine yA ?_;intro p hp;refine zS ?_)
         (apply res1; exact rfl; exact rfl; exact ⟨rfl, rfl⟩)
       ·rw [decide_eq_false hbn]
        refine zS ?_;repeat(refine yA ?_;intro p hp;refine zS ?_)
        refine W_loopJ (fun (j : Nat) => ⟨[(5, .val (.bool true)), (9, .val (.int .i64 least)), (11, .sl 1 iC su), (22, .val (.int .i64 (costOf (costT ts) 0 ot))), (284, .sl 1 iC (ints ot)), (285, .val (.int .i64 (ints ot).length)), (286, .val (.int .i64 j))], []⟩) (fun j => j ≤ ot.length) (fun j => ot.length - j) 0 (fun _ _ st => st_sub2 st zR zP) (Nat.zero_le _) ?_
        intro j hj
        refine zS ?_;repeat(refine yA ?_;intro p hp;refine zS ?_)
        refine w_cond rfl (fun hlt5 => ?_) (fun hlt5 => ?_)
        ·have hjo : j < ot.length := by have := of_decide_eq_true hlt5; omega
         have q15 := ints_at hjo
         refine zS ?_;repeat(refine yA ?_;intro p hp;refine zS ?_)
         rw [decide_eq_false hbn]
         refine zS ?_;repeat(refine yA ?_;intro p hp;refine zS ?_)
         (refine ⟨j + 1, fun _ _ st => st_sub2 st ?_ ?_, ?_, ?_⟩; exact zR; exact zP)
         ·exact hjo
         ·omega
        ·refine zS ?_;repeat(refine yA ?_;intro p hp;refine zS ?_)
         (apply res1; exact rfl; exact rfl; exact ⟨rfl, rfl⟩)
end Go.Proofs.YthddoikmgpgakaaDoor.Sw
