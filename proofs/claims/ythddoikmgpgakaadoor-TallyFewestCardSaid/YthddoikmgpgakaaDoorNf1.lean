/- Proofs for one card: App, Frame, Reg, RegIn, Sw, SwOps, SwAny, SwOps2, SwOps3, SwR, Ty, SwF, Row, Steps, Left, Best, Comes, DoorU7, SwG, SwH, SwI, SwQ, SwL, SwB, SwS, SwM, SwX, Bk, SwN, MtA, LsB, LsD, LsG, Edits, LsK, Pa, Ota, Otb, Apt, Slt, TallyCut, Otl, Ote, TallyFewest. No condition of its own. -/
import Derived.WalkKit
import Derived.Handy
import Derived.Deep.AppendSrc
import Derived.Test.YthddoikmgpgakaaDoorProg
import Derived.Outline
import Derived.RangeFuncNested
import Derived.Shelf.Abstract
import Derived.Deep.QuietTactic
import Derived.BigQuiet
import Derived.Deep.RegionHeld3
import Derived.WalkSmall
import Derived.Laws.EntriesVeiled
import Derived.Maps.AppendAt
import Derived.Deep.AppendLies
import Derived.Test.YthddoikmgpgakaaDoorCards
import Derived.Test.YthddoikmgpgakaaDoorTie
import Derived.ProofKit
import Derived.OpenShut
import Derived.LaidMore
import Derived.LaidOnce
import Derived.ChangeOld
import Derived.Below
import Derived.Stop.Joined
import Derived.Lib.SmallJoins
import Derived.OrdersHeld
import Derived.Deep.RegionHeld
import Derived.OrdersIn
import Derived.RangeFuncCalls
import Derived.RangeFuncLeaves
import Derived.IntWalk
import Derived.WalkSpells
import Derived.OwnWalk
import Derived.LoopNIn
import Derived.DeepKeys4
import Derived.Maps.OwnIn
import Derived.OwnWalkIn
import Derived.RangeFuncBound
import Derived.Shelf.RegionOpen
import Derived.TacticsInMore
import Derived.Sort.BigQuietIn
import Derived.LoopIn
import Derived.WalkMore
import Derived.Maps.Views
import Derived.Lib.AppendZerosOnto
import Derived.Lib.Walk
import Derived.Lib.SliceRun
import Derived.Laws.MakeOwn
import Derived.Deep.Cut
import Derived.Deep.Slices
import Derived.Lib.LazyBuf
import Derived.Scope
import Derived.Maps.RangeRun
import Derived.ArgAppend
import Derived.WideKeyEntry
import Derived.Shelf.SlSortCmp.Whole1
import Derived.Shelf.Lay
import Derived.Test.YthddoikmgpgakaaDoorNa8
set_option linter.unusedVariables false
set_option linter.unusedSimpArgs false
set_option maxRecDepth 40000
set_option maxHeartbeats 32000000
namespace Go.Proofs.YthddoikmgpgakaaDoor
open Go.RowKit Go
section
variable {P : Program} (w : World)
end
end Go.Proofs.YthddoikmgpgakaaDoor
namespace Go.Proofs.YthddoikmgpgakaaDoor
open Go Go.ChangeShapes Go.WideShapes Go.ChangeAt Go.RowKit
theorem laidOut : laidOutB Tryd.prog = true := by kernel_rfl
set_option maxRecDepth 100000 in
theorem tab_of {W : World} (h : laidMetH Tryd.prog laidL W) : Tab W := by
 obtain ⟨g, t, cs, fuel, p, hg, ht, hv, hd⟩ := h.funcs (n := "aguador/tally.checks") (List.mem_cons_self ..)
 obtain rfl := Option.some.inj ((show Tryd.prog.globalNamed "aguador/tally.checks" = some 0 by kernel_rfl).symm.trans hg)
 obtain rfl := Option.some.inj ((show (Tryd.prog.globals[0]?).map (·.type) = some 146 by kernel_rfl).symm.trans ht)
 have hd' : DataW.trod (funcToken Tryd.prog) Tryd.prog W 0 (fun _ => true) true fuel 146 cs.toList = some (.agg [.agg [.held [97, 103, 117, 97, 100, 111, 114, 47, 116, 97, 108, 108, 121, 46, 99, 104, 101, 99, 107, 115, 36, 49]], .agg [.held [97, 103, 117, 97, 100, 111, 114, 47, 116, 97, 108, 108, 121, 46, 99, 104, 101, 99, 107, 115, 36, 50]], .agg [.held [97, 103, 117, 97, 100, 111, 114, 47, 116, 97, 108, 108, 121, 46, 99, 104, 101, 99, 107, 115, 36, 51]]], p) := hd
 obtain ⟨xs, m, rfl, hx, hlen, hn, hel⟩ := DataW.trod_array Tryd.underlying146 hd'
 rw [show Tryd.prog.cellsOf 145 = 1 by kernel_rfl] at hel
 rw [show Tryd.prog.cellsOf 146 = 3 by kernel_rfl] at hlen
 obtain ⟨cl⟩ := cs
 match cl, hlen, xs, hn with
 | [v0, v1, v2], _, [x0, x1, x2], _ =>
  simp only [Prod.mk.injEq, DataW.agg.injEq, List.map_cons, List.map_nil, List.cons.injEq] at hx
  have h0 := hel 0 (by decide); have h1 := hel 1 (by decide); have h2 := hel 2 (by decide)
  simp at h0 h1 h2
  have go : ∀ (v : Value) (x : DataW (List UInt8) × List MemPlace) (b : UInt8) (r : List UInt8) (f0 : FuncId), ((List.range Tryd.prog.funcs.size).filter fun f => (Tryd.prog.funcs[f]?).any (·.name.toUTF8.data.toList == b :: r)) = [f0] →
    DataW.trod (funcToken Tryd.prog) Tryd.prog W 0 (fun _ => true) true m 145 [v] = some x → x.1 = .agg [.held (b :: r)] → v = .func (.func f0) #[] #[] := by
   intro v x b r f0 hone h hx
   obtain ⟨y, n, rfl, _, hy⟩ := trod_struct1 Tryd.underlying145 h
   simp only [DataW.agg.injEq, List.cons.injEq, and_true] at hx
   obtain ⟨y1, y2⟩ := y
   simp only at hx
   subst hx
   exact func_of_trod (P := Tryd.prog) Tryd.underlying25 hone (by simpa [show Tryd.prog.cellsOf 25 = 1 by kernel_rfl] using hy)
  have e0 := go v0 x0 _ _ 164 (by kernel_rfl) h0 hx.1.1.symm
  have e1 := go v1 x1 _ _ 165 (by kernel_rfl) h1 hx.1.2.1.symm
  have e2 := go v2 x2 _ _ 166 (by kernel_rfl) h2 hx.1.2.2.1.symm
  subst e0; subst e1; subst e2
  have c0 := World.var?_cell hg hv 0; have c1 := World.var?_cell hg hv 1; have c2 := World.var?_cell hg hv 2
  exact ⟨by simpa using c0, by simpa using c1, by simpa using c2⟩
end Go.Proofs.YthddoikmgpgakaaDoor
namespace Go.Proofs.YthddoikmgpgakaaDoor
open Go.RowKit Go
section
variable {P : Program} {ops : Array Oper} {Q : Exit → Act → World → Prop} {S : World → Prop} {held : List Nat}
end
section
variable {F : Fence} {n : Nat} {P : Program} {ops : Array Oper} {Q : Exit → Act → World → Prop} {S : World → Prop} {held : List Nat}
end
end Go.Proofs.YthddoikmgpgakaaDoor
namespace Go.Proofs.YthddoikmgpgakaaDoor.Sw
open Go.RowKit Go
section
variable {c : Cx} {s : S} {Q : Exit → S → Prop}
end
section
variable {c : Cx} {s : S} {Q : Exit → S → Prop} {ops : Array Oper} {tl : List Oper}
end
section
variable {c : Cx} {s : S} {Q : Exit → S → Prop} {ops : Array Oper} {tl : List Oper}
end
section
variable {P : Program} {rs : List (Nat × AV)} {d : Option Nat} {ty : TypeId} {pos : String} {af : Array Edge} {g : Option (Nat × Bool)}
theorem lt_geq {x y : Operand} {m n : Int} {k : IntKind} {t t' : TypeId} (hx : opv rs x = some (.val (.int k m))) (hy : opv rs y = some (.val (.int k n))) :
  LT P ⟨d, .binOp .geq t x y t', ty, pos, af, g⟩ rs [] (Is (.val (.bool (decide (n ≤ m)))) []) :=
 LT_val (fun _ e => by cases e) fun a w G hR _ => ⟨_, rfl, by
  have e1 : a.eval x = _ := opv_ok hR hx
  have e2 : a.eval y = _ := opv_ok hR hy
  simp only [execOp, e1, e2]
  first | (simp [go_sem]; done) | (simp [go_sem]; rfl)⟩
end
section
variable {c : Cx} {s : S} {Q : Exit → S → Prop} {ops : Array Oper} {tl : List Oper}
end
section
variable {c : Cx} {rs : List (Nat × AV)} {hs : List HA} {Q : Exit → S → Prop} {ops : Array Oper} {tl : List Oper} {d : Nat} {op : Op} {ty : TypeId} {pos : String} {af : Array Edge}
end
section
variable {c : Cx} {rs : List (Nat × AV)} {hs : List HA} {Q : Exit → S → Prop} {ops : Array Oper} {tl : List Oper} {d : Nat} {ty : TypeId} {pos : String} {af : Array Edge} {x y : Operand} {t tb : TypeId} {p : Value} {j : Nat} {cs : List AV} {f : HA → List HA}
end
section
variable (ops : Array Oper) (m : Nat) (sp : List Sp) (hs0 : List HA)
end
section
variable {c : Cx} {ops : Array Oper} {m : Nat} {sp : List Sp} {hs0 hsR : List HA} {rsB : List (Nat × AV)} {Q : Exit → S → Prop}
end
section
variable {P : Program} {rs : List (Nat × AV)} {hsR : List HA} {d : Option Nat} {ty : TypeId} {pos : String} {af : Array Edge} {g : Option (Nat × Bool)} {x : Operand} {t tb : TypeId} {p : Value} {j : Nat} {cs : List AV} {f : HA → List HA}
end
section
variable {P : Program} {rs : List (Nat × AV)} {d : Option Nat} {ty : TypeId} {pos : String} {af : Array Edge} {g : Option (Nat × Bool)}
end
theorem st_frz {α : Type} {c : Cx} {rs : List (Nat × AV)} {hs r : List HA} {e : TypeId} {n : Nat} {f : α → List AV} {xs : List α} {v : Value} {i : Nat} {a : Act} {w : World} (hl : look rs i = some (.val v)) (hr : Rm hs (.row v e n f xs) r) (st : St c ⟨rs, hs⟩ a w) : St c ⟨(i, .sl n f xs) :: rs, r⟩ a w := by
 obtain ⟨G, F, hI, hF, hR, rr⟩ := st
 obtain ⟨G', F', h1, h2, h3⟩ := row_freeze (rest := r) ⟨hI.gin, hI.nd, hI.own, hr.sel hI.hs⟩
 refine ⟨G', F', h1, hF.trans h2, fun k av ek => ?_, rr.1, rr.2.step h2⟩
 simp only [look] at ek
 cases hb : Nat.beq i k with
 | true =>
  rw [hb] at ek
  obtain rfl := Nat.eq_of_beq_eq_true hb
  simp only [cond_true, Option.some.injEq] at ek
  subst ek
  have : a.tmps.getD i undef = v := hR _ _ hl
  rw [this]; exact h3
 | false => rw [hb] at ek; exact av.mono h2.gle (hR k av (by simpa using ek))
theorem W_frz {α : Type} {c : Cx} {rs : List (Nat × AV)} {hs r : List HA} {Q : Exit → S → Prop} {x : Code} {e : TypeId} {n : Nat} {f : α → List AV} {xs : List α} {v : Value} (i : Nat) (hl : look rs i = some (.val v)) (hr : Rm hs (.row v e n f xs) r) (k : W c x ⟨(i, .sl n f xs) :: rs, r⟩ Q) : W c x ⟨rs, hs⟩ Q := ⟨fun a w st => k.out a w (st_frz hl hr st)⟩
theorem WL_frz {α : Type} {c : Cx} {rs : List (Nat × AV)} {hs r : List HA} {Q : Exit → S → Prop} {ops : Array Oper} {l : List Oper} {e : TypeId} {n : Nat} {f : α → List AV} {xs : List α} {v : Value} (i : Nat) (hl : look rs i = some (.val v)) (hr : Rm hs (.row v e n f xs) r) (k : WL c ops l ⟨(i, .sl n f xs) :: rs, r⟩ Q) : WL c ops l ⟨rs, hs⟩ Q := ⟨fun a w st => k.out a w (st_frz hl hr st)⟩
section
variable {P : Program} {rs : List (Nat × AV)} {d : Option Nat} {ty : TypeId} {pos : String} {af : Array Edge} {g : Option (Nat × Bool)}
theorem run_make {t e : TypeId} {n : Nat} [hT : TyE P t e n] {w : World} {m : Nat} (hm : m ≤ 1000000) {z : Value} {i : TypeInfo} (hi : P.info? e = some i) (hz : i.zero = some z) :
  (Instr.makeSlice t (.int .i64 (m : Int)) (.int .i64 (m : Int))).run P w = .ok (.slice (some ⟨w.heap.size, 0, none⟩) m m) (w.alloc (.cells ((List.range (m * n)).map fun j => z.cells[j % n]!).toArray e)) := by
 obtain ⟨i', z', hi', hz', hs, hb, hzs⟩ := hT.info
 rw [hi] at hi'
 obtain rfl := Option.some.inj hi'
 rw [hz] at hz'
 obtain rfl := Option.some.inj hz'
 have hw : IntKind.i64.wrap (m : Int) = (m : Int) := IntWalk.i64_in _ (by omega)
 have hbm : (i.bytes : Int) * (m : Int) ≤ 1000 * 1000000 := Int.mul_le_mul (by omega) (by omega) (by omega) (by omega)
 have hbm2 : m * i.bytes ≤ 1000000 * 1000 := Nat.mul_le_mul hm hb
 have h1 : ¬ (281474976710656 < (i.bytes : Int) * (m : Int)) := by omega
 have h2 : ¬ (roomBytes < m * i.bytes) := by unfold roomBytes; have : 2 ^ 47 = 140737488355328 := by decide
                                             omega
 have hnn : ¬ ((m : Int) < 0) := by omega
 have hrow : ∀ cs : Array Value, (newRow e cs).run P w = .ok ⟨w.heap.size, 0, none⟩ (w.alloc (.cells cs e)) := fun cs => by simp [newRow, go_sem]
 by_cases h0 : m * n = 0
 ·simp [Instr.makeSlice, run_underlying hT.und, asInt, asIntOf, typeInfo, sizeOf, hi, hs, hw, h1, hnn, askRoom, h2, h0, hrow]
  rw [show (Array.map (fun _ : Nat => (default : Value)) (Array.range 0)) = #[] by simp]
 ·have e0 : ((Array.range (m * n)).map fun j => z.cells[j % n]!) = ((List.range (m * n)).map fun j => z.cells[j % n]!).toArray := by apply Array.ext'; simp [Array.toList_range]
  simp [Instr.makeSlice, run_underlying hT.und, asInt, asIntOf, typeInfo, sizeOf, hi, hs, hw, h1, hnn, askRoom, h2, h0, zeroValue, hz, hzs, hrow]
  rw [e0]
theorem fits_zero {G : Nat → Option Obj} {α : Type} {f : α → List AV} {x0 : α} {zs : List Value} {n : Nat} (hl : zs.length = n) (hn : 0 < n) (h : Fits G (f x0) zs) : ∀ m, Fits G ((List.replicate m x0).flatMap f) ((List.range (m * n)).map fun j => zs.toArray[j % n]!)
 | 0 => by simp [Fits]
 | m + 1 => by
  have ih := fits_zero hl hn h m
  rw [List.replicate_succ', List.flatMap_append, Nat.succ_mul, List.range_add, List.map_append]
  refine Fits.append ih ?_
  simp only [List.flatMap_cons, List.flatMap_nil, List.append_nil, List.map_map]
  have : (List.range n).map ((fun j => zs.toArray[j % n]!) ∘ fun x => m * n + x) = zs := by
   refine List.ext_getElem (by simp [hl]) fun j h1 h2 => ?_
   have hj : j < n := by simpa using h1
   simp [Nat.mul_add_mod_of_lt, Nat.add_mod, Nat.mod_eq_of_lt hj, h2]
  rw [this]; exact h
theorem lt_make {α : Type} {x y : Operand} {t e : TypeId} {n : Nat} [hT : TyE P t e n] {f : α → List AV} [hO : OneF f] [hL : LenF f n] {x0 : α} [hZ : ZeroF P e f x0] {m : Nat} {mi : Int} (hx : opv rs x = some (.val (.int .i64 mi))) (hy : opv rs y = some (.val (.int .i64 mi))) (hmi : mi = (m : Int)) (hm : m ≤ 1000000) :
  LT P ⟨d, .makeSlice t x y, ty, pos, af, g⟩ rs [] (fun x y => ∃ u, x = .val u ∧ y = [.row u e n f (List.replicate m x0)]) :=
 LT_eff (fun _ e => by cases e) fun a w G F hR hI => by
  obtain rfl := inv_nil hI
  subst hmi
  obtain ⟨z, ⟨i, hi, hz⟩, zs, hzs, hf⟩ := hZ.out
  have e1 : a.eval x = _ := opv_ok hR hx
  have e2 : a.eval y = _ := opv_ok hR hy
  have hr := run_make (P := P) (t := t) (w := w) hm hi hz
  have hzl : zs.length = n := by rw [(hf G).length, hL.out]
  rw [hzs] at hr
  have hfit := fits_zero (G := G) hzl hT.pos (hf G) m
  have hin := new_row (e := e) (n := n) hI hfit (by simpa using hm)
  rw [List.length_replicate] at hin
  refine ⟨_, _, _, _, _, G, _, ?_, .inl rfl, ⟨_, rfl, rfl⟩, fr_alloc _ _ _, hin, rfl⟩
  simp only [execOp, e1, e2, Sem.run_bind, hr]
  rfl
theorem lt_eqlB {x y : Operand} {b b' : Bool} {t t' : TypeId} (ht : P.underlying t = some .bool) (hx : opv rs x = some (.val (.bool b))) (hy : opv rs y = some (.val (.bool b'))) : LT P ⟨d, .binOp .eql t x y t', ty, pos, af, g⟩ rs [] (Is (.val (.bool (b == b'))) []) :=
 LT_val (fun _ e => by cases e) fun a w G hR _ => ⟨_, rfl, by
  have e1 : a.eval x = _ := opv_ok hR hx
  have e2 : a.eval y = _ := opv_ok hR hy
  simp only [execOp, e1, e2]
  simp [go_sem, eqGuard, run_eql_bool w t b b' ht]⟩
end
section
variable {c : Cx} {rs : List (Nat × AV)} {hs : List HA} {Q : Exit → S → Prop} {ops : Array Oper} {tl : List Oper} {d : Nat} {ty : TypeId} {pos : String} {af : Array Edge}
theorem wl_geq {x y : Operand} {m n : Int} {kd : IntKind} {t t' : TypeId} (hx : opv rs x = some (.val (.int kd m))) (hy : opv rs y = some (.val (.int kd n))) (hd : Nat.blt d c.nt = true) (k : WL c ops tl ⟨(d, .val (.bool (decide (n ≤ m)))) :: rs, hs⟩ Q) : WL c ops (⟨some d, .binOp .geq t x y t', ty, pos, af, none⟩ :: tl) ⟨rs, hs⟩ Q := wl_ex (lt_geq hx hy) hd k
theorem wl_min2 {x y : Operand} {m n : Int} {ts : Array TypeId} (hx : opv rs x = some (.val (.int .i64 m))) (hy : opv rs y = some (.val (.int .i64 n))) (hd : Nat.blt d c.nt = true) (k : WL c ops tl ⟨(d, .val (.int .i64 (min m n))) :: rs, hs⟩ Q) : WL c ops (⟨some d, .call { callee := .builtin .min, args := #[x, y], argTypes := ts }, ty, pos, af, none⟩ :: tl) ⟨rs, hs⟩ Q := wl_ex (lt_min2 hx hy) hd k
theorem wl_slice {α : Type} {f : α → List AV} {xs : List α} {x : Operand} {lo hi : Option Operand} {t e : TypeId} {n : Nat} [TyE c.P t e n] {l h : Nat} {li hi' : Int} (hx : opv rs x = some (.sl n f xs)) (hlo : lo.map (opv rs) = some (some (.val (.int .i64 li))) ∨ (lo = none ∧ li = 0)) (hl : li = (l : Int)) (hhi : hi.map (opv rs) = some (some (.val (.int .i64 hi'))) ∨ (hi = none ∧ hi' = (xs.length : Int))) (hh : hi' = (h : Int)) (h1 : l ≤ h) (h2 : h ≤ xs.length) (hd : Nat.blt d c.nt = true) (k : WL c ops tl ⟨(d, .sl n f ((xs.take h).drop l)) :: rs, hs⟩ Q) : WL c ops (⟨some d, .slice t x lo hi none, ty, pos, af, none⟩ :: tl) ⟨rs, hs⟩ Q := wl_ex (lt_slice hx hlo hl hhi hh h1 h2) hd k
theorem wl_make {α : Type} {x y : Operand} {t e : TypeId} {n : Nat} (f : α → List AV) {x0 : α} {m : Nat} {mi : Int} (hE : TyE c.P t e n) (hO : OneF f) (hL : LenF f n) (hZ : ZeroF c.P e f x0) (hx : opv rs x = some (.val (.int .i64 mi))) (hy : opv rs y = some (.val (.int .i64 mi))) (hmi : mi = (m : Int)) (hm : m ≤ 1000000) (hd : Nat.blt d c.nt = true) (k : ∀ v, WL c ops tl ⟨(d, .val v) :: rs, .row v e n f (List.replicate m x0) :: hs⟩ Q) : WL c ops (⟨some d, .makeSlice t x y, ty, pos, af, none⟩ :: tl) ⟨rs, hs⟩ Q := wl_tok (lt_make hx hy hmi hm) hd k
end
section
variable {c : Cx} {rs : List (Nat × AV)} {hs : List HA} {Q : Exit → S → Prop} {ops : Array Oper} {tl : List Oper} {d : Nat} {ty : TypeId} {pos : String} {af : Array Edge}
end
instance : Ty1 Tryd.prog 5 := ⟨fun w => by kernel_rfl, fun w => by kernel_rfl⟩
instance : TyF Tryd.prog 109 0 0 := ⟨fun a w => by kernel_rfl⟩
instance : TyF Tryd.prog 109 1 1 := ⟨fun a w => by kernel_rfl⟩
instance : TyF Tryd.prog 109 2 2 := ⟨fun a w => by kernel_rfl⟩
instance : TyE Tryd.prog 106 5 1 := tyE (z := .int .u8 0) (b := 1) (by kernel_rfl) (by kernel_rfl) (by decide) rfl (by decide)
section
variable {P : Program} {rs : List (Nat × AV)} {d : Option Nat} {ty : TypeId} {pos : String} {af : Array Edge} {g : Option (Nat × Bool)}
end
section
variable {c : Cx} {rs : List (Nat × AV)} {hs : List HA} {Q : Exit → S → Prop} {ops : Array Oper} {tl : List Oper} {d : Nat} {ty : TypeId} {pos : String} {af : Array Edge}
end
section
variable {P : Program} {rs : List (Nat × AV)} {hsR : List HA} {d : Option Nat} {ty : TypeId} {pos : String} {af : Array Edge} {g : Option (Nat × Bool)}
end
section
variable {P : Program} {rs : List (Nat × AV)} {hsR : List HA} {d : Option Nat} {ty : TypeId} {pos : String} {af : Array Edge} {g : Option (Nat × Bool)}
end
section
variable {c : Cx} {rs : List (Nat × AV)} {hs : List HA} {Q : Exit → S → Prop} {ops : Array Oper} {tl : List Oper} {d : Nat} {ty : TypeId} {pos : String} {af : Array Edge}
end
end Go.Proofs.YthddoikmgpgakaaDoor.Sw
namespace Go.Proofs.YthddoikmgpgakaaDoor
open Go.RowKit Go
section
variable {α : Type} {f : α → List Value} {n : Nat}
end
end Go.Proofs.YthddoikmgpgakaaDoor
namespace Go.Proofs.YthddoikmgpgakaaDoor
open Go.RowKit Go.Proofs Go.Shelf
attribute [local go_sem] Oper.semAt_some
attribute [local go_sem] Oper.semAt_some
attribute [local go_sem] eqPlace
attribute [local go_sem] Oper.semAt_some
attribute [local go_sem] Oper.semAt_some
end Go.Proofs.YthddoikmgpgakaaDoor
namespace Go.Proofs.YthddoikmgpgakaaDoor.Sw
open Go Go.RowKit Go.ChangeShapes Go.WideShapes Go.ChangeAt
theorem u8_ok {n : Int} (h : (Lit.int .u8 n).wf = true) : 0 ≤ n ∧ n ≤ 255 := by
 simp only [Lit.wf, IntKind.min, IntKind.max, IntKind.signed, IntKind.bits, Bool.and_eq_true, decide_eq_true_eq] at h
 simp at h
 omega
def u8C (b : Fin 256) : List AV := [.val (.int .u8 (b.val : Int))]
set_option maxRecDepth 100000
theorem reads_u8 : Reads 5 u8C := fun {H enc W n cs y} h => by
 obtain ⟨m, rfl, _, hw⟩ := DataW.trod_int Tryd.underlying5 h
 have := u8_ok hw
 have e : ((m.toNat : Nat) : Int) = m := by omega
 exact ⟨⟨m.toNat, by omega⟩, (by show Value.int .u8 m = .int .u8 ((m.toNat : Nat) : Int); rw [e]), trivial⟩
theorem reads_u8s : Reads 106 fun xs : List (Fin 256) => [AV.sl 1 u8C xs] := reads_sl Tryd.underlying106 (n := 1) (by kernel_rfl) Nat.one_pos (fun _ => rfl) reads_u8
end Go.Proofs.YthddoikmgpgakaaDoor.Sw
namespace Go.Proofs.YthddoikmgpgakaaDoor.Sw
open Go.RowKit Go
section
variable {c : Cx} {rs : List (Nat × AV)} {hs : List HA} {Q : Exit → S → Prop} {g : Operand} {ps : Array Tmp} {assign body : Code} {gf : FuncId} {caps : List AV} {own r : List HA} {α β τ : Type} {f : α → τ → List AV} {t : α → τ → List HA} {xs : List α}
end
section
variable {P : Program} {rs : List (Nat × AV)} {hsR : List HA} {d : Option Nat} {ty : TypeId} {pos : String} {af : Array Edge} {g : Option (Nat × Bool)}
end
section
variable {c : Cx} {rs : List (Nat × AV)} {hs : List HA} {Q : Exit → S → Prop} {ops : Array Oper} {tl : List Oper} {d : Nat} {ty : TypeId} {pos : String} {af : Array Edge}
theorem wl_slTo {α : Type} {f : α → List AV} {xs : List α} {x y : Operand} {t e : TypeId} {n : Nat} {h : Nat} {hi : Int} (hE : TyE c.P t e n) (hx : opv rs x = some (.sl n f xs)) (hy : opv rs y = some (.val (.int .i64 hi))) (hh : hi = (h : Int)) (h2 : h ≤ xs.length) (hd : Nat.blt d c.nt = true) (k : WL c ops tl ⟨(d, .sl n f (xs.take h)) :: rs, hs⟩ Q) : WL c ops (⟨some d, .slice t x none (some y) none, ty, pos, af, none⟩ :: tl) ⟨rs, hs⟩ Q :=
 wl_slice (l := 0) (h := h) (li := 0) hx (.inr ⟨rfl, rfl⟩) rfl (.inl (by rw [Option.map_some, hy])) hh (Nat.zero_le _) h2 hd (by rw [List.drop_zero]; exact k)
end
section
variable {P : Program} {rs : List (Nat × AV)} {hsR : List HA} {d : Option Nat} {ty : TypeId} {pos : String} {af : Array Edge} {g : Option (Nat × Bool)}
end
section
variable {c : Cx} {rs : List (Nat × AV)} {hs : List HA} {Q : Exit → S → Prop} {ops : Array Oper} {tl : List Oper} {d : Nat} {ty : TypeId} {pos : String} {af : Array Edge}
end
section
variable {P : Program} {rs : List (Nat × AV)} {d : Option Nat} {ty : TypeId} {pos : String} {af : Array Edge} {g : Option (Nat × Bool)}
end
section
variable {c : Cx} {rs : List (Nat × AV)} {hs : List HA} {Q : Exit → S → Prop} {ops : Array Oper} {tl : List Oper} {d : Nat} {ty : TypeId} {pos : String} {af : Array Edge}
end
section
variable {P : Program} {rs : List (Nat × AV)} {d : Option Nat} {ty : TypeId} {pos : String} {af : Array Edge} {g : Option (Nat × Bool)}
theorem lt_rem {x y : Operand} {m n : Int} {t t' : TypeId} (hx : opv rs x = some (.val (.int .i64 m))) (hy : opv rs y = some (.val (.int .i64 n))) (h0 : 0 < n) (h1 : 0 ≤ m) (h2 : m ≤ 9223372036854775807) :
  LT P ⟨d, .binOp .rem t x y t', ty, pos, af, g⟩ rs [] (Is (.val (.int .i64 (m % n))) []) :=
 LT_val (fun _ e => by cases e) fun a w G hR _ => ⟨_, rfl, by
  have e1 : a.eval x = _ := opv_ok hR hx
  have e2 : a.eval y = _ := opv_ok hR hy
  have hq : m.tmod n = m % n := Int.tmod_eq_emod_of_nonneg h1
  have hr1 : 0 ≤ m % n := Int.emod_nonneg m (by omega)
  have hr2 : m % n < n := Int.emod_lt_of_pos m h0
  have hr3 : m % n ≤ m := by
   have e := Int.emod_add_mul_ediv m n
   have p := Int.mul_nonneg (show 0 ≤ n by omega) (Int.ediv_nonneg h1 (show 0 ≤ n by omega))
   generalize n * (m / n) = q at e p
   omega
  have hz : n ≠ 0 := by omega
  simp only [execOp, e1, e2]
  simp [go_sem, hz, hq, IntWalk.i64_in (m % n) (by omega)]⟩
theorem run_conv8 {s t : TypeId} (hs : P.underlying s = some (.int .u8)) (ht : P.underlying t = some (.int .i64)) {n : Int} (h : 0 ≤ n ∧ n ≤ 255) (w : World) : (convert s t (.int .u8 n)).run P w = .ok (.int .i64 n) w := by
 simp [convert, run_underlying hs, run_underlying ht, Conv.intToInt, IntWalk.i64_in n (by omega)]
end
theorem wl_rem {c : Cx} {rs : List (Nat × AV)} {hs : List HA} {Q : Exit → S → Prop} {ops : Array Oper} {tl : List Oper} {d : Nat} {ty : TypeId} {pos : String} {af : Array Edge} {x y : Operand} {m n : Int} {t t' : TypeId} (hx : opv rs x = some (.val (.int .i64 m))) (hy : opv rs y = some (.val (.int .i64 n))) (h0 : 0 < n) (h1 : 0 ≤ m) (h2 : m ≤ 9223372036854775807) (hd : Nat.blt d c.nt = true) (k : WL c ops tl ⟨(d, .val (.int .i64 (m % n))) :: rs, hs⟩ Q) : WL c ops (⟨some d, .binOp .rem t x y t', ty, pos, af, none⟩ :: tl) ⟨rs, hs⟩ Q := wl_ex (lt_rem hx hy h0 h1 h2) hd k
section
variable {P : Program} {rs : List (Nat × AV)} {d : Option Nat} {ty : TypeId} {pos : String} {af : Array Edge} {g : Option (Nat × Bool)}
end
section
variable {c : Cx} {rs : List (Nat × AV)} {hs : List HA} {Q : Exit → S → Prop} {ops : Array Oper} {tl : List Oper} {d : Nat} {ty : TypeId} {pos : String} {af : Array Edge}
end
section
variable {P : Program} {rs : List (Nat × AV)} {d : Option Nat} {ty : TypeId} {pos : String} {af : Array Edge} {g : Option (Nat × Bool)}
end
section
variable {c : Cx} {rs : List (Nat × AV)} {hs : List HA} {Q : Exit → S → Prop} {ops : Array Oper} {tl : List Oper} {d : Nat} {ty : TypeId} {pos : String} {af : Array Edge}
end
section
variable {P : Program} {rs : List (Nat × AV)} {d : Option Nat} {ty : TypeId} {pos : String} {af : Array Edge} {g : Option (Nat × Bool)}
end
section
variable {c : Cx} {rs : List (Nat × AV)} {hs r : List HA} {Q : Exit → S → Prop} {ops : Array Oper} {tl : List Oper} {d : Nat} {ty : TypeId} {pos : String} {af : Array Edge}
end
end Go.Proofs.YthddoikmgpgakaaDoor.Sw
namespace Go.Proofs.YthddoikmgpgakaaDoor.Sw
open Go.RowKit Go
open Go.WideElems (Fit)
open Go.ChangeMaps (setBlock heap_setBlock_same heap_setBlock_other)
section
variable {κ α : Type} [DecidableEq κ]
end
section
variable {κ α : Type} (kv : κ → Value) (g : α → AV)
variable {kv g}
variable (kv g)
variable {kv g}
end
section
variable {P : Program} {κ α : Type} [DecidableEq κ] {t : TypeId} {kv : κ → Value} {ok : κ → Prop} {g : α → AV} {l : List (κ × α)} {G : Nat → Option Obj} {F : List Nat} {w : World} {v : Value}
variable {rs : List (Nat × AV)} {d : Option Nat} {ty : TypeId} {pos : String} {af : Array Edge} {gd : Option (Nat × Bool)}
end
section
variable {c : Cx} {rs : List (Nat × AV)} {hs : List HA} {Q : Exit → S → Prop} {ops : Array Oper} {tl : List Oper} {d : Nat} {ty : TypeId} {pos : String} {af : Array Edge} {κ α : Type} [DecidableEq κ] {t : TypeId} {kv : κ → Value} {ok : κ → Prop} {g : α → AV} {l : List (κ × α)} {v : Value}
end
section
variable {P : Program} {rs : List (Nat × AV)} {d : Option Nat} {ty : TypeId} {pos : String} {af : Array Edge} {gd : Option (Nat × Bool)} {κ α : Type} {t : TypeId} {kv : κ → Value} {g : α → AV} {l rest : List (κ × α)} {v it : Value}
end
section
variable {c : Cx} {rs : List (Nat × AV)} {hs r : List HA} {Q : Exit → S → Prop} {ops : Array Oper} {tl : List Oper} {d : Nat} {ty : TypeId} {pos : String} {af : Array Edge} {κ α : Type} {t : TypeId} {kv : κ → Value} {g : α → AV} {l rest : List (κ × α)} {v it : Value}
end
end Go.Proofs.YthddoikmgpgakaaDoor.Sw
namespace Go.Proofs.YthddoikmgpgakaaDoor.Sw
open Go.RowKit Go
section
variable {P : Program} {w : World}
end
section
variable {P : Program} {rs : List (Nat × AV)} {d : Option Nat} {ty : TypeId} {pos : String} {af : Array Edge} {g : Option (Nat × Bool)}
end
end Go.Proofs.YthddoikmgpgakaaDoor.Sw
namespace Go.Proofs.YthddoikmgpgakaaDoor.Sw
open Go.RowKit Go
open Go.WideElems (Fit)
open Go.ChangeMaps (setBlock heap_setBlock_same heap_setBlock_other)
section
variable {P : Program} {κ α : Type} [DecidableEq κ] {t : TypeId} {kv : κ → Value} {ok : κ → Prop} {g : α → AV} {l : List (κ × α)} {G : Nat → Option Obj} {F : List Nat} {w : World} {v : Value}
variable {rs : List (Nat × AV)} {d : Option Nat} {ty : TypeId} {pos : String} {af : Array Edge} {gd : Option (Nat × Bool)}
end
section
variable {c : Cx} {rs : List (Nat × AV)} {hs : List HA} {Q : Exit → S → Prop} {ops : Array Oper} {tl : List Oper} {d : Nat} {ty : TypeId} {pos : String} {af : Array Edge} {κ α : Type} [DecidableEq κ] {t : TypeId} {kv : κ → Value} {ok : κ → Prop} {g : α → AV} {l : List (κ × α)} {v : Value}
end
end Go.Proofs.YthddoikmgpgakaaDoor.Sw
namespace Go.Proofs.YthddoikmgpgakaaDoor.Sw
open Go.RowKit Go
section
variable {P : Program} {rs : List (Nat × AV)} {d : Option Nat} {ty : TypeId} {pos : String} {af : Array Edge} {g : Option (Nat × Bool)}
end
end Go.Proofs.YthddoikmgpgakaaDoor.Sw
namespace Go.Proofs.YthddoikmgpgakaaDoor.Sw
open Go.RowKit Go Go.Shelf Go.Proofs
section
variable {P : Program} {rs : List (Nat × AV)} {d : Option Nat} {ty : TypeId} {pos : String} {af : Array Edge} {g : Option (Nat × Bool)}
end
attribute [local go_sem] eqPlace
section
variable {P : Program} {rs : List (Nat × AV)} {d : Option Nat} {ty : TypeId} {pos : String} {af : Array Edge} {g : Option (Nat × Bool)}
end
end Go.Proofs.YthddoikmgpgakaaDoor.Sw
namespace Go.Proofs.YthddoikmgpgakaaDoor
open Go.RowKit Go.Proofs Go.Shelf
attribute [local go_sem] Oper.semAt_some
attribute [local go_sem] eqPlace
attribute [local go_sem] eqEdit
end Go.Proofs.YthddoikmgpgakaaDoor
namespace Go.Proofs.YthddoikmgpgakaaDoor.Sw
open Go.RowKit Go Go.Shelf Go.Proofs
end Go.Proofs.YthddoikmgpgakaaDoor.Sw
namespace Go.Proofs.YthddoikmgpgakaaDoor
open Go.RowKit Go.Proofs Go.Shelf
theorem dist_rev_le : ∀ a b : List Int, dist a.reverse b.reverse ≤ dist a b
 | [], b => by rw [List.reverse_nil, dist_nil, dist_nil, List.length_reverse]; exact Nat.le_refl _
 | x :: a, [] => by rw [List.reverse_nil, dist_nil', dist_nil', List.length_reverse]; exact Nat.le_refl _
 | x :: a, y :: b => by
  have h1 := dist_rev_le a b
  have h2 := dist_rev_le a (y :: b)
  have h3 := dist_rev_le (x :: a) b
  have g1 := dist_append [x] [y] a.reverse b.reverse
  have g2 := dist_append [x] [] a.reverse (y :: b).reverse
  have g3 := dist_append [] [y] (x :: a).reverse b.reverse
  have e1 := dist_both x y [] []
  rw [dist_cons]
  simp only [List.reverse_cons, dist_nil, dist_nil', List.length_cons, List.length_nil, List.append_nil] at *
  omega
termination_by a b => a.length + b.length
theorem dist_rev (a b : List Int) : dist a.reverse b.reverse = dist a b := by
 have h1 := dist_rev_le a b
 have h2 := dist_rev_le a.reverse b.reverse
 rw [List.reverse_reverse, List.reverse_reverse] at h2
 omega
theorem dist_snoc (x y : Int) (a b : List Int) : dist (a ++ [x]) (b ++ [y]) = min (dist a b + (if x = y then 0 else 1)) (min (dist a (b ++ [y]) + 1) (dist (a ++ [x]) b + 1)) := by
 rw [← dist_rev (a ++ [x]) (b ++ [y]), ← dist_rev a (b ++ [y]), ← dist_rev (a ++ [x]) b, List.reverse_append, List.reverse_append]
 simp only [List.reverse_cons, List.reverse_nil, List.nil_append, List.singleton_append]
 rw [dist_cons]
 have h0 := dist_rev a b
 rw [h0]
def apR (a b : List Int) (i : Nat) : List Int := (List.range (b.length + 1)).map fun k => (dist (a.take i) (b.take k) : Int)
def apM (a b : List Int) (i k : Nat) : List Int := (List.range (b.length + 1)).map fun j => if j ≤ k then (dist (a.take (i + 1)) (b.take j) : Int) else (dist (a.take i) (b.take j) : Int)
theorem apR_len (a b : List Int) (i : Nat) : (apR a b i).length = b.length + 1 := by simp [apR]
theorem apM_len (a b : List Int) (i k : Nat) : (apM a b i k).length = b.length + 1 := by simp [apM]
theorem apR_0 (a b : List Int) : apR a b 0 = (List.range (b.length + 1)).map fun (k : Nat) => (k : Int) := by
 unfold apR
 refine List.map_congr_left fun k hk => ?_
 have := List.mem_range.1 hk
 rw [List.take_zero, dist_nil, List.length_take, Nat.min_eq_left (by omega)]
theorem apM_at (a b : List Int) (i k j : Nat) (hj : j < b.length + 1) : (apM a b i k)[j]'(by rw [apM_len]; exact hj) = if j ≤ k then (dist (a.take (i + 1)) (b.take j) : Int) else (dist (a.take i) (b.take j) : Int) := by
 unfold apM
 simp only [List.getElem_map, List.getElem_range]
theorem apR_at (a b : List Int) (i j : Nat) (hj : j < b.length + 1) : (apR a b i)[j]'(by rw [apR_len]; exact hj) = (dist (a.take i) (b.take j) : Int) := by
 unfold apR
 simp only [List.getElem_map, List.getElem_range]
theorem apM_0 {a b : List Int} {i : Nat} (hi : i < a.length) : (apR a b i).set 0 ((i + 1 : Nat) : Int) = apM a b i 0 := by
 refine List.ext_getElem (by simp [apR, apM]) fun j h1 h2 => ?_
 have hj : j < b.length + 1 := by rw [apM_len] at h2; exact h2
 rw [List.getElem_set, apM_at a b i 0 j hj]
 by_cases e : 0 = j
 ·subst e
  rw [if_pos rfl, if_pos (Nat.le_refl _), List.take_zero, dist_nil', List.length_take, Nat.min_eq_left (by omega)]
 ·rw [if_neg e, if_neg (by omega), apR_at a b i j hj]
theorem apM_step {a b : List Int} {i k : Nat} (hi : i < a.length) (hk : k < b.length) :
  (apM a b i k).set (k + 1) (min ((dist (a.take i) (b.take k) : Int) + (if a[i] = b[k] then 0 else 1)) (min ((dist (a.take (i + 1)) (b.take k) : Int) + 1) ((dist (a.take i) (b.take (k + 1)) : Int) + 1))) = apM a b i (k + 1) := by
 refine List.ext_getElem (by simp [apM]) fun j h1 h2 => ?_
 rw [List.getElem_set]
 have hj : j < b.length + 1 := by rw [apM_len] at h2; exact h2
 rw [apM_at a b i (k + 1) j hj]
 by_cases e : k + 1 = j
 ·subst e
  rw [if_pos rfl, if_pos (Nat.le_refl _), List.take_succ_eq_append_getElem hi, List.take_succ_eq_append_getElem hk]
  have h := dist_snoc a[i] b[k] (a.take i) (b.take k)
  rw [h]
  split <;> omega
 ·rw [if_neg e, apM_at a b i k j hj]
  by_cases h : j ≤ k
  ·rw [if_pos h, if_pos (by omega)]
  ·rw [if_neg h, if_neg (by omega)]
theorem apM_end (a b : List Int) (i : Nat) : apM a b i b.length = apR a b (i + 1) := by
 unfold apM apR
 refine List.map_congr_left fun k hk => ?_
 have := List.mem_range.1 hk
 rw [if_pos (by omega)]
theorem apR_last (a b : List Int) : (apR a b a.length)[b.length]'(by rw [apR_len]; omega) = (dist a b : Int) := by
 unfold apR
 simp only [List.getElem_map, List.getElem_range, List.take_length]
theorem nxt_cases {st fo : List Int} {i k : Nat} (h : i < st.length ∨ k < fo.length) (hi : i ≤ st.length) (hk : k ≤ fo.length) :
  (∃ (a : i < st.length) (b : k < fo.length), st[i] = fo[k] ∧ nxt st fo i k = ⟨i + 1, k + 1, []⟩ ∧ dd st fo i k = dd st fo (i + 1) (k + 1))
  ∨ (∃ (a : i < st.length) (b : k < fo.length), st[i] ≠ fo[k] ∧ nxt st fo i k = ⟨i + 1, k + 1, [⟨3, k, fo[k]⟩]⟩ ∧ dd st fo i k = dd st fo (i + 1) (k + 1) + 1)
  ∨ (∃ (a : i < st.length), nxt st fo i k = ⟨i + 1, k, [⟨1, k, 0⟩]⟩ ∧ dd st fo i k = dd st fo (i + 1) k + 1)
  ∨ (∃ (b : k < fo.length), nxt st fo i k = ⟨i, k + 1, [⟨2, k, fo[k]⟩]⟩ ∧ dd st fo i k = dd st fo i (k + 1) + 1) := by
 by_cases h1 : i < st.length
 ·by_cases h2 : k < fo.length
  ·have e := dist_drop h1 h2
   by_cases he : st[i] = fo[k]
   ·refine .inl ⟨h1, h2, he, ?_, dd_same h1 h2 he⟩
    unfold nxt
    rw [dif_pos ⟨h1, h2⟩, if_pos he]
   ·rw [if_neg he] at e
    change dd st fo i k = min (dd st fo (i + 1) (k + 1) + 1) (min (dd st fo (i + 1) k + 1) (dd st fo i (k + 1) + 1)) at e
    by_cases q1 : dd st fo i k = dd st fo (i + 1) (k + 1) + 1
    ·refine .inr (.inl ⟨h1, h2, he, ?_, q1⟩)
     unfold nxt
     rw [dif_pos ⟨h1, h2⟩, if_neg he, if_pos q1]
    ·by_cases q2 : dd st fo i k = dd st fo (i + 1) k + 1
     ·refine .inr (.inr (.inl ⟨h1, ?_, q2⟩))
      unfold nxt
      rw [dif_pos ⟨h1, h2⟩, if_neg he, if_neg q1, if_pos q2]
     ·refine .inr (.inr (.inr ⟨h2, ?_, by omega⟩))
      unfold nxt
      rw [dif_pos ⟨h1, h2⟩, if_neg he, if_neg q1, if_neg q2]
  ·have e1 : dd st fo i k = (st.length - i) + (fo.length - k) := dist_end (.inr (by omega))
   have e2 : dd st fo (i + 1) k = (st.length - (i + 1)) + (fo.length - k) := dist_end (.inr (by omega))
   refine .inr (.inr (.inl ⟨h1, ?_, by omega⟩))
   unfold nxt
   rw [dif_neg (fun h => h2 h.2), if_pos h1]
 ·have h2 : k < fo.length := by omega
  have e1 : dd st fo i k = (st.length - i) + (fo.length - k) := dist_end (.inl (by omega))
  have e2 : dd st fo i (k + 1) = (st.length - i) + (fo.length - (k + 1)) := dist_end (.inl (by omega))
  refine .inr (.inr (.inr ⟨h2, ?_, by omega⟩))
  unfold nxt
  rw [dif_neg (fun h => h1 h.1), if_neg h1, dif_pos h2]
def edA (l : List Int) (e : Ed) : List Int := if e.kd = 1 then l.take e.at'.toNat ++ l.drop (e.at'.toNat + 1) else if e.kd = 2 then l.take e.at'.toNat ++ e.nt :: l.drop e.at'.toNat else l.set e.at'.toNat e.nt
def EdOk (l : List Int) (e : Ed) : Prop := 0 ≤ e.at' ∧ e.at' ≤ (l.length : Int) ∧ (e.kd = 2 ∨ e.at' < (l.length : Int)) ∧ (e.kd = 1 ∨ e.kd = 2 ∨ e.kd = 3)
def EdRun : List Int → List Ed → List Int → Prop
 | l, [], r => l = r
 | l, e :: es, r => EdOk l e ∧ EdRun (edA l e) es r
theorem edA_cut (d : List Int) (x : Int) (t : List Int) (z : Int) : edA (d ++ x :: t) ⟨1, (d.length : Int), z⟩ = d ++ t := by
 unfold edA
 rw [if_pos rfl, Int.toNat_natCast, List.take_left, List.drop_append]
 simp
theorem edA_add (d t : List Int) (z : Int) : edA (d ++ t) ⟨2, (d.length : Int), z⟩ = d ++ z :: t := by
 unfold edA
 rw [if_neg (show ¬ (2 : Int) = 1 by decide), if_pos rfl, Int.toNat_natCast, List.take_left, List.drop_left]
theorem edA_turn (d : List Int) (x : Int) (t : List Int) (z : Int) : edA (d ++ x :: t) ⟨3, (d.length : Int), z⟩ = d ++ z :: t := by
 unfold edA
 rw [if_neg (show ¬ (3 : Int) = 1 by decide), if_neg (show ¬ (3 : Int) = 2 by decide), Int.toNat_natCast, List.set_append_right _ _ (Nat.le_refl _), Nat.sub_self, List.set_cons_zero]
theorem ed_run {st fo : List Int} : ∀ (m i k : Nat), i ≤ st.length → k ≤ fo.length → (st.length - i) + (fo.length - k) ≤ m → EdRun (fo.take k ++ st.drop i) (edL st fo i k) fo ∧ (edL st fo i k).length = dd st fo i k
 | m, i, k, hi, hk, hm => by
  by_cases h : i < st.length ∨ k < fo.length
  ·match m with
   | 0 => omega
   | m + 1 =>
    rw [edL_step h hi hk]
    have hkl : (fo.take k).length = k := by rw [List.length_take]; omega
    rcases nxt_cases h hi hk with ⟨a, b, e, hn, hd⟩ | ⟨a, b, e, hn, hd⟩ | ⟨a, hn, hd⟩ | ⟨b, hn, hd⟩
    ·rw [hn]
     obtain ⟨q1, q2⟩ := ed_run (st := st) (fo := fo) m (i + 1) (k + 1) a b (by omega)
     dsimp only
     rw [List.nil_append]
     refine ⟨?_, by rw [q2, hd]⟩
     rw [List.drop_eq_getElem_cons a, e]
     rwa [List.take_succ_eq_append_getElem b, List.append_assoc] at q1
    ·rw [hn]
     obtain ⟨q1, q2⟩ := ed_run (st := st) (fo := fo) m (i + 1) (k + 1) a b (by omega)
     dsimp only
     refine ⟨?_, by rw [List.singleton_append, List.length_cons, q2, hd]⟩
     rw [List.drop_eq_getElem_cons a, List.singleton_append]
     refine ⟨⟨by dsimp only; omega, by dsimp only; rw [List.length_append, hkl]; omega, .inr (by dsimp only; rw [List.length_append, hkl, List.length_cons]; omega), .inr (.inr rfl)⟩, ?_⟩
     have := edA_turn (fo.take k) st[i] (st.drop (i + 1)) fo[k]
     rw [hkl] at this
     rw [this]
     rwa [List.take_succ_eq_append_getElem b, List.append_assoc] at q1
    ·rw [hn]
     obtain ⟨q1, q2⟩ := ed_run (st := st) (fo := fo) m (i + 1) k a hk (by omega)
     dsimp only
     refine ⟨?_, by rw [List.singleton_append, List.length_cons, q2, hd]⟩
     rw [List.drop_eq_getElem_cons a, List.singleton_append]
     refine ⟨⟨by dsimp only; omega, by dsimp only; rw [List.length_append, hkl]; omega, .inr (by dsimp only; rw [List.length_append, hkl, List.length_cons]; omega), .inl rfl⟩, ?_⟩
     have := edA_cut (fo.take k) st[i] (st.drop (i + 1)) 0
     rw [hkl] at this
     rw [this]
     exact q1
    ·rw [hn]
     obtain ⟨q1, q2⟩ := ed_run (st := st) (fo := fo) m i (k + 1) hi b (by omega)
     dsimp only
     refine ⟨?_, by rw [List.singleton_append, List.length_cons, q2, hd]⟩
     rw [List.singleton_append]
     refine ⟨⟨by dsimp only; omega, by dsimp only; rw [List.length_append, hkl]; omega, .inl rfl, .inr (.inl rfl)⟩, ?_⟩
     have := edA_add (fo.take k) (st.drop i) fo[k]
     rw [hkl] at this
     rw [this]
     rwa [List.take_succ_eq_append_getElem b, List.append_assoc] at q1
  ·obtain rfl : i = st.length := by omega
   obtain rfl : k = fo.length := by omega
   rw [edL_end, List.take_length, List.drop_length, List.append_nil]
   refine ⟨rfl, ?_⟩
   unfold dd
   rw [List.drop_length, List.drop_length, dist_nil]
   rfl
end Go.Proofs.YthddoikmgpgakaaDoor
namespace Go.Proofs.YthddoikmgpgakaaDoor.Sw
open Go.RowKit Go Go.Shelf Go.Proofs
open Go.Proofs.YthddoikmgpgakaaDoor.Ma
structure Rdy (t : Tl) : Prop where
 ok : okT t.id t.hs t.st t.fo = true
 s : t.st.length ≤ 12
 f : t.fo.length ≤ 12
 os : okN t.st = true
 of : okN t.fo = true
theorem rdy_of {t : Tl} (h : okT t.id t.hs t.st t.fo = true) : Rdy t := by
 obtain ⟨a, b, c, d⟩ := okT_b h
 exact ⟨h, a, b, c, d⟩
theorem Rdy.of' {t : Tl} (h : (!(decide ((30 : Int) < t.st.length) || decide ((30 : Int) < t.fo.length)) && okT t.id t.hs t.st t.fo) = true) : Rdy t := by
 rw [Bool.and_eq_true] at h
 exact rdy_of h.2
theorem ready1_con (t : Tl) : Con Tryd.prog 67 [.agg (tC t)] [] (Is (.val (.bool (!(decide ((30 : Int) < t.st.length) || decide ((30 : Int) < t.fo.length)) && okT t.id t.hs t.st t.fo))) []) := by
 cases hg : (decide ((30 : Int) < t.st.length) || decide ((30 : Int) < t.fo.length)) with
 | true =>
  have GC := great_con t
  rw [hg] at GC
  refine con_of Tryd.func67 rfl (enters_of Tryd.func67 (by kernel_rfl) rfl) rfl ?_; intro n w0 F0 G0
  refine zS ?_;repeat(refine yA ?_;intro p hp;refine zS ?_)
  (first | (apply wl_call (GC); exact rfl; exact rfl) | (apply wl_callR (GC); exact rfl; exact zM; exact rfl))
  refine zS ?_
  (apply res1; exact rfl; exact rfl; exact ⟨rfl, rfl⟩)
 | false =>
  have h2 := hg
  simp only [Bool.or_eq_false_iff, decide_eq_false_iff_not] at h2
  have := ready_con t (by omega) (by omega)
  rwa [hg] at this
end Go.Proofs.YthddoikmgpgakaaDoor.Sw
namespace Go.Proofs.YthddoikmgpgakaaDoor
open Go.RowKit Go.Proofs Go.Shelf
theorem dist_max : ∀ a b : List Int, dist a b ≤ max a.length b.length
 | [], b => by rw [dist_nil]; exact Nat.le_max_right _ _
 | x :: a, [] => by rw [dist_nil']; exact Nat.le_max_left _ _
 | x :: a, y :: b => by
  have h1 := dist_both x y a b
  have h2 := dist_max a b
  have h3 : (if x = y then 0 else 1) ≤ 1 := by split <;> omega
  simp only [List.length_cons]
  omega
end Go.Proofs.YthddoikmgpgakaaDoor
namespace Go.Proofs.YthddoikmgpgakaaDoor.Sw
open Go.RowKit Go Go.Shelf Go.Proofs
open Go.Proofs.YthddoikmgpgakaaDoor.Ma
theorem wl_eqlB {c : Cx} {rs : List (Nat × AV)} {hs : List HA} {Q : Exit → S → Prop} {ops : Array Oper} {tl : List Oper} {d : Nat} {ty : TypeId} {pos : String} {af : Array Edge} {x y : Operand} {a b e : Bool} {t t' : TypeId} (ht : c.P.underlying t = some .bool) (hx : opv rs x = some (.val (.bool a))) (hy : opv rs y = some (.val (.bool b))) (he : (a == b) = e) (hd : Nat.blt d c.nt = true) (k : WL c ops tl ⟨(d, .val (.bool e)) :: rs, hs⟩ Q) : WL c ops (⟨some d, .binOp .eql t x y t', ty, pos, af, none⟩ :: tl) ⟨rs, hs⟩ Q := by subst he; exact wl_ex (lt_eqlB ht hx hy) hd k
section
variable {P : Program} {rs : List (Nat × AV)} {d : Option Nat} {ty : TypeId} {pos : String} {af : Array Edge} {g : Option (Nat × Bool)}
theorem lt_convC {x : Operand} {u v : Value} {s t : TypeId} (hx : opv rs x = some (.val u)) (h : ∀ w, (convert s t u).run P w = .ok v w) : LT P ⟨d, .convert s t x, ty, pos, af, g⟩ rs [] (Is (.val v) []) :=
 LT_val (fun _ e => by cases e) fun a w G hR _ => ⟨_, rfl, by
  have e1 : a.eval x = _ := opv_ok hR hx
  simp only [execOp, e1, Sem.run_bind, h w, Result.andThen_ok]
  rfl⟩
end
section
variable {c : Cx} {rs : List (Nat × AV)} {hs : List HA} {Q : Exit → S → Prop} {ops : Array Oper} {tl : List Oper} {d : Nat} {ty : TypeId} {pos : String} {af : Array Edge}
theorem wl_convC {x : Operand} {u : Value} (v : Value) {s t : TypeId} (hx : opv rs x = some (.val u)) (h : ∀ w, (convert s t u).run c.P w = .ok v w) (hd : Nat.blt d c.nt = true) (k : WL c ops tl ⟨(d, .val v) :: rs, hs⟩ Q) : WL c ops (⟨some d, .convert s t x, ty, pos, af, none⟩ :: tl) ⟨rs, hs⟩ Q := wl_ex (lt_convC hx h) hd k
end
theorem falseR_ok {a : Tl} (h : Rdy a) : falseR a = ((dist a.st a.fo : Int), 0) := by unfold falseR; rw [if_pos h.ok]
theorem Rdy.dist {a : Tl} (h : Rdy a) : dist a.st a.fo ≤ 12 := by
 have := dist_max a.st a.fo
 have := h.s
 have := h.f
 omega
theorem Rdy.small {a : Tl} (h : Rdy a) : a.small := ⟨by have := h.s; omega, by have := h.f; omega⟩
theorem Rdy.lt {a : Tl} (h : Rdy a) : a.st.length ≤ 1000 ∧ a.fo.length ≤ 1000 := ⟨by have := h.s; omega, by have := h.f; omega⟩
theorem lt_min3 {P : Program} {rs : List (Nat × AV)} {d : Option Nat} {ty : TypeId} {pos : String} {af : Array Edge} {g : Option (Nat × Bool)} {x y z : Operand} {m n l : Int} {ts : Array TypeId} (hx : opv rs x = some (.val (.int .i64 m))) (hy : opv rs y = some (.val (.int .i64 n))) (hz : opv rs z = some (.val (.int .i64 l))) :
  LT P ⟨d, .call { callee := .builtin .min, args := #[x, y, z], argTypes := ts }, ty, pos, af, g⟩ rs [] (Is (.val (.int .i64 (min m (min n l)))) []) :=
 LT_val (fun _ e => by cases e) fun a w G hR hG => by
  have e1 : a.eval x = _ := opv_ok hR hx
  have e2 : a.eval y = _ := opv_ok hR hy
  have e3 : a.eval z = _ := opv_ok hR hz
  refine ⟨_, rfl, ?_⟩
  have h1 : (if n < m then n else m) = min m n := by split <;> omega
  have h2 : ∀ q : Int, (if l < q then l else q) = min q l := fun q => by split <;> omega
  have h3 : min (min m n) l = min m (min n l) := by omega
  simp [execOp, resolve, e1, e2, e3, invoke, builtin, Builtin.min_, Builtin.min2, h1, h2, h3]
theorem zeroF {α : Type} {P : Program} {e : TypeId} {f : α → List AV} {x0 : α} {n b : Nat} {z : Value} (h2 : (P.info? e).map (fun i => (i.zero, i.size, i.bytes)) = some (some z, n, b)) {zs : List Value} (h3 : z.cells = zs.toArray) (h4 : ∀ G, Fits G (f x0) zs) : ZeroF P e f x0 := by
 obtain ⟨i, hi, e1, _, _⟩ := info_parts h2
 exact ⟨z, ⟨i, hi, e1⟩, zs, h3, h4⟩
instance zeroI : ZeroF Tryd.prog 3 iC 0 := zeroF (z := .int .i64 0) (n := 1) (b := 8) (zs := [.int .i64 0]) (by kernel_rfl) rfl (fun _ => ⟨rfl, trivial⟩)
def upTo (n k : Nat) : List Int := (List.range n).map fun j => if j < k then (j : Int) else 0
theorem upTo_at (n k j : Nat) (h : j < (upTo n k).length) : (upTo n k)[j] = if j < k then (j : Int) else 0 := by
 unfold upTo at h ⊢
 simp only [List.getElem_map, List.getElem_range]
theorem upTo_step {n k : Nat} (hk : k < n) : (upTo n k).set k (k : Int) = upTo n (k + 1) := by
 refine List.ext_getElem (by simp [upTo]) fun j h1 h2 => ?_
 rw [List.getElem_set, upTo_at, upTo_at]
 split
 ·rename_i e; subst e; rw [if_pos (by omega)]
 ·split
  ·rw [if_pos (by omega)]
  ·rw [if_neg (by omega)]
theorem upTo_0 (n : Nat) : List.replicate n (0 : Int) = upTo n 0 := by
 unfold upTo
 refine List.ext_getElem (by simp) fun j h1 h2 => ?_
 simp
theorem upTo_len (n k : Nat) : (upTo n k).length = n := by simp [upTo]
theorem upTo_end (a b : List Int) : upTo (b.length + 1) (b.length + 1) = apR a b 0 := by
 rw [apR_0]
 unfold upTo
 refine List.map_congr_left fun k hk => ?_
 have := List.mem_range.1 hk
 rw [if_pos (by omega)]
theorem apart_con (a b : List Int) (h1 : a.length ≤ 1000) (h2 : b.length ≤ 1000) : Con Tryd.prog 68 [.sl 1 iC a, .sl 1 iC b] [] (Is (.val (.int .i64 (dist a b : Nat))) []) := by
 refine con_of Tryd.func68 rfl (enters_of Tryd.func68 (by kernel_rfl) rfl) rfl ?_; intro n w0 F0 G0
 refine zS ?_
 (apply wl_make iC; exact inferInstance; exact inferInstance; exact inferInstance; exact inferInstance; exact rfl; exact rfl; exact rfl; (first | omega | (simp; omega)); exact rfl)
 intro v
 refine WL_one At.here (fun hone => ?_)
 rw [upTo_0]
 refine zS ?_
 rw [upTo_len]
 refine W_loopJ (fun (k : Nat) => ⟨[(0, .sl 1 iC a), (1, .sl 1 iC b), (5, .val v), (18, .val (.int .i64 ((b.length + 1 : Nat) : Int))), (19, .val (.int .i64 k))], [.row v 3 1 iC (upTo (b.length + 1) k)]⟩) (fun k => k ≤ b.length + 1) (fun k => b.length + 1 - k) 0 (fun _ _ st => st_sub2 st zR zP) (Nat.zero_le _) ?_
 intro k hk
 refine zS ?_
 refine w_cond rfl (fun hlt => ?_) (fun hlt => ?_)
 ·have hlt' : k < b.length + 1 := by have := of_decide_eq_true hlt; omega
  have hll := upTo_len (b.length + 1) k
  have hst := upTo_step hlt'
  generalize upTo (b.length + 1) k = xs at hll hst ⊢
  refine zS ?_
  rw [hst]
  refine zS ?_
  (refine ⟨k + 1, fun _ _ st => st_sub2 st ?_ ?_, ?_, ?_⟩; exact zR; exact zP)
  ·exact hlt'
  ·omega
 ·have hkk : k = b.length + 1 := by have := of_decide_eq_false hlt; omega
  subst hkk
  rw [upTo_end a b]
  refine zS ?_
  refine W_loopJ (fun (i : Nat) => ⟨[(0, .sl 1 iC a), (1, .sl 1 iC b), (5, .val v), (27, .sl 1 iC a), (28, .val (.int .i64 a.length)), (29, .val (.int .i64 i))], [.row v 3 1 iC (apR a b i)]⟩) (fun i => i ≤ a.length) (fun i => a.length - i) 0 (fun _ _ st => st_sub2 st zR zP) (Nat.zero_le _) ?_
  intro i hi
  refine zS ?_
  refine w_cond rfl (fun hlt2 => ?_) (fun hlt2 => ?_)
  ·have hlt2' : i < a.length := by have := of_decide_eq_true hlt2; omega
   have hl1 := apR_len a b i
   have hs0 := apM_0 (a := a) (b := b) hlt2'
   have hv0 : (apR a b i)[0]? = some (dist (a.take i) (b.take 0) : Int) := by rw [List.getElem?_eq_getElem (by rw [apR_len]; omega), apR_at a b i 0 (by omega)]
   generalize apR a b i = xs at hl1 hs0 hv0 ⊢
   have hv1 : xs[0] = (dist (a.take i) (b.take 0) : Int) := by
    have := hv0
    rw [List.getElem?_eq_getElem (by omega)] at this
    exact Option.some.inj this
   refine zS ?_
   rw [show ((i : Int) + 1) = ((i + 1 : Nat) : Int) by omega, hs0, hv1]
   refine zS ?_
   refine W_loopJ (fun (k : Nat) => ⟨[(0, .sl 1 iC a), (1, .sl 1 iC b), (5, .val v), (8, .val (.int .i64 a[i])), (9, .val (.int .i64 (dist (a.take i) (b.take k) : Nat))), (27, .sl 1 iC a), (28, .val (.int .i64 a.length)), (29, .val (.int .i64 i)), (41, .sl 1 iC b), (42, .val (.int .i64 b.length)), (43, .val (.int .i64 k))], [.row v 3 1 iC (apM a b i k)]⟩) (fun k => k ≤ b.length) (fun k => b.length - k) 0 (fun _ _ st => st_sub2 st zR zP) (Nat.zero_le _) ?_
   intro k hk
   refine zS ?_
   refine w_cond rfl (fun hlt3 => ?_) (fun hlt3 => ?_)
   ·have hlt3' : k < b.length := by have := of_decide_eq_true hlt3; omega
    have hl2 := apM_len a b i k
    have hs1 := apM_step hlt2' hlt3'
    have hq1 : (apM a b i k)[k]? = some (dist (a.take (i + 1)) (b.take k) : Int) := by rw [List.getElem?_eq_getElem (by rw [apM_len]; omega), apM_at a b i k k (by omega), if_pos (Nat.le_refl _)]
    have hq2 : (apM a b i k)[k + 1]? = some (dist (a.take i) (b.take (k + 1)) : Int) := by rw [List.getElem?_eq_getElem (by rw [apM_len]; omega), apM_at a b i k (k + 1) (by omega), if_neg (by omega)]
    have hd1 := dist_le (a.take i) (b.take k)
    have hd2 := dist_le (a.take (i + 1)) (b.take k)
    have hd3 := dist_le (a.take i) (b.take (k + 1))
    simp only [List.length_take] at hd1 hd2 hd3
    generalize apM a b i k = ys at hl2 hs1 hq1 hq2 ⊢
    refine zS ?_
    have hv2 : ys[k + 1] = (dist (a.take i) (b.take (k + 1)) : Int) := by
     have := hq2
     rw [List.getElem?_eq_getElem (by omega)] at this
     exact Option.some.inj this
    refine w_cond rfl (fun hne => ?_) (fun hne => ?_)
    ·have hne' : ¬ a[i] = b[k] := by simpa using hne
     rw [if_neg hne'] at hs1
     refine zS ?_
     rw [hv2]
     refine W_run 16 [59, 60, 61, 62, 63, 64, 65, 66, 67, 68, 69, 70, 71, 72, 73, 74] [0, 1, 2, 3, 4, 5, 6, 7, 8, 9, 10, 11, 12, 13, 14, 15] Cut.nil rfl goFlt mixedS (by kernel_rfl) rfl ?_
     refine rpv [] [] ?_
     refine rpv [] [] ?_
     refine rpv [1] [] ?_
     refine rpv [] [] ?_
     refine rpv [] [] ?_
     refine rpv [] [] ?_
     refine rpv [4, 5] [] ?_
     refine rpv [6] [] ?_
     refine rpv [7] [] ?_
     refine rpv [] [] ?_
     refine rpv [] [] ?_
     refine rpv [10] [] ?_
     refine rpv [9, 11] [] ?_
     refine rpv [12] [] ?_
     refine rpv [13] [] ?_
     refine Run.pv [3, 8, 14] [] rfl (fun vs => by apply ltr_pk; exact goPk; (refine ltr ?_; apply lt_min3; exact rfl; exact rfl; exact rfl)) goApp ?_
     refine ⟨⟨by kernel_rfl, by kernel_rfl⟩, fun vs => ?_⟩
     apply WL_auto [0, 2, 15]
     ·exact goPk
     ·exact goNrm
     ·kernel_rfl
     ·kernel_rfl
     refine zS ?_
     refine zS ?_
     rw [hs1]
     (refine ⟨k + 1, fun _ _ st => st_sub2 st ?_ ?_, ?_, ?_⟩; exact zR; exact zP)
     ·exact hlt3'
     ·omega
    ·have heq' : a[i] = b[k] := by simpa using hne
     rw [if_pos heq', Int.add_zero] at hs1
     refine zS ?_
     rw [hv2]
     refine W_run 16 [59, 60, 61, 62, 63, 64, 65, 66, 67, 68, 69, 70, 71, 72, 73, 74] [0, 1, 2, 3, 4, 5, 6, 7, 8, 9, 10, 11, 12, 13, 14, 15] Cut.nil rfl goFlt mixedS (by kernel_rfl) rfl ?_
     refine rpv [] [] ?_
     refine rpv [] [] ?_
     refine rpv [1] [] ?_
     refine rpv [] [] ?_
     refine rpv [] [] ?_
     refine rpv [] [] ?_
     refine rpv [4, 5] [] ?_
     refine rpv [6] [] ?_
     refine rpv [7] [] ?_
     refine rpv [] [] ?_
     refine rpv [] [] ?_
     refine rpv [10] [] ?_
     refine rpv [9, 11] [] ?_
     refine rpv [12] [] ?_
     refine rpv [13] [] ?_
     refine Run.pv [3, 8, 14] [] rfl (fun vs => by apply ltr_pk; exact goPk; (refine ltr ?_; apply lt_min3; exact rfl; exact rfl; exact rfl)) goApp ?_
     refine ⟨⟨by kernel_rfl, by kernel_rfl⟩, fun vs => ?_⟩
     apply WL_auto [0, 2, 15]
     ·exact goPk
     ·exact goNrm
     ·kernel_rfl
     ·kernel_rfl
     refine zS ?_
     refine zS ?_
     rw [hs1]
     (refine ⟨k + 1, fun _ _ st => st_sub2 st ?_ ?_, ?_, ?_⟩; exact zR; exact zP)
     ·exact hlt3'
     ·omega
   ·have hkk : k = b.length := by have := of_decide_eq_false hlt3; omega
    subst hkk
    rw [apM_end]
    refine zS ?_
    (refine ⟨i + 1, fun _ _ st => st_sub2 st ?_ ?_, ?_, ?_⟩; exact zR; exact zP)
    ·exact hlt2'
    ·omega
  ·have hii : i = a.length := by have := of_decide_eq_false hlt2; omega
   subst hii
   have hl1 := apR_len a b a.length
   have hv0 : (apR a b a.length)[b.length]? = some (dist a b : Int) := by rw [List.getElem?_eq_getElem (by rw [apR_len]; omega), apR_last]
   generalize apR a b a.length = xs at hl1 hv0 ⊢
   have hv : xs[b.length] = (dist a b : Int) := by
    have := hv0
    rw [List.getElem?_eq_getElem (by omega)] at this
    exact Option.some.inj this
   refine zS ?_
   rw [hv]
   (apply res1; exact rfl; exact rfl; exact ⟨rfl, rfl⟩)
end Go.Proofs.YthddoikmgpgakaaDoor.Sw
namespace Go.Proofs.YthddoikmgpgakaaDoor.Sw
open Go.RowKit Go
section
variable {P : Program} {rs : List (Nat × AV)} {d : Option Nat} {ty : TypeId} {pos : String} {af : Array Edge} {g : Option (Nat × Bool)}
theorem lt_slTo {α : Type} {f : α → List AV} {xs : List α} {x y : Operand} {t e : TypeId} {n : Nat} [hE : TyE P t e n] {h : Nat} (hx : opv rs x = some (.sl n f xs)) (hy : opv rs y = some (.val (.int .i64 (h : Int)))) (h2 : h ≤ xs.length) : LT P ⟨d, .slice t x none (some y) none, ty, pos, af, g⟩ rs [] (Is (.sl n f (xs.take h)) []) := by
 have := lt_slice (P := P) (rs := rs) (d := d) (ty := ty) (pos := pos) (af := af) (g := g) (t := t) (e := e) (l := 0) (h := h) (li := 0) hx (.inr ⟨rfl, rfl⟩) rfl (.inl (by rw [Option.map_some, hy])) rfl (Nat.zero_le _) h2
 rwa [List.drop_zero] at this
theorem lt_slFrom {α : Type} {f : α → List AV} {xs : List α} {x y : Operand} {t e : TypeId} {n : Nat} [hE : TyE P t e n] {l : Nat} (hx : opv rs x = some (.sl n f xs)) (hy : opv rs y = some (.val (.int .i64 (l : Int)))) (h2 : l ≤ xs.length) : LT P ⟨d, .slice t x (some y) none none, ty, pos, af, g⟩ rs [] (Is (.sl n f (xs.drop l)) []) := by
 have := lt_slice (P := P) (rs := rs) (d := d) (ty := ty) (pos := pos) (af := af) (g := g) (t := t) (e := e) (l := l) (h := xs.length) (hi' := (xs.length : Int)) hx (.inl (by rw [Option.map_some, hy])) rfl (.inr ⟨rfl, rfl⟩) rfl h2 (Nat.le_refl _)
 rwa [List.take_length] at this
end
end Go.Proofs.YthddoikmgpgakaaDoor.Sw
namespace Go.Proofs.YthddoikmgpgakaaDoor.Sw
open Go.RowKit Go Go.Shelf Go.Proofs
open Go.Proofs.YthddoikmgpgakaaDoor.Ma
theorem Rdy.sub {a : Tl} (h : Rdy a) {s f : List Int} (h1 : s.length ≤ 12) (h2 : f.length ≤ 12) (h3 : okN s = true) (h4 : okN f = true) : Rdy ⟨a.id, a.hs, s, f⟩ := by
 refine rdy_of ?_
 have hk := h.ok
 unfold okT at hk ⊢
 simp only [Bool.and_eq_true, decide_eq_true_eq] at hk ⊢
 exact ⟨⟨⟨⟨hk.1.1.1.1, h1⟩, h2⟩, h3⟩, h4⟩
theorem isR_ok {a : Tl} (h : Rdy a) (l : List Int) : isR a l = (okN l && decide (dist a.st l + dist l a.fo = dist a.st a.fo), 0) := by
 unfold isR
 rw [if_pos h.ok]; rfl
theorem isR_true {a : Tl} (h : Rdy a) {l : List Int} (hl : TrueL a.st a.fo l) : isR a l = (true, 0) := by
 rw [isR_ok h, hl.ok h.os h.of, decide_eq_true (show dist a.st l + dist l a.fo = dist a.st a.fo from hl)]; rfl
def kindOf (b : Fin 256) : Int := 1 + (b.val : Int) % 4
def listF (l : List (Fin 256)) (m : Nat) : List Int := (l.take (min l.length m)).map kindOf
theorem kindOf_b (b : Fin 256) : 1 ≤ kindOf b ∧ kindOf b ≤ 4 := by
 unfold kindOf
 have h0 := Int.emod_nonneg (b.val : Int) (show (4 : Int) ≠ 0 by decide)
 have h1 := Int.emod_lt_of_pos (b.val : Int) (show (0 : Int) < 4 by decide)
 omega
theorem listF_ok (l : List (Fin 256)) (m : Nat) : okN (listF l m) = true := List.all_eq_true.2 fun x hx => by
 obtain ⟨b, _, rfl⟩ := List.mem_map.1 hx
 have := kindOf_b b
 simp [this]
theorem listF_len (l : List (Fin 256)) (m : Nat) : (listF l m).length ≤ m := by
 unfold listF
 rw [List.length_map, List.length_take]; omega
theorem list_con (l : List (Fin 256)) (m : Nat) (hm : m ≤ 1000) : Con Tryd.prog 69 [.sl 1 u8C l, .val (.int .i64 m)] [] (Is (.sl 1 iC (listF l m)) []) := by
 refine con_of Tryd.func69 rfl (enters_of Tryd.func69 (by kernel_rfl) rfl) rfl ?_; intro n w0 F0 G0
 refine zS ?_
 (apply wl_slTo (h := (min l.length m)); exact inferInstance; exact rfl; exact rfl; (first | exact rfl | omega | (simp; omega)); exact (by omega); exact rfl)
 refine zS ?_
 have hlen : (l.take (min l.length m)).length ≤ 1000 := by rw [List.length_take]; omega
 unfold listF
 generalize l.take (min l.length m) = xs at hlen ⊢
 refine W_loopJ (fun (b : Nat × Value) => ⟨[(5, .val b.2), (13, .sl 1 u8C xs), (14, .val (.int .i64 xs.length)), (15, .val (.int .i64 b.1))], [.row b.2 3 1 iC ((xs.take b.1).map kindOf)]⟩) (fun b => b.1 ≤ xs.length) (fun b => xs.length - b.1) (0, .slice none 0 0) (fun _ _ st => st_sub2 (st_nil 3 1 iC st) zR zP) (Nat.zero_le _) ?_
 rintro ⟨k, v⟩ hk
 dsimp only at hk ⊢
 refine zS ?_
 refine w_cond rfl (fun hlt => ?_) (fun hlt => ?_)
 ·have hlt' : k < xs.length := by have := of_decide_eq_true hlt; omega
  have hb := xs[k].isLt
  have c1 := fun w => run_conv8 (P := Tryd.prog) Tryd.underlying5 Tryd.underlying3 (n := ((xs[k].val : Nat) : Int)) ⟨by omega, by omega⟩ w
  have hkb := kindOf_b xs[k]
  have htk : (xs.take (k + 1)).map kindOf = (xs.take k).map kindOf ++ [1 + (xs[k].val : Int) % 4] := by
   rw [List.take_succ_eq_append_getElem hlt', List.map_append]; rfl
  have hlt2 : ((xs.take k).map kindOf).length = k := by rw [List.length_map, List.length_take]; omega
  unfold kindOf at hkb
  refine zS ?_
  (apply wl_convC (.int .i64 ((xs[k].val : Nat) : Int)); exact rfl; exact c1; exact rfl)
  refine zS ?_
  (apply wl_rem; exact rfl; exact rfl; omega; omega; omega; exact rfl)
  refine zS ?_
  (apply wl_litF iC (xs := [1 + (xs[k].val : Int) % 4]); exact inferInstance; exact inferInstance; exact inferInstance; exact zE; exact rfl; (simp); exact rfl)
  (first | (apply wl_append; exact rfl; exact rfl; exact zN; exact inferInstance; exact inferInstance; (first | omega | (simp; omega)); exact rfl) | (apply wl_appendN; exact rfl; exact rfl; exact inferInstance; exact inferInstance; (first | omega | (simp; omega)); exact rfl))
  intro v2
  refine zS ?_
  refine ⟨(k + 1, v2), fun _ _ st => st_sub2 st zR (by rw [htk]; exact zP), hlt', ?_⟩
  dsimp only; omega
 ·have hkk : k = xs.length := by have := of_decide_eq_false hlt; omega
  subst hkk
  rw [List.take_length]
  refine zS ?_
  (apply Res_frz 4; exact rfl; exact zN)
  (apply resK1; exact rfl; exact rfl; exact ⟨rfl, rfl⟩; exact yC)
theorem edits_ok {a : Tl} (h : Rdy a) : editsR a = (edL a.st a.fo 0 0, 0) ∧ EdRun a.st (edL a.st a.fo 0 0) a.fo ∧ (edL a.st a.fo 0 0).length = dist a.st a.fo := by
 refine ⟨by unfold editsR; rw [if_pos h.ok], ?_⟩
 have := ed_run (st := a.st) (fo := a.fo) _ 0 0 (Nat.zero_le _) (Nat.zero_le _) (Nat.le_refl _)
 rw [List.take_zero, List.drop_zero, List.nil_append] at this
 refine ⟨this.1, ?_⟩
 rw [this.2]
 unfold dd
 rw [List.drop_zero, List.drop_zero]
theorem edA_len (l : List Int) (e : Ed) : (edA l e).length ≤ l.length + 1 := by
 unfold edA
 split
 ·rw [List.length_append, List.length_take, List.length_drop]; omega
 ·split
  ·rw [List.length_append, List.length_cons, List.length_take, List.length_drop]; omega
  ·rw [List.length_set]; omega
theorem tallyFewest_con (x : Tl) (by_ : List (Fin 256)) : Con Tryd.prog 10 [.agg (tC x), .sl 1 u8C by_] [HA.tab] (Is (.val (.bool true)) []) := by
 have RX := ready1_con x
 refine con_of Tryd.func10 rfl (enters_of Tryd.func10 (by kernel_rfl) rfl) rfl ?_; intro n w0 F0 G0
 refine zS ?_;repeat(refine yA ?_;intro p hp;refine zS ?_)
 revert p
 intro p2 hp2
 (first | (apply wl_call (alive_con); exact rfl; exact rfl) | (apply wl_callR (alive_con); exact rfl; exact zM; exact rfl))
 refine zS ?_;repeat(refine yA ?_;intro p hp;refine zS ?_)
 (first | (apply wl_call (RX); exact rfl; exact rfl) | (apply wl_callR (RX); exact rfl; exact zM; exact rfl))
 cases hx : (!(decide ((30 : Int) < x.st.length) || decide ((30 : Int) < x.fo.length)) && okT x.id x.hs x.st x.fo) with
 | false =>
  refine zS ?_;repeat(refine yA ?_;intro p hp;refine zS ?_)
  (apply res1; exact rfl; exact rfl; exact ⟨rfl, rfl⟩)
 | true =>
  have hX := Rdy.of' hx
  have l1 := hX.s
  have l2 := hX.f
  obtain ⟨e1, e2, e3⟩ := edits_ok hX
  have CF := falseP_con x hX.lt.1 hX.lt.2
  rw [falseR_ok hX] at CF
  have CE := editsP_con x hX.small
  rw [e1] at CE
  have CA := apart_con x.st x.fo (by omega) (by omega)
  have d0 := hX.dist
  have CL := list_con by_ 30 (by decide)
  have ho := listF_ok by_ 30
  have hol := listF_len by_ 30
  have CB := apart_con x.st (listF by_ 30) (by omega) (by omega)
  have CC := apart_con (listF by_ 30) x.fo (by omega) (by omega)
  have I1 := isP_con x (listF by_ 30) hX.lt.1 hX.lt.2 (by omega)
  rw [isR_ok hX, ho, Bool.true_and] at I1
  have I2 := isP_con x x.st hX.lt.1 hX.lt.2 (by omega)
  rw [isR_true hX (TrueL.left _ _)] at I2
  have I3 := isP_con x x.fo hX.lt.1 hX.lt.2 (by omega)
  rw [isR_true hX (TrueL.right _ _)] at I3
  have S1 := sameI_con x.fo x.fo (by omega) (by omega)
  rw [decide_eq_true rfl] at S1
  have t3 := dist_third x.st (listF by_ 30) x.fo
  have g1 := dist_max x.st (listF by_ 30)
  have g2 := dist_max (listF by_ 30) x.fo
  dsimp only at CF CE I1 I2 I3
  generalize listF by_ 30 = ot at CL ho hol CB CC I1 t3 g1 g2
  generalize edL x.st x.fo 0 0 = E at CE e2 e3
  refine zS ?_;repeat(refine yA ?_;intro p hp;refine zS ?_)
  (first | (apply wl_call (CF); exact rfl; exact rfl) | (apply wl_callR (CF); exact rfl; exact zM; exact rfl))
  refine zS ?_;repeat(refine yA ?_;intro p hp;refine zS ?_)
  (first | (apply wl_call (CE); exact rfl; exact rfl) | (apply wl_callR (CE); exact rfl; exact zM; exact rfl))
  refine zS ?_;repeat(refine yA ?_;intro p hp;refine zS ?_)
  (first | (apply wl_call (CA); exact rfl; exact rfl) | (apply wl_callR (CA); exact rfl; exact zM; exact rfl))
  refine zS ?_;repeat(refine yA ?_;intro p hp;refine zS ?_)
  simp only [decide_true, Bool.not_true]
  refine zS ?_;repeat(refine yA ?_;intro p hp;refine zS ?_)
  rw [e3]
  simp only [decide_true, Bool.not_true]
  refine zS ?_;repeat(refine yA ?_;intro p hp;refine zS ?_)
  (apply wl_lit iC; exact inferInstance; exact inferInstance; exact inferInstance; exact zE; exact rfl; (first | exact (of_decide_eq_true rfl) | decide | (simp; done) | (simp; omega)); exact rfl)
  intro v1
  refine zS ?_;repeat(refine yA ?_;intro p hp;refine zS ?_)
  (first | (apply wl_append; exact rfl; exact rfl; exact zN; exact inferInstance; exact inferInstance; (first | omega | (simp; omega)); exact rfl) | (apply wl_appendN; exact rfl; exact rfl; exact inferInstance; exact inferInstance; (first | omega | (simp; omega)); exact rfl))
  intro v2
  refine zS ?_;repeat(refine yA ?_;intro p hp;refine zS ?_)
  rw [e3]
  refine W_loopJ (fun (b : Nat × Value × List Int) => ⟨[(1, .sl 1 u8C by_), (2, .val p2), (5, .val (.bool true)), (6, .val (.int .i64 (dist x.st x.fo : Nat))), (10, .val b.2.1), (65, .sl 3 edC E), (66, .val (.int .i64 (dist x.st x.fo : Nat))), (67, .val (.int .i64 b.1))], [.row b.2.1 3 1 iC b.2.2, .box p2 (tC x) 24, HA.tab]⟩) (fun b => b.1 ≤ E.length ∧ EdRun b.2.2 (E.drop b.1) x.fo ∧ b.2.2.length ≤ 12 + b.1) (fun b => E.length - b.1) (0, v2, x.st) (fun _ _ st => st_sub2 st zR zP) ⟨Nat.zero_le _, e2, l1⟩ ?_
  rintro ⟨j, v, l⟩ ⟨hj, hrun, hll⟩
  dsimp only at hj hrun hll ⊢
  refine zS ?_;repeat(refine yA ?_;intro p hp;refine zS ?_)
  refine w_cond rfl (fun hlt => ?_) (fun hlt => ?_)
  ·have hlt' : j < E.length := by have := of_decide_eq_true hlt; omega
   rw [List.drop_eq_getElem_cons hlt'] at hrun
   obtain ⟨hok, hrun⟩ := hrun
   have hal := edA_len l E[j]
   have hq0 : E[j]? = some E[j] := List.getElem?_eq_getElem hlt'
   refine zS ?_;repeat(refine yA ?_;intro p hp;refine zS ?_)
   generalize E[j] = e at hok hrun hal ⊢
   obtain ⟨kd, at', nt⟩ := e
   obtain ⟨k1, k2, k3, k4⟩ := hok
   dsimp only at k1 k2 k3 k4 ⊢
   obtain ⟨q, rfl⟩ : ∃ q : Nat, at' = q := ⟨at'.toNat, by omega⟩
   have hq1 : q ≤ l.length := by omega
   rw [decide_eq_false (show ¬ (q : Int) < 0 by omega)]
   refine zS ?_;repeat(refine yA ?_;intro p hp;refine zS ?_)
   rw [decide_eq_false (show ¬ (l.length : Int) < (q : Int) by omega)]
   refine zS ?_;repeat(refine yA ?_;intro p hp;refine zS ?_)
   rcases k4 with rfl | rfl | rfl
   ·have hql : q < l.length := by rcases k3 with h | h; cases h; omega
    have hea : edA l ⟨1, (q : Int), nt⟩ = ([] ++ l.take q) ++ l.drop (q + 1) := by
     unfold edA
     rw [if_pos rfl, Int.toNat_natCast]; rfl
    rw [hea] at hrun hal
    rw [decide_eq_false (show ¬ (1 : Int) = 2 by decide)]
    refine zS ?_;repeat(refine yA ?_;intro p hp;refine zS ?_)
    rw [decide_eq_false (show ¬ (q : Int) = (l.length : Int) by omega)]
    refine zS ?_;repeat(refine yA ?_;intro p hp;refine zS ?_)
    (apply W_frz 10; exact rfl; exact zN)
    refine W_run 11 [97, 98, 99, 100, 101, 102, 103, 104, 105, 106, 107] [1, 2, 3, 4, 5, 6, 7, 8, 9, 10] Cut.nil rfl goFlt mixedS (by kernel_rfl) rfl ?_
    refine Run.tok [] [] rfl (fun vs => by apply ltr_pk; exact goPk; (refine ltr ?_; apply lt_lit (f := iC); exact zE; exact rfl; (first | exact (of_decide_eq_true rfl) | decide | (simp; done) | (simp; omega)))) goApp ?_
    refine rpv [] [] ?_
    refine rpv [] [] ?_
    refine rpv [2] [] ?_
    refine Run.pv [1, 3] [] rfl (fun vs => by apply ltr_pk; exact goPk; (refine ltr ?_; apply lt_slTo (h := q); exact rfl; exact rfl; omega)) goApp ?_
    refine Run.tok [0, 4] [0] rfl (fun vs => by apply ltr_pk; exact goPk; (refine ltr ?_; apply lt_append; exact rfl; exact rfl; (first | omega | (simp; omega)))) goApp ?_
    refine rpv [] [] ?_
    refine rpv [] [] ?_
    refine rpv [7] [] ?_
    refine Run.pv [8] [] rfl (fun vs => by apply ltr_pk; exact goPk; (refine ltr ?_; apply lt_add; exact rfl; exact rfl; (dsimp only; omega); (dsimp only; omega))) goApp ?_
    refine Run.pv [6, 9] [] rfl (fun vs => by apply ltr_pk; exact goPk; (refine ltr ?_; apply lt_slFrom (l := q + 1); exact rfl; exact rfl; omega)) goApp ?_
    refine ⟨⟨by kernel_rfl, by kernel_rfl⟩, fun vs => ?_⟩
    apply WL_auto [5, 10]
    ·exact goPk
    ·exact goNrm
    ·kernel_rfl
    ·kernel_rfl
    refine zS ?_;repeat(refine yA ?_;intro p hp;refine zS ?_)
    (first | (apply wl_append; exact rfl; exact rfl; exact zN; exact inferInstance; exact inferInstance; (first | omega | (simp; omega)); exact rfl) | (apply wl_appendN; exact rfl; exact rfl; exact inferInstance; exact inferInstance; (first | omega | (simp; omega)); exact rfl))
    intro v3
    refine zS ?_;repeat(refine yA ?_;intro p hp;refine zS ?_)
    refine ⟨(j + 1, _, _), fun _ _ st => st_sub2 st zR zP, ⟨hlt', hrun, ?_⟩, ?_⟩
    ·dsimp only; omega
    ·dsimp only; omega
   ·have hea : edA l ⟨2, (q : Int), nt⟩ = (([] ++ l.take q) ++ [nt]) ++ l.drop q := by
     unfold edA
     rw [if_neg (show ¬ (2 : Int) = 1 by decide), if_pos rfl, Int.toNat_natCast, List.append_assoc]; rfl
    rw [hea] at hrun hal
    refine zS ?_;repeat(refine yA ?_;intro p hp;refine zS ?_)
    (apply W_frz 10; exact rfl; exact zN)
    refine W_run 14 [111, 112, 113, 114, 115, 116, 117, 118, 119, 120, 121, 122, 123, 124] [1, 2, 3, 4, 6, 7, 8, 9, 10, 11, 12, 13] Cut.nil rfl goFlt mixedS (by kernel_rfl) rfl ?_
    refine Run.tok [] [] rfl (fun vs => by apply ltr_pk; exact goPk; (refine ltr ?_; apply lt_lit (f := iC); exact zE; exact rfl; (first | exact (of_decide_eq_true rfl) | decide | (simp; done) | (simp; omega)))) goApp ?_
    refine rpv [] [] ?_
    refine rpv [] [] ?_
    refine rpv [2] [] ?_
    refine Run.pv [1, 3] [] rfl (fun vs => by apply ltr_pk; exact goPk; (refine ltr ?_; apply lt_slTo (h := q); exact rfl; exact rfl; omega)) goApp ?_
    refine Run.tok [0, 4] [0] rfl (fun vs => by apply ltr_pk; exact goPk; (refine ltr ?_; apply lt_append; exact rfl; exact rfl; (first | omega | (simp; omega)))) goApp ?_
    refine rpv [] [] ?_
    refine rpv [6] [] ?_
    refine Run.pv [7] [] rfl (fun vs => by apply ltr_pk; exact goPk; (refine ltr ?_; apply LT_frz; apply lt_lit (f := iC); exact zE; exact rfl; (first | exact (of_decide_eq_true rfl) | decide | (simp; done) | (simp; omega)))) goApp ?_
    refine Run.tok [5, 8] [5] rfl (fun vs => by apply ltr_pk; exact goPk; (refine ltr ?_; apply lt_append; exact rfl; exact rfl; (first | omega | (simp; omega)))) goApp ?_
    refine rpv [] [] ?_
    refine rpv [] [] ?_
    refine rpv [11] [] ?_
    refine Run.pv [10, 12] [] rfl (fun vs => by apply ltr_pk; exact goPk; (refine ltr ?_; apply lt_slFrom (l := q); exact rfl; exact rfl; omega)) goApp ?_
    refine ⟨⟨by kernel_rfl, by kernel_rfl⟩, fun vs => ?_⟩
    apply WL_auto [9, 13]
    ·exact goPk
    ·exact goNrm
    ·kernel_rfl
    ·kernel_rfl
    refine zS ?_;repeat(refine yA ?_;intro p hp;refine zS ?_)
    (first | (apply wl_append; exact rfl; exact rfl; exact zN; exact inferInstance; exact inferInstance; (first | omega | (simp; omega)); exact rfl) | (apply wl_appendN; exact rfl; exact rfl; exact inferInstance; exact inferInstance; (first | omega | (simp; omega)); exact rfl))
    intro v3
    refine zS ?_;repeat(refine yA ?_;intro p hp;refine zS ?_)
    refine ⟨(j + 1, _, _), fun _ _ st => st_sub2 st zR zP, ⟨hlt', hrun, ?_⟩, ?_⟩
    ·dsimp only; omega
    ·dsimp only; omega
   ·have hql : q < l.length := by rcases k3 with h | h; cases h; omega
    have hea : edA l ⟨3, (q : Int), nt⟩ = l.set q nt := by
     unfold edA
     rw [if_neg (show ¬ (3 : Int) = 1 by decide), if_neg (show ¬ (3 : Int) = 2 by decide), Int.toNat_natCast]
    rw [hea] at hrun hal
    rw [decide_eq_false (show ¬ (3 : Int) = 2 by decide)]
    refine zS ?_;repeat(refine yA ?_;intro p hp;refine zS ?_)
    rw [decide_eq_false (show ¬ (q : Int) = (l.length : Int) by omega)]
    refine zS ?_;repeat(refine yA ?_;intro p hp;refine zS ?_)
    refine ⟨(j + 1, _, _), fun _ _ st => st_sub2 st zR zP, ⟨hlt', hrun, ?_⟩, ?_⟩
    ·dsimp only; omega
    ·dsimp only; omega
  ·have hkk : j = E.length := by have := of_decide_eq_false hlt; omega
   subst hkk
   rw [List.drop_length] at hrun
   obtain rfl : l = x.fo := hrun
   refine zS ?_;repeat(refine yA ?_;intro p hp;refine zS ?_)
   (apply WL_frz 135; exact rfl; exact zN)
   refine zS ?_;repeat(refine yA ?_;intro p hp;refine zS ?_)
   (first | (apply wl_call (S1); exact rfl; exact rfl) | (apply wl_callR (S1); exact rfl; exact zM; exact rfl))
   refine zS ?_;repeat(refine yA ?_;intro p hp;refine zS ?_)
   (first | (apply wl_call (CL); exact rfl; exact rfl) | (apply wl_callR (CL); exact rfl; exact zM; exact rfl))
   refine zS ?_;repeat(refine yA ?_;intro p hp;refine zS ?_)
   refine W_run 7 [142, 143, 144, 145, 146, 147, 148] [0, 1, 2, 3, 4, 5, 6] Cut.nil rfl goFlt mixedS (by kernel_rfl) rfl ?_
   refine rpv [] [] ?_
   refine rpv [0] [] ?_
   refine rpv [] [] ?_
   refine Run.pv [1, 2] [] rfl (fun vs => by apply ltr_pk; exact goPk; (refine ltr ?_; refine lt_call ?_ (CB); exact rfl)) goApp ?_
   refine rpv [] [] ?_
   refine rpv [] [] ?_
   refine rpv [5] [] ?_
   refine ⟨⟨by kernel_rfl, by kernel_rfl⟩, fun vs => ?_⟩
   apply WL_auto [3, 4, 6]
   ·exact goPk
   ·exact goNrm
   ·kernel_rfl
   ·kernel_rfl
   refine zS ?_;repeat(refine yA ?_;intro p hp;refine zS ?_)
   (first | (apply wl_call (CC); exact rfl; exact rfl) | (apply wl_callR (CC); exact rfl; exact zM; exact rfl))
   refine zS ?_;repeat(refine yA ?_;intro p hp;refine zS ?_)
   (first | (apply wl_call (I1); exact rfl; exact rfl) | (apply wl_callR (I1); exact rfl; exact zM; exact rfl))
   refine zS ?_;repeat(refine yA ?_;intro p hp;refine zS ?_)
   (first | (apply wl_call (I2); exact rfl; exact rfl) | (apply wl_callR (I2); exact rfl; exact zM; exact rfl))
   refine zS ?_;repeat(refine yA ?_;intro p hp;refine zS ?_)
   (first | (apply wl_call (I3); exact rfl; exact rfl) | (apply wl_callR (I3); exact rfl; exact zM; exact rfl))
   refine zS ?_;repeat(refine yA ?_;intro p hp;refine zS ?_)
   rw [decide_eq_true (show ((dist x.st x.fo : Nat) : Int) ≤ ((dist x.st ot : Nat) : Int) + ((dist ot x.fo : Nat) : Int) by omega)]
   refine zS ?_;repeat(refine yA ?_;intro p hp;refine zS ?_)
   (apply wl_eqlB (e := true); exact Tryd.underlying4; exact rfl; exact rfl; (rw [beq_iff_eq, decide_eq_decide]; omega); exact rfl)
   refine zS ?_;repeat(refine yA ?_;intro p hp;refine zS ?_)
   (apply res1; exact rfl; exact rfl; exact ⟨rfl, rfl⟩)
end Go.Proofs.YthddoikmgpgakaaDoor.Sw
