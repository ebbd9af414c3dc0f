/- Proofs for one card: App, Frame, Reg, RegIn, Sw, SwOps, Fst, SwAny, SwOps2, SwOps3, SwR, Ty, SwF, Row, Steps, Left, Best, Comes, Twins, SwG, SwH, SwI, SwQ, SwL, SwB, SwS, SwM, SwX, Bk, SwN, MtA, LsB, MtI, LsD, LsG, Edits, LsK, Pa, Ota, Otb, Apt, Slt, TallyCut, Ots, LrA, LrB, LrC, LrD, LrE, TallyLists. No condition of its own. -/
import Derived.WalkKit
import Derived.Handy
import Derived.Deep.AppendSrc
import Derived.Test.YthddoikmgpgakaaDoorProg
import Derived.Outline
import Derived.RangeFuncNested
import Derived.Shelf.Abstract
import Derived.Deep.QuietTactic
import Derived.BigQuiet
import Derived.Deep.RegionHeld3
import Derived.WalkSmall
import Derived.Laws.EntriesVeiled
import Derived.Maps.AppendAt
import Derived.Deep.AppendLies
import Derived.Test.YthddoikmgpgakaaDoorCards
import Derived.Test.YthddoikmgpgakaaDoorTie
import Derived.ProofKit
import Derived.OpenShut
import Derived.LaidMore
import Derived.LaidOnce
import Derived.ChangeOld
import Derived.Below
import Derived.Stop.Joined
import Derived.Lib.SmallJoins
import Derived.OrdersHeld
import Derived.Deep.RegionHeld
import Derived.OrdersIn
import Derived.RangeFuncCalls
import Derived.RangeFuncLeaves
import Derived.IntWalk
import Derived.WalkSpells
import Derived.OwnWalk
import Derived.LoopNIn
import Derived.DeepKeys4
import Derived.Maps.OwnIn
import Derived.OwnWalkIn
import Derived.RangeFuncBound
import Derived.Shelf.RegionOpen
import Derived.TacticsInMore
import Derived.Sort.BigQuietIn
import Derived.LoopIn
import Derived.WalkMore
import Derived.Maps.Views
import Derived.Lib.AppendZerosOnto
import Derived.Lib.Walk
import Derived.Lib.SliceRun
import Derived.Laws.MakeOwn
import Derived.Deep.Cut
import Derived.Deep.Slices
import Derived.Lib.LazyBuf
import Derived.Scope
import Derived.Maps.RangeRun
import Derived.ArgAppend
import Derived.WideKeyEntry
import Derived.Shelf.SlSortCmp.Whole1
import Derived.Shelf.Lay
import Derived.Test.YthddoikmgpgakaaDoorNa8
set_option linter.unusedVariables false
set_option linter.unusedSimpArgs false
set_option maxRecDepth 40000
set_option maxHeartbeats 32000000
namespace Go.Proofs.YthddoikmgpgakaaDoor
open Go.RowKit Go
section
variable {P : Program} (w : World)
end
end Go.Proofs.YthddoikmgpgakaaDoor
namespace Go.Proofs.YthddoikmgpgakaaDoor
open Go Go.ChangeShapes Go.WideShapes Go.ChangeAt Go.RowKit
theorem laidOut : laidOutB Tryd.prog = true := by kernel_rfl
set_option maxRecDepth 100000 in
theorem tab_of {W : World} (h : laidMetH Tryd.prog laidL W) : Tab W := by
 obtain ⟨g, t, cs, fuel, p, hg, ht, hv, hd⟩ := h.funcs (n := "aguador/tally.checks") (List.mem_cons_self ..)
 obtain rfl := Option.some.inj ((show Tryd.prog.globalNamed "aguador/tally.checks" = some 0 by kernel_rfl).symm.trans hg)
 obtain rfl := Option.some.inj ((show (Tryd.prog.globals[0]?).map (·.type) = some 146 by kernel_rfl).symm.trans ht)
 have hd' : DataW.trod (funcToken Tryd.prog) Tryd.prog W 0 (fun _ => true) true fuel 146 cs.toList = some (.agg [.agg [.held [97, 103, 117, 97, 100, 111, 114, 47, 116, 97, 108, 108, 121, 46, 99, 104, 101, 99, 107, 115, 36, 49]], .agg [.held [97, 103, 117, 97, 100, 111, 114, 47, 116, 97, 108, 108, 121, 46, 99, 104, 101, 99, 107, 115, 36, 50]], .agg [.held [97, 103, 117, 97, 100, 111, 114, 47, 116, 97, 108, 108, 121, 46, 99, 104, 101, 99, 107, 115, 36, 51]]], p) := hd
 obtain ⟨xs, m, rfl, hx, hlen, hn, hel⟩ := DataW.trod_array Tryd.underlying146 hd'
 rw [show Tryd.prog.cellsOf 145 = 1 by kernel_rfl] at hel
 rw [show Tryd.prog.cellsOf 146 = 3 by kernel_rfl] at hlen
 obtain ⟨cl⟩ := cs
 match cl, hlen, xs, hn with
 | [v0, v1, v2], _, [x0, x1, x2], _ =>
  simp only [Prod.mk.injEq, DataW.agg.injEq, List.map_cons, List.map_nil, List.cons.injEq] at hx
  have h0 := hel 0 (by decide); have h1 := hel 1 (by decide); have h2 := hel 2 (by decide)
  simp at h0 h1 h2
  have go : ∀ (v : Value) (x : DataW (List UInt8) × List MemPlace) (b : UInt8) (r : List UInt8) (f0 : FuncId), ((List.range Tryd.prog.funcs.size).filter fun f => (Tryd.prog.funcs[f]?).any (·.name.toUTF8.data.toList == b :: r)) = [f0] →
    DataW.trod (funcToken Tryd.prog) Tryd.prog W 0 (fun _ => true) true m 145 [v] = some x → x.1 = .agg [.held (b :: r)] → v = .func (.func f0) #[] #[] := by
   intro v x b r f0 hone h hx
   obtain ⟨y, n, rfl, _, hy⟩ := trod_struct1 Tryd.underlying145 h
   simp only [DataW.agg.injEq, List.cons.injEq, and_true] at hx
   obtain ⟨y1, y2⟩ := y
   simp only at hx
   subst hx
   exact func_of_trod (P := Tryd.prog) Tryd.underlying25 hone (by simpa [show Tryd.prog.cellsOf 25 = 1 by kernel_rfl] using hy)
  have e0 := go v0 x0 _ _ 164 (by kernel_rfl) h0 hx.1.1.symm
  have e1 := go v1 x1 _ _ 165 (by kernel_rfl) h1 hx.1.2.1.symm
  have e2 := go v2 x2 _ _ 166 (by kernel_rfl) h2 hx.1.2.2.1.symm
  subst e0; subst e1; subst e2
  have c0 := World.var?_cell hg hv 0; have c1 := World.var?_cell hg hv 1; have c2 := World.var?_cell hg hv 2
  exact ⟨by simpa using c0, by simpa using c1, by simpa using c2⟩
end Go.Proofs.YthddoikmgpgakaaDoor
namespace Go.Proofs.YthddoikmgpgakaaDoor
open Go.RowKit Go
section
variable {P : Program} {ops : Array Oper} {Q : Exit → Act → World → Prop} {S : World → Prop} {held : List Nat}
end
section
variable {F : Fence} {n : Nat} {P : Program} {ops : Array Oper} {Q : Exit → Act → World → Prop} {S : World → Prop} {held : List Nat}
end
end Go.Proofs.YthddoikmgpgakaaDoor
namespace Go.Proofs.YthddoikmgpgakaaDoor.Sw
open Go.RowKit Go
section
variable {c : Cx} {s : S} {Q : Exit → S → Prop}
end
section
variable {c : Cx} {s : S} {Q : Exit → S → Prop} {ops : Array Oper} {tl : List Oper}
end
section
variable {c : Cx} {s : S} {Q : Exit → S → Prop} {ops : Array Oper} {tl : List Oper}
end
section
variable {P : Program} {rs : List (Nat × AV)} {d : Option Nat} {ty : TypeId} {pos : String} {af : Array Edge} {g : Option (Nat × Bool)}
theorem lt_leq {x y : Operand} {m n : Int} {k : IntKind} {t t' : TypeId} (hx : opv rs x = some (.val (.int k m))) (hy : opv rs y = some (.val (.int k n))) :
  LT P ⟨d, .binOp .leq t x y t', ty, pos, af, g⟩ rs [] (Is (.val (.bool (decide (m ≤ n)))) []) :=
 LT_val (fun _ e => by cases e) fun a w G hR _ => ⟨_, rfl, by
  have e1 : a.eval x = _ := opv_ok hR hx
  have e2 : a.eval y = _ := opv_ok hR hy
  simp only [execOp, e1, e2]
  first | (simp [go_sem]; done) | (simp [go_sem]; rfl)⟩
theorem lt_geq {x y : Operand} {m n : Int} {k : IntKind} {t t' : TypeId} (hx : opv rs x = some (.val (.int k m))) (hy : opv rs y = some (.val (.int k n))) :
  LT P ⟨d, .binOp .geq t x y t', ty, pos, af, g⟩ rs [] (Is (.val (.bool (decide (n ≤ m)))) []) :=
 LT_val (fun _ e => by cases e) fun a w G hR _ => ⟨_, rfl, by
  have e1 : a.eval x = _ := opv_ok hR hx
  have e2 : a.eval y = _ := opv_ok hR hy
  simp only [execOp, e1, e2]
  first | (simp [go_sem]; done) | (simp [go_sem]; rfl)⟩
end
theorem res2 {P : Program} {fn : Func} {t u : Tmp} {post : AV → List HA → Prop} {s : S} {av bv : AV} (hr : fn.results = #[.tmp t, .tmp u]) (hl : look s.rs t = some av) (hl2 : look s.rs u = some bv) (hp : post (.tup [av, bv]) []) : Res P fn post s :=
 ⟨_, [], hp, fun a w G F hR hI => ⟨_, G, [], results_tmp2 hr _ _ _, (inv_drop hI).2, (inv_drop hI).1, ⟨[_, _], rfl, hR _ _ hl, hR _ _ hl2, trivial⟩⟩⟩
section
variable {c : Cx} {s : S} {Q : Exit → S → Prop} {ops : Array Oper} {tl : List Oper}
end
section
variable {c : Cx} {rs : List (Nat × AV)} {hs : List HA} {Q : Exit → S → Prop} {ops : Array Oper} {tl : List Oper} {d : Nat} {op : Op} {ty : TypeId} {pos : String} {af : Array Edge}
end
section
variable {c : Cx} {rs : List (Nat × AV)} {hs : List HA} {Q : Exit → S → Prop} {ops : Array Oper} {tl : List Oper} {d : Nat} {ty : TypeId} {pos : String} {af : Array Edge} {x y : Operand} {t tb : TypeId} {p : Value} {j : Nat} {cs : List AV} {f : HA → List HA}
end
end Go.Proofs.YthddoikmgpgakaaDoor.Sw
namespace Go.Proofs.YthddoikmgpgakaaDoor
theorem ltL_nil_r (a : List Int) : ltL a [] = false := by cases a <;> rfl
end Go.Proofs.YthddoikmgpgakaaDoor
namespace Go.Proofs.YthddoikmgpgakaaDoor.Sw
open Go.RowKit Go
section
variable (ops : Array Oper) (m : Nat) (sp : List Sp) (hs0 : List HA)
end
section
variable {c : Cx} {ops : Array Oper} {m : Nat} {sp : List Sp} {hs0 hsR : List HA} {rsB : List (Nat × AV)} {Q : Exit → S → Prop}
end
theorem Run.noU {P : Program} {ops : Array Oper} {ds : List Nat} {hs0 hsR : List HA} {rsB : List (Nat × AV)} {K : List Sp → Prop} {acc : List Sp} {o : Oper} {l : List Oper} (deps cons : List Nat) {j dj : Nat} {b : Bool} (hg : o.guard = some (j, b)) (hj : gdst ops j = some dj) (hl : ∀ vs, look (regsD ds acc vs deps rsB) dj = some (.val undef))
  {acc' : List Sp} (ha : App acc ⟨deps, [], .pv (.val undef), []⟩ acc') (k : Run P ops ds hs0 hsR rsB K acc' l) : Run P ops ds hs0 hsR rsB K acc (o :: l) := ⟨⟨deps, [], .pv (.val undef), []⟩, fun vs => .inr (.inr ⟨j, b, dj, hg, hj, hl vs, rfl, rfl, rfl⟩), ha.eq ▸ k⟩
section
variable {P : Program} {rs : List (Nat × AV)} {hsR : List HA} {d : Option Nat} {ty : TypeId} {pos : String} {af : Array Edge} {g : Option (Nat × Bool)} {x : Operand} {t tb : TypeId} {p : Value} {j : Nat} {cs : List AV} {f : HA → List HA}
end
section
variable {P : Program} {rs : List (Nat × AV)} {d : Option Nat} {ty : TypeId} {pos : String} {af : Array Edge} {g : Option (Nat × Bool)}
end
theorem st_frz {α : Type} {c : Cx} {rs : List (Nat × AV)} {hs r : List HA} {e : TypeId} {n : Nat} {f : α → List AV} {xs : List α} {v : Value} {i : Nat} {a : Act} {w : World} (hl : look rs i = some (.val v)) (hr : Rm hs (.row v e n f xs) r) (st : St c ⟨rs, hs⟩ a w) : St c ⟨(i, .sl n f xs) :: rs, r⟩ a w := by
 obtain ⟨G, F, hI, hF, hR, rr⟩ := st
 obtain ⟨G', F', h1, h2, h3⟩ := row_freeze (rest := r) ⟨hI.gin, hI.nd, hI.own, hr.sel hI.hs⟩
 refine ⟨G', F', h1, hF.trans h2, fun k av ek => ?_, rr.1, rr.2.step h2⟩
 simp only [look] at ek
 cases hb : Nat.beq i k with
 | true =>
  rw [hb] at ek
  obtain rfl := Nat.eq_of_beq_eq_true hb
  simp only [cond_true, Option.some.injEq] at ek
  subst ek
  have : a.tmps.getD i undef = v := hR _ _ hl
  rw [this]; exact h3
 | false => rw [hb] at ek; exact av.mono h2.gle (hR k av (by simpa using ek))
theorem WL_frz {α : Type} {c : Cx} {rs : List (Nat × AV)} {hs r : List HA} {Q : Exit → S → Prop} {ops : Array Oper} {l : List Oper} {e : TypeId} {n : Nat} {f : α → List AV} {xs : List α} {v : Value} (i : Nat) (hl : look rs i = some (.val v)) (hr : Rm hs (.row v e n f xs) r) (k : WL c ops l ⟨(i, .sl n f xs) :: rs, r⟩ Q) : WL c ops l ⟨rs, hs⟩ Q := ⟨fun a w st => k.out a w (st_frz hl hr st)⟩
section
variable {P : Program} {rs : List (Nat × AV)} {d : Option Nat} {ty : TypeId} {pos : String} {af : Array Edge} {g : Option (Nat × Bool)}
theorem run_make {t e : TypeId} {n : Nat} [hT : TyE P t e n] {w : World} {m : Nat} (hm : m ≤ 1000000) {z : Value} {i : TypeInfo} (hi : P.info? e = some i) (hz : i.zero = some z) :
  (Instr.makeSlice t (.int .i64 (m : Int)) (.int .i64 (m : Int))).run P w = .ok (.slice (some ⟨w.heap.size, 0, none⟩) m m) (w.alloc (.cells ((List.range (m * n)).map fun j => z.cells[j % n]!).toArray e)) := by
 obtain ⟨i', z', hi', hz', hs, hb, hzs⟩ := hT.info
 rw [hi] at hi'
 obtain rfl := Option.some.inj hi'
 rw [hz] at hz'
 obtain rfl := Option.some.inj hz'
 have hw : IntKind.i64.wrap (m : Int) = (m : Int) := IntWalk.i64_in _ (by omega)
 have hbm : (i.bytes : Int) * (m : Int) ≤ 1000 * 1000000 := Int.mul_le_mul (by omega) (by omega) (by omega) (by omega)
 have hbm2 : m * i.bytes ≤ 1000000 * 1000 := Nat.mul_le_mul hm hb
 have h1 : ¬ (281474976710656 < (i.bytes : Int) * (m : Int)) := by omega
 have h2 : ¬ (roomBytes < m * i.bytes) := by unfold roomBytes; have : 2 ^ 47 = 140737488355328 := by decide
                                             omega
 have hnn : ¬ ((m : Int) < 0) := by omega
 have hrow : ∀ cs : Array Value, (newRow e cs).run P w = .ok ⟨w.heap.size, 0, none⟩ (w.alloc (.cells cs e)) := fun cs => by simp [newRow, go_sem]
 by_cases h0 : m * n = 0
 ·simp [Instr.makeSlice, run_underlying hT.und, asInt, asIntOf, typeInfo, sizeOf, hi, hs, hw, h1, hnn, askRoom, h2, h0, hrow]
  rw [show (Array.map (fun _ : Nat => (default : Value)) (Array.range 0)) = #[] by simp]
 ·have e0 : ((Array.range (m * n)).map fun j => z.cells[j % n]!) = ((List.range (m * n)).map fun j => z.cells[j % n]!).toArray := by apply Array.ext'; simp [Array.toList_range]
  simp [Instr.makeSlice, run_underlying hT.und, asInt, asIntOf, typeInfo, sizeOf, hi, hs, hw, h1, hnn, askRoom, h2, h0, zeroValue, hz, hzs, hrow]
  rw [e0]
theorem fits_zero {G : Nat → Option Obj} {α : Type} {f : α → List AV} {x0 : α} {zs : List Value} {n : Nat} (hl : zs.length = n) (hn : 0 < n) (h : Fits G (f x0) zs) : ∀ m, Fits G ((List.replicate m x0).flatMap f) ((List.range (m * n)).map fun j => zs.toArray[j % n]!)
 | 0 => by simp [Fits]
 | m + 1 => by
  have ih := fits_zero hl hn h m
  rw [List.replicate_succ', List.flatMap_append, Nat.succ_mul, List.range_add, List.map_append]
  refine Fits.append ih ?_
  simp only [List.flatMap_cons, List.flatMap_nil, List.append_nil, List.map_map]
  have : (List.range n).map ((fun j => zs.toArray[j % n]!) ∘ fun x => m * n + x) = zs := by
   refine List.ext_getElem (by simp [hl]) fun j h1 h2 => ?_
   have hj : j < n := by simpa using h1
   simp [Nat.mul_add_mod_of_lt, Nat.add_mod, Nat.mod_eq_of_lt hj, h2]
  rw [this]; exact h
theorem lt_make {α : Type} {x y : Operand} {t e : TypeId} {n : Nat} [hT : TyE P t e n] {f : α → List AV} [hO : OneF f] [hL : LenF f n] {x0 : α} [hZ : ZeroF P e f x0] {m : Nat} {mi : Int} (hx : opv rs x = some (.val (.int .i64 mi))) (hy : opv rs y = some (.val (.int .i64 mi))) (hmi : mi = (m : Int)) (hm : m ≤ 1000000) :
  LT P ⟨d, .makeSlice t x y, ty, pos, af, g⟩ rs [] (fun x y => ∃ u, x = .val u ∧ y = [.row u e n f (List.replicate m x0)]) :=
 LT_eff (fun _ e => by cases e) fun a w G F hR hI => by
  obtain rfl := inv_nil hI
  subst hmi
  obtain ⟨z, ⟨i, hi, hz⟩, zs, hzs, hf⟩ := hZ.out
  have e1 : a.eval x = _ := opv_ok hR hx
  have e2 : a.eval y = _ := opv_ok hR hy
  have hr := run_make (P := P) (t := t) (w := w) hm hi hz
  have hzl : zs.length = n := by rw [(hf G).length, hL.out]
  rw [hzs] at hr
  have hfit := fits_zero (G := G) hzl hT.pos (hf G) m
  have hin := new_row (e := e) (n := n) hI hfit (by simpa using hm)
  rw [List.length_replicate] at hin
  refine ⟨_, _, _, _, _, G, _, ?_, .inl rfl, ⟨_, rfl, rfl⟩, fr_alloc _ _ _, hin, rfl⟩
  simp only [execOp, e1, e2, Sem.run_bind, hr]
  rfl
end
section
variable {c : Cx} {rs : List (Nat × AV)} {hs : List HA} {Q : Exit → S → Prop} {ops : Array Oper} {tl : List Oper} {d : Nat} {ty : TypeId} {pos : String} {af : Array Edge}
theorem wl_sub {x y : Operand} {m n : Int} {t t' : TypeId} (hx : opv rs x = some (.val (.int .i64 m))) (hy : opv rs y = some (.val (.int .i64 n))) (h1 : -9223372036854775808 ≤ m - n) (h2 : m - n ≤ 9223372036854775807) (hd : Nat.blt d c.nt = true) (k : WL c ops tl ⟨(d, .val (.int .i64 (m - n))) :: rs, hs⟩ Q) : WL c ops (⟨some d, .binOp .sub t x y t', ty, pos, af, none⟩ :: tl) ⟨rs, hs⟩ Q := wl_ex (lt_sub hx hy h1 h2) hd k
theorem wl_geq {x y : Operand} {m n : Int} {kd : IntKind} {t t' : TypeId} (hx : opv rs x = some (.val (.int kd m))) (hy : opv rs y = some (.val (.int kd n))) (hd : Nat.blt d c.nt = true) (k : WL c ops tl ⟨(d, .val (.bool (decide (n ≤ m)))) :: rs, hs⟩ Q) : WL c ops (⟨some d, .binOp .geq t x y t', ty, pos, af, none⟩ :: tl) ⟨rs, hs⟩ Q := wl_ex (lt_geq hx hy) hd k
theorem wl_min2 {x y : Operand} {m n : Int} {ts : Array TypeId} (hx : opv rs x = some (.val (.int .i64 m))) (hy : opv rs y = some (.val (.int .i64 n))) (hd : Nat.blt d c.nt = true) (k : WL c ops tl ⟨(d, .val (.int .i64 (min m n))) :: rs, hs⟩ Q) : WL c ops (⟨some d, .call { callee := .builtin .min, args := #[x, y], argTypes := ts }, ty, pos, af, none⟩ :: tl) ⟨rs, hs⟩ Q := wl_ex (lt_min2 hx hy) hd k
theorem wl_slice {α : Type} {f : α → List AV} {xs : List α} {x : Operand} {lo hi : Option Operand} {t e : TypeId} {n : Nat} [TyE c.P t e n] {l h : Nat} {li hi' : Int} (hx : opv rs x = some (.sl n f xs)) (hlo : lo.map (opv rs) = some (some (.val (.int .i64 li))) ∨ (lo = none ∧ li = 0)) (hl : li = (l : Int)) (hhi : hi.map (opv rs) = some (some (.val (.int .i64 hi'))) ∨ (hi = none ∧ hi' = (xs.length : Int))) (hh : hi' = (h : Int)) (h1 : l ≤ h) (h2 : h ≤ xs.length) (hd : Nat.blt d c.nt = true) (k : WL c ops tl ⟨(d, .sl n f ((xs.take h).drop l)) :: rs, hs⟩ Q) : WL c ops (⟨some d, .slice t x lo hi none, ty, pos, af, none⟩ :: tl) ⟨rs, hs⟩ Q := wl_ex (lt_slice hx hlo hl hhi hh h1 h2) hd k
theorem wl_make {α : Type} {x y : Operand} {t e : TypeId} {n : Nat} (f : α → List AV) {x0 : α} {m : Nat} {mi : Int} (hE : TyE c.P t e n) (hO : OneF f) (hL : LenF f n) (hZ : ZeroF c.P e f x0) (hx : opv rs x = some (.val (.int .i64 mi))) (hy : opv rs y = some (.val (.int .i64 mi))) (hmi : mi = (m : Int)) (hm : m ≤ 1000000) (hd : Nat.blt d c.nt = true) (k : ∀ v, WL c ops tl ⟨(d, .val v) :: rs, .row v e n f (List.replicate m x0) :: hs⟩ Q) : WL c ops (⟨some d, .makeSlice t x y, ty, pos, af, none⟩ :: tl) ⟨rs, hs⟩ Q := wl_tok (lt_make hx hy hmi hm) hd k
end
section
variable {c : Cx} {rs : List (Nat × AV)} {hs : List HA} {Q : Exit → S → Prop} {ops : Array Oper} {tl : List Oper} {d : Nat} {ty : TypeId} {pos : String} {af : Array Edge}
end
instance : Ty1 Tryd.prog 191 := ⟨fun w => by kernel_rfl, fun w => by kernel_rfl⟩
instance : TyE Tryd.prog 190 191 1 := tyE (z := .slice none 0 0) (b := 24) (by kernel_rfl) (by kernel_rfl) (by decide) rfl (by decide)
instance : TyE Tryd.prog 191 93 1 := tyE (z := .slice none 0 0) (b := 24) (by kernel_rfl) (by kernel_rfl) (by decide) rfl (by decide)
section
variable {P : Program} {rs : List (Nat × AV)} {d : Option Nat} {ty : TypeId} {pos : String} {af : Array Edge} {g : Option (Nat × Bool)}
end
section
variable {c : Cx} {rs : List (Nat × AV)} {hs : List HA} {Q : Exit → S → Prop} {ops : Array Oper} {tl : List Oper} {d : Nat} {ty : TypeId} {pos : String} {af : Array Edge}
end
section
variable {P : Program} {rs : List (Nat × AV)} {hsR : List HA} {d : Option Nat} {ty : TypeId} {pos : String} {af : Array Edge} {g : Option (Nat × Bool)}
end
section
variable {P : Program} {rs : List (Nat × AV)} {hsR : List HA} {d : Option Nat} {ty : TypeId} {pos : String} {af : Array Edge} {g : Option (Nat × Bool)}
end
section
variable {c : Cx} {rs : List (Nat × AV)} {hs : List HA} {Q : Exit → S → Prop} {ops : Array Oper} {tl : List Oper} {d : Nat} {ty : TypeId} {pos : String} {af : Array Edge}
end
theorem Res_nil {α : Type} {P : Program} {fn : Func} {post : AV → List HA → Prop} {rs : List (Nat × AV)} {hs : List HA} (i n : Nat) (f : α → List AV) (hl : look rs i = some (.val (.slice none 0 0))) (k : Res P fn post ⟨(i, .sl n f []) :: rs, hs⟩) : Res P fn post ⟨rs, hs⟩ := by
 obtain ⟨av, prod, hp, h⟩ := k
 refine ⟨av, prod, hp, fun a w G F hR hI => h a w G F (fun j u e => ?_) hI⟩
 simp only [look] at e
 cases hb : Nat.beq i j with
 | true =>
  rw [hb] at e
  obtain rfl := Nat.eq_of_beq_eq_true hb
  simp only [cond_true, Option.some.injEq] at e
  subst e
  have h1 : a.tmps.getD i undef = _ := hR _ _ hl
  rw [h1]
  exact ⟨none, 0, rfl, Nat.le_refl _, fun i hi => by cases hi⟩
 | false => rw [hb] at e; exact hR j u (by simpa using e)
end Go.Proofs.YthddoikmgpgakaaDoor.Sw
namespace Go.Proofs.YthddoikmgpgakaaDoor
open Go.RowKit Go
section
variable {α : Type} {f : α → List Value} {n : Nat}
end
end Go.Proofs.YthddoikmgpgakaaDoor
namespace Go.Proofs.YthddoikmgpgakaaDoor
open Go.RowKit Go.Proofs Go.Shelf
attribute [local go_sem] Oper.semAt_some
attribute [local go_sem] Oper.semAt_some
attribute [local go_sem] eqPlace
attribute [local go_sem] Oper.semAt_some
attribute [local go_sem] Oper.semAt_some
end Go.Proofs.YthddoikmgpgakaaDoor
namespace Go.Proofs.YthddoikmgpgakaaDoor.Sw
open Go.RowKit Go
theorem twin_con (t : Tl) (h1 : t.st.length ≤ 1000) (h2 : t.fo.length ≤ 1000) : Con Tryd.prog 19 [.agg (tC t)] [] (Is (.agg (tC t)) []) := by
 refine con_of Tryd.func19 rfl (enters_of Tryd.func19 (by kernel_rfl) rfl) rfl ?_; intro n w0 F0 G0
 refine zS ?_;repeat(refine yA ?_;intro p hp;refine zS ?_)
 refine W_run 9 [3, 4, 5, 6, 7, 8, 9, 10, 11] [1, 2, 3, 5, 6, 7, 8] Cut.nil rfl goFlt mixedS (by kernel_rfl) rfl ?_
 refine Run.tok [] [] rfl (fun vs => by apply ltr_pk; exact goPk; (refine ltr ?_; apply lt_lit (f := iC); exact zE; exact rfl; (first | exact (of_decide_eq_true rfl) | decide | (simp; done) | (simp; omega)))) goApp ?_
 refine rpv [] [] ?_
 refine rpv [1] [] ?_
 refine Run.tok [0, 2] [0] rfl (fun vs => by apply ltr_pk; exact goPk; (refine ltr ?_; apply lt_append; exact rfl; exact rfl; (first | omega | (simp; omega)))) goApp ?_
 refine Run.tok [] [] rfl (fun vs => by apply ltr_pk; exact goPk; (refine ltr ?_; apply lt_lit (f := iC); exact zE; exact rfl; (first | exact (of_decide_eq_true rfl) | decide | (simp; done) | (simp; omega)))) goApp ?_
 refine rpv [] [] ?_
 refine rpv [5] [] ?_
 refine Run.tok [4, 6] [4] rfl (fun vs => by apply ltr_pk; exact goPk; (refine ltr ?_; apply lt_append; exact rfl; exact rfl; (first | omega | (simp; omega)))) goApp ?_
 refine rpv [] [] ?_
 refine ⟨⟨by kernel_rfl, by kernel_rfl⟩, fun vs => ?_⟩
 apply WL_auto [3, 7, 8]
 ·exact goPk
 ·exact goNrm
 ·kernel_rfl
 ·kernel_rfl
 (apply WL_frz 6; exact rfl; exact zN)
 (apply WL_frz 10; exact rfl; exact zN)
 refine zS ?_
 (apply resN; exact rfl; exact rfl; exact zM; exact inferInstance; exact rfl; exact ⟨rfl, rfl⟩)
section
variable {c : Cx} {rs : List (Nat × AV)} {hs : List HA} {Q : Exit → S → Prop} {g : Operand} {ps : Array Tmp} {assign body : Code} {gf : FuncId} {caps : List AV} {own r : List HA} {α β τ : Type} {f : α → τ → List AV} {t : α → τ → List HA} {xs : List α}
end
section
variable {P : Program} {rs : List (Nat × AV)} {hsR : List HA} {d : Option Nat} {ty : TypeId} {pos : String} {af : Array Edge} {g : Option (Nat × Bool)}
end
section
variable {c : Cx} {rs : List (Nat × AV)} {hs : List HA} {Q : Exit → S → Prop} {ops : Array Oper} {tl : List Oper} {d : Nat} {ty : TypeId} {pos : String} {af : Array Edge}
theorem wl_slTo {α : Type} {f : α → List AV} {xs : List α} {x y : Operand} {t e : TypeId} {n : Nat} {h : Nat} {hi : Int} (hE : TyE c.P t e n) (hx : opv rs x = some (.sl n f xs)) (hy : opv rs y = some (.val (.int .i64 hi))) (hh : hi = (h : Int)) (h2 : h ≤ xs.length) (hd : Nat.blt d c.nt = true) (k : WL c ops tl ⟨(d, .sl n f (xs.take h)) :: rs, hs⟩ Q) : WL c ops (⟨some d, .slice t x none (some y) none, ty, pos, af, none⟩ :: tl) ⟨rs, hs⟩ Q :=
 wl_slice (l := 0) (h := h) (li := 0) hx (.inr ⟨rfl, rfl⟩) rfl (.inl (by rw [Option.map_some, hy])) hh (Nat.zero_le _) h2 hd (by rw [List.drop_zero]; exact k)
end
section
variable {P : Program} {rs : List (Nat × AV)} {hsR : List HA} {d : Option Nat} {ty : TypeId} {pos : String} {af : Array Edge} {g : Option (Nat × Bool)}
end
section
variable {c : Cx} {rs : List (Nat × AV)} {hs : List HA} {Q : Exit → S → Prop} {ops : Array Oper} {tl : List Oper} {d : Nat} {ty : TypeId} {pos : String} {af : Array Edge}
end
theorem lt_borrow {P : Program} {o : Oper} {rs : List (Nat × AV)} {h : HA} {pers : List HA} {i : Nat} {av av' : AV} {cv : Value} (hl : look rs i = some av) (ht : Thaw h av av') (hp : Pers pers) (k : LT P o ((i, av') :: rs) pers (Is (.val cv) pers)) : LT P o rs (h :: pers) (Is (.val cv) (h :: pers)) := by
 refine ⟨?_⟩
 intro F n hF a w G Fp K Q hR hI hk
 obtain ⟨F1, F2, ep, hh, hps⟩ := hI.hs
 have h2 := hp.out _ _ _ hps
 subst h2
 rw [List.append_nil] at ep
 have hm : ∀ b, b ∈ F1 ↔ b ∈ Fp := fun b => ep.mem_iff.symm
 have hle : Gle G (gall G F1 w) := gall_le fun b hb => (hI.own b ((hm b).1 hb)).2
 have hle3 : ∀ {G2}, Gle (gall G F1 w) G2 → Gle G (fun b => if b ∈ F1 then none else G2 b) := fun {G2} h2 b o e => by
  have hb : b ∉ F1 := fun hb => by rw [(hI.own b ((hm b).1 hb)).2] at e; cases e
  show (if b ∈ F1 then none else G2 b) = some o
  rw [if_neg hb]; exact h2 b o (hle b o e)
 refine k.go F n hF a w (gall G F1 w) [] K Q (fun j u e => ?_) ⟨gall_in hI.gin, List.nodup_nil, fun _ hb => (by cases hb), hps.mono hle⟩ fun v x prod G2 F2' w' ⟨e1, e2⟩ hfr hi hv => ?_
 ·simp only [look] at e
  cases hb : Nat.beq i j with
  | true =>
   rw [hb] at e
   obtain rfl := Nat.eq_of_beq_eq_true hb
   simp only [cond_true, Option.some.injEq] at e
   subst e
   exact ht.out G F1 w hh hle _ (hR _ _ hl)
  | false => rw [hb] at e; exact AV.mono _ hle (hR j u (by simpa using e))
 ·subst e1 e2
  have hF2 := hp.out _ _ _ hi.hs
  subst hF2
  have hsame : ∀ b ∈ F1, w'.heap[b]? = w.heap[b]? := fun b hb => by
   have hlt := (hI.own b ((hm b).1 hb)).1
   have : gall G F1 w b = some w.heap[b] := by unfold gall; rw [if_pos hb, Array.getElem?_eq_getElem hlt]
   rw [hi.gin b _ (hfr.gle b _ this), Array.getElem?_eq_getElem hlt]
  refine hk v _ _ (fun b => if b ∈ F1 then none else G2 b) Fp w' ⟨rfl, rfl⟩ ⟨hfr.os, hfr.tape, hfr.output, hfr.size, fun b hb _ => hfr.same b hb (by simp), fun b hb => .inl hb, hle3 hfr.gle, fun b o e => ?_⟩ ⟨fun b o e => ?_, hI.nd, fun b hb => ⟨Nat.lt_of_lt_of_le (hI.own b hb).1 hfr.size, if_pos ((hm b).2 hb)⟩, F1, [], by rw [List.append_nil]; exact ep, HA.mono _ (hle3 hfr.gle) (HA.loc _ hsame hh), (hps.mono (hle3 hfr.gle)).loc fun b hb => (by cases hb)⟩ hv
  ·split at e
   ·cases e
   ·rename_i hb
    rcases hfr.newG b o e with h | h | h
    ·unfold gall at h; rw [if_neg hb] at h; exact .inl h
    ·cases h
    ·exact .inr (.inr h)
  ·split at e
   ·cases e
   ·exact hi.gin b o e
theorem wl_borrow {c : Cx} {rs : List (Nat × AV)} {hs pers r : List HA} {Q : Exit → S → Prop} {ops : Array Oper} {tl : List Oper} {d : Nat} {ty : TypeId} {pos : String} {af : Array Edge} {k : FuncId} {xs : List Operand} {ts : Array TypeId} {avs : List AV} {h : HA} {av av' : AV} {cv : Value} (i : Nat) (ht : Thaw h av av') (hc : Con c.P k avs pers (Is (.val cv) pers)) (hl : look rs i = some av) (hx : opvs ((i, av') :: rs) xs = some avs) (hcut : Cut hs (h :: pers) r) (hp : Pers pers) (hd : Nat.blt d c.nt = true) (kk : WL c ops tl ⟨(d, .val cv) :: rs, h :: (pers ++ r)⟩ Q) : WL c ops (⟨some d, .call { callee := .value (.func k), args := xs.toArray, argTypes := ts }, ty, pos, af, none⟩ :: tl) ⟨rs, hs⟩ Q :=
 WL_lt (cons := h :: pers) (rest := r) hd rfl (fun _ _ _ hh => hcut.sel hh) (lt_borrow hl ht hp (lt_call hx hc)) fun av pr ⟨e1, e2⟩ => by subst e1; subst e2; exact kk
section
variable {P : Program} {rs : List (Nat × AV)} {d : Option Nat} {ty : TypeId} {pos : String} {af : Array Edge} {g : Option (Nat × Bool)}
end
section
variable {c : Cx} {rs : List (Nat × AV)} {hs : List HA} {Q : Exit → S → Prop} {ops : Array Oper} {tl : List Oper} {d : Nat} {ty : TypeId} {pos : String} {af : Array Edge}
end
theorem wl_storeRx {α : Type} {c : Cx} {rs : List (Nat × AV)} {hs : List HA} {Q : Exit → S → Prop} {ops : Array Oper} {tl : List Oper} {ty : TypeId} {pos : String} {af : Array Edge} {x y : Operand} {t e : TypeId} {n kk j : Nat} {v : Value} {f : α → List AV} {xs : List α} {av : AV} (x' : α) {g : HA → List HA} (hx : opv rs x = some (.rat v n kk j)) (hat : At hs (.row v e n f xs) g) (hy : opv rs y = some av) (hS : TySz c.P t 1) (ho : One av) (hk : kk < xs.length) (hj : j < n) (hf' : f x' = (f xs[kk]).set j av) (k : WL c ops tl ⟨rs, g (.row v e n f (xs.set kk x'))⟩ Q) : WL c ops (⟨none, .store t x y, ty, pos, af, none⟩ :: tl) ⟨rs, hs⟩ Q := wl_at0 (lt_storeR1 hx hy hk hj hf') hat k
section
variable {P : Program} {rs : List (Nat × AV)} {d : Option Nat} {ty : TypeId} {pos : String} {af : Array Edge} {g : Option (Nat × Bool)}
end
section
variable {P : Program} {rs : List (Nat × AV)} {d : Option Nat} {ty : TypeId} {pos : String} {af : Array Edge} {g : Option (Nat × Bool)}
end
section
variable {c : Cx} {rs : List (Nat × AV)} {hs : List HA} {Q : Exit → S → Prop} {ops : Array Oper} {tl : List Oper} {d : Nat} {ty : TypeId} {pos : String} {af : Array Edge}
end
theorem st_unpack {c : Cx} {rs : List (Nat × AV)} {hs r l l' : List HA} {h : HA} {a : Act} {w : World} (hr : Rm hs (.pack l) r) (hp : l.Perm (h :: l')) (st : St c ⟨rs, hs⟩ a w) : St c ⟨rs, h :: .pack l' :: r⟩ a w := by
 obtain ⟨G, F, hI, rr⟩ := st
 refine ⟨G, F, ⟨hI.gin, hI.nd, hI.own, ?_⟩, rr⟩
 obtain ⟨A, B, e, hA, hB⟩ := hr.sel hI.hs
 obtain ⟨C, D, e2, hC, hD⟩ := hsP.permL hp hA
 exact ⟨C, D ++ B, e.trans ((e2.append_right B).trans (by rw [List.append_assoc])), hC, D, B, .refl _, hD, hB⟩
theorem WL_unpack {c : Cx} {rs : List (Nat × AV)} {hs r l l' : List HA} {h : HA} {Q : Exit → S → Prop} {ops : Array Oper} {tl : List Oper} (hp : l.Perm (h :: l')) (hr : Rm hs (.pack l) r) (k : WL c ops tl ⟨rs, h :: .pack l' :: r⟩ Q) : WL c ops tl ⟨rs, hs⟩ Q := ⟨fun a w st => k.out a w (st_unpack hr hp st)⟩
section
variable {P : Program} {rs : List (Nat × AV)} {d : Option Nat} {ty : TypeId} {pos : String} {af : Array Edge} {g : Option (Nat × Bool)}
end
section
variable {c : Cx} {rs : List (Nat × AV)} {hs : List HA} {Q : Exit → S → Prop} {ops : Array Oper} {tl : List Oper} {d : Nat} {ty : TypeId} {pos : String} {af : Array Edge}
end
section
variable {P : Program} {rs : List (Nat × AV)} {d : Option Nat} {ty : TypeId} {pos : String} {af : Array Edge} {g : Option (Nat × Bool)}
end
section
variable {c : Cx} {rs : List (Nat × AV)} {hs r : List HA} {Q : Exit → S → Prop} {ops : Array Oper} {tl : List Oper} {d : Nat} {ty : TypeId} {pos : String} {af : Array Edge}
end
end Go.Proofs.YthddoikmgpgakaaDoor.Sw
namespace Go.Proofs.YthddoikmgpgakaaDoor.Sw
open Go.RowKit Go
open Go.WideElems (Fit)
open Go.ChangeMaps (setBlock heap_setBlock_same heap_setBlock_other)
section
variable {κ α : Type} [DecidableEq κ]
end
section
variable {κ α : Type} (kv : κ → Value) (g : α → AV)
variable {kv g}
variable (kv g)
variable {kv g}
end
section
variable {P : Program} {κ α : Type} [DecidableEq κ] {t : TypeId} {kv : κ → Value} {ok : κ → Prop} {g : α → AV} {l : List (κ × α)} {G : Nat → Option Obj} {F : List Nat} {w : World} {v : Value}
variable {rs : List (Nat × AV)} {d : Option Nat} {ty : TypeId} {pos : String} {af : Array Edge} {gd : Option (Nat × Bool)}
end
section
variable {c : Cx} {rs : List (Nat × AV)} {hs : List HA} {Q : Exit → S → Prop} {ops : Array Oper} {tl : List Oper} {d : Nat} {ty : TypeId} {pos : String} {af : Array Edge} {κ α : Type} [DecidableEq κ] {t : TypeId} {kv : κ → Value} {ok : κ → Prop} {g : α → AV} {l : List (κ × α)} {v : Value}
end
section
variable {P : Program} {rs : List (Nat × AV)} {d : Option Nat} {ty : TypeId} {pos : String} {af : Array Edge} {gd : Option (Nat × Bool)} {κ α : Type} {t : TypeId} {kv : κ → Value} {g : α → AV} {l rest : List (κ × α)} {v it : Value}
end
section
variable {c : Cx} {rs : List (Nat × AV)} {hs r : List HA} {Q : Exit → S → Prop} {ops : Array Oper} {tl : List Oper} {d : Nat} {ty : TypeId} {pos : String} {af : Array Edge} {κ α : Type} {t : TypeId} {kv : κ → Value} {g : α → AV} {l rest : List (κ × α)} {v it : Value}
end
end Go.Proofs.YthddoikmgpgakaaDoor.Sw
namespace Go.Proofs.YthddoikmgpgakaaDoor.Sw
open Go.RowKit Go
section
variable {P : Program} {w : World}
end
section
variable {P : Program} {rs : List (Nat × AV)} {d : Option Nat} {ty : TypeId} {pos : String} {af : Array Edge} {g : Option (Nat × Bool)}
end
end Go.Proofs.YthddoikmgpgakaaDoor.Sw
namespace Go.Proofs.YthddoikmgpgakaaDoor.Sw
open Go.RowKit Go
open Go.WideElems (Fit)
open Go.ChangeMaps (setBlock heap_setBlock_same heap_setBlock_other)
section
variable {P : Program} {κ α : Type} [DecidableEq κ] {t : TypeId} {kv : κ → Value} {ok : κ → Prop} {g : α → AV} {l : List (κ × α)} {G : Nat → Option Obj} {F : List Nat} {w : World} {v : Value}
variable {rs : List (Nat × AV)} {d : Option Nat} {ty : TypeId} {pos : String} {af : Array Edge} {gd : Option (Nat × Bool)}
end
section
variable {c : Cx} {rs : List (Nat × AV)} {hs : List HA} {Q : Exit → S → Prop} {ops : Array Oper} {tl : List Oper} {d : Nat} {ty : TypeId} {pos : String} {af : Array Edge} {κ α : Type} [DecidableEq κ] {t : TypeId} {kv : κ → Value} {ok : κ → Prop} {g : α → AV} {l : List (κ × α)} {v : Value}
end
end Go.Proofs.YthddoikmgpgakaaDoor.Sw
namespace Go.Proofs.YthddoikmgpgakaaDoor.Sw
open Go.RowKit Go
section
variable {P : Program} {rs : List (Nat × AV)} {d : Option Nat} {ty : TypeId} {pos : String} {af : Array Edge} {g : Option (Nat × Bool)}
end
end Go.Proofs.YthddoikmgpgakaaDoor.Sw
namespace Go.Proofs.YthddoikmgpgakaaDoor.Sw
open Go.RowKit Go Go.Shelf Go.Proofs
section
variable {P : Program} {rs : List (Nat × AV)} {d : Option Nat} {ty : TypeId} {pos : String} {af : Array Edge} {g : Option (Nat × Bool)}
end
attribute [local go_sem] eqPlace
end Go.Proofs.YthddoikmgpgakaaDoor.Sw
namespace Go.Proofs.YthddoikmgpgakaaDoor.Sw
open Go.RowKit Go Go.Shelf Go.Proofs
open Go.Proofs.YthddoikmgpgakaaDoor.Ma
instance {α : Type} {n : Nat} {f : α → List AV} {g : List α} : OneL (slC n f g) := inferInstanceAs (OneL [_])
instance {α : Type} {n : Nat} {f : α → List AV} : OneF (slC n f) := ⟨fun _ => inferInstance⟩
instance {α : Type} {n : Nat} {f : α → List AV} : LenF (slC n f) 1 := ⟨fun _ => rfl⟩
end Go.Proofs.YthddoikmgpgakaaDoor.Sw
namespace Go.Proofs.YthddoikmgpgakaaDoor.Sw
open Go.RowKit Go Go.Shelf Go.Proofs
section
variable {P : Program} {rs : List (Nat × AV)} {d : Option Nat} {ty : TypeId} {pos : String} {af : Array Edge} {g : Option (Nat × Bool)}
end
end Go.Proofs.YthddoikmgpgakaaDoor.Sw
namespace Go.Proofs.YthddoikmgpgakaaDoor
open Go.RowKit Go.Proofs Go.Shelf
attribute [local go_sem] Oper.semAt_some
attribute [local go_sem] eqPlace
attribute [local go_sem] eqEdit
end Go.Proofs.YthddoikmgpgakaaDoor
namespace Go.Proofs.YthddoikmgpgakaaDoor.Sw
open Go.RowKit Go Go.Shelf Go.Proofs
end Go.Proofs.YthddoikmgpgakaaDoor.Sw
namespace Go.Proofs.YthddoikmgpgakaaDoor
open Go.RowKit Go.Proofs Go.Shelf
end Go.Proofs.YthddoikmgpgakaaDoor
namespace Go.Proofs.YthddoikmgpgakaaDoor.Sw
open Go.RowKit Go Go.Shelf Go.Proofs
open Go.Proofs.YthddoikmgpgakaaDoor.Ma
structure Rdy (t : Tl) : Prop where
 ok : okT t.id t.hs t.st t.fo = true
 s : t.st.length ≤ 12
 f : t.fo.length ≤ 12
 os : okN t.st = true
 of : okN t.fo = true
theorem rdy_of {t : Tl} (h : okT t.id t.hs t.st t.fo = true) : Rdy t := by
 obtain ⟨a, b, c, d⟩ := okT_b h
 exact ⟨h, a, b, c, d⟩
end Go.Proofs.YthddoikmgpgakaaDoor.Sw
namespace Go.Proofs.YthddoikmgpgakaaDoor
open Go.RowKit Go.Proofs Go.Shelf
theorem dist_max : ∀ a b : List Int, dist a b ≤ max a.length b.length
 | [], b => by rw [dist_nil]; exact Nat.le_max_right _ _
 | x :: a, [] => by rw [dist_nil']; exact Nat.le_max_left _ _
 | x :: a, y :: b => by
  have h1 := dist_both x y a b
  have h2 := dist_max a b
  have h3 : (if x = y then 0 else 1) ≤ 1 := by split <;> omega
  simp only [List.length_cons]
  omega
end Go.Proofs.YthddoikmgpgakaaDoor
namespace Go.Proofs.YthddoikmgpgakaaDoor.Sw
open Go.RowKit Go Go.Shelf Go.Proofs
open Go.Proofs.YthddoikmgpgakaaDoor.Ma
def tailTo : Nat → Code → Code → Code
 | 0, _, y => y
 | n + 1, .seq a b, y => .seq a (tailTo n b y)
 | _ + 1, x, _ => x
def tailOf : Nat → Code → Code
 | 0, x => x
 | n + 1, .seq _ b => tailOf n b
 | _ + 1, x => x
theorem tail_to : ∀ (n : Nat) (x : Code), tailTo n x (tailOf n x) = x
 | 0, _ => rfl
 | n + 1, x => by
  cases x <;> simp only [tailTo, tailOf]
  rw [tail_to n]
theorem W_cutN {β : Type} {c : Cx} {s : S} {x : Code} {Q : Exit → S → Prop} (n : Nat) (I : β → S) (J : β → Prop) (h : ∀ y, (∀ b, J b → W c y (I b) Q) → W c (tailTo n x y) s Q) (k : ∀ b, J b → W c (tailOf n x) (I b) Q) : W c x s Q := by
 have := h _ k
 rwa [tail_to] at this
theorem W_back {β : Type} {c : Cx} {s : S} {y : Code} {I : β → S} {J : β → Prop} {Q : Exit → S → Prop} (K : ∀ b, J b → W c y (I b) Q) (b : β) (hJ : J b) (hs : ∀ a w, St c s a w → St c (I b) a w) : W c y s Q := W_weak (I b) hs (K b hJ)
section
variable {P : Program} {rs : List (Nat × AV)} {d : Option Nat} {ty : TypeId} {pos : String} {af : Array Edge} {g : Option (Nat × Bool)}
end
section
variable {c : Cx} {rs : List (Nat × AV)} {hs : List HA} {Q : Exit → S → Prop} {ops : Array Oper} {tl : List Oper} {d : Nat} {ty : TypeId} {pos : String} {af : Array Edge}
end
theorem Rdy.dist {a : Tl} (h : Rdy a) : dist a.st a.fo ≤ 12 := by
 have := dist_max a.st a.fo
 have := h.s
 have := h.f
 omega
theorem sameLs_con (xs : List (List Int)) (hl : xs.length ≤ 1000000) (hm : ∀ x ∈ xs, x.length ≤ 1000000) : Con Tryd.prog 59 [.sl 1 (slC 1 iC) xs, .sl 1 (slC 1 iC) xs] [] (Is (.val (.bool true)) []) := by
 refine con_of Tryd.func59 rfl (enters_of Tryd.func59 (by kernel_rfl) rfl) rfl ?_; intro n w0 F0 G0
 refine zS ?_
 simp only [decide_true, Bool.not_true]
 refine zS ?_
 refine W_loopJ (fun (k : Nat) => ⟨[(0, .sl 1 (slC 1 iC) xs), (1, .sl 1 (slC 1 iC) xs), (5, .val (.int .i64 k))], []⟩) (fun k => k ≤ xs.length) (fun k => xs.length - k) 0 (fun _ _ st => st_sub2 st zR zP) ?hj0 ?round
 case hj0 => exact Nat.zero_le _
 case round =>
  rintro k hk
  refine zS ?_
  refine w_cond rfl (fun hlt => ?_) (fun hlt => ?_)
  ·have hlt' : k < xs.length := by simpa using hlt
   have hq1 : xs[k]? = some xs[k] := List.getElem?_eq_getElem hlt'
   have hmk := hm _ (List.getElem_mem hlt')
   have C := sameI1_con xs[k] xs[k] hmk hmk
   rw [decide_eq_true rfl] at C
   refine zS ?_
   refine W_run 8 [17, 18, 19, 20, 21, 22, 23, 24] [0, 1, 2, 3, 4, 5, 6, 7] Cut.nil rfl goFlt mixedS (by kernel_rfl) rfl ?_
   refine rpv [] [] ?_
   refine rpv [] [] ?_
   refine rpv [0, 1] [] ?_
   refine rpv [2] [] ?_
   refine rpv [] [] ?_
   refine rpv [] [] ?_
   refine rpv [4, 5] [] ?_
   refine rpv [6] [] ?_
   refine ⟨⟨by kernel_rfl, by kernel_rfl⟩, fun vs => ?_⟩
   apply WL_auto [3, 7]
   ·exact goPk
   ·exact goNrm
   ·kernel_rfl
   ·kernel_rfl
   refine zS ?_
   (first | (apply wl_call (C); exact rfl; exact rfl) | (apply wl_callR (C); exact rfl; exact zM; exact rfl))
   refine zS ?_
   (refine ⟨k + 1, fun _ _ st => st_sub2 st ?_ ?_, ?_, ?_⟩; exact zR; exact zP)
   ·exact hlt'
   ·omega
  ·refine zS ?_
   (apply res1; exact rfl; exact rfl; exact ⟨rfl, rfl⟩)
theorem lt_min3 {P : Program} {rs : List (Nat × AV)} {d : Option Nat} {ty : TypeId} {pos : String} {af : Array Edge} {g : Option (Nat × Bool)} {x y z : Operand} {m n l : Int} {ts : Array TypeId} (hx : opv rs x = some (.val (.int .i64 m))) (hy : opv rs y = some (.val (.int .i64 n))) (hz : opv rs z = some (.val (.int .i64 l))) :
  LT P ⟨d, .call { callee := .builtin .min, args := #[x, y, z], argTypes := ts }, ty, pos, af, g⟩ rs [] (Is (.val (.int .i64 (min m (min n l)))) []) :=
 LT_val (fun _ e => by cases e) fun a w G hR hG => by
  have e1 : a.eval x = _ := opv_ok hR hx
  have e2 : a.eval y = _ := opv_ok hR hy
  have e3 : a.eval z = _ := opv_ok hR hz
  refine ⟨_, rfl, ?_⟩
  have h1 : (if n < m then n else m) = min m n := by split <;> omega
  have h2 : ∀ q : Int, (if l < q then l else q) = min q l := fun q => by split <;> omega
  have h3 : min (min m n) l = min m (min n l) := by omega
  simp [execOp, resolve, e1, e2, e3, invoke, builtin, Builtin.min_, Builtin.min2, h1, h2, h3]
theorem zeroF {α : Type} {P : Program} {e : TypeId} {f : α → List AV} {x0 : α} {n b : Nat} {z : Value} (h2 : (P.info? e).map (fun i => (i.zero, i.size, i.bytes)) = some (some z, n, b)) {zs : List Value} (h3 : z.cells = zs.toArray) (h4 : ∀ G, Fits G (f x0) zs) : ZeroF P e f x0 := by
 obtain ⟨i, hi, e1, _, _⟩ := info_parts h2
 exact ⟨z, ⟨i, hi, e1⟩, zs, h3, h4⟩
instance zeroI : ZeroF Tryd.prog 3 iC 0 := zeroF (z := .int .i64 0) (n := 1) (b := 8) (zs := [.int .i64 0]) (by kernel_rfl) rfl (fun _ => ⟨rfl, trivial⟩)
end Go.Proofs.YthddoikmgpgakaaDoor.Sw
namespace Go.Proofs.YthddoikmgpgakaaDoor.Sw
open Go.RowKit Go
section
variable {P : Program} {rs : List (Nat × AV)} {d : Option Nat} {ty : TypeId} {pos : String} {af : Array Edge} {g : Option (Nat × Bool)}
theorem lt_slTo {α : Type} {f : α → List AV} {xs : List α} {x y : Operand} {t e : TypeId} {n : Nat} [hE : TyE P t e n] {h : Nat} (hx : opv rs x = some (.sl n f xs)) (hy : opv rs y = some (.val (.int .i64 (h : Int)))) (h2 : h ≤ xs.length) : LT P ⟨d, .slice t x none (some y) none, ty, pos, af, g⟩ rs [] (Is (.sl n f (xs.take h)) []) := by
 have := lt_slice (P := P) (rs := rs) (d := d) (ty := ty) (pos := pos) (af := af) (g := g) (t := t) (e := e) (l := 0) (h := h) (li := 0) hx (.inr ⟨rfl, rfl⟩) rfl (.inl (by rw [Option.map_some, hy])) rfl (Nat.zero_le _) h2
 rwa [List.drop_zero] at this
theorem lt_slFrom {α : Type} {f : α → List AV} {xs : List α} {x y : Operand} {t e : TypeId} {n : Nat} [hE : TyE P t e n] {l : Nat} (hx : opv rs x = some (.sl n f xs)) (hy : opv rs y = some (.val (.int .i64 (l : Int)))) (h2 : l ≤ xs.length) : LT P ⟨d, .slice t x (some y) none none, ty, pos, af, g⟩ rs [] (Is (.sl n f (xs.drop l)) []) := by
 have := lt_slice (P := P) (rs := rs) (d := d) (ty := ty) (pos := pos) (af := af) (g := g) (t := t) (e := e) (l := l) (h := xs.length) (hi' := (xs.length : Int)) hx (.inl (by rw [Option.map_some, hy])) rfl (.inr ⟨rfl, rfl⟩) rfl h2 (Nat.le_refl _)
 rwa [List.take_length] at this
end
end Go.Proofs.YthddoikmgpgakaaDoor.Sw
namespace Go.Proofs.YthddoikmgpgakaaDoor.Sw
open Go.RowKit Go Go.Shelf Go.Proofs
open Go.Proofs.YthddoikmgpgakaaDoor.Ma
theorem Rdy.sub {a : Tl} (h : Rdy a) {s f : List Int} (h1 : s.length ≤ 12) (h2 : f.length ≤ 12) (h3 : okN s = true) (h4 : okN f = true) : Rdy ⟨a.id, a.hs, s, f⟩ := by
 refine rdy_of ?_
 have hk := h.ok
 unfold okT at hk ⊢
 simp only [Bool.and_eq_true, decide_eq_true_eq] at hk ⊢
 exact ⟨⟨⟨⟨hk.1.1.1.1, h1⟩, h2⟩, h3⟩, h4⟩
theorem ltL_drop {a b : List Int} {k : Nat} (ha : k < a.length) (hb : k < b.length) : ltL (a.drop k) (b.drop k) = if a[k] = b[k] then ltL (a.drop (k + 1)) (b.drop (k + 1)) else decide (a[k] < b[k]) := by
 rw [List.drop_eq_getElem_cons ha, List.drop_eq_getElem_cons hb, ltL_cons]
theorem ltL_end {a b : List Int} {k : Nat} (hk : k ≤ a.length) (hk2 : k ≤ b.length) (h : ¬ (k < a.length ∧ k < b.length)) : ltL (a.drop k) (b.drop k) = decide ((a.length : Int) < (b.length : Int)) := by
 rcases Nat.lt_or_ge k a.length with h1 | h1
 ·have : k = b.length := by omega
  subst this
  rw [List.drop_length, ltL_nil_r, decide_eq_false (by omega)]
 ·have : k = a.length := by omega
  subst this
  rw [List.drop_length]
  rcases Nat.lt_or_ge a.length b.length with h2 | h2
  ·rw [List.drop_eq_getElem_cons h2, decide_eq_true (by omega)]; rfl
  ·rw [List.drop_eq_nil_of_le h2, decide_eq_false (by omega)]; rfl
theorem less7_con (a b : List Int) (h1 : a.length ≤ 1000000) (h2 : b.length ≤ 1000000) : Con Tryd.prog 74 [.sl 1 iC a, .sl 1 iC b] [] (Is (.val (.bool (ltL a b))) []) := by
 refine con_of Tryd.func74 rfl (enters_of Tryd.func74 (by kernel_rfl) rfl) rfl ?_; intro n w0 F0 G0
 refine zS ?_
 refine W_loopJ (fun (k : Nat) => ⟨[(0, .sl 1 iC a), (1, .sl 1 iC b), (5, .val (.int .i64 k))], []⟩) (fun k => k ≤ a.length ∧ k ≤ b.length ∧ ltL (a.drop k) (b.drop k) = ltL a b) (fun k => a.length - k) 0 (fun _ _ st => st_sub2 st zR zP) ⟨Nat.zero_le _, Nat.zero_le _, rfl⟩ ?_
 rintro k ⟨hk1, hk2, he⟩
 refine zS ?_
 by_cases ha : k < a.length
 ·rw [decide_eq_true (show (k : Int) < (a.length : Int) by omega)]
  refine zS ?_
  by_cases hb : k < b.length
  ·rw [decide_eq_true (show (k : Int) < (b.length : Int) by omega)]
   have hq0 : a[k]? = some a[k] := List.getElem?_eq_getElem ha
   have hq1 : b[k]? = some b[k] := List.getElem?_eq_getElem hb
   rw [ltL_drop ha hb] at he
   refine zS ?_
   refine W_run 8 [18, 19, 20, 21, 22, 23, 24, 25] [0, 1, 2, 3, 4, 5, 6, 7] Cut.nil rfl goFlt mixedS (by kernel_rfl) rfl ?_
   refine rpv [] [] ?_
   refine rpv [] [] ?_
   refine rpv [0, 1] [] ?_
   refine rpv [2] [] ?_
   refine rpv [] [] ?_
   refine rpv [] [] ?_
   refine rpv [4, 5] [] ?_
   refine rpv [6] [] ?_
   refine ⟨⟨by kernel_rfl, by kernel_rfl⟩, fun vs => ?_⟩
   apply WL_auto [3, 7]
   ·exact goPk
   ·exact goNrm
   ·kernel_rfl
   ·kernel_rfl
   refine zS ?_
   by_cases hab : a[k] = b[k]
   ·rw [if_pos hab] at he
    rw [decide_eq_true hab]
    refine zS ?_
    refine ⟨k + 1, fun _ _ st => st_sub2 st zR zP, ⟨ha, hb, he⟩, ?_⟩
    omega
   ·rw [if_neg hab] at he
    rw [decide_eq_false hab]
    refine zS ?_
    refine W_run 8 [27, 28, 29, 30, 31, 32, 33, 34] [0, 1, 2, 3, 4, 5, 6, 7] Cut.nil rfl goFlt mixedS (by kernel_rfl) rfl ?_
    refine rpv [] [] ?_
    refine rpv [] [] ?_
    refine rpv [0, 1] [] ?_
    refine rpv [2] [] ?_
    refine rpv [] [] ?_
    refine rpv [] [] ?_
    refine rpv [4, 5] [] ?_
    refine rpv [6] [] ?_
    refine ⟨⟨by kernel_rfl, by kernel_rfl⟩, fun vs => ?_⟩
    apply WL_auto [3, 7]
    ·exact goPk
    ·exact goNrm
    ·kernel_rfl
    ·kernel_rfl
    refine zS ?_
    (apply res1; exact rfl; exact rfl; exact ⟨by rw [he], rfl⟩)
  ·rw [decide_eq_false (show ¬ (k : Int) < (b.length : Int) by omega)]
   rw [ltL_end hk1 hk2 (fun h => hb h.2)] at he
   refine zS ?_
   (apply res1; exact rfl; exact rfl; exact ⟨by rw [he], rfl⟩)
 ·rw [decide_eq_false (show ¬ (k : Int) < (a.length : Int) by omega)]
  rw [ltL_end hk1 hk2 (fun h => ha h.1)] at he
  refine zS ?_
  (apply res1; exact rfl; exact rfl; exact ⟨by rw [he], rfl⟩)
def roA {α : Type} (n : Nat) (f : α → List AV) : List α ⊕ OV → AV
 | .inl l => .sl n f l
 | .inr v => .val v.1
def roC {α : Type} (n : Nat) (f : α → List AV) (x : List α ⊕ OV) : List AV := [roA n f x]
instance {α : Type} {n : Nat} {f : α → List AV} {x : List α ⊕ OV} : One (roA n f x) := match x with
 | .inl l => inferInstanceAs (One (.sl n f l))
 | .inr v => inferInstanceAs (One (.val v.1))
instance {α : Type} {n : Nat} {f : α → List AV} {x : List α ⊕ OV} : OneL (roC n f x) := inferInstanceAs (OneL [_])
instance {α : Type} {n : Nat} {f : α → List AV} : OneF (roC n f) := ⟨fun _ => inferInstance⟩
instance {α : Type} {n : Nat} {f : α → List AV} : LenF (roC n f) 1 := ⟨fun _ => rfl⟩
theorem roC_flat {α : Type} {n : Nat} {f : α → List AV} : ∀ xs : List (List α ⊕ OV), xs.flatMap (roC n f) = xs.map (roA n f)
 | [] => rfl
 | x :: xs => by rw [List.flatMap_cons, List.map_cons, roC_flat xs]; rfl
theorem st_frzRow {α : Type} {c : Cx} {rs : List (Nat × AV)} {hs r : List HA} {e e' : TypeId} {n j : Nat} {f : α → List AV} {ys : List α} {xs : List (List α ⊕ OV)} {v vo : Value} {o : OV} {g : HA → List HA} {a : Act} {w : World} (hr : Rm hs (.row v e n f ys) r) (hat : At r (.row vo e' 1 (roC n f) xs) g) (hj : xs[j]? = some (.inr o)) (ho : o.1 = v) (st : St c ⟨rs, hs⟩ a w) : St c ⟨rs, g (.row vo e' 1 (roC n f) (xs.set j (.inl ys)))⟩ a w := by
 obtain ⟨G, F, hI, hF, hR, rr⟩ := st
 obtain ⟨G', F', h1, h2, h3⟩ := row_freeze (rest := r) ⟨hI.gin, hI.nd, hI.own, hr.sel hI.hs⟩
 obtain ⟨rest, hsel⟩ := hat.sel
 obtain ⟨F1, F2, ep, ⟨vs, e1, e2, e3, e4, e5⟩, k2⟩ := (hsel _ _ _ _).1 (by rw [hat.self]; exact h1.hs)
 refine ⟨G', F', ⟨h1.gin, h1.nd, h1.own, (hsel _ _ _ _).2 ⟨F1, F2, ep, ⟨vs, e1, fun x _ => rfl, ?_, e4, by rw [List.length_set]; exact e5⟩, k2⟩⟩, hF.trans h2, hR.mono h2.gle, rr.1, rr.2.step h2⟩
 rw [roC_flat] at e3 ⊢
 have hjm : (xs.map (roA n f))[j]? = some (.val o.1) := by rw [List.getElem?_map, hj]; rfl
 obtain ⟨u, hu, hu2⟩ := e3.get hjm
 have hu3 : u = v := Eq.trans hu2 ho
 subst hu3
 have := e3.set j h3
 rw [List.map_set]
 rwa [show vs.set j u = vs from by
  obtain ⟨hlt, rfl⟩ := List.getElem?_eq_some_iff.1 hu
  exact List.set_getElem_self hlt] at this
theorem W_meetL {β : Type} {c : Cx} {id : Nat} {s : S} {x y : Code} {Q Q' : Exit → S → Prop} (I : β → S) (J : β → Prop) (h : W c x s (fun e s' => e = .exit id ∧ ∃ b, (∀ a w, St c s' a w → St c (I b) a w) ∧ J b)) (k : ∀ b, J b → W c y (I b) Q') : W c x s (blockQ id (thenQ (fun s' => W c y s' Q') Q)) :=
 W_mono h fun e s' ⟨he, b, hs, hJ⟩ => by
  subst he
  simp only [blockQ, if_true]
  exact W_weak (I b) hs (k b hJ)
theorem takeW_len {p : List Int → Bool} : ∀ {L : List (List Int)} {j : Nat}, (∀ i (h : i < L.length), i < j → p L[i] = true) → (∀ h : j < L.length, p L[j] = false) → j ≤ L.length → (L.takeWhile p).length = j
 | [], j, _, _, h => by simp at h; subst h; rfl
 | x :: t, 0, _, h2, _ => by
  have := h2 (by simp)
  rw [List.takeWhile_cons_of_neg (by simpa using this)]; rfl
 | x :: t, j + 1, h1, h2, h3 => by
  have h0 := h1 0 (by simp) (by omega)
  rw [List.takeWhile_cons_of_pos (by simpa using h0), List.length_cons, takeW_len (j := j) (fun i h hj => by have := h1 (i + 1) (by simp only [List.length_cons]; omega) (by omega); rw [List.getElem_cons_succ] at this; exact this) (fun h => by have := h2 (by simp only [List.length_cons]; omega); rw [List.getElem_cons_succ] at this; exact this) (by simpa using h3)]
theorem putL_at {L : List (List Int)} (hs : SrtL L) {x : List Int} {j : Nat} (hj : j ≤ L.length) (h1 : j = 0 ∨ ∃ h : j - 1 < L.length, ltL L[j - 1] x = true) (h2 : ∀ i (h : i < L.length), j ≤ i → ltL L[i] x = false) : putL 201 L x = if L[j]? = some x ∨ 201 ≤ j then L else (L.take j ++ x :: L.drop j).take 201 := by
 have hl : (L.takeWhile fun y => ltL y x).length = j := takeW_len (fun i h hi => by
  rcases h1 with rfl | ⟨h3, h4⟩
  ·omega
  ·rcases Nat.lt_or_ge i (j - 1) with h5 | h5
   ·exact ltL_trans (List.pairwise_iff_getElem.1 hs i (j - 1) h h3 h5) h4
   ·have : i = j - 1 := by omega
    subst this; exact h4) (fun h => h2 j h (Nat.le_refl _)) hj
 have ht : (L.takeWhile fun y => ltL y x) = L.take j := by
  have := List.takeWhile_append_dropWhile (p := fun y => ltL y x) (l := L)
  have h6 := congrArg (List.take j) this
  rw [List.take_append_of_le_length (by omega), List.take_of_length_le (by omega)] at h6
  exact h6
 unfold putL
 dsimp only
 rw [hl, ht, List.head?_drop]
theorem take_minL {α : Type} (X : List α) (m : Nat) : X.take (min X.length m) = X.take m := by
 rcases Nat.le_total X.length m with h | h
 ·rw [Nat.min_eq_left h, List.take_length, List.take_of_length_le h]
 ·rw [Nat.min_eq_right h]
theorem srt_put {L : List (List Int)} (h : SrtL L ∧ L.length ≤ 201) (x : List Int) : SrtL (putL 201 L x) ∧ (putL 201 L x).length ≤ 201 := by
 have hF : Fst 201 (fun y => y ∈ L) L := ⟨h.1, fun _ h => h, h.2, fun _ h => .inl h⟩
 have := hF.put x
 exact ⟨this.srt, this.len⟩
theorem putL_mem {L : List (List Int)} (h : SrtL L ∧ L.length ≤ 201) (x : List Int) : ∀ y ∈ putL 201 L x, y ∈ L ∨ y = x := by
 have hF : Fst 201 (fun y => y ∈ L) L := ⟨h.1, fun _ h => h, h.2, fun _ h => .inl h⟩
 exact (hF.put x).sub
theorem put_con (L : List (List Int)) (x : List Int) (h : SrtL L ∧ L.length ≤ 201) (hl : ∀ y ∈ L, y.length ≤ 100000) (hx : x.length ≤ 100000) : Con Tryd.prog 129 [.sl 1 (slC 1 iC) L, .sl 1 iC x] [] (Is (.sl 1 (slC 1 iC) (putL 201 L x)) []) := by
 obtain ⟨hs, hlen⟩ := h
 refine con_of Tryd.func129 rfl (enters_of Tryd.func129 (by kernel_rfl) rfl) rfl ?_; intro n w0 F0 G0
 refine zS ?_
 refine W_meetL (fun (j : Nat) => ⟨[(0, .sl 1 (slC 1 iC) L), (1, .sl 1 iC x), (5, .val (.int .i64 j))], []⟩) (fun j => j ≤ L.length ∧ (j = 0 ∨ ∃ h : j - 1 < L.length, ltL L[j - 1] x = true) ∧ ∀ i (h : i < L.length), j ≤ i → ltL L[i] x = false) ?_ ?_
 ·refine W_loopJ (fun (j : Nat) => ⟨[(0, .sl 1 (slC 1 iC) L), (1, .sl 1 iC x), (5, .val (.int .i64 j))], []⟩) (fun j => j ≤ L.length ∧ ∀ i (h : i < L.length), j ≤ i → ltL L[i] x = false) (fun j => j) L.length (fun _ _ st => st_sub2 st zR zP) ⟨Nat.le_refl _, fun i h h2 => by omega⟩ ?_
  rintro j ⟨hj, hlt⟩
  refine zS ?_
  match j, hj, hlt with
  | 0, hj, hlt =>
   refine zS ?_
   exact ⟨rfl, 0, fun _ _ st => st_sub2 st zR zP, Nat.zero_le _, .inl rfl, hlt⟩
  | j + 1, hj, hlt =>
   rw [decide_eq_true (show (0 : Int) < ((j + 1 : Nat) : Int) by omega)]
   refine zS ?_
   rw [show ((j + 1 : Nat) : Int) - 1 = (j : Int) by omega]
   have hjl : j < L.length := by omega
   refine zS ?_
   (first | (apply wl_call (less7_con L[j] x (by have := hl _ (List.getElem_mem hjl); omega) (by omega)); exact rfl; exact rfl) | (apply wl_callR (less7_con L[j] x (by have := hl _ (List.getElem_mem hjl); omega) (by omega)); exact rfl; exact zM; exact rfl))
   cases hc : ltL L[j] x with
   | true =>
    refine zS ?_
    exact ⟨rfl, j + 1, fun _ _ st => st_sub2 st zR zP, hj, .inr ⟨hjl, hc⟩, hlt⟩
   | false =>
    refine zS ?_
    rw [show ((j + 1 : Nat) : Int) - 1 = (j : Int) by omega]
    refine ⟨j, fun _ _ st => st_sub2 st zR zP, ⟨by omega, fun i h h2 => ?_⟩, by omega⟩
    rcases Nat.lt_or_ge j i with h3 | h3
    ·exact hlt i h (by omega)
    ·have : i = j := by omega
     subst this; exact hc
 ·rintro j ⟨hj, h1, h2⟩
  have e := putL_at hs hj h1 h2
  have hcat : ([] ++ L.take j ++ [x]) ++ L.drop j = L.take j ++ x :: L.drop j := by simp
  have htl : (L.take j).length ≤ 1000 := by rw [List.length_take]; omega
  have hdl : (L.drop j).length ≤ 1000 := by rw [List.length_drop]; omega
  refine zS ?_
  by_cases hjl : j < L.length
  ·rw [decide_eq_true (show (j : Int) < (L.length : Int) by omega)]
   refine zS ?_
   (first | (apply wl_call (sameI1_con L[j] x (by have := hl _ (List.getElem_mem hjl); omega) (by omega)); exact rfl; exact rfl) | (apply wl_callR (sameI1_con L[j] x (by have := hl _ (List.getElem_mem hjl); omega) (by omega)); exact rfl; exact zM; exact rfl))
   by_cases heq : L[j] = x
   ·rw [decide_eq_true heq]
    rw [if_pos (.inl (by rw [List.getElem?_eq_getElem hjl, heq]))] at e
    rw [e]
    refine zS ?_
    (apply res1; exact rfl; exact rfl; exact ⟨rfl, rfl⟩)
   ·rw [decide_eq_false heq]
    have hno : ¬ L[j]? = some x := by rw [List.getElem?_eq_getElem hjl]; exact fun h => heq (Option.some.inj h)
    refine zS ?_
    by_cases h200 : 201 ≤ j
    ·rw [decide_eq_true (show (200 : Int) < (j : Int) by omega)]
     rw [if_pos (.inr h200)] at e
     rw [e]
     refine zS ?_
     (apply res1; exact rfl; exact rfl; exact ⟨rfl, rfl⟩)
    ·rw [decide_eq_false (show ¬ (200 : Int) < (j : Int) by omega)]
     rw [if_neg (fun h => h.elim hno h200)] at e
     rw [e]
     refine zS ?_
     refine W_run 11 [40, 41, 42, 43, 44, 45, 46, 47, 48, 49, 50] [1, 2, 3, 5, 6, 7, 8, 9, 10] Cut.nil rfl goFlt mixedS (by kernel_rfl) rfl ?_
     refine Run.tok [] [] rfl (fun vs => by apply ltr_pk; exact goPk; (refine ltr ?_; apply lt_lit (f := slC 1 iC) (xs := ([] : List (List Int))); exact zE; exact rfl; (simp))) goApp ?_
     refine rpv [] [] ?_
     refine rpv [] [] ?_
     refine Run.pv [1, 2] [] rfl (fun vs => by apply ltr_pk; exact goPk; (refine ltr ?_; apply lt_slTo (h := j); exact rfl; exact rfl; omega)) goApp ?_
     refine Run.tok [0, 3] [0] rfl (fun vs => by apply ltr_pk; exact goPk; (refine ltr ?_; apply lt_append; exact rfl; exact rfl; (first | omega | (simp; omega)))) goApp ?_
     refine rpv [] [] ?_
     refine Run.pv [5] [] rfl (fun vs => by apply ltr_pk; exact goPk; (refine ltr ?_; apply LT_frz; apply lt_lit (f := slC 1 iC) (xs := [x]); exact zE; exact rfl; (simp))) goApp ?_
     refine Run.tok [4, 6] [4] rfl (fun vs => by apply ltr_pk; exact goPk; (refine ltr ?_; apply lt_append; exact rfl; exact rfl; (first | omega | (simp; omega)))) goApp ?_
     refine rpv [] [] ?_
     refine rpv [] [] ?_
     refine Run.pv [8, 9] [] rfl (fun vs => by apply ltr_pk; exact goPk; (refine ltr ?_; apply lt_slFrom (l := j); exact rfl; exact rfl; omega)) goApp ?_
     refine ⟨⟨by kernel_rfl, by kernel_rfl⟩, fun vs => ?_⟩
     apply WL_auto [7, 10]
     ·exact goPk
     ·exact goNrm
     ·kernel_rfl
     ·kernel_rfl
     refine zS ?_
     (first | (apply wl_append; exact rfl; exact rfl; exact zN; exact inferInstance; exact inferInstance; (first | omega | (simp; omega)); exact rfl) | (apply wl_appendN; exact rfl; exact rfl; exact inferInstance; exact inferInstance; (first | omega | (simp; omega)); exact rfl))
     intro v3
     rw [hcat]
     (apply WL_frz 51; exact rfl; exact zN)
     refine zS ?_
     rw [show min (((L.take j ++ x :: L.drop j).length : Nat) : Int) 201 = ((min (L.take j ++ x :: L.drop j).length 201 : Nat) : Int) by omega]
     (apply wl_slTo (h := (min (L.take j ++ x :: L.drop j).length 201)); exact inferInstance; exact rfl; exact rfl; (first | exact rfl | omega | (simp; omega)); exact (by omega); exact rfl)
     refine zS ?_
     rw [take_minL]
     (apply res1; exact rfl; exact rfl; exact ⟨rfl, rfl⟩)
  ·rw [decide_eq_false (show ¬ (j : Int) < (L.length : Int) by omega)]
   have hno : ¬ L[j]? = some x := by rw [List.getElem?_eq_none (by omega)]; exact fun h => by cases h
   refine zS ?_
   by_cases h200 : 201 ≤ j
   ·rw [decide_eq_true (show (200 : Int) < (j : Int) by omega)]
    rw [if_pos (.inr h200)] at e
    rw [e]
    refine zS ?_
    (apply res1; exact rfl; exact rfl; exact ⟨rfl, rfl⟩)
   ·rw [decide_eq_false (show ¬ (200 : Int) < (j : Int) by omega)]
    rw [if_neg (fun h => h.elim hno h200)] at e
    rw [e]
    refine zS ?_
    refine W_run 11 [40, 41, 42, 43, 44, 45, 46, 47, 48, 49, 50] [1, 2, 3, 5, 6, 7, 8, 9, 10] Cut.nil rfl goFlt mixedS (by kernel_rfl) rfl ?_
    refine Run.tok [] [] rfl (fun vs => by apply ltr_pk; exact goPk; (refine ltr ?_; apply lt_lit (f := slC 1 iC) (xs := ([] : List (List Int))); exact zE; exact rfl; (simp))) goApp ?_
    refine rpv [] [] ?_
    refine rpv [] [] ?_
    refine Run.pv [1, 2] [] rfl (fun vs => by apply ltr_pk; exact goPk; (refine ltr ?_; apply lt_slTo (h := j); exact rfl; exact rfl; omega)) goApp ?_
    refine Run.tok [0, 3] [0] rfl (fun vs => by apply ltr_pk; exact goPk; (refine ltr ?_; apply lt_append; exact rfl; exact rfl; (first | omega | (simp; omega)))) goApp ?_
    refine rpv [] [] ?_
    refine Run.pv [5] [] rfl (fun vs => by apply ltr_pk; exact goPk; (refine ltr ?_; apply LT_frz; apply lt_lit (f := slC 1 iC) (xs := [x]); exact zE; exact rfl; (simp))) goApp ?_
    refine Run.tok [4, 6] [4] rfl (fun vs => by apply ltr_pk; exact goPk; (refine ltr ?_; apply lt_append; exact rfl; exact rfl; (first | omega | (simp; omega)))) goApp ?_
    refine rpv [] [] ?_
    refine rpv [] [] ?_
    refine Run.pv [8, 9] [] rfl (fun vs => by apply ltr_pk; exact goPk; (refine ltr ?_; apply lt_slFrom (l := j); exact rfl; exact rfl; omega)) goApp ?_
    refine ⟨⟨by kernel_rfl, by kernel_rfl⟩, fun vs => ?_⟩
    apply WL_auto [7, 10]
    ·exact goPk
    ·exact goNrm
    ·kernel_rfl
    ·kernel_rfl
    refine zS ?_
    (first | (apply wl_append; exact rfl; exact rfl; exact zN; exact inferInstance; exact inferInstance; (first | omega | (simp; omega)); exact rfl) | (apply wl_appendN; exact rfl; exact rfl; exact inferInstance; exact inferInstance; (first | omega | (simp; omega)); exact rfl))
    intro v3
    rw [hcat]
    (apply WL_frz 51; exact rfl; exact zN)
    refine zS ?_
    rw [show min (((L.take j ++ x :: L.drop j).length : Nat) : Int) 201 = ((min (L.take j ++ x :: L.drop j).length 201 : Nat) : Int) by omega]
    (apply wl_slTo (h := (min (L.take j ++ x :: L.drop j).length 201)); exact inferInstance; exact rfl; exact rfl; (first | exact rfl | omega | (simp; omega)); exact (by omega); exact rfl)
    refine zS ?_
    rw [take_minL]
    (apply res1; exact rfl; exact rfl; exact ⟨rfl, rfl⟩)
theorem befF_srt : ∀ (ys : List (List Int)) {L : List (List Int)}, SrtL L ∧ L.length ≤ 201 → SrtL (ys.foldl (putL 201) L) ∧ (ys.foldl (putL 201) L).length ≤ 201
 | [], _, h => h
 | y :: ys, _, h => befF_srt ys (srt_put h y)
theorem befF_mem : ∀ (ys : List (List Int)) {L : List (List Int)}, SrtL L ∧ L.length ≤ 201 → ∀ y ∈ ys.foldl (putL 201) L, y ∈ L ∨ y ∈ ys
 | [], _, _, y, hy => .inl hy
 | z :: ys, L, h, y, hy => by
  rcases befF_mem ys (srt_put h z) y hy with h1 | h1
  ·rcases putL_mem h z y h1 with h2 | h2
   ·exact .inl h2
   ·exact .inr (by simp [h2])
  ·exact .inr (by simp [h1])
theorem before_con (L : List (List Int)) (z : Int) (T : List (List Int)) (h : SrtL L ∧ L.length ≤ 201) (hl : ∀ y ∈ L, y.length ≤ 1000) (hT : ∀ y ∈ T, y.length ≤ 900) (hT2 : T.length ≤ 1000) : Con Tryd.prog 123 [.sl 1 (slC 1 iC) L, .val (.int .i64 z), .sl 1 (slC 1 iC) T] [] (Is (.sl 1 (slC 1 iC) ((T.map (preL z)).foldl (putL 201) L)) []) := by
 have hpl : ∀ y ∈ T, (preL z y).length ≤ 1000 := fun y hy => by
  have := hT y hy
  unfold preL; split
  ·simp only [List.length_cons]; omega
  ·omega
 refine con_of Tryd.func123 rfl (enters_of Tryd.func123 (by kernel_rfl) rfl) rfl ?_; intro n w0 F0 G0
 refine zS ?_
 refine W_loopJ (fun (b : Nat × List (List Int)) => ⟨[(0, .sl 1 (slC 1 iC) b.2), (1, .val (.int .i64 z)), (9, .sl 1 (slC 1 iC) T), (10, .val (.int .i64 T.length)), (11, .val (.int .i64 b.1))], []⟩) (fun b => b.1 ≤ T.length ∧ (SrtL b.2 ∧ b.2.length ≤ 201) ∧ (∀ y ∈ b.2, y.length ≤ 1000) ∧ ((T.drop b.1).map (preL z)).foldl (putL 201) b.2 = (T.map (preL z)).foldl (putL 201) L) (fun b => T.length - b.1) (0, L) (fun _ _ st => st_sub2 st zR zP) ⟨Nat.zero_le _, h, hl, rfl⟩ ?_
 rintro ⟨k, M⟩ ⟨hk, hs, hm, he⟩
 dsimp only at hk hs hm he ⊢
 refine zS ?_
 refine w_cond rfl (fun hlt => ?_) (fun hlt => ?_)
 ·have hlt' : k < T.length := by simpa using hlt
  have hy := hT _ (List.getElem_mem hlt')
  have hp := hpl _ (List.getElem_mem hlt')
  rw [List.drop_eq_getElem_cons hlt', List.map_cons, List.foldl_cons] at he
  have CP := put_con M (preL z T[k]) hs (fun y hy => by have := hm y hy; omega) (by omega)
  have hm2 : ∀ y ∈ putL 201 M (preL z T[k]), y.length ≤ 1000 := fun y hy => by
   rcases putL_mem hs _ y hy with h1 | h1
   ·exact hm y h1
   ·rw [h1]; exact hp
  have hs2 := srt_put hs (preL z T[k])
  refine zS ?_
  by_cases hz : 0 < z
  ·have e : preL z T[k] = [z] ++ T[k] := by unfold preL; rw [if_pos hz]; rfl
   rw [decide_eq_true hz]
   rw [e] at CP hm2 hs2 he
   refine zS ?_
   (apply wl_lit iC; exact inferInstance; exact inferInstance; exact inferInstance; exact zE; exact rfl; (first | exact (of_decide_eq_true rfl) | decide | (simp; done) | (simp; omega)); exact rfl)
   intro v1
   refine zS ?_
   (first | (apply wl_append; exact rfl; exact rfl; exact zN; exact inferInstance; exact inferInstance; (first | omega | (simp; omega)); exact rfl) | (apply wl_appendN; exact rfl; exact rfl; exact inferInstance; exact inferInstance; (first | omega | (simp; omega)); exact rfl))
   intro v2
   (apply WL_frz 20; exact rfl; exact zN)
   refine zS ?_
   (first | (apply wl_call (CP); exact rfl; exact rfl) | (apply wl_callR (CP); exact rfl; exact zM; exact rfl))
   refine zS ?_
   refine ⟨(k + 1, _), fun _ _ st => st_sub2 st zR zP, ⟨hlt', hs2, hm2, he⟩, ?_⟩
   dsimp only; omega
  ·have e : preL z T[k] = T[k] := by unfold preL; rw [if_neg hz]
   rw [decide_eq_false hz]
   rw [e] at CP hm2 hs2 he
   refine zS ?_
   (first | (apply wl_call (CP); exact rfl; exact rfl) | (apply wl_callR (CP); exact rfl; exact zM; exact rfl))
   refine zS ?_
   refine ⟨(k + 1, _), fun _ _ st => st_sub2 st zR zP, ⟨hlt', hs2, hm2, he⟩, ?_⟩
   dsimp only; omega
 ·have hkk : k = T.length := by simp at hlt; omega
  subst hkk
  rw [List.drop_length] at he
  obtain rfl : M = _ := he
  refine zS ?_
  (apply res1; exact rfl; exact rfl; exact ⟨rfl, rfl⟩)
section
variable {c : Cx} {rs : List (Nat × AV)} {hs : List HA} {Q : Exit → S → Prop} {ops : Array Oper} {tl : List Oper} {d : Nat} {ty : TypeId} {pos : String} {af : Array Edge}
end
theorem zro_sl {α : Type} (n : Nat) (f : α → List AV) (G : Nat → Option Obj) : Fits G (roC n f (.inl [])) [.slice none 0 0] := ⟨⟨none, 0, rfl, Nat.le_refl _, fun _ hi => absurd hi (Nat.not_lt_zero _)⟩, trivial⟩
instance zeroR : ZeroF Tryd.prog 22 (roC 1 iC) (.inl []) := zeroF (z := .slice none 0 0) (n := 1) (b := 24) (zs := [.slice none 0 0]) (by kernel_rfl) rfl (fun _ => zro_sl 1 iC _)
theorem Res_imp7 {P : Program} {fn : Func} {av av' : AV} {l : List HA} {s : S} (hi : ∀ G v, av.P G v → av'.P G v) (k : Res P fn (Is av l) s) : Res P fn (Is av' l) s := by
 obtain ⟨_, _, ⟨rfl, rfl⟩, k⟩ := k
 refine ⟨_, _, ⟨rfl, rfl⟩, fun a w G F hR hI => ?_⟩
 obtain ⟨v, G', F', h1, h2, h3, h4⟩ := k a w G F hR hI
 exact ⟨v, G', F', h1, h2, h3, hi _ _ h4⟩
theorem sl_map {α β : Type} {G : Nat → Option Obj} {v : Value} {n : Nat} {f : β → List AV} {f' : α → List AV} {g : α → β} {xs : List α} (hg : ∀ x, f (g x) = f' x) (h : (AV.sl n f (xs.map g)).P G v) : (AV.sl n f' xs).P G v := by
 obtain ⟨a, c, e, hc, hs⟩ := h
 rw [List.length_map] at e hc
 refine ⟨a, c, e, hc, fun i hi => ?_⟩
 obtain ⟨b, o, e1, h2⟩ := hs i (by rw [List.length_map]; exact hi)
 rw [List.getElem_map, hg] at h2
 exact ⟨b, o, e1, h2⟩
def tabR (a b : List Int) (i : Nat) : List Int := (List.range (b.length + 1)).map fun k => (dd a b i k : Int)
def tabK (a b : List Int) (i q : Nat) : List Int := (List.range (b.length + 1)).map fun k => if q ≤ k then (dd a b i k : Int) else 0
def tabX (a b : List Int) (j : Nat) : List (List Int ⊕ OV) := (List.range (a.length + 1)).map fun r => .inl (if j ≤ r then tabR a b r else [])
def tabL (a b : List Int) : List (List Int) := (List.range (a.length + 1)).map (tabR a b)
theorem map_at {α : Type} (f : Nat → α) {m k : Nat} (h : k < m) : ((List.range m).map f)[k]? = some (f k) := by
 rw [List.getElem?_map, List.getElem?_range h]; rfl
theorem tabR_at {a b : List Int} {i k : Nat} (h : k ≤ b.length) : (tabR a b i)[k]? = some (dd a b i k : Int) := map_at _ (by omega)
theorem tabK_at {a b : List Int} {i q k : Nat} (h : k ≤ b.length) (hq : q ≤ k) : (tabK a b i q)[k]? = some (dd a b i k : Int) := by
 unfold tabK; rw [map_at _ (by omega), if_pos hq]
theorem tabR_len (a b : List Int) (i : Nat) : (tabR a b i).length = b.length + 1 := by simp [tabR]
theorem tabK_len (a b : List Int) (i q : Nat) : (tabK a b i q).length = b.length + 1 := by simp [tabK]
theorem tabX_len (a b : List Int) (j : Nat) : (tabX a b j).length = a.length + 1 := by simp [tabX]
theorem tabX_at {a b : List Int} {j r : Nat} (h : r ≤ a.length) (hr : j ≤ r) : (tabX a b j)[r]? = some (.inl (tabR a b r)) := by
 unfold tabX; rw [map_at _ (by omega), if_pos hr]
theorem tabK_0 (a b : List Int) (i : Nat) : tabK a b i 0 = tabR a b i := by
 unfold tabK tabR
 refine List.map_congr_left fun k _ => if_pos (Nat.zero_le _)
theorem rep_map {α : Type} (x : α) : ∀ m : Nat, List.replicate m x = (List.range m).map fun _ => x
 | 0 => rfl
 | m + 1 => by rw [List.range_succ, List.map_append, ← rep_map x m, List.replicate_succ']; rfl
theorem tabK_z (a b : List Int) (i : Nat) : List.replicate (b.length + 1) (0 : Int) = tabK a b i (b.length + 1) := by
 rw [rep_map]
 exact List.map_congr_left fun k hk => (if_neg (by have := List.mem_range.1 hk; omega)).symm
theorem tabX_z (a b : List Int) : List.replicate (a.length + 1) (Sum.inl [] : List Int ⊕ OV) = tabX a b (a.length + 1) := by
 rw [rep_map]
 exact List.map_congr_left fun k hk => by rw [if_neg (by have := List.mem_range.1 hk; omega)]
theorem map_set {α : Type} {f g : Nat → α} {m k : Nat} {x : α} (h1 : g k = x) (h2 : ∀ r, r ≠ k → g r = f r) : ((List.range m).map f).set k x = (List.range m).map g := by
 refine List.ext_getElem? fun i => ?_
 rw [List.getElem?_set]
 rcases Nat.lt_or_ge i m with hi | hi
 ·split
  ·rename_i e
   subst e
   rw [if_pos (by simpa using hi), map_at _ hi, h1]
  ·rename_i e
   rw [map_at _ hi, map_at _ hi, h2 i (fun h => e h.symm)]
 ·rw [List.getElem?_eq_none (l := (List.range m).map g) (by simpa using hi)]
  split
  ·rw [if_neg (by simp; omega)]
  ·rw [List.getElem?_eq_none (by simpa using hi)]
theorem tabK_set {a b : List Int} {i k : Nat} : (tabK a b i (k + 1)).set k (dd a b i k : Int) = tabK a b i k := map_set (if_pos (Nat.le_refl _)) fun r hr => by
 by_cases h : k ≤ r
 ·rw [if_pos h, if_pos (by omega)]
 ·rw [if_neg h, if_neg (by omega)]
theorem tabX_set {a b : List Int} {i : Nat} : (tabX a b (i + 1)).set i (.inl (tabR a b i)) = tabX a b i := map_set (by rw [if_pos (Nat.le_refl _)]) fun r hr => by
 by_cases h : i ≤ r
 ·rw [if_pos h, if_pos (by omega)]
 ·rw [if_neg h, if_neg (by omega)]
theorem tabX_0 (a b : List Int) : (tabX a b 0) = (tabL a b).map .inl := by
 unfold tabX tabL
 rw [List.map_map]
 exact List.map_congr_left fun k _ => by rw [if_pos (Nat.zero_le _)]; rfl
theorem dd_end {a b : List Int} {i k : Nat} (hi : i ≤ a.length) (hk : k ≤ b.length) (h : i = a.length ∨ k = b.length) : (dd a b i k : Int) = (a.length : Int) - i + b.length - k := by
 unfold dd
 rcases h with rfl | rfl
 ·rw [List.drop_length, dist_nil, List.length_drop]; omega
 ·rw [List.drop_length, dist_nil', List.length_drop]; omega
theorem dd_step {a b : List Int} {i k : Nat} (hi : i < a.length) (hk : k < b.length) : dd a b i k = min (dd a b (i + 1) (k + 1) + if a[i] = b[k] then 0 else 1) (min (dd a b (i + 1) k + 1) (dd a b i (k + 1) + 1)) := by
 unfold dd
 rw [List.drop_eq_getElem_cons hi, List.drop_eq_getElem_cons hk, dist_cons]
theorem dd_b (a b : List Int) (i k : Nat) : dd a b i k ≤ a.length + b.length := by
 unfold dd
 have := dist_le (a.drop i) (b.drop k)
 rw [List.length_drop, List.length_drop] at this
 omega
theorem table_con (a b : List Int) (ha : a.length ≤ 900) (hb : b.length ≤ 900) : Con Tryd.prog 89 [.sl 1 iC a, .sl 1 iC b] [] (Is (.sl 1 (slC 1 iC) (tabL a b)) []) := by
 refine con_of Tryd.func89 rfl (enters_of Tryd.func89 (by kernel_rfl) rfl) rfl ?_; intro n w0 F0 G0
 refine zS ?_
 (apply wl_make (roC 1 iC); exact inferInstance; exact inferInstance; exact inferInstance; exact inferInstance; exact rfl; exact rfl; exact rfl; (first | omega | (simp; omega)); exact rfl)
 intro vo
 rw [tabX_z a b]
 refine WL_one zM (fun ho => ?_)
 refine zS ?_
 refine W_loopJ (fun (j : Nat) => ⟨[(0, .sl 1 iC a), (1, .sl 1 iC b), (5, .val vo), (6, .val (.int .i64 ((j : Int) - 1)))], [.row vo 22 1 (roC 1 iC) (tabX a b j)]⟩) (fun j => j ≤ a.length + 1) (fun j => j) (a.length + 1) (fun _ _ st => st_sub2 st (by rw [show (((a.length + 1 : Nat) : Int) - 1) = (a.length : Int) by omega]; exact zR) zP) (Nat.le_refl _) ?_
 intro j hj
 refine zS ?_
 match j, hj with
 | 0, hj =>
  refine zS ?_
  (apply Res_frz 4; exact rfl; exact zN)
  rw [tabX_0]
  refine Res_imp7 (av := .sl 1 (roC 1 iC) ((tabL a b).map Sum.inl)) (fun G v h => sl_map (g := Sum.inl) (fun _ => rfl) h) ?_
  (apply res1; exact rfl; exact rfl; exact ⟨rfl, rfl⟩)
 | i + 1, hj =>
  have hia' : i ≤ a.length := by omega
  rw [show (((i + 1 : Nat) : Int) - 1) = (i : Int) by omega, decide_eq_true (show (0 : Int) ≤ (i : Int) by omega)]
  have hXl0 := tabX_len a b (i + 1)
  refine zS ?_
  (apply wl_make iC; exact inferInstance; exact inferInstance; exact inferInstance; exact inferInstance; exact rfl; exact rfl; exact rfl; (first | omega | (simp; omega)); exact rfl)
  intro v
  rw [tabK_z a b i]
  refine WL_one zM (fun hv => ?_)
  obtain ⟨ov, rfl⟩ : ∃ o : OV, v = o.1 := ⟨⟨v, hv.out (fun _ => none) v rfl⟩, rfl⟩
  refine zS ?_
  (apply wl_storeRx (Sum.inr ov); exact rfl; exact zM; exact rfl; exact inferInstance; exact inferInstance; (case hk => omega); exact Nat.one_pos; exact rfl)
  have hXi : ((tabX a b (i + 1)).set i (.inr ov))[i]? = some (.inr ov) := by rw [List.getElem?_set, if_pos rfl, if_pos (by omega)]
  have hXn : i < a.length → ((tabX a b (i + 1)).set i (.inr ov))[i + 1]? = some (.inl (tabR a b (i + 1))) := fun h => by
   rw [List.getElem?_set, if_neg (by omega)]; exact tabX_at (by omega) (Nat.le_refl _)
  have hfin : ((tabX a b (i + 1)).set i (.inr ov)).set i (.inl (tabK a b i 0)) = tabX a b i := by rw [List.set_set, tabK_0, tabX_set]
  have hXl : ((tabX a b (i + 1)).set i (.inr ov)).length = a.length + 1 := by rw [List.length_set]; exact hXl0
  generalize (tabX a b (i + 1)).set i (.inr ov) = X at hXi hXn hfin hXl ⊢
  have hXiE : X[i]'(by omega) = .inr ov := by rw [List.getElem?_eq_getElem (by omega)] at hXi; exact Option.some.inj hXi
  refine zS ?_
  refine W_loopJ (fun (q : Nat) => ⟨[(0, .sl 1 iC a), (1, .sl 1 iC b), (5, .val vo), (6, .val (.int .i64 (i : Int))), (7, .val (.int .i64 ((q : Int) - 1)))], [.row ov.1 3 1 iC (tabK a b i q), .row vo 22 1 (roC 1 iC) X]⟩) (fun q => q ≤ b.length + 1) (fun q => q) (b.length + 1) (fun _ _ st => st_sub2 st (by rw [show (((b.length + 1 : Nat) : Int) - 1) = (b.length : Int) by omega]; exact zR) zP) (Nat.le_refl _) ?_
  intro q hq
  refine zS ?_
  match q, hq with
  | 0, hq =>
   refine zS ?_
   refine ⟨i, fun _ _ st => st_sub2 (st_frzRow (j := i) zN zM hXi rfl st) zR (by rw [hfin]; exact zP), by omega, by omega⟩
  | k + 1, hq =>
   have hkb' : k ≤ b.length := by omega
   rw [show (((k + 1 : Nat) : Int) - 1) = (k : Int) by omega, decide_eq_true (show (0 : Int) ≤ (k : Int) by omega)]
   have hKl := tabK_len a b i (k + 1)
   refine zS ?_
   by_cases hia : i = a.length
   ·rw [decide_eq_true (show (i : Int) = (a.length : Int) by omega)]
    have hor : i = a.length ∨ k = b.length := .inl hia
    have hbv : (a.length : Int) - (i : Int) + (b.length : Int) - (k : Int) = (dd a b i k : Int) := (dd_end hia' hkb' hor).symm
    refine zS ?_
    rw [hXiE]
    refine zS ?_
    rw [hbv, tabK_set]
    refine ⟨k, fun _ _ st => st_sub2 st zR zP, by omega, by omega⟩
   ·rw [decide_eq_false (show ¬ (i : Int) = (a.length : Int) by omega)]
    refine zS ?_
    by_cases hkb : k = b.length
    ·rw [decide_eq_true (show (k : Int) = (b.length : Int) by omega)]
     have hor : i = a.length ∨ k = b.length := .inr hkb
     have hbv : (a.length : Int) - (i : Int) + (b.length : Int) - (k : Int) = (dd a b i k : Int) := (dd_end hia' hkb' hor).symm
     refine zS ?_
     rw [hXiE]
     refine zS ?_
     rw [hbv, tabK_set]
     refine ⟨k, fun _ _ st => st_sub2 st zR zP, by omega, by omega⟩
    ·rw [decide_eq_false (show ¬ (k : Int) = (b.length : Int) by omega)]
     have hil : i < a.length := by omega
     have hkl : k < b.length := by omega
     have hXn' := hXn hil
     have hXnE : X[i + 1]'(by omega) = .inl (tabR a b (i + 1)) := by rw [List.getElem?_eq_getElem (by omega)] at hXn'; exact Option.some.inj hXn'
     have hRl := tabR_len a b (i + 1)
     have hR0 := tabR_at (a := a) (b := b) (i := i + 1) (k := k) (by omega)
     have hR1 := tabR_at (a := a) (b := b) (i := i + 1) (k := k + 1) (by omega)
     have hR1E : (tabR a b (i + 1))[k + 1]'(by omega) = (dd a b (i + 1) (k + 1) : Int) := by rw [List.getElem?_eq_getElem (by omega)] at hR1; exact Option.some.inj hR1
     have hK1 := tabK_at (a := a) (b := b) (i := i) (q := k + 1) (k := k + 1) (by omega) (Nat.le_refl _)
     have hqa : a[i]? = some a[i] := List.getElem?_eq_getElem hil
     have hqb : b[k]? = some b[k] := List.getElem?_eq_getElem hkl
     have hst := dd_step hil hkl
     have hd1 := dd_b a b (i + 1) (k + 1)
     have hd2 := dd_b a b (i + 1) k
     have hd3 := dd_b a b i (k + 1)
     refine zS ?_
     rw [hXnE]
     refine zS ?_
     rw [hR1E]
     refine zS ?_
     refine W_run 8 [66, 67, 68, 69, 70, 71, 72, 73] [0, 1, 2, 3, 4, 5, 6, 7] Cut.nil rfl goFlt mixedS (by kernel_rfl) rfl ?_
     refine rpv [] [] ?_
     refine rpv [] [] ?_
     refine rpv [0, 1] [] ?_
     refine rpv [2] [] ?_
     refine rpv [] [] ?_
     refine rpv [] [] ?_
     refine rpv [4, 5] [] ?_
     refine rpv [6] [] ?_
     refine ⟨⟨by kernel_rfl, by kernel_rfl⟩, fun vs => ?_⟩
     apply WL_auto [3, 7]
     ·exact goPk
     ·exact goNrm
     ·kernel_rfl
     ·kernel_rfl
     refine zS ?_
     refine zS ?_
     by_cases hab : a[i] = b[k]
     ·rw [decide_eq_true hab]
      rw [if_pos hab] at hst
      have hval : min ((dd a b (i + 1) (k + 1) : Nat) : Int) (min (((dd a b (i + 1) k : Nat) : Int) + 1) (((dd a b i (k + 1) : Nat) : Int) + 1)) = (dd a b i k : Int) := by omega
      refine zS ?_
      refine W_run 25 [77, 78, 79, 80, 81, 82, 83, 84, 85, 86, 87, 88, 89, 90, 91, 92, 93, 94, 95, 96, 97, 98, 99, 100, 101] [0, 1, 2, 3, 4, 5, 6, 7, 8, 9, 10, 11, 12, 13, 14, 15, 16, 17, 18, 19, 20, 21, 22, 23, 24] Cut.nil rfl goFlt mixedS (by kernel_rfl) rfl ?_
      refine rpv [] [] ?_
      refine rpv [] [] ?_
      refine rpv [0, 1] [] ?_
      refine rpv [2] [] ?_
      refine rpv [] [] ?_
      refine rpv [] [] ?_
      refine rpv [] [] ?_
      refine rpv [] [] ?_
      refine rpv [7] [] ?_
      refine rpv [6, 8] [] ?_
      refine rpv [9] [] ?_
      refine rpv [] [] ?_
      refine rpv [10, 11] [] ?_
      refine rpv [12] [] ?_
      refine rpv [13] [] ?_
      refine rpv [] [] ?_
      refine rpv [] [] ?_
      refine rpv [15, 16] [] ?_
      refine rpv [17] [] ?_
      refine rpv [] [] ?_
      refine rpv [19] [] ?_
      refine rpv [18, 20] [] ?_
      refine rpv [21] [] ?_
      refine rpv [22] [] ?_
      refine Run.pv [5, 14, 23] [] rfl (fun vs => by apply ltr_pk; exact goPk; (refine ltr ?_; apply lt_min3; exact rfl; exact rfl; exact rfl)) goApp ?_
      refine ⟨⟨by kernel_rfl, by kernel_rfl⟩, fun vs => ?_⟩
      apply WL_auto [3, 4, 24]
      ·exact goPk
      ·exact goNrm
      ·kernel_rfl
      ·kernel_rfl
      refine zS ?_
      refine zS ?_
      rw [hval]
      rw [tabK_set]
      refine ⟨k, fun _ _ st => st_sub2 st zR zP, by omega, by omega⟩
     ·rw [decide_eq_false hab]
      rw [if_neg hab] at hst
      have hval : min (((dd a b (i + 1) (k + 1) : Nat) : Int) + 1) (min (((dd a b (i + 1) k : Nat) : Int) + 1) (((dd a b i (k + 1) : Nat) : Int) + 1)) = (dd a b i k : Int) := by omega
      refine zS ?_
      refine W_run 25 [77, 78, 79, 80, 81, 82, 83, 84, 85, 86, 87, 88, 89, 90, 91, 92, 93, 94, 95, 96, 97, 98, 99, 100, 101] [0, 1, 2, 3, 4, 5, 6, 7, 8, 9, 10, 11, 12, 13, 14, 15, 16, 17, 18, 19, 20, 21, 22, 23, 24] Cut.nil rfl goFlt mixedS (by kernel_rfl) rfl ?_
      refine rpv [] [] ?_
      refine rpv [] [] ?_
      refine rpv [0, 1] [] ?_
      refine rpv [2] [] ?_
      refine rpv [] [] ?_
      refine rpv [] [] ?_
      refine rpv [] [] ?_
      refine rpv [] [] ?_
      refine rpv [7] [] ?_
      refine rpv [6, 8] [] ?_
      refine rpv [9] [] ?_
      refine rpv [] [] ?_
      refine rpv [10, 11] [] ?_
      refine rpv [12] [] ?_
      refine rpv [13] [] ?_
      refine rpv [] [] ?_
      refine rpv [] [] ?_
      refine rpv [15, 16] [] ?_
      refine rpv [17] [] ?_
      refine rpv [] [] ?_
      refine rpv [19] [] ?_
      refine rpv [18, 20] [] ?_
      refine rpv [21] [] ?_
      refine rpv [22] [] ?_
      refine Run.pv [5, 14, 23] [] rfl (fun vs => by apply ltr_pk; exact goPk; (refine ltr ?_; apply lt_min3; exact rfl; exact rfl; exact rfl)) goApp ?_
      refine ⟨⟨by kernel_rfl, by kernel_rfl⟩, fun vs => ?_⟩
      apply WL_auto [3, 4, 24]
      ·exact goPk
      ·exact goNrm
      ·kernel_rfl
      ·kernel_rfl
      refine zS ?_
      refine zS ?_
      rw [hval]
      rw [tabK_set]
      refine ⟨k, fun _ _ st => st_sub2 st zR zP, by omega, by omega⟩
theorem st_nilR7 {α : Type} {c : Cx} {rs : List (Nat × AV)} {hs : List HA} {a : Act} {w : World} (i n : Nat) (f : α → List AV) (h : look rs i = some (.val (.slice none 0 0))) (st : St c ⟨rs, hs⟩ a w) : St c ⟨(i, .sl n f ([] : List α)) :: rs, hs⟩ a w := by
 obtain ⟨G, F, hI, hF, hR, r⟩ := st
 refine ⟨G, F, hI, hF, fun j u e => ?_, r⟩
 simp only [look] at e
 cases hb : Nat.beq i j with
 | true =>
  rw [hb] at e
  obtain rfl := Nat.eq_of_beq_eq_true hb
  simp only [cond_true, Option.some.injEq] at e
  subst e
  exact ⟨none, 0, hR i _ h, Nat.le_refl _, fun _ hi => absurd hi (Nat.not_lt_zero _)⟩
 | false => rw [hb] at e; exact hR j u (by simpa using e)
def lD1 (st fo : List Int) (i k : Nat) : List (List Int) := if h : i < st.length ∧ k < fo.length then (if dd st fo i k = dd st fo (i + 1) (k + 1) + (if st[i] = fo[k] then 0 else 1) then (tellT st fo (i + 1) (k + 1)).map (preL st[i]) ++ (tellT st fo (i + 1) (k + 1)).map (preL fo[k]) else []) else []
def lD2 (st fo : List Int) (i k : Nat) : List (List Int) := if h : i < st.length then (if dd st fo i k = dd st fo (i + 1) k + 1 then (tellT st fo (i + 1) k).map (preL st[i]) ++ (tellT st fo (i + 1) k).map (preL 0) else []) else []
def lD3 (st fo : List Int) (i k : Nat) : List (List Int) := if h : k < fo.length then (if dd st fo i k = dd st fo i (k + 1) + 1 then (tellT st fo i (k + 1)).map (preL fo[k]) ++ (tellT st fo i (k + 1)).map (preL 0) else []) else []
theorem mem_D1 {st fo : List Int} {i k : Nat} {y : List Int} : y ∈ lD1 st fo i k ↔ ∃ x ∈ step1 st fo i k, x.wr + (dd st fo x.i x.k : Int) = (dd st fo i k : Int) ∧ ∃ z ∈ notchesL x, ∃ r ∈ tellT st fo x.i x.k, y = preL z r := by
 unfold lD1
 split
 ·rename_i h
  rw [step1_yes h.1 h.2]
  simp only [List.mem_singleton, exists_eq_left]
  have key : (if st[i] = fo[k] then (0 : Int) else 1) = ((if st[i] = fo[k] then 0 else 1 : Nat) : Int) := by split <;> rfl
  rw [key]
  generalize (if st[i] = fo[k] then 0 else 1 : Nat) = e
  by_cases h2 : dd st fo i k = dd st fo (i + 1) (k + 1) + e
  ·rw [if_pos h2, List.mem_append, List.mem_map, List.mem_map]
   have h3 : (e : Int) + (dd st fo (i + 1) (k + 1) : Int) = (dd st fo i k : Int) := by omega
   constructor
   ·rintro (⟨r, hr, rfl⟩ | ⟨r, hr, rfl⟩)
    ·exact ⟨h3, st[i], by unfold notchesL; split <;> simp, r, hr, rfl⟩
    ·exact ⟨h3, fo[k], by unfold notchesL; dsimp only; split <;> simp_all, r, hr, rfl⟩
   ·rintro ⟨_, z, hz, r, hr, rfl⟩
    unfold notchesL at hz
    dsimp only at hz
    split at hz
    ·simp at hz; subst hz; exact .inl ⟨r, hr, rfl⟩
    ·simp at hz
     rcases hz with rfl | rfl
     ·exact .inl ⟨r, hr, rfl⟩
     ·exact .inr ⟨r, hr, rfl⟩
  ·rw [if_neg h2]
   constructor
   ·intro h; cases h
   ·rintro ⟨h3, _⟩
    exact absurd (by omega) h2
 ·rename_i h
  rw [step1_no h]
  constructor
  ·intro h; cases h
  ·rintro ⟨x, hx, _⟩; cases hx
theorem mem_D2 {st fo : List Int} (hs : okN st = true) {i k : Nat} {y : List Int} : y ∈ lD2 st fo i k ↔ ∃ x ∈ step2 st i k, x.wr + (dd st fo x.i x.k : Int) = (dd st fo i k : Int) ∧ ∃ z ∈ notchesL x, ∃ r ∈ tellT st fo x.i x.k, y = preL z r := by
 unfold lD2
 split
 ·rename_i h
  have h0 := okN_pos hs h
  rw [step2_yes k h]
  simp only [List.mem_singleton, exists_eq_left]
  have hn : notchesL ⟨i + 1, k, st[i], 0, 1⟩ = [st[i], 0] := by unfold notchesL; rw [if_neg (by dsimp only; omega)]
  rw [hn]
  split
  ·rename_i h2
   rw [List.mem_append, List.mem_map, List.mem_map]
   constructor
   ·rintro (⟨r, hr, rfl⟩ | ⟨r, hr, rfl⟩)
    ·exact ⟨by omega, st[i], by simp, r, hr, rfl⟩
    ·exact ⟨by omega, 0, by simp, r, hr, rfl⟩
   ·rintro ⟨_, z, hz, r, hr, rfl⟩
    simp at hz
    rcases hz with rfl | rfl
    ·exact .inl ⟨r, hr, rfl⟩
    ·exact .inr ⟨r, hr, rfl⟩
  ·rename_i h2
   constructor
   ·intro h; cases h
   ·rintro ⟨h3, _⟩
    exact absurd (by omega) h2
 ·rename_i h
  rw [step2_no k h]
  constructor
  ·intro h; cases h
  ·rintro ⟨x, hx, _⟩; cases hx
theorem mem_D3 {st fo : List Int} (hf : okN fo = true) {i k : Nat} {y : List Int} : y ∈ lD3 st fo i k ↔ ∃ x ∈ step3 fo i k, x.wr + (dd st fo x.i x.k : Int) = (dd st fo i k : Int) ∧ ∃ z ∈ notchesL x, ∃ r ∈ tellT st fo x.i x.k, y = preL z r := by
 unfold lD3
 split
 ·rename_i h
  have h0 := okN_pos hf h
  rw [step3_yes i h]
  simp only [List.mem_singleton, exists_eq_left]
  have hn : notchesL ⟨i, k + 1, 0, fo[k], 1⟩ = [0, fo[k]] := by unfold notchesL; rw [if_neg (by dsimp only; omega)]
  rw [hn]
  split
  ·rename_i h2
   rw [List.mem_append, List.mem_map, List.mem_map]
   constructor
   ·rintro (⟨r, hr, rfl⟩ | ⟨r, hr, rfl⟩)
    ·exact ⟨by omega, fo[k], by simp, r, hr, rfl⟩
    ·exact ⟨by omega, 0, by simp, r, hr, rfl⟩
   ·rintro ⟨_, z, hz, r, hr, rfl⟩
    simp at hz
    rcases hz with rfl | rfl
    ·exact .inr ⟨r, hr, rfl⟩
    ·exact .inl ⟨r, hr, rfl⟩
  ·rename_i h2
   constructor
   ·intro h; cases h
   ·rintro ⟨h3, _⟩
    exact absurd (by omega) h2
 ·rename_i h
  rw [step3_no i h]
  constructor
  ·intro h; cases h
  ·rintro ⟨x, hx, _⟩; cases hx
theorem lD_tell {st fo : List Int} (hs : okN st = true) (hf : okN fo = true) {i k : Nat} (hi : i ≤ st.length) (hk : k ≤ fo.length) (hne : ¬ (i = st.length ∧ k = fo.length)) : ((lD1 st fo i k ++ lD2 st fo i k) ++ lD3 st fo i k).foldl (putL 201) [] = tellT st fo i k := by
 refine tell_eq hs hf hi hk hne ((fst_fold0 201 _).iff fun y => ?_)
 rw [mem_combL, List.mem_append, List.mem_append, mem_D1, mem_D2 hs, mem_D3 hf]
 constructor
 ·rintro ((⟨x, hx, h1, h2⟩ | ⟨x, hx, h1, h2⟩) | ⟨x, hx, h1, h2⟩)
  ·exact ⟨x, mem_best.2 ⟨by unfold stepsL; simp [hx], h1⟩, h2⟩
  ·exact ⟨x, mem_best.2 ⟨by unfold stepsL; simp [hx], h1⟩, h2⟩
  ·exact ⟨x, mem_best.2 ⟨by unfold stepsL; simp [hx], h1⟩, h2⟩
 ·rintro ⟨x, hx, h2⟩
  obtain ⟨h3, h1⟩ := mem_best.1 hx
  unfold stepsL at h3
  rw [List.mem_append, List.mem_append] at h3
  rcases h3 with h3 | h3 | h3
  ·exact .inl (.inl ⟨x, h3, h1, h2⟩)
  ·exact .inl (.inr ⟨x, h3, h1, h2⟩)
  ·exact .inr ⟨x, h3, h1, h2⟩
structure Shr (st fo : List Int) (T : List (List Int)) : Prop where
 srt : SrtL T
 len : T.length ≤ 201
 el : ∀ y ∈ T, y.length ≤ st.length + fo.length
theorem tell_shr {st fo : List Int} (hs : okN st = true) (hf : okN fo = true) {i k : Nat} (hi : i ≤ st.length) (hk : k ≤ fo.length) : Shr st fo (tellT st fo i k) := by
 have h := tellT_fst hs hf hi hk
 refine ⟨h.srt, h.len, fun y hy => ?_⟩
 have := (h.sub y hy).length_le
 rw [List.length_drop, List.length_drop] at this
 omega
instance zeroQ : ZeroF Tryd.prog 93 (slC 1 (slC 1 iC)) ([] : List (List Int)) := zeroF (z := .slice none 0 0) (n := 1) (b := 24) (zs := [.slice none 0 0]) (by kernel_rfl) rfl (fun _ => ⟨⟨none, 0, rfl, Nat.le_refl _, fun _ hi => absurd hi (Nat.not_lt_zero _)⟩, trivial⟩)
instance zeroRR : ZeroF Tryd.prog 191 (roC 1 (slC 1 (slC 1 iC))) (.inl ([] : List (List (List Int)))) := zeroF (z := .slice none 0 0) (n := 1) (b := 24) (zs := [.slice none 0 0]) (by kernel_rfl) rfl (fun _ => zro_sl 1 (slC 1 (slC 1 iC)) _)
def telR (st fo : List Int) (i : Nat) : List (List (List Int)) := (List.range (fo.length + 1)).map fun k => tellT st fo i k
def telK (st fo : List Int) (i q : Nat) : List (List (List Int)) := (List.range (fo.length + 1)).map fun k => if q ≤ k then tellT st fo i k else []
def telX (st fo : List Int) (j : Nat) : List (List (List (List Int)) ⊕ OV) := (List.range (st.length + 1)).map fun r => .inl (if j ≤ r then telR st fo r else [])
theorem telR_at {st fo : List Int} {i k : Nat} (h : k ≤ fo.length) : (telR st fo i)[k]? = some (tellT st fo i k) := map_at _ (by omega)
theorem telK_at {st fo : List Int} {i q k : Nat} (h : k ≤ fo.length) (hq : q ≤ k) : (telK st fo i q)[k]? = some (tellT st fo i k) := by
 unfold telK; rw [map_at _ (by omega), if_pos hq]
theorem telR_len (st fo : List Int) (i : Nat) : (telR st fo i).length = fo.length + 1 := by simp [telR]
theorem telK_len (st fo : List Int) (i q : Nat) : (telK st fo i q).length = fo.length + 1 := by simp [telK]
theorem telX_len (st fo : List Int) (j : Nat) : (telX st fo j).length = st.length + 1 := by simp [telX]
theorem telX_at {st fo : List Int} {j r : Nat} (h : r ≤ st.length) (hr : j ≤ r) : (telX st fo j)[r]? = some (.inl (telR st fo r)) := by
 unfold telX; rw [map_at _ (by omega), if_pos hr]
theorem telK_0 (st fo : List Int) (i : Nat) : telK st fo i 0 = telR st fo i := by
 unfold telK telR
 refine List.map_congr_left fun k _ => if_pos (Nat.zero_le _)
theorem telK_z (st fo : List Int) (i : Nat) : List.replicate (fo.length + 1) ([] : List (List Int)) = telK st fo i (fo.length + 1) := by
 rw [rep_map]
 exact List.map_congr_left fun k hk => (if_neg (by have := List.mem_range.1 hk; omega)).symm
theorem telX_z (st fo : List Int) : List.replicate (st.length + 1) (Sum.inl [] : List (List (List Int)) ⊕ OV) = telX st fo (st.length + 1) := by
 rw [rep_map]
 exact List.map_congr_left fun k hk => by rw [if_neg (by have := List.mem_range.1 hk; omega)]
theorem telK_set {st fo : List Int} {i k : Nat} : (telK st fo i (k + 1)).set k (tellT st fo i k) = telK st fo i k := map_set (if_pos (Nat.le_refl _)) fun r hr => by
 by_cases h : k ≤ r
 ·rw [if_pos h, if_pos (by omega)]
 ·rw [if_neg h, if_neg (by omega)]
theorem telX_set {st fo : List Int} {i : Nat} : (telX st fo (i + 1)).set i (.inl (telR st fo i)) = telX st fo i := map_set (by rw [if_pos (Nat.le_refl _)]) fun r hr => by
 by_cases h : i ≤ r
 ·rw [if_pos h, if_pos (by omega)]
 ·rw [if_neg h, if_neg (by omega)]
theorem tabL_at {a b : List Int} {i : Nat} (h : i ≤ a.length) : (tabL a b)[i]? = some (tabR a b i) := map_at _ (by omega)
theorem tabL_len (a b : List Int) : (tabL a b).length = a.length + 1 := by simp [tabL]
theorem fold_nil (D : List (List Int)) : SrtL (D.foldl (putL 201) []) ∧ (D.foldl (putL 201) []).length ≤ 201 := befF_srt D ⟨List.Pairwise.nil, by simp⟩
theorem cellsNil {α : Type} (n : Nat) (f : α → List AV) : CellsOf (.val (.slice none 0 0)) [.sl n f []] := ⟨fun G v hv => by
 have hv' : v = .slice none 0 0 := hv
 subst hv'
 exact ⟨[.slice none 0 0], rfl, ⟨none, 0, rfl, Nat.le_refl _, fun _ hi => absurd hi (Nat.not_lt_zero _)⟩, trivial⟩⟩
theorem fold_len {D : List (List Int)} (h : ∀ y ∈ D, y.length ≤ 1000) : ∀ y ∈ D.foldl (putL 201) [], y.length ≤ 1000 := fun y hy => by
 rcases befF_mem D ⟨List.Pairwise.nil, by simp⟩ y hy with h1 | h1
 ·cases h1
 ·exact h y h1
theorem pre_len {T : List (List Int)} {m : Nat} (hm : m ≤ 900) (h : ∀ y ∈ T, y.length ≤ m) (z : Int) : ∀ y ∈ T.map (preL z), y.length ≤ 1000 := fun y hy => by
 obtain ⟨r, hr, rfl⟩ := List.mem_map.1 hy
 have := h r hr
 unfold preL; split
 ·simp only [List.length_cons]; omega
 ·omega
theorem app_len {A B : List (List Int)} (h1 : ∀ y ∈ A, y.length ≤ 1000) (h2 : ∀ y ∈ B, y.length ≤ 1000) : ∀ y ∈ A ++ B, y.length ≤ 1000 := fun y hy => by
 rcases List.mem_append.1 hy with h | h
 ·exact h1 y h
 ·exact h2 y h
theorem bef2 {D T : List (List Int)} (hD : ∀ y ∈ D, y.length ≤ 1000) (hT : ∀ y ∈ T, y.length ≤ 24) (hT2 : T.length ≤ 201) (z1 z2 : Int) :
  Con Tryd.prog 123 [.sl 1 (slC 1 iC) (D.foldl (putL 201) []), .val (.int .i64 z1), .sl 1 (slC 1 iC) T] [] (Is (.sl 1 (slC 1 iC) ((D ++ T.map (preL z1)).foldl (putL 201) [])) []) ∧
  Con Tryd.prog 123 [.sl 1 (slC 1 iC) ((D ++ T.map (preL z1)).foldl (putL 201) []), .val (.int .i64 z2), .sl 1 (slC 1 iC) T] [] (Is (.sl 1 (slC 1 iC) ((D ++ (T.map (preL z1) ++ T.map (preL z2))).foldl (putL 201) [])) []) := by
 have h1 := before_con (D.foldl (putL 201) []) z1 T (fold_nil D) (fold_len hD) (fun y hy => by have := hT y hy; omega) (by omega)
 rw [← List.foldl_append] at h1
 have h2 := before_con ((D ++ T.map (preL z1)).foldl (putL 201) []) z2 T (fold_nil _) (fold_len (app_len hD (pre_len (m := 24) (by omega) hT z1))) (fun y hy => by have := hT y hy; omega) (by omega)
 rw [← List.foldl_append, List.append_assoc] at h2
 exact ⟨h1, h2⟩
theorem lD_len {st fo : List Int} (hT : ∀ i k, i ≤ st.length → k ≤ fo.length → ∀ y ∈ tellT st fo i k, y.length ≤ 24) {i k : Nat} (hi : i ≤ st.length) (hk : k ≤ fo.length) : (∀ y ∈ lD1 st fo i k, y.length ≤ 1000) ∧ (∀ y ∈ lD2 st fo i k, y.length ≤ 1000) ∧ ∀ y ∈ lD3 st fo i k, y.length ≤ 1000 := by
 refine ⟨?_, ?_, ?_⟩
 ·unfold lD1
  by_cases h : i < st.length ∧ k < fo.length
  ·rw [dif_pos h]
   by_cases h2 : dd st fo i k = dd st fo (i + 1) (k + 1) + (if st[i] = fo[k] then 0 else 1)
   ·rw [if_pos h2]
    exact app_len (pre_len (m := 24) (by omega) (hT _ _ (by omega) (by omega)) _) (pre_len (m := 24) (by omega) (hT _ _ (by omega) (by omega)) _)
   ·rw [if_neg h2]; intro y hy; cases hy
  ·rw [dif_neg h]; intro y hy; cases hy
 ·unfold lD2
  by_cases h : i < st.length
  ·rw [dif_pos h]
   by_cases h2 : dd st fo i k = dd st fo (i + 1) k + 1
   ·rw [if_pos h2]
    exact app_len (pre_len (m := 24) (by omega) (hT _ _ (by omega) (by omega)) _) (pre_len (m := 24) (by omega) (hT _ _ (by omega) (by omega)) _)
   ·rw [if_neg h2]; intro y hy; cases hy
  ·rw [dif_neg h]; intro y hy; cases hy
 ·unfold lD3
  by_cases h : k < fo.length
  ·rw [dif_pos h]
   by_cases h2 : dd st fo i k = dd st fo i (k + 1) + 1
   ·rw [if_pos h2]
    exact app_len (pre_len (m := 24) (by omega) (hT _ _ (by omega) (by omega)) _) (pre_len (m := 24) (by omega) (hT _ _ (by omega) (by omega)) _)
   ·rw [if_neg h2]; intro y hy; cases hy
  ·rw [dif_neg h]; intro y hy; cases hy
theorem lists8_con (t : Tl) (hs : okN t.st = true) (hf : okN t.fo = true) (h1 : t.st.length ≤ 12) (h2 : t.fo.length ≤ 12) : Con Tryd.prog 101 [.agg (tC t)] [] (Is (.tup [.sl 1 (slC 1 iC) (tellT t.st t.fo 0 0), .val (.bool (decide (((tellT t.st t.fo 0 0).length : Int) ≤ 200)))]) []) := by
 obtain ⟨id, hh, st, fo⟩ := t
 dsimp only at hs hf h1 h2 ⊢
 have CT := table_con st fo (by omega) (by omega)
 have hTl : ∀ i k, i ≤ st.length → k ≤ fo.length → ∀ y ∈ tellT st fo i k, y.length ≤ 24 := fun i k hi hk y hy => by
  have := (tell_shr hs hf hi hk).el y hy; omega
 have hTn : ∀ i k, i ≤ st.length → k ≤ fo.length → (tellT st fo i k).length ≤ 201 := fun i k hi hk => (tell_shr hs hf hi hk).len
 refine con_of Tryd.func101 rfl (enters_of Tryd.func101 (by kernel_rfl) rfl) rfl ?_; intro n w0 F0 G0
 refine zS ?_;repeat(refine yA ?_;intro p hp;refine zS ?_)
 revert p
 intro p1 hp1
 (first | (apply wl_call (CT); exact rfl; exact rfl) | (apply wl_callR (CT); exact rfl; exact zM; exact rfl))
 refine zS ?_
 refine W_run 7 [18, 19, 20, 21, 22, 23, 5] [0, 1, 2, 3, 4, 5, 6] Cut.nil rfl goFlt mixedS (by kernel_rfl) rfl ?_
 refine rpv [] [] ?_
 refine rpv [0] [] ?_
 refine rpv [1] [] ?_
 refine rpv [] [] ?_
 refine rpv [3] [] ?_
 refine rpv [4] [] ?_
 refine rpv [2] [] ?_
 refine ⟨⟨by kernel_rfl, by kernel_rfl⟩, fun vs => ?_⟩
 apply WL_auto [5, 6]
 ·exact goPk
 ·exact goNrm
 ·kernel_rfl
 ·kernel_rfl
 refine zS ?_
 refine zS ?_
 dsimp only
 refine zS ?_
 (apply wl_make (roC 1 (slC 1 (slC 1 iC))); exact inferInstance; exact inferInstance; exact inferInstance; exact inferInstance; exact rfl; exact rfl; exact rfl; (first | omega | (simp; omega)); exact rfl)
 intro vo
 rw [telX_z st fo]
 refine WL_one zM (fun ho => ?_)
 refine zS ?_
 refine W_loopJ (fun (j : Nat) => ⟨[(1, .val p1), (4, .sl 1 (slC 1 iC) (tabL st fo)), (5, .val (.int .i64 st.length)), (6, .val (.int .i64 fo.length)), (7, .val vo), (8, .val (.int .i64 ((j : Int) - 1)))], [.row vo 191 1 (roC 1 (slC 1 (slC 1 iC))) (telX st fo j), .box p1 (tC ⟨id, hh, st, fo⟩) 24]⟩) (fun j => j ≤ st.length + 1) (fun j => j) (st.length + 1) (fun _ _ st' => st_sub2 st' (by rw [show (((st.length + 1 : Nat) : Int) - 1) = (st.length : Int) by omega]; exact zR) zP) (Nat.le_refl _) ?_
 intro j hj
 refine zS ?_
 match j, hj with
 | 0, hj =>
  have hx0 : (telX st fo 0)[0]? = some (.inl (telR st fo 0)) := telX_at (Nat.zero_le _) (Nat.le_refl _)
  have hr0 : (telR st fo 0)[0]? = some (tellT st fo 0 0) := telR_at (Nat.zero_le _)
  have hxl := telX_len st fo 0
  have hrl := telR_len st fo 0
  refine zS ?_
  refine W_run 13 [245, 246, 247, 248, 249, 250, 251, 252, 253, 254, 255, 256, 2] [0, 1, 2, 3, 4, 5, 6, 7, 8, 9, 10, 11, 12] Cut.nil rfl goFlt mixedS (by kernel_rfl) rfl ?_
  refine rpv [] [] ?_
  refine rpv [0] [] ?_
  refine rpv [1] [] ?_
  refine rpv [2] [] ?_
  refine rpv [3] [] ?_
  refine rpv [] [] ?_
  refine rpv [5] [] ?_
  refine rpv [6] [] ?_
  refine rpv [7] [] ?_
  refine rpv [8] [] ?_
  refine rpv [9] [] ?_
  refine rpv [10] [] ?_
  refine rpv [4] [] ?_
  refine ⟨⟨by kernel_rfl, by kernel_rfl⟩, fun vs => ?_⟩
  apply WL_auto [11, 12]
  ·exact goPk
  ·exact goNrm
  ·kernel_rfl
  ·kernel_rfl
  refine zS ?_
  refine zS ?_
  (apply res2; exact rfl; exact rfl; exact rfl; exact ⟨rfl, rfl⟩)
 | i + 1, hj =>
  have hia' : i ≤ st.length := by omega
  rw [show (((i + 1 : Nat) : Int) - 1) = (i : Int) by omega, decide_eq_true (show (0 : Int) ≤ (i : Int) by omega)]
  have hXl0 := telX_len st fo (i + 1)
  refine zS ?_
  (apply wl_make (slC 1 (slC 1 iC)); exact inferInstance; exact inferInstance; exact inferInstance; exact inferInstance; exact rfl; exact rfl; exact rfl; (first | omega | (simp; omega)); exact rfl)
  intro v
  rw [telK_z st fo i]
  refine WL_one zM (fun hv => ?_)
  obtain ⟨ov, rfl⟩ : ∃ o : OV, v = o.1 := ⟨⟨v, hv.out (fun _ => none) v rfl⟩, rfl⟩
  refine zS ?_
  (apply wl_storeRx (Sum.inr ov); exact rfl; exact zM; exact rfl; exact inferInstance; exact inferInstance; (case hk => omega); exact Nat.one_pos; exact rfl)
  have hXi : ((telX st fo (i + 1)).set i (.inr ov))[i]? = some (.inr ov) := by rw [List.getElem?_set, if_pos rfl, if_pos (by omega)]
  have hXn : i < st.length → ((telX st fo (i + 1)).set i (.inr ov))[i + 1]? = some (.inl (telR st fo (i + 1))) := fun h => by
   rw [List.getElem?_set, if_neg (by omega)]; exact telX_at (by omega) (Nat.le_refl _)
  have hfin : ((telX st fo (i + 1)).set i (.inr ov)).set i (.inl (telK st fo i 0)) = telX st fo i := by rw [List.set_set, telK_0, telX_set]
  have hXl : ((telX st fo (i + 1)).set i (.inr ov)).length = st.length + 1 := by rw [List.length_set]; exact hXl0
  generalize (telX st fo (i + 1)).set i (.inr ov) = X at hXi hXn hfin hXl ⊢
  have hXiE : X[i]'(by omega) = .inr ov := by rw [List.getElem?_eq_getElem (by omega)] at hXi; exact Option.some.inj hXi
  refine zS ?_
  refine W_loopJ (fun (q : Nat) => ⟨[(1, .val p1), (4, .sl 1 (slC 1 iC) (tabL st fo)), (5, .val (.int .i64 st.length)), (6, .val (.int .i64 fo.length)), (7, .val vo), (8, .val (.int .i64 (i : Int))), (9, .val (.int .i64 ((q : Int) - 1)))], [.row ov.1 93 1 (slC 1 (slC 1 iC)) (telK st fo i q), .row vo 191 1 (roC 1 (slC 1 (slC 1 iC))) X, .box p1 (tC ⟨id, hh, st, fo⟩) 24]⟩) (fun q => q ≤ fo.length + 1) (fun q => q) (fo.length + 1) (fun _ _ st' => st_sub2 st' (by rw [show (((fo.length + 1 : Nat) : Int) - 1) = (fo.length : Int) by omega]; exact zR) zP) (Nat.le_refl _) ?_
  intro q hq
  match q, hq with
  | 0, hq =>
   refine zS ?_
   refine ⟨i, fun _ _ st' => st_sub2 (st_frzRow (j := i) zN zM hXi rfl st') zR (by rw [hfin]; exact zP), by omega, by omega⟩
  | k + 1, hq =>
   have hkb' : k ≤ fo.length := by omega
   have hKl := telK_len st fo i (k + 1)
   have htl := tabL_len st fo
   have hl1 := lD_len hTl hia' hkb'
   have ht0 := tabL_at (a := st) (b := fo) (i := i) hia'
   have hr0 := tabR_len st fo i
   have hr1 := tabR_len st fo (i + 1)
   have hr00 := tabR_at (a := st) (b := fo) (i := i) (k := k) hkb'
   have hd00 := dd_b st fo i k
   refine W_cutN 1 (fun (_ : Unit) => ⟨[(1, .val p1), (4, .sl 1 (slC 1 iC) (tabL st fo)), (5, .val (.int .i64 st.length)), (6, .val (.int .i64 fo.length)), (7, .val vo), (8, .val (.int .i64 (i : Int))), (9, .val (.int .i64 (k : Int)))], [.row ov.1 93 1 (slC 1 (slC 1 iC)) (telK st fo i (k + 1)), .row vo 191 1 (roC 1 (slC 1 (slC 1 iC))) X, .box p1 (tC ⟨id, hh, st, fo⟩) 24]⟩) (fun _ => True) ?_ ?_
   ·intro y K
    refine zS ?_
    rw [show (((k + 1 : Nat) : Int) - 1) = (k : Int) by omega, decide_eq_true (show (0 : Int) ≤ (k : Int) by omega)]
    refine zS ?_
    exact W_back K () trivial (fun _ _ st' => st_sub2 st' zR zP)
   ·intro _ _
    refine W_seq ?_
    refine W_block ?_
    refine W_cutN 2 (fun (_ : Unit) => ⟨[(1, .val p1), (4, .sl 1 (slC 1 iC) (tabL st fo)), (5, .val (.int .i64 st.length)), (6, .val (.int .i64 fo.length)), (7, .val vo), (8, .val (.int .i64 (i : Int))), (9, .val (.int .i64 (k : Int))), (10, .sl 1 (slC 1 iC) ([] : List (List Int)))], [.row ov.1 93 1 (slC 1 (slC 1 iC)) (telK st fo i (k + 1)), .row vo 191 1 (roC 1 (slC 1 (slC 1 iC))) X, .box p1 (tC ⟨id, hh, st, fo⟩) 24]⟩) (fun _ => ¬ (i = st.length ∧ k = fo.length)) ?_ ?_
    ·intro y K
     by_cases hend : i = st.length ∧ k = fo.length
     ·have e : tellT st fo i k = [[]] := by rw [hend.1, hend.2]; exact tellT_end st fo
      have hset := telK_set (st := st) (fo := fo) (i := i) (k := k)
      rw [e] at hset
      refine zS ?_
      rw [decide_eq_true (show (i : Int) = (st.length : Int) by omega)]
      refine zS ?_
      rw [decide_eq_true (show (k : Int) = (fo.length : Int) by omega)]
      refine zS ?_
      (apply wl_litF (slC 1 iC) (xs := [[]]); exact inferInstance; exact inferInstance; exact inferInstance; (apply Elems.cons; exact rfl; exact cellsNil 1 iC; exact rfl; exact Elems.nil); exact rfl; exact (of_decide_eq_true rfl); exact rfl)
      rw [hXiE]
      refine zS ?_
      rw [hset]
      refine ⟨k, fun _ _ st' => st_sub2 st' zR zP, by omega, by omega⟩
     ·by_cases hi : i = st.length
      ·refine zS ?_
       rw [decide_eq_true (show (i : Int) = (st.length : Int) by omega)]
       refine zS ?_
       rw [decide_eq_false (show ¬ (k : Int) = (fo.length : Int) by omega)]
       refine zS ?_
       exact W_back K () hend (fun _ _ st' => st_sub2 (st_nilR7 10 1 (slC 1 iC) rfl st') zR zP)
      ·refine zS ?_
       rw [decide_eq_false (show ¬ (i : Int) = (st.length : Int) by omega)]
       refine zS ?_
       exact W_back K () hend (fun _ _ st' => st_sub2 (st_nilR7 10 1 (slC 1 iC) rfl st') zR zP)
    ·intro _ hne
     refine W_cutN 1 (fun (o : List (List Int)) => ⟨[(1, .val p1), (4, .sl 1 (slC 1 iC) (tabL st fo)), (5, .val (.int .i64 st.length)), (6, .val (.int .i64 fo.length)), (7, .val vo), (8, .val (.int .i64 (i : Int))), (9, .val (.int .i64 (k : Int))), (10, .sl 1 (slC 1 iC) o)], [.row ov.1 93 1 (slC 1 (slC 1 iC)) (telK st fo i (k + 1)), .row vo 191 1 (roC 1 (slC 1 (slC 1 iC))) X, .box p1 (tC ⟨id, hh, st, fo⟩) 24]⟩) (fun o => o = ([] ++ lD1 st fo i k).foldl (putL 201) []) ?_ ?_
     ·intro y K
      by_cases hb : i < st.length ∧ k < fo.length
      ·have ht1 := tabL_at (a := st) (b := fo) (i := i + 1) hb.1
       have hr11 := tabR_at (a := st) (b := fo) (i := i + 1) (k := k + 1) hb.2
       have hd11 := dd_b st fo (i + 1) (k + 1)
       have hXn' := hXn hb.1
       have hRl := telR_len st fo (i + 1)
       have hR1 := telR_at (st := st) (fo := fo) (i := i + 1) (k := k + 1) hb.2
       have hqa : st[i]? = some st[i] := List.getElem?_eq_getElem hb.1
       have hqb : fo[k]? = some fo[k] := List.getElem?_eq_getElem hb.2
       have hstep := dd_step hb.1 hb.2
       obtain ⟨B1, B2⟩ := bef2 (D := []) (fun y hy => by cases hy) (hTl (i + 1) (k + 1) hb.1 hb.2) (hTn (i + 1) (k + 1) hb.1 hb.2) st[i] fo[k]
       have B1 : Con _ _ [.sl 1 (slC 1 iC) ([] : List (List Int)), _, _] _ _ := B1
       refine zS ?_
       rw [decide_eq_true (show (i : Int) < (st.length : Int) by omega)]
       refine zS ?_
       rw [decide_eq_true (show (k : Int) < (fo.length : Int) by omega)]
       refine zS ?_
       refine W_run 11 [66, 67, 68, 69, 70, 71, 72, 73, 74, 75, 11] [0, 1, 2, 3, 4, 5, 6, 7, 8, 9, 10] Cut.nil rfl goFlt mixedS (by kernel_rfl) rfl ?_
       refine rpv [] [] ?_
       refine rpv [0] [] ?_
       refine rpv [] [] ?_
       refine rpv [1, 2] [] ?_
       refine rpv [3] [] ?_
       refine rpv [] [] ?_
       refine rpv [5] [] ?_
       refine rpv [] [] ?_
       refine rpv [6, 7] [] ?_
       refine rpv [8] [] ?_
       refine rpv [4] [] ?_
       refine ⟨⟨by kernel_rfl, by kernel_rfl⟩, fun vs => ?_⟩
       apply WL_auto [9, 10]
       ·exact goPk
       ·exact goNrm
       ·kernel_rfl
       ·kernel_rfl
       refine zS ?_
       refine zS ?_
       by_cases hab : st[i] = fo[k]
       ·have hdd : dd st fo i k = dd st fo (i + 1) (k + 1) := by
         unfold dd
         rw [List.drop_eq_getElem_cons hb.1, List.drop_eq_getElem_cons hb.2, hab, dist_same]
        have hJ : ([] ++ ((tellT st fo (i + 1) (k + 1)).map (preL st[i]) ++ (tellT st fo (i + 1) (k + 1)).map (preL fo[k]))).foldl (putL 201) [] = ([] ++ lD1 st fo i k).foldl (putL 201) [] := by
         unfold lD1; rw [dif_pos hb, if_pos (by rw [if_pos hab]; exact hdd)]
        refine W_run 47 [76, 77, 78, 79, 80, 81, 82, 83, 84, 85, 86, 87, 88, 89, 90, 91, 92, 93, 94, 95, 96, 97, 98, 99, 100, 101, 102, 103, 104, 105, 106, 107, 108, 109, 110, 111, 112, 113, 114, 115, 116, 117, 118, 119, 120, 121, 122] [0, 1, 2, 3, 4, 5, 6, 7, 8, 9, 10, 11, 12, 13, 14, 15, 16, 17, 18, 19, 20, 21, 22, 23, 24, 25, 26, 27, 28, 29, 30, 31, 32, 33, 34, 35, 36, 37, 38, 39, 40, 41, 42, 43, 44, 45, 46] Cut.nil rfl goFlt mixedS (by kernel_rfl) rfl ?_
        refine rpv [] [] ?_
        refine rpv [] [] ?_
        refine Run.pv [0, 1] [] rfl (fun vs => by apply ltr_pk; exact goPk; (refine ltr ?_; apply LT_bool true; apply lt_eql; exact rfl; exact rfl; exact decide_eq_true hab)) goApp ?_
        refine rpv [2] [] ?_
        refine ryv [3] ?_
        refine ryv [3] ?_
        refine ryv [3, 4, 5] ?_
        refine ryv [3, 6] ?_
        refine ryv [3] ?_
        refine ryv [3, 7, 8] ?_
        refine ryv [3, 9] ?_
        refine ryv [3] ?_
        refine ryv [3] ?_
        refine ryv [3, 12] ?_
        refine ryv [3, 11, 13] ?_
        refine ryv [3, 14] ?_
        refine ryv [3] ?_
        refine ryv [3, 16] ?_
        refine ryv [3, 15, 17] ?_
        refine ryv [3, 18] ?_
        refine ryx [3, 10, 19] (fun vs => by apply ltr_pk; exact goPk; (refine ltr ?_; apply LT_bool true; apply lt_eql; exact rfl; exact rfl; exact decide_eq_true (by omega))) ?_
        refine rpv [3, 20] [] ?_
        refine rpv [21] [] ?_
        refine rno [22] ?_
        refine rno [22] ?_
        refine rno [22, 23, 24] ?_
        refine rno [22, 25] ?_
        refine Run.noU [26] [] rfl rfl (fun vs => by apply look_pk; exact goPk; exact rfl) goApp ?_
        refine Run.noU [26] [] rfl rfl (fun vs => by apply look_pk; exact goPk; exact rfl) goApp ?_
        refine Run.noU [26, 27, 28] [] rfl rfl (fun vs => by apply look_pk; exact goPk; exact rfl) goApp ?_
        refine Run.noU [26, 29] [] rfl rfl (fun vs => by apply look_pk; exact goPk; exact rfl) goApp ?_
        refine Run.noU [26] [] rfl rfl (fun vs => by apply look_pk; exact goPk; exact rfl) goApp ?_
        refine Run.noU [26, 30, 31] [] rfl rfl (fun vs => by apply look_pk; exact goPk; exact rfl) goApp ?_
        refine Run.noU [26, 32] [] rfl rfl (fun vs => by apply look_pk; exact goPk; exact rfl) goApp ?_
        refine Run.noU [26] [] rfl rfl (fun vs => by apply look_pk; exact goPk; exact rfl) goApp ?_
        refine Run.noU [26] [] rfl rfl (fun vs => by apply look_pk; exact goPk; exact rfl) goApp ?_
        refine Run.noU [26, 35] [] rfl rfl (fun vs => by apply look_pk; exact goPk; exact rfl) goApp ?_
        refine Run.noU [26, 34, 36] [] rfl rfl (fun vs => by apply look_pk; exact goPk; exact rfl) goApp ?_
        refine Run.noU [26, 37] [] rfl rfl (fun vs => by apply look_pk; exact goPk; exact rfl) goApp ?_
        refine Run.noU [26] [] rfl rfl (fun vs => by apply look_pk; exact goPk; exact rfl) goApp ?_
        refine Run.noU [26, 39] [] rfl rfl (fun vs => by apply look_pk; exact goPk; exact rfl) goApp ?_
        refine Run.noU [26, 38, 40] [] rfl rfl (fun vs => by apply look_pk; exact goPk; exact rfl) goApp ?_
        refine Run.noU [26, 41] [] rfl rfl (fun vs => by apply look_pk; exact goPk; exact rfl) goApp ?_
        refine Run.noU [26, 42] [] rfl rfl (fun vs => by apply look_pk; exact goPk; exact rfl) goApp ?_
        refine Run.noU [26, 33, 43] [] rfl rfl (fun vs => by apply look_pk; exact goPk; exact rfl) goApp ?_
        refine rno [22, 26, 44] ?_
        refine rpv [22, 45] [] ?_
        refine ⟨⟨by kernel_rfl, by kernel_rfl⟩, fun vs => ?_⟩
        apply WL_auto [46]
        ·exact goPk
        ·exact goNrm
        ·kernel_rfl
        ·kernel_rfl
        refine zS ?_
        refine zS ?_
        refine W_run 22 [123, 124, 125, 126, 127, 128, 129, 130, 131, 132, 133, 134, 135, 136, 137, 138, 139, 140, 141, 142, 143, 144] [0, 1, 2, 3, 4, 5, 6, 7, 8, 9, 10, 11, 12, 13, 14, 15, 16, 17, 18, 19, 20, 21] Cut.nil rfl goFlt mixedS (by kernel_rfl) rfl ?_
        refine rpv [] [] ?_
        refine rpv [] [] ?_
        refine rpv [] [] ?_
        refine rpv [] [] ?_
        refine rpv [3] [] ?_
        refine rpv [2, 4] [] ?_
        refine rpv [5] [] ?_
        refine rpv [] [] ?_
        refine rpv [7] [] ?_
        refine rpv [6, 8] [] ?_
        refine rpv [9] [] ?_
        refine Run.pv [0, 1, 10] [] rfl (fun vs => by apply ltr_pk; exact goPk; (refine ltr ?_; refine lt_call ?_ (B1); exact rfl)) goApp ?_
        refine rpv [] [] ?_
        refine rpv [] [] ?_
        refine rpv [] [] ?_
        refine rpv [14] [] ?_
        refine rpv [13, 15] [] ?_
        refine rpv [16] [] ?_
        refine rpv [] [] ?_
        refine rpv [18] [] ?_
        refine rpv [17, 19] [] ?_
        refine rpv [20] [] ?_
        refine ⟨⟨by kernel_rfl, by kernel_rfl⟩, fun vs => ?_⟩
        apply WL_auto [11, 12, 21]
        ·exact goPk
        ·exact goNrm
        ·kernel_rfl
        ·kernel_rfl
        refine zS ?_
        (first | (apply wl_call (B2); exact rfl; exact rfl) | (apply wl_callR (B2); exact rfl; exact zM; exact rfl))
        refine zS ?_
        exact W_back K _ hJ (fun _ _ st' => st_sub2 st' zR zP)
       ·by_cases hdd : dd st fo i k = dd st fo (i + 1) (k + 1) + 1
        ·have hJ : ([] ++ ((tellT st fo (i + 1) (k + 1)).map (preL st[i]) ++ (tellT st fo (i + 1) (k + 1)).map (preL fo[k]))).foldl (putL 201) [] = ([] ++ lD1 st fo i k).foldl (putL 201) [] := by
          unfold lD1; rw [dif_pos hb, if_pos (by rw [if_neg hab]; exact hdd)]
         refine W_run 47 [76, 77, 78, 79, 80, 81, 82, 83, 84, 85, 86, 87, 88, 89, 90, 91, 92, 93, 94, 95, 96, 97, 98, 99, 100, 101, 102, 103, 104, 105, 106, 107, 108, 109, 110, 111, 112, 113, 114, 115, 116, 117, 118, 119, 120, 121, 122] [0, 1, 2, 3, 4, 5, 6, 7, 8, 9, 10, 11, 12, 13, 14, 15, 16, 17, 18, 19, 20, 21, 22, 23, 24, 25, 26, 27, 28, 29, 30, 31, 32, 33, 34, 35, 36, 37, 38, 39, 40, 41, 42, 43, 44, 45, 46] Cut.nil rfl goFlt mixedS (by kernel_rfl) rfl ?_
         refine rpv [] [] ?_
         refine rpv [] [] ?_
         refine Run.pv [0, 1] [] rfl (fun vs => by apply ltr_pk; exact goPk; (refine ltr ?_; apply LT_bool false; apply lt_eql; exact rfl; exact rfl; exact decide_eq_false hab)) goApp ?_
         refine rpv [2] [] ?_
         refine rno [3] ?_
         refine rno [3] ?_
         refine rno [3, 4, 5] ?_
         refine rno [3, 6] ?_
         refine rno [3] ?_
         refine rno [3, 7, 8] ?_
         refine rno [3, 9] ?_
         refine rno [3] ?_
         refine rno [3] ?_
         refine rno [3, 12] ?_
         refine rno [3, 11, 13] ?_
         refine rno [3, 14] ?_
         refine rno [3] ?_
         refine rno [3, 16] ?_
         refine rno [3, 15, 17] ?_
         refine rno [3, 18] ?_
         refine rno [3, 10, 19] ?_
         refine rpv [3, 20] [] ?_
         refine rpv [21] [] ?_
         refine ryv [22] ?_
         refine ryv [22] ?_
         refine ryx [22, 23, 24] (fun vs => by apply ltr_pk; exact goPk; (refine ltr ?_; apply LT_bool true; apply lt_neq; exact rfl; exact rfl; (simp [hab]))) ?_
         refine ryv [22, 25] ?_
         refine ryv [26] ?_
         refine ryv [26] ?_
         refine ryv [26, 27, 28] ?_
         refine ryv [26, 29] ?_
         refine ryv [26] ?_
         refine ryv [26, 30, 31] ?_
         refine ryv [26, 32] ?_
         refine ryv [26] ?_
         refine ryv [26] ?_
         refine ryv [26, 35] ?_
         refine ryv [26, 34, 36] ?_
         refine ryv [26, 37] ?_
         refine ryv [26] ?_
         refine ryv [26, 39] ?_
         refine ryv [26, 38, 40] ?_
         refine ryv [26, 41] ?_
         refine ryv [26, 42] ?_
         refine ryx [26, 33, 43] (fun vs => by apply ltr_pk; exact goPk; (refine ltr ?_; apply LT_bool true; apply lt_eql; exact rfl; exact rfl; exact decide_eq_true (by omega))) ?_
         refine ryv [22, 26, 44] ?_
         refine rpv [22, 45] [] ?_
         refine ⟨⟨by kernel_rfl, by kernel_rfl⟩, fun vs => ?_⟩
         apply WL_auto [46]
         ·exact goPk
         ·exact goNrm
         ·kernel_rfl
         ·kernel_rfl
         refine zS ?_
         refine zS ?_
         refine W_run 22 [123, 124, 125, 126, 127, 128, 129, 130, 131, 132, 133, 134, 135, 136, 137, 138, 139, 140, 141, 142, 143, 144] [0, 1, 2, 3, 4, 5, 6, 7, 8, 9, 10, 11, 12, 13, 14, 15, 16, 17, 18, 19, 20, 21] Cut.nil rfl goFlt mixedS (by kernel_rfl) rfl ?_
         refine rpv [] [] ?_
         refine rpv [] [] ?_
         refine rpv [] [] ?_
         refine rpv [] [] ?_
         refine rpv [3] [] ?_
         refine rpv [2, 4] [] ?_
         refine rpv [5] [] ?_
         refine rpv [] [] ?_
         refine rpv [7] [] ?_
         refine rpv [6, 8] [] ?_
         refine rpv [9] [] ?_
         refine Run.pv [0, 1, 10] [] rfl (fun vs => by apply ltr_pk; exact goPk; (refine ltr ?_; refine lt_call ?_ (B1); exact rfl)) goApp ?_
         refine rpv [] [] ?_
         refine rpv [] [] ?_
         refine rpv [] [] ?_
         refine rpv [14] [] ?_
         refine rpv [13, 15] [] ?_
         refine rpv [16] [] ?_
         refine rpv [] [] ?_
         refine rpv [18] [] ?_
         refine rpv [17, 19] [] ?_
         refine rpv [20] [] ?_
         refine ⟨⟨by kernel_rfl, by kernel_rfl⟩, fun vs => ?_⟩
         apply WL_auto [11, 12, 21]
         ·exact goPk
         ·exact goNrm
         ·kernel_rfl
         ·kernel_rfl
         refine zS ?_
         (first | (apply wl_call (B2); exact rfl; exact rfl) | (apply wl_callR (B2); exact rfl; exact zM; exact rfl))
         refine zS ?_
         exact W_back K _ hJ (fun _ _ st' => st_sub2 st' zR zP)
        ·have hJ : ([] : List (List Int)) = ([] ++ lD1 st fo i k).foldl (putL 201) [] := by
          unfold lD1; rw [dif_pos hb, if_neg (by rw [if_neg hab]; exact hdd)]; rfl
         refine W_run 47 [76, 77, 78, 79, 80, 81, 82, 83, 84, 85, 86, 87, 88, 89, 90, 91, 92, 93, 94, 95, 96, 97, 98, 99, 100, 101, 102, 103, 104, 105, 106, 107, 108, 109, 110, 111, 112, 113, 114, 115, 116, 117, 118, 119, 120, 121, 122] [0, 1, 2, 3, 4, 5, 6, 7, 8, 9, 10, 11, 12, 13, 14, 15, 16, 17, 18, 19, 20, 21, 22, 23, 24, 25, 26, 27, 28, 29, 30, 31, 32, 33, 34, 35, 36, 37, 38, 39, 40, 41, 42, 43, 44, 45, 46] Cut.nil rfl goFlt mixedS (by kernel_rfl) rfl ?_
         refine rpv [] [] ?_
         refine rpv [] [] ?_
         refine Run.pv [0, 1] [] rfl (fun vs => by apply ltr_pk; exact goPk; (refine ltr ?_; apply LT_bool false; apply lt_eql; exact rfl; exact rfl; exact decide_eq_false hab)) goApp ?_
         refine rpv [2] [] ?_
         refine rno [3] ?_
         refine rno [3] ?_
         refine rno [3, 4, 5] ?_
         refine rno [3, 6] ?_
         refine rno [3] ?_
         refine rno [3, 7, 8] ?_
         refine rno [3, 9] ?_
         refine rno [3] ?_
         refine rno [3] ?_
         refine rno [3, 12] ?_
         refine rno [3, 11, 13] ?_
         refine rno [3, 14] ?_
         refine rno [3] ?_
         refine rno [3, 16] ?_
         refine rno [3, 15, 17] ?_
         refine rno [3, 18] ?_
         refine rno [3, 10, 19] ?_
         refine rpv [3, 20] [] ?_
         refine rpv [21] [] ?_
         refine ryv [22] ?_
         refine ryv [22] ?_
         refine ryx [22, 23, 24] (fun vs => by apply ltr_pk; exact goPk; (refine ltr ?_; apply LT_bool true; apply lt_neq; exact rfl; exact rfl; (simp [hab]))) ?_
         refine ryv [22, 25] ?_
         refine ryv [26] ?_
         refine ryv [26] ?_
         refine ryv [26, 27, 28] ?_
         refine ryv [26, 29] ?_
         refine ryv [26] ?_
         refine ryv [26, 30, 31] ?_
         refine ryv [26, 32] ?_
         refine ryv [26] ?_
         refine ryv [26] ?_
         refine ryv [26, 35] ?_
         refine ryv [26, 34, 36] ?_
         refine ryv [26, 37] ?_
         refine ryv [26] ?_
         refine ryv [26, 39] ?_
         refine ryv [26, 38, 40] ?_
         refine ryv [26, 41] ?_
         refine ryv [26, 42] ?_
         refine ryx [26, 33, 43] (fun vs => by apply ltr_pk; exact goPk; (refine ltr ?_; apply LT_bool false; apply lt_eql; exact rfl; exact rfl; exact decide_eq_false (by omega))) ?_
         refine ryv [22, 26, 44] ?_
         refine rpv [22, 45] [] ?_
         refine ⟨⟨by kernel_rfl, by kernel_rfl⟩, fun vs => ?_⟩
         apply WL_auto [46]
         ·exact goPk
         ·exact goNrm
         ·kernel_rfl
         ·kernel_rfl
         refine zS ?_
         refine zS ?_
         exact W_back K _ hJ (fun _ _ st' => st_sub2 st' zR zP)
      ·have hJ : ([] : List (List Int)) = ([] ++ lD1 st fo i k).foldl (putL 201) [] := by
        unfold lD1; rw [dif_neg hb]; rfl
       by_cases hi : i < st.length
       ·refine zS ?_
        rw [decide_eq_true (show (i : Int) < (st.length : Int) by omega)]
        refine zS ?_
        rw [decide_eq_false (show ¬ (k : Int) < (fo.length : Int) by omega)]
        refine zS ?_
        exact W_back K _ hJ (fun _ _ st' => st_sub2 st' zR zP)
       ·refine zS ?_
        rw [decide_eq_false (show ¬ (i : Int) < (st.length : Int) by omega)]
        refine zS ?_
        exact W_back K _ hJ (fun _ _ st' => st_sub2 st' zR zP)
     ·intro o1 ho1
      refine W_cutN 1 (fun (o : List (List Int)) => ⟨[(1, .val p1), (4, .sl 1 (slC 1 iC) (tabL st fo)), (5, .val (.int .i64 st.length)), (6, .val (.int .i64 fo.length)), (7, .val vo), (8, .val (.int .i64 (i : Int))), (9, .val (.int .i64 (k : Int))), (10, .sl 1 (slC 1 iC) o)], [.row ov.1 93 1 (slC 1 (slC 1 iC)) (telK st fo i (k + 1)), .row vo 191 1 (roC 1 (slC 1 (slC 1 iC))) X, .box p1 (tC ⟨id, hh, st, fo⟩) 24]⟩) (fun o => o = (([] ++ lD1 st fo i k) ++ lD2 st fo i k).foldl (putL 201) []) ?_ ?_
      ·intro y K
       by_cases hb : i < st.length
       ·have ht1 := tabL_at (a := st) (b := fo) (i := i + 1) hb
        have hr11 := tabR_at (a := st) (b := fo) (i := i + 1) (k := k) hkb'
        have hXn' := hXn hb
        have hRl := telR_len st fo (i + 1)
        have hR1 := telR_at (st := st) (fo := fo) (i := i + 1) (k := k) hkb'
        have hqa : st[i]? = some st[i] := List.getElem?_eq_getElem hb
        obtain ⟨B1, B2⟩ := bef2 (D := [] ++ lD1 st fo i k) (app_len (fun y hy => by cases hy) hl1.1) (hTl (i + 1) k hb hkb') (hTn (i + 1) k hb hkb') st[i] 0
        have hd11 := dd_b st fo (i + 1) k
        rw [← ho1] at B1
        by_cases hdd : dd st fo i k = dd st fo (i + 1) k + 1
        ·have hJ : (([] ++ lD1 st fo i k) ++ ((tellT st fo (i + 1) k).map (preL st[i]) ++ (tellT st fo (i + 1) k).map (preL 0))).foldl (putL 201) [] = (([] ++ lD1 st fo i k) ++ lD2 st fo i k).foldl (putL 201) [] := by
          unfold lD2; rw [dif_pos hb, if_pos hdd]
         refine zS ?_
         refine W_run 20 [146, 147, 148, 149, 150, 151, 152, 153, 154, 155, 156, 157, 158, 159, 160, 161, 162, 163, 164, 165] [0, 1, 2, 3, 4, 5, 6, 7, 8, 9, 10, 11, 12, 13, 14, 15, 16, 17, 18, 19] Cut.nil rfl goFlt mixedS (by kernel_rfl) rfl ?_
         refine rpv [] [] ?_
         refine rpv [] [] ?_
         refine Run.pv [0, 1] [] rfl (fun vs => by apply ltr_pk; exact goPk; (refine ltr ?_; apply LT_bool true; apply lt_lss; exact rfl; exact rfl; exact decide_eq_true (by omega))) goApp ?_
         refine rpv [2] [] ?_
         refine ryv [3] ?_
         refine ryv [3] ?_
         refine ryv [3, 4, 5] ?_
         refine ryv [3, 6] ?_
         refine ryv [3] ?_
         refine ryv [3, 7, 8] ?_
         refine ryv [3, 9] ?_
         refine ryv [3] ?_
         refine ryv [3] ?_
         refine ryv [3, 12] ?_
         refine ryv [3, 11, 13] ?_
         refine ryv [3, 14] ?_
         refine ryv [3] ?_
         refine ryv [3, 15, 16] ?_
         refine ryv [3, 17] ?_
         refine ryv [3, 18] ?_
         refine ⟨⟨by kernel_rfl, by kernel_rfl⟩, fun vs => ?_⟩
         apply WL_auto [3, 10, 19]
         ·exact goPk
         ·exact goNrm
         ·kernel_rfl
         ·kernel_rfl
         refine zS ?_
         rw [decide_eq_true (show ((dd st fo i k : Nat) : Int) = ((dd st fo (i + 1) k : Nat) : Int) + 1 by omega)]
         refine zS ?_
         refine W_run 23 [168, 169, 170, 171, 172, 173, 174, 175, 176, 177, 178, 179, 180, 181, 182, 183, 184, 185, 186, 187, 188, 189, 190] [0, 1, 2, 3, 4, 5, 6, 7, 8, 9, 10, 11, 12, 13, 14, 15, 16, 17, 18, 19, 20, 21, 22] Cut.nil rfl goFlt mixedS (by kernel_rfl) rfl ?_
         refine rpv [] [] ?_
         refine rpv [] [] ?_
         refine rpv [1] [] ?_
         refine rpv [] [] ?_
         refine rpv [2, 3] [] ?_
         refine rpv [4] [] ?_
         refine rpv [] [] ?_
         refine rpv [] [] ?_
         refine rpv [7] [] ?_
         refine rpv [6, 8] [] ?_
         refine rpv [9] [] ?_
         refine rpv [] [] ?_
         refine rpv [10, 11] [] ?_
         refine rpv [12] [] ?_
         refine Run.pv [0, 5, 13] [] rfl (fun vs => by apply ltr_pk; exact goPk; (refine ltr ?_; refine lt_call ?_ (B1); exact rfl)) goApp ?_
         refine rpv [] [] ?_
         refine rpv [] [] ?_
         refine rpv [16] [] ?_
         refine rpv [15, 17] [] ?_
         refine rpv [18] [] ?_
         refine rpv [] [] ?_
         refine rpv [19, 20] [] ?_
         refine rpv [21] [] ?_
         refine ⟨⟨by kernel_rfl, by kernel_rfl⟩, fun vs => ?_⟩
         apply WL_auto [14, 22]
         ·exact goPk
         ·exact goNrm
         ·kernel_rfl
         ·kernel_rfl
         refine zS ?_
         (first | (apply wl_call (B2); exact rfl; exact rfl) | (apply wl_callR (B2); exact rfl; exact zM; exact rfl))
         refine zS ?_
         exact W_back K _ hJ (fun _ _ st' => st_sub2 st' zR zP)
        ·have hJ : o1 = (([] ++ lD1 st fo i k) ++ lD2 st fo i k).foldl (putL 201) [] := by
          unfold lD2; rw [dif_pos hb, if_neg hdd, List.append_nil]; exact ho1
         refine zS ?_
         refine W_run 20 [146, 147, 148, 149, 150, 151, 152, 153, 154, 155, 156, 157, 158, 159, 160, 161, 162, 163, 164, 165] [0, 1, 2, 3, 4, 5, 6, 7, 8, 9, 10, 11, 12, 13, 14, 15, 16, 17, 18, 19] Cut.nil rfl goFlt mixedS (by kernel_rfl) rfl ?_
         refine rpv [] [] ?_
         refine rpv [] [] ?_
         refine Run.pv [0, 1] [] rfl (fun vs => by apply ltr_pk; exact goPk; (refine ltr ?_; apply LT_bool true; apply lt_lss; exact rfl; exact rfl; exact decide_eq_true (by omega))) goApp ?_
         refine rpv [2] [] ?_
         refine ryv [3] ?_
         refine ryv [3] ?_
         refine ryv [3, 4, 5] ?_
         refine ryv [3, 6] ?_
         refine ryv [3] ?_
         refine ryv [3, 7, 8] ?_
         refine ryv [3, 9] ?_
         refine ryv [3] ?_
         refine ryv [3] ?_
         refine ryv [3, 12] ?_
         refine ryv [3, 11, 13] ?_
         refine ryv [3, 14] ?_
         refine ryv [3] ?_
         refine ryv [3, 15, 16] ?_
         refine ryv [3, 17] ?_
         refine ryv [3, 18] ?_
         refine ⟨⟨by kernel_rfl, by kernel_rfl⟩, fun vs => ?_⟩
         apply WL_auto [3, 10, 19]
         ·exact goPk
         ·exact goNrm
         ·kernel_rfl
         ·kernel_rfl
         refine zS ?_
         rw [decide_eq_false (show ¬ ((dd st fo i k : Nat) : Int) = ((dd st fo (i + 1) k : Nat) : Int) + 1 by omega)]
         refine zS ?_
         exact W_back K _ hJ (fun _ _ st' => st_sub2 st' zR zP)
       ·have hJ : o1 = (([] ++ lD1 st fo i k) ++ lD2 st fo i k).foldl (putL 201) [] := by
         unfold lD2; rw [dif_neg hb, List.append_nil]; exact ho1
        refine zS ?_
        refine W_run 20 [146, 147, 148, 149, 150, 151, 152, 153, 154, 155, 156, 157, 158, 159, 160, 161, 162, 163, 164, 165] [0, 1, 2, 3, 4, 5, 6, 7, 8, 9, 10, 11, 12, 13, 14, 15, 16, 17, 18, 19] Cut.nil rfl goFlt mixedS (by kernel_rfl) rfl ?_
        refine rpv [] [] ?_
        refine rpv [] [] ?_
        refine Run.pv [0, 1] [] rfl (fun vs => by apply ltr_pk; exact goPk; (refine ltr ?_; apply LT_bool false; apply lt_lss; exact rfl; exact rfl; exact decide_eq_false (by omega))) goApp ?_
        refine rpv [2] [] ?_
        refine rno [3] ?_
        refine rno [3] ?_
        refine rno [3, 4, 5] ?_
        refine rno [3, 6] ?_
        refine rno [3] ?_
        refine rno [3, 7, 8] ?_
        refine rno [3, 9] ?_
        refine rno [3] ?_
        refine rno [3] ?_
        refine rno [3, 12] ?_
        refine rno [3, 11, 13] ?_
        refine rno [3, 14] ?_
        refine rno [3] ?_
        refine rno [3, 15, 16] ?_
        refine rno [3, 17] ?_
        refine rno [3, 18] ?_
        refine ⟨⟨by kernel_rfl, by kernel_rfl⟩, fun vs => ?_⟩
        apply WL_auto [3, 10, 19]
        ·exact goPk
        ·exact goNrm
        ·kernel_rfl
        ·kernel_rfl
        refine zS ?_
        refine zS ?_
        exact W_back K _ hJ (fun _ _ st' => st_sub2 st' zR zP)
      ·intro o2 ho2
       refine W_cutN 1 (fun (o : List (List Int)) => ⟨[(1, .val p1), (4, .sl 1 (slC 1 iC) (tabL st fo)), (5, .val (.int .i64 st.length)), (6, .val (.int .i64 fo.length)), (7, .val vo), (8, .val (.int .i64 (i : Int))), (9, .val (.int .i64 (k : Int))), (10, .sl 1 (slC 1 iC) o)], [.row ov.1 93 1 (slC 1 (slC 1 iC)) (telK st fo i (k + 1)), .row vo 191 1 (roC 1 (slC 1 (slC 1 iC))) X, .box p1 (tC ⟨id, hh, st, fo⟩) 24]⟩) (fun o => o = ((([] ++ lD1 st fo i k) ++ lD2 st fo i k) ++ lD3 st fo i k).foldl (putL 201) []) ?_ ?_
       ·intro y K
        by_cases hb : k < fo.length
        ·have hr11 := tabR_at (a := st) (b := fo) (i := i) (k := k + 1) hb
         have hK1 := telK_at (st := st) (fo := fo) (i := i) (q := k + 1) (k := k + 1) hb (Nat.le_refl _)
         have hqb : fo[k]? = some fo[k] := List.getElem?_eq_getElem hb
         obtain ⟨B1, B2⟩ := bef2 (D := ([] ++ lD1 st fo i k) ++ lD2 st fo i k) (app_len (app_len (fun y hy => by cases hy) hl1.1) hl1.2.1) (hTl i (k + 1) hia' hb) (hTn i (k + 1) hia' hb) fo[k] 0
         have hd11 := dd_b st fo i (k + 1)
         rw [← ho2] at B1
         by_cases hdd : dd st fo i k = dd st fo i (k + 1) + 1
         ·have hJ : ((([] ++ lD1 st fo i k) ++ lD2 st fo i k) ++ ((tellT st fo i (k + 1)).map (preL fo[k]) ++ (tellT st fo i (k + 1)).map (preL 0))).foldl (putL 201) [] = ((([] ++ lD1 st fo i k) ++ lD2 st fo i k) ++ lD3 st fo i k).foldl (putL 201) [] := by
           unfold lD3; rw [dif_pos hb, if_pos hdd]
          refine zS ?_
          refine W_run 20 [192, 193, 194, 195, 196, 197, 198, 199, 200, 201, 202, 203, 204, 205, 206, 207, 208, 209, 210, 211] [0, 1, 2, 3, 4, 5, 6, 7, 8, 9, 10, 11, 12, 13, 14, 15, 16, 17, 18, 19] Cut.nil rfl goFlt mixedS (by kernel_rfl) rfl ?_
          refine rpv [] [] ?_
          refine rpv [] [] ?_
          refine Run.pv [0, 1] [] rfl (fun vs => by apply ltr_pk; exact goPk; (refine ltr ?_; apply LT_bool true; apply lt_lss; exact rfl; exact rfl; exact decide_eq_true (by omega))) goApp ?_
          refine rpv [2] [] ?_
          refine ryv [3] ?_
          refine ryv [3] ?_
          refine ryv [3, 4, 5] ?_
          refine ryv [3, 6] ?_
          refine ryv [3] ?_
          refine ryv [3, 7, 8] ?_
          refine ryv [3, 9] ?_
          refine ryv [3] ?_
          refine ryv [3] ?_
          refine ryv [3, 11, 12] ?_
          refine ryv [3, 13] ?_
          refine ryv [3] ?_
          refine ryv [3, 15] ?_
          refine ryv [3, 14, 16] ?_
          refine ryv [3, 17] ?_
          refine ryv [3, 18] ?_
          refine ⟨⟨by kernel_rfl, by kernel_rfl⟩, fun vs => ?_⟩
          apply WL_auto [3, 10, 19]
          ·exact goPk
          ·exact goNrm
          ·kernel_rfl
          ·kernel_rfl
          refine zS ?_
          rw [decide_eq_true (show ((dd st fo i k : Nat) : Int) = ((dd st fo i (k + 1) : Nat) : Int) + 1 by omega)]
          refine zS ?_
          refine W_run 23 [214, 215, 216, 217, 218, 219, 220, 221, 222, 223, 224, 225, 226, 227, 228, 229, 230, 231, 232, 233, 234, 235, 236] [0, 1, 2, 3, 4, 5, 6, 7, 8, 9, 10, 11, 12, 13, 14, 15, 16, 17, 18, 19, 20, 21, 22] Cut.nil rfl goFlt mixedS (by kernel_rfl) rfl ?_
          refine rpv [] [] ?_
          refine rpv [] [] ?_
          refine rpv [1] [] ?_
          refine rpv [] [] ?_
          refine rpv [2, 3] [] ?_
          refine rpv [4] [] ?_
          refine rpv [] [] ?_
          refine rpv [] [] ?_
          refine rpv [6, 7] [] ?_
          refine rpv [8] [] ?_
          refine rpv [] [] ?_
          refine rpv [10] [] ?_
          refine rpv [9, 11] [] ?_
          refine rpv [12] [] ?_
          refine Run.pv [0, 5, 13] [] rfl (fun vs => by apply ltr_pk; exact goPk; (refine ltr ?_; refine lt_call ?_ (B1); exact rfl)) goApp ?_
          refine rpv [] [] ?_
          refine rpv [] [] ?_
          refine rpv [15, 16] [] ?_
          refine rpv [17] [] ?_
          refine rpv [] [] ?_
          refine rpv [19] [] ?_
          refine rpv [18, 20] [] ?_
          refine rpv [21] [] ?_
          refine ⟨⟨by kernel_rfl, by kernel_rfl⟩, fun vs => ?_⟩
          apply WL_auto [14, 22]
          ·exact goPk
          ·exact goNrm
          ·kernel_rfl
          ·kernel_rfl
          refine zS ?_
          (first | (apply wl_call (B2); exact rfl; exact rfl) | (apply wl_callR (B2); exact rfl; exact zM; exact rfl))
          refine zS ?_
          exact W_back K _ hJ (fun _ _ st' => st_sub2 st' zR zP)
         ·have hJ : o2 = ((([] ++ lD1 st fo i k) ++ lD2 st fo i k) ++ lD3 st fo i k).foldl (putL 201) [] := by
           unfold lD3; rw [dif_pos hb, if_neg hdd, List.append_nil]; exact ho2
          refine zS ?_
          refine W_run 20 [192, 193, 194, 195, 196, 197, 198, 199, 200, 201, 202, 203, 204, 205, 206, 207, 208, 209, 210, 211] [0, 1, 2, 3, 4, 5, 6, 7, 8, 9, 10, 11, 12, 13, 14, 15, 16, 17, 18, 19] Cut.nil rfl goFlt mixedS (by kernel_rfl) rfl ?_
          refine rpv [] [] ?_
          refine rpv [] [] ?_
          refine Run.pv [0, 1] [] rfl (fun vs => by apply ltr_pk; exact goPk; (refine ltr ?_; apply LT_bool true; apply lt_lss; exact rfl; exact rfl; exact decide_eq_true (by omega))) goApp ?_
          refine rpv [2] [] ?_
          refine ryv [3] ?_
          refine ryv [3] ?_
          refine ryv [3, 4, 5] ?_
          refine ryv [3, 6] ?_
          refine ryv [3] ?_
          refine ryv [3, 7, 8] ?_
          refine ryv [3, 9] ?_
          refine ryv [3] ?_
          refine ryv [3] ?_
          refine ryv [3, 11, 12] ?_
          refine ryv [3, 13] ?_
          refine ryv [3] ?_
          refine ryv [3, 15] ?_
          refine ryv [3, 14, 16] ?_
          refine ryv [3, 17] ?_
          refine ryv [3, 18] ?_
          refine ⟨⟨by kernel_rfl, by kernel_rfl⟩, fun vs => ?_⟩
          apply WL_auto [3, 10, 19]
          ·exact goPk
          ·exact goNrm
          ·kernel_rfl
          ·kernel_rfl
          refine zS ?_
          rw [decide_eq_false (show ¬ ((dd st fo i k : Nat) : Int) = ((dd st fo i (k + 1) : Nat) : Int) + 1 by omega)]
          refine zS ?_
          exact W_back K _ hJ (fun _ _ st' => st_sub2 st' zR zP)
        ·have hJ : o2 = ((([] ++ lD1 st fo i k) ++ lD2 st fo i k) ++ lD3 st fo i k).foldl (putL 201) [] := by
          unfold lD3; rw [dif_neg hb, List.append_nil]; exact ho2
         refine zS ?_
         refine W_run 20 [192, 193, 194, 195, 196, 197, 198, 199, 200, 201, 202, 203, 204, 205, 206, 207, 208, 209, 210, 211] [0, 1, 2, 3, 4, 5, 6, 7, 8, 9, 10, 11, 12, 13, 14, 15, 16, 17, 18, 19] Cut.nil rfl goFlt mixedS (by kernel_rfl) rfl ?_
         refine rpv [] [] ?_
         refine rpv [] [] ?_
         refine Run.pv [0, 1] [] rfl (fun vs => by apply ltr_pk; exact goPk; (refine ltr ?_; apply LT_bool false; apply lt_lss; exact rfl; exact rfl; exact decide_eq_false (by omega))) goApp ?_
         refine rpv [2] [] ?_
         refine rno [3] ?_
         refine rno [3] ?_
         refine rno [3, 4, 5] ?_
         refine rno [3, 6] ?_
         refine rno [3] ?_
         refine rno [3, 7, 8] ?_
         refine rno [3, 9] ?_
         refine rno [3] ?_
         refine rno [3] ?_
         refine rno [3, 11, 12] ?_
         refine rno [3, 13] ?_
         refine rno [3] ?_
         refine rno [3, 15] ?_
         refine rno [3, 14, 16] ?_
         refine rno [3, 17] ?_
         refine rno [3, 18] ?_
         refine ⟨⟨by kernel_rfl, by kernel_rfl⟩, fun vs => ?_⟩
         apply WL_auto [3, 10, 19]
         ·exact goPk
         ·exact goNrm
         ·kernel_rfl
         ·kernel_rfl
         refine zS ?_
         refine zS ?_
         exact W_back K _ hJ (fun _ _ st' => st_sub2 st' zR zP)
       ·intro o3 ho3
        rw [List.nil_append, lD_tell hs hf hia' hkb' hne] at ho3
        subst ho3
        refine zS ?_
        rw [hXiE]
        refine zS ?_
        rw [telK_set]
        refine ⟨k, fun _ _ st' => st_sub2 st' zR zP, by omega, by omega⟩
theorem first8_con (t : Tl) (h : t.st.length ≤ 1000 ∧ t.fo.length ≤ 1000) : Con Tryd.prog 56 [.agg (tC t)] [] (Is (.tup [.sl 1 iC (firstR t).1, .val (.int .i64 (firstR t).2)]) []) := by
 have TC := tally_con t h.1 h.2
 unfold firstR
 cases hok : okT t.id t.hs t.st t.fo with
 | true =>
  rw [hok] at TC
  rw [if_pos rfl]
  obtain ⟨l1, l2, o1, o2⟩ := okT_b hok
  have LC := lists8_con t o1 o2 l1 l2
  have TN := tell_ne' o1 o2 (Nat.zero_le t.st.length) (Nat.zero_le t.fo.length)
  generalize tellT t.st t.fo 0 0 = L at TN LC ⊢
  have h0 : 0 < L.length := List.length_pos_iff.2 TN
  have hh : L.headD [] = L[0] := by
   cases L with
   | nil => exact absurd rfl TN
   | cons l t => rfl
  rw [hh]
  refine con_of Tryd.func56 rfl (enters_of Tryd.func56 (by kernel_rfl) rfl) rfl ?_; intro n w0 F0 G0
  refine zS ?_;repeat(refine yA ?_;intro p hp;refine zS ?_)
  (first | (apply wl_call (TC); exact rfl; exact rfl) | (apply wl_callR (TC); exact rfl; exact zM; exact rfl))
  refine zS ?_
  (first | (apply wl_call (LC); exact rfl; exact rfl) | (apply wl_callR (LC); exact rfl; exact zM; exact rfl))
  refine zS ?_
  (apply res2; exact rfl; exact rfl; exact rfl; exact ⟨rfl, rfl⟩)
 | false =>
  rw [hok] at TC
  rw [if_neg (by decide)]
  refine con_of Tryd.func56 rfl (enters_of Tryd.func56 (by kernel_rfl) rfl) rfl ?_; intro n w0 F0 G0
  refine zS ?_;repeat(refine yA ?_;intro p hp;refine zS ?_)
  (first | (apply wl_call (TC); exact rfl; exact rfl) | (apply wl_callR (TC); exact rfl; exact zM; exact rfl))
  refine zS ?_
  refine Res_nil 2 1 iC rfl ?_
  (apply res2; exact rfl; exact rfl; exact rfl; exact ⟨rfl, rfl⟩)
theorem listsR8_con (t : Tl) (h : t.st.length ≤ 1000 ∧ t.fo.length ≤ 1000) : Con Tryd.prog 58 [.agg (tC t)] [] (Is (.tup [.sl 1 (slC 1 iC) (listsR t).1, .val (.int .i64 (listsR t).2)]) []) := by
 have TC := tally_con t h.1 h.2
 unfold listsR
 cases hok : okT t.id t.hs t.st t.fo with
 | true =>
  rw [hok] at TC
  rw [if_pos rfl]
  obtain ⟨l1, l2, o1, o2⟩ := okT_b hok
  have LC := lists8_con t o1 o2 l1 l2
  generalize tellT t.st t.fo 0 0 = L at LC ⊢
  by_cases hb : L.length > 200
  ·rw [decide_eq_false (by omega)] at LC
   rw [if_pos hb]
   refine con_of Tryd.func58 rfl (enters_of Tryd.func58 (by kernel_rfl) rfl) rfl ?_; intro n w0 F0 G0
   refine zS ?_;repeat(refine yA ?_;intro p hp;refine zS ?_)
   (first | (apply wl_call (TC); exact rfl; exact rfl) | (apply wl_callR (TC); exact rfl; exact zM; exact rfl))
   refine zS ?_
   (first | (apply wl_call (LC); exact rfl; exact rfl) | (apply wl_callR (LC); exact rfl; exact zM; exact rfl))
   refine zS ?_
   refine Res_nil 2 1 (slC 1 iC) rfl ?_
   (apply res2; exact rfl; exact rfl; exact rfl; exact ⟨rfl, rfl⟩)
  ·rw [decide_eq_true (by omega)] at LC
   rw [if_neg hb]
   refine con_of Tryd.func58 rfl (enters_of Tryd.func58 (by kernel_rfl) rfl) rfl ?_; intro n w0 F0 G0
   refine zS ?_;repeat(refine yA ?_;intro p hp;refine zS ?_)
   (first | (apply wl_call (TC); exact rfl; exact rfl) | (apply wl_callR (TC); exact rfl; exact zM; exact rfl))
   refine zS ?_
   (first | (apply wl_call (LC); exact rfl; exact rfl) | (apply wl_callR (LC); exact rfl; exact zM; exact rfl))
   refine zS ?_
   (apply res2; exact rfl; exact rfl; exact rfl; exact ⟨rfl, rfl⟩)
 | false =>
  rw [hok] at TC
  rw [if_neg (by decide)]
  refine con_of Tryd.func58 rfl (enters_of Tryd.func58 (by kernel_rfl) rfl) rfl ?_; intro n w0 F0 G0
  refine zS ?_;repeat(refine yA ?_;intro p hp;refine zS ?_)
  (first | (apply wl_call (TC); exact rfl; exact rfl) | (apply wl_callR (TC); exact rfl; exact zM; exact rfl))
  refine zS ?_
  refine Res_nil 2 1 (slC 1 iC) rfl ?_
  (apply res2; exact rfl; exact rfl; exact rfl; exact ⟨rfl, rfl⟩)
theorem listsR_len (t : Tl) : (listsR t).1.length ≤ 201 ∧ ∀ y ∈ (listsR t).1, y.length ≤ 24 := by
 unfold listsR
 split
 ·rename_i hok
  obtain ⟨l1, l2, o1, o2⟩ := okT_b hok
  have h := tell_shr o1 o2 (Nat.zero_le t.st.length) (Nat.zero_le t.fo.length)
  split
  ·exact ⟨Nat.zero_le _, fun y hy => (by cases hy)⟩
  ·exact ⟨h.len, fun y hy => by have := h.el y hy; omega⟩
 ·exact ⟨Nat.zero_le _, fun y hy => (by cases hy)⟩
theorem firstR_len (t : Tl) : (firstR t).1.length ≤ 24 := by
 unfold firstR
 split
 ·rename_i hok
  obtain ⟨l1, l2, o1, o2⟩ := okT_b hok
  have h := tell_shr o1 o2 (Nat.zero_le t.st.length) (Nat.zero_le t.fo.length)
  cases e : tellT t.st t.fo 0 0 with
  | nil => exact Nat.zero_le _
  | cons y r =>
   have := h.el y (by rw [e]; simp)
   show y.length ≤ 24
   omega
 ·exact Nat.zero_le _
theorem tallyLists_con (t : Tl) : Con Tryd.prog 8 [.agg (tC t)] [HA.tab] (Is (.val (.bool true)) []) := by
 have GC := great_con t
 refine con_of Tryd.func8 rfl (enters_of Tryd.func8 (by kernel_rfl) rfl) rfl ?_; intro n w0 F0 G0
 refine zS ?_;repeat(refine yA ?_;intro p hp;refine zS ?_)
 revert p
 intro p1 hp1
 (first | (apply wl_call (GC); exact rfl; exact rfl) | (apply wl_callR (GC); exact rfl; exact zM; exact rfl))
 cases hg : (decide ((30 : Int) < t.st.length) || decide ((30 : Int) < t.fo.length)) with
 | true =>
  refine zS ?_;repeat(refine yA ?_;intro p hp;refine zS ?_)
  (apply res1; exact rfl; exact rfl; exact ⟨rfl, rfl⟩)
 | false =>
  have hl : t.st.length ≤ 1000 ∧ t.fo.length ≤ 1000 := by simp at hg; omega
  have hs : t.small := ⟨by omega, by omega⟩
  have C1 := first_con t hs
  have C2 := first8_con t hl
  have C3 := listsP_con t hs
  have C4 := listsR8_con t hl
  have lf := firstR_len t
  have ll := listsR_len t
  have C5 := twin_con t hl.1 hl.2
  have C6 := same_con t t hl.1 hl.2
  rw [sameTl_self] at C6
  generalize firstR t = rf at C1 C2 lf
  generalize listsR t = rl at C3 C4 ll
  obtain ⟨A, e⟩ := rf
  obtain ⟨D, e2⟩ := rl
  dsimp only at C1 C2 C3 C4 lf ll
  have D1 := sameI_con A A (by omega) (by omega)
  rw [decide_eq_true rfl] at D1
  have D2 := sameLs_con D (by omega) (fun y hy => by have := ll.2 y hy; omega)
  refine zS ?_;repeat(refine yA ?_;intro p hp;refine zS ?_)
  (first | (apply wl_call (C5); exact rfl; exact rfl) | (apply wl_callR (C5); exact rfl; exact zM; exact rfl))
  refine zS ?_;repeat(refine yA ?_;intro p hp;refine zS ?_)
  revert p
  intro p3 hp3
  (apply wl_callP (C1); exact rfl; exact yC; exact rfl)
  rintro _ _ ⟨u1, rfl, rfl⟩
  refine zS ?_;repeat(refine yA ?_;intro p hp;refine zS ?_)
  (first | (apply wl_call (C2); exact rfl; exact rfl) | (apply wl_callR (C2); exact rfl; exact zM; exact rfl))
  refine zS ?_;repeat(refine yA ?_;intro p hp;refine zS ?_)
  (apply wl_callP (C3); exact rfl; exact yC; exact rfl)
  rintro _ _ ⟨u2, L, hL, rfl, rfl⟩
  refine zS ?_;repeat(refine yA ?_;intro p hp;refine zS ?_)
  (first | (apply wl_call (C4); exact rfl; exact rfl) | (apply wl_callR (C4); exact rfl; exact zM; exact rfl))
  refine zS ?_;repeat(refine yA ?_;intro p hp;refine zS ?_)
  subst hL
  have hLl : L.length ≤ 201 := by have := ll.1; rwa [List.length_map] at this
  have hLe : ∀ q ∈ L, q.1.length ≤ 24 := fun q hq => ll.2 _ (List.mem_map_of_mem hq)
  have TH : Thaw (.pack [.row u2 22 1 loC L, .pack (L.flatMap loR)]) (.val u2) (.sl 1 (slC 1 iC) (L.map (·.1))) := ls_thaw u2 L
  refine WL_packN ?_
  refine WL_snoc (h := .row u2 22 1 loC L) zN zN ?_
  refine WL_snoc (h := .pack (L.flatMap loR)) zN zN ?_
  refine zS ?_;repeat(refine yA ?_;intro p hp;refine zS ?_)
  (apply wl_borrow 40 (thaw_row u1 3 1 iC A) D1; exact rfl; exact rfl; exact yC; exact Pers.nil; exact rfl)
  refine zS ?_;repeat(refine yA ?_;intro p hp;refine zS ?_)
  simp only [eq_self, decide_true]
  refine zS ?_;repeat(refine yA ?_;intro p hp;refine zS ?_)
  (apply wl_borrow 50 TH D2; exact rfl; exact rfl; exact yC; exact Pers.nil; exact rfl)
  refine zS ?_;repeat(refine yA ?_;intro p hp;refine zS ?_)
  simp only [eq_self, decide_true]
  refine zS ?_;repeat(refine yA ?_;intro p hp;refine zS ?_)
  refine W_loopJ (fun (q : Nat × List Int) => ⟨[(1, .val p1), (3, .val p3), (4, .val u1), (8, .val u2), (10, .sl 1 (slC 1 iC) (L.map (·.1))), (61, .val (.int .i64 A.length)), (62, .val (.int .i64 q.1))], [.row u1 3 1 iC q.2, .pack [.row u2 22 1 loC L, .pack (L.flatMap loR)], .box p3 (tC t) 24, .box p1 (tC t) 24, HA.tab]⟩) (fun q => q.1 ≤ A.length ∧ q.2.length = A.length) (fun q => A.length - q.1) (0, A) (fun _ _ st => st_sub2 st zR zP) ⟨Nat.zero_le _, rfl⟩ ?_
  rintro ⟨i, A'⟩ ⟨hi, hal⟩
  dsimp only at hi hal ⊢
  refine zS ?_;repeat(refine yA ?_;intro p hp;refine zS ?_)
  refine w_cond rfl (fun hlt => ?_) (fun hlt => ?_)
  ·have hi' : i < A.length := by simpa using hlt
   refine zS ?_;repeat(refine yA ?_;intro p hp;refine zS ?_)
   (refine ⟨(i + 1, A'.set i (-7)), fun _ _ st => st_sub2 st ?_ ?_, ?_, ?_⟩; exact zR; exact zP)
   ·exact ⟨hi', by rw [List.length_set]; exact hal⟩
   ·dsimp only; omega
  ·refine zS ?_;repeat(refine yA ?_;intro p hp;refine zS ?_)
   refine WL_unpack (l := [.row u2 22 1 loC L, .pack (L.flatMap loR)]) (h := .row u2 22 1 loC L) (l' := [.pack (L.flatMap loR)]) (.refl _) zN ?_
   refine WL_unpack (l := [.pack (L.flatMap loR)]) (h := .pack (L.flatMap loR)) (l' := []) (.refl _) zN ?_
   refine zS ?_;repeat(refine yA ?_;intro p hp;refine zS ?_)
   refine W_loopJ (fun (k : Nat) => ⟨[(1, .val p1), (3, .val p3), (10, .sl 1 (slC 1 iC) (L.map (·.1))), (69, .val u2), (70, .val (.int .i64 L.length)), (71, .val (.int .i64 k))], [.row u2 22 1 loC L, .pack ((L.drop k).flatMap loR), .box p3 (tC t) 24, .box p1 (tC t) 24, HA.tab]⟩) (fun k => k ≤ L.length) (fun k => L.length - k) 0 (fun _ _ st => st_sub2 st zR (by rw [List.drop_zero]; exact zP)) (Nat.zero_le _) ?_
   intro k hk
   refine zS ?_;repeat(refine yA ?_;intro p hp;refine zS ?_)
   refine w_cond rfl (fun hlt2 => ?_) (fun hlt2 => ?_)
   ·have hk' : k < L.length := by simpa using hlt2
    have hm := hLe _ (List.getElem_mem hk')
    have SI := sameI_con L[k].1 L[k].1 (by omega) (by omega)
    rw [decide_eq_true rfl] at SI
    have hkm : k < (L.map (·.1)).length := by rw [List.length_map]; exact hk'
    rw [List.drop_eq_getElem_cons hk', List.flatMap_cons]
    unfold loR
    rw [List.cons_append, List.nil_append]
    refine zS ?_;repeat(refine yA ?_;intro p hp;refine zS ?_)
    rw [List.getElem_map]
    refine WL_unpack (.refl _) zN ?_
    (apply wl_borrow 76 (thaw_row L[k].2.1 3 1 iC L[k].1) SI; exact rfl; exact rfl; exact yC; exact Pers.nil; exact rfl)
    refine zS ?_;repeat(refine yA ?_;intro p hp;refine zS ?_)
    refine W_loopJ (fun (q : Nat × List Int) => ⟨[(1, .val p1), (3, .val p3), (10, .sl 1 (slC 1 iC) (L.map (·.1))), (69, .val u2), (70, .val (.int .i64 L.length)), (71, .val (.int .i64 k)), (14, .val L[k].2.1), (84, .val (.int .i64 L[k].1.length)), (85, .val (.int .i64 q.1))], [.row L[k].2.1 3 1 iC q.2, .row u2 22 1 loC L, .pack ((L.drop (k + 1)).flatMap loR), .box p3 (tC t) 24, .box p1 (tC t) 24, HA.tab]⟩) (fun q => q.1 ≤ L[k].1.length ∧ q.2.length = L[k].1.length) (fun q => L[k].1.length - q.1) (0, L[k].1) (fun _ _ st => st_sub2 st zR zP) ⟨Nat.zero_le _, rfl⟩ ?_
    rintro ⟨j, M⟩ ⟨hj, hml⟩
    dsimp only at hj hml ⊢
    refine zS ?_;repeat(refine yA ?_;intro p hp;refine zS ?_)
    refine w_cond rfl (fun hlt3 => ?_) (fun hlt3 => ?_)
    ·have hj' : j < L[k].1.length := by simpa using hlt3
     refine zS ?_;repeat(refine yA ?_;intro p hp;refine zS ?_)
     (refine ⟨(j + 1, M.set j (-7)), fun _ _ st => st_sub2 st ?_ ?_, ?_, ?_⟩; exact zR; exact zP)
     ·exact ⟨hj', by rw [List.length_set]; exact hml⟩
     ·dsimp only; omega
    ·refine zS ?_;repeat(refine yA ?_;intro p hp;refine zS ?_)
     (refine ⟨k + 1, fun _ _ st => st_sub2 st ?_ ?_, ?_, ?_⟩; exact zR; exact zP)
     ·exact hk'
     ·omega
   ·refine zS ?_;repeat(refine yA ?_;intro p hp;refine zS ?_)
    (first | (apply wl_call (C6); exact rfl; exact rfl) | (apply wl_callR (C6); exact rfl; exact zM; exact rfl))
    refine zS ?_;repeat(refine yA ?_;intro p hp;refine zS ?_)
    (apply res1; exact rfl; exact rfl; exact ⟨rfl, rfl⟩)
end Go.Proofs.YthddoikmgpgakaaDoor.Sw
