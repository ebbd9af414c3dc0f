/- Proofs for one card: App, Frame, Reg, RegIn, Sw, SwOps, SwAny, SwOps2, SwOps3, SwR, Ty, SwF, Row, Steps, Left, Best, Comes, Br, SwG, SwH, SwI, SwQ, SwL, SwB, SwS, SwM, SwX, Bk, SwN, MtA, LsB, MtI, LsD, LsG, Edits, LsK, Pa, Ota, Otb, Slt, TallyCut, Exm, TallyExamples. No condition of its own. -/
import Derived.WalkKit
import Derived.Handy
import Derived.Deep.AppendSrc
import Derived.Test.YthddoikmgpgakaaDoorProg
import Derived.Outline
import Derived.RangeFuncNested
import Derived.Shelf.Abstract
import Derived.Deep.QuietTactic
import Derived.BigQuiet
import Derived.Deep.RegionHeld3
import Derived.WalkSmall
import Derived.Laws.EntriesVeiled
import Derived.Maps.AppendAt
import Derived.Deep.AppendLies
import Derived.Test.YthddoikmgpgakaaDoorCards
import Derived.Test.YthddoikmgpgakaaDoorTie
import Derived.ProofKit
import Derived.OpenShut
import Derived.LaidMore
import Derived.LaidOnce
import Derived.ChangeOld
import Derived.Below
import Derived.Stop.Joined
import Derived.Lib.SmallJoins
import Derived.OrdersHeld
import Derived.Deep.RegionHeld
import Derived.OrdersIn
import Derived.RangeFuncCalls
import Derived.RangeFuncLeaves
import Derived.IntWalk
import Derived.WalkSpells
import Derived.OwnWalk
import Derived.LoopNIn
import Derived.DeepKeys4
import Derived.Maps.OwnIn
import Derived.OwnWalkIn
import Derived.RangeFuncBound
import Derived.Shelf.RegionOpen
import Derived.TacticsInMore
import Derived.Sort.BigQuietIn
import Derived.LoopIn
import Derived.WalkMore
import Derived.Maps.Views
import Derived.Lib.AppendZerosOnto
import Derived.Lib.Walk
import Derived.Lib.SliceRun
import Derived.Laws.MakeOwn
import Derived.Deep.Cut
import Derived.Deep.Slices
import Derived.Lib.LazyBuf
import Derived.Scope
import Derived.Maps.RangeRun
import Derived.ArgAppend
import Derived.WideKeyEntry
import Derived.Shelf.SlSortCmp.Whole1
import Derived.Shelf.Lay
import Derived.Test.YthddoikmgpgakaaDoorNa8
set_option linter.unusedVariables false
set_option linter.unusedSimpArgs false
set_option maxRecDepth 40000
set_option maxHeartbeats 32000000
namespace Go.Proofs.YthddoikmgpgakaaDoor
open Go.RowKit Go
section
variable {P : Program} (w : World)
end
end Go.Proofs.YthddoikmgpgakaaDoor
namespace Go.Proofs.YthddoikmgpgakaaDoor
open Go Go.ChangeShapes Go.WideShapes Go.ChangeAt Go.RowKit
set_option maxRecDepth 100000 in
theorem tab_of {W : World} (h : laidMetH Tryd.prog laidL W) : Tab W := by
 obtain ⟨g, t, cs, fuel, p, hg, ht, hv, hd⟩ := h.funcs (n := "aguador/tally.checks") (List.mem_cons_self ..)
 obtain rfl := Option.some.inj ((show Tryd.prog.globalNamed "aguador/tally.checks" = some 0 by kernel_rfl).symm.trans hg)
 obtain rfl := Option.some.inj ((show (Tryd.prog.globals[0]?).map (·.type) = some 146 by kernel_rfl).symm.trans ht)
 have hd' : DataW.trod (funcToken Tryd.prog) Tryd.prog W 0 (fun _ => true) true fuel 146 cs.toList = some (.agg [.agg [.held [97, 103, 117, 97, 100, 111, 114, 47, 116, 97, 108, 108, 121, 46, 99, 104, 101, 99, 107, 115, 36, 49]], .agg [.held [97, 103, 117, 97, 100, 111, 114, 47, 116, 97, 108, 108, 121, 46, 99, 104, 101, 99, 107, 115, 36, 50]], .agg [.held [97, 103, 117, 97, 100, 111, 114, 47, 116, 97, 108, 108, 121, 46, 99, 104, 101, 99, 107, 115, 36, 51]]], p) := hd
 obtain ⟨xs, m, rfl, hx, hlen, hn, hel⟩ := DataW.trod_array Tryd.underlying146 hd'
 rw [show Tryd.prog.cellsOf 145 = 1 by kernel_rfl] at hel
 rw [show Tryd.prog.cellsOf 146 = 3 by kernel_rfl] at hlen
 obtain ⟨cl⟩ := cs
 match cl, hlen, xs, hn with
 | [v0, v1, v2], _, [x0, x1, x2], _ =>
  simp only [Prod.mk.injEq, DataW.agg.injEq, List.map_cons, List.map_nil, List.cons.injEq] at hx
  have h0 := hel 0 (by decide); have h1 := hel 1 (by decide); have h2 := hel 2 (by decide)
  simp at h0 h1 h2
  have go : ∀ (v : Value) (x : DataW (List UInt8) × List MemPlace) (b : UInt8) (r : List UInt8) (f0 : FuncId), ((List.range Tryd.prog.funcs.size).filter fun f => (Tryd.prog.funcs[f]?).any (·.name.toUTF8.data.toList == b :: r)) = [f0] →
    DataW.trod (funcToken Tryd.prog) Tryd.prog W 0 (fun _ => true) true m 145 [v] = some x → x.1 = .agg [.held (b :: r)] → v = .func (.func f0) #[] #[] := by
   intro v x b r f0 hone h hx
   obtain ⟨y, n, rfl, _, hy⟩ := trod_struct1 Tryd.underlying145 h
   simp only [DataW.agg.injEq, List.cons.injEq, and_true] at hx
   obtain ⟨y1, y2⟩ := y
   simp only at hx
   subst hx
   exact func_of_trod (P := Tryd.prog) Tryd.underlying25 hone (by simpa [show Tryd.prog.cellsOf 25 = 1 by kernel_rfl] using hy)
  have e0 := go v0 x0 _ _ 164 (by kernel_rfl) h0 hx.1.1.symm
  have e1 := go v1 x1 _ _ 165 (by kernel_rfl) h1 hx.1.2.1.symm
  have e2 := go v2 x2 _ _ 166 (by kernel_rfl) h2 hx.1.2.2.1.symm
  subst e0; subst e1; subst e2
  have c0 := World.var?_cell hg hv 0; have c1 := World.var?_cell hg hv 1; have c2 := World.var?_cell hg hv 2
  exact ⟨by simpa using c0, by simpa using c1, by simpa using c2⟩
end Go.Proofs.YthddoikmgpgakaaDoor
namespace Go.Proofs.YthddoikmgpgakaaDoor
open Go.RowKit Go
section
variable {P : Program} {ops : Array Oper} {Q : Exit → Act → World → Prop} {S : World → Prop} {held : List Nat}
end
section
variable {F : Fence} {n : Nat} {P : Program} {ops : Array Oper} {Q : Exit → Act → World → Prop} {S : World → Prop} {held : List Nat}
end
end Go.Proofs.YthddoikmgpgakaaDoor
namespace Go.Proofs.YthddoikmgpgakaaDoor.Sw
open Go.RowKit Go
section
variable {c : Cx} {s : S} {Q : Exit → S → Prop}
end
section
variable {c : Cx} {s : S} {Q : Exit → S → Prop} {ops : Array Oper} {tl : List Oper}
end
section
variable {c : Cx} {s : S} {Q : Exit → S → Prop} {ops : Array Oper} {tl : List Oper}
end
section
variable {P : Program} {rs : List (Nat × AV)} {d : Option Nat} {ty : TypeId} {pos : String} {af : Array Edge} {g : Option (Nat × Bool)}
end
section
variable {c : Cx} {s : S} {Q : Exit → S → Prop} {ops : Array Oper} {tl : List Oper}
end
section
variable {c : Cx} {rs : List (Nat × AV)} {hs : List HA} {Q : Exit → S → Prop} {ops : Array Oper} {tl : List Oper} {d : Nat} {op : Op} {ty : TypeId} {pos : String} {af : Array Edge}
end
section
variable {c : Cx} {rs : List (Nat × AV)} {hs : List HA} {Q : Exit → S → Prop} {ops : Array Oper} {tl : List Oper} {d : Nat} {ty : TypeId} {pos : String} {af : Array Edge} {x y : Operand} {t tb : TypeId} {p : Value} {j : Nat} {cs : List AV} {f : HA → List HA}
end
section
variable (ops : Array Oper) (m : Nat) (sp : List Sp) (hs0 : List HA)
end
section
variable {c : Cx} {ops : Array Oper} {m : Nat} {sp : List Sp} {hs0 hsR : List HA} {rsB : List (Nat × AV)} {Q : Exit → S → Prop}
end
section
variable {P : Program} {rs : List (Nat × AV)} {hsR : List HA} {d : Option Nat} {ty : TypeId} {pos : String} {af : Array Edge} {g : Option (Nat × Bool)} {x : Operand} {t tb : TypeId} {p : Value} {j : Nat} {cs : List AV} {f : HA → List HA}
end
section
variable {P : Program} {rs : List (Nat × AV)} {d : Option Nat} {ty : TypeId} {pos : String} {af : Array Edge} {g : Option (Nat × Bool)}
end
section
variable {P : Program} {rs : List (Nat × AV)} {d : Option Nat} {ty : TypeId} {pos : String} {af : Array Edge} {g : Option (Nat × Bool)}
end
section
variable {c : Cx} {rs : List (Nat × AV)} {hs : List HA} {Q : Exit → S → Prop} {ops : Array Oper} {tl : List Oper} {d : Nat} {ty : TypeId} {pos : String} {af : Array Edge}
theorem wl_min2 {x y : Operand} {m n : Int} {ts : Array TypeId} (hx : opv rs x = some (.val (.int .i64 m))) (hy : opv rs y = some (.val (.int .i64 n))) (hd : Nat.blt d c.nt = true) (k : WL c ops tl ⟨(d, .val (.int .i64 (min m n))) :: rs, hs⟩ Q) : WL c ops (⟨some d, .call { callee := .builtin .min, args := #[x, y], argTypes := ts }, ty, pos, af, none⟩ :: tl) ⟨rs, hs⟩ Q := wl_ex (lt_min2 hx hy) hd k
theorem wl_slice {α : Type} {f : α → List AV} {xs : List α} {x : Operand} {lo hi : Option Operand} {t e : TypeId} {n : Nat} [TyE c.P t e n] {l h : Nat} {li hi' : Int} (hx : opv rs x = some (.sl n f xs)) (hlo : lo.map (opv rs) = some (some (.val (.int .i64 li))) ∨ (lo = none ∧ li = 0)) (hl : li = (l : Int)) (hhi : hi.map (opv rs) = some (some (.val (.int .i64 hi'))) ∨ (hi = none ∧ hi' = (xs.length : Int))) (hh : hi' = (h : Int)) (h1 : l ≤ h) (h2 : h ≤ xs.length) (hd : Nat.blt d c.nt = true) (k : WL c ops tl ⟨(d, .sl n f ((xs.take h).drop l)) :: rs, hs⟩ Q) : WL c ops (⟨some d, .slice t x lo hi none, ty, pos, af, none⟩ :: tl) ⟨rs, hs⟩ Q := wl_ex (lt_slice hx hlo hl hhi hh h1 h2) hd k
end
section
variable {c : Cx} {rs : List (Nat × AV)} {hs : List HA} {Q : Exit → S → Prop} {ops : Array Oper} {tl : List Oper} {d : Nat} {ty : TypeId} {pos : String} {af : Array Edge}
end
instance : TyF Tryd.prog 64 3 3 := ⟨fun a w => by kernel_rfl⟩
section
variable {P : Program} {rs : List (Nat × AV)} {d : Option Nat} {ty : TypeId} {pos : String} {af : Array Edge} {g : Option (Nat × Bool)}
end
section
variable {c : Cx} {rs : List (Nat × AV)} {hs : List HA} {Q : Exit → S → Prop} {ops : Array Oper} {tl : List Oper} {d : Nat} {ty : TypeId} {pos : String} {af : Array Edge}
end
section
variable {P : Program} {rs : List (Nat × AV)} {hsR : List HA} {d : Option Nat} {ty : TypeId} {pos : String} {af : Array Edge} {g : Option (Nat × Bool)}
end
section
variable {P : Program} {rs : List (Nat × AV)} {hsR : List HA} {d : Option Nat} {ty : TypeId} {pos : String} {af : Array Edge} {g : Option (Nat × Bool)}
theorem ltr_callR {k : FuncId} {xs : List Operand} {ts : Array TypeId} {avs : List AV} {av : AV} {h : HA} {f : HA → List HA} (hc : Con P k avs [h] (Is av [h])) (hx : opvs rs xs = some avs) (hat : At hsR h f) : LTr P ⟨d, .call { callee := .value (.func k), args := xs.toArray, argTypes := ts }, ty, pos, af, g⟩ rs hsR [] (Is av []) := ltr_rd (lt_call hx hc) hat
end
section
variable {c : Cx} {rs : List (Nat × AV)} {hs : List HA} {Q : Exit → S → Prop} {ops : Array Oper} {tl : List Oper} {d : Nat} {ty : TypeId} {pos : String} {af : Array Edge}
end
end Go.Proofs.YthddoikmgpgakaaDoor.Sw
namespace Go.Proofs.YthddoikmgpgakaaDoor
open Go.RowKit Go
section
variable {α : Type} {f : α → List Value} {n : Nat}
end
end Go.Proofs.YthddoikmgpgakaaDoor
namespace Go.Proofs.YthddoikmgpgakaaDoor
open Go.RowKit Go.Proofs Go.Shelf
attribute [local go_sem] Oper.semAt_some
attribute [local go_sem] Oper.semAt_some
attribute [local go_sem] eqPlace
attribute [local go_sem] Oper.semAt_some
attribute [local go_sem] Oper.semAt_some
end Go.Proofs.YthddoikmgpgakaaDoor
namespace Go.Proofs.YthddoikmgpgakaaDoor.Sw
open Go.RowKit Go
instance {t : Rt} : OneL (rC t) := inferInstanceAs (OneL [_, _, _, _])
section
variable {c : Cx} {rs : List (Nat × AV)} {hs : List HA} {Q : Exit → S → Prop} {g : Operand} {ps : Array Tmp} {assign body : Code} {gf : FuncId} {caps : List AV} {own r : List HA} {α β τ : Type} {f : α → τ → List AV} {t : α → τ → List HA} {xs : List α}
end
section
variable {P : Program} {rs : List (Nat × AV)} {hsR : List HA} {d : Option Nat} {ty : TypeId} {pos : String} {af : Array Edge} {g : Option (Nat × Bool)}
end
section
variable {c : Cx} {rs : List (Nat × AV)} {hs : List HA} {Q : Exit → S → Prop} {ops : Array Oper} {tl : List Oper} {d : Nat} {ty : TypeId} {pos : String} {af : Array Edge}
theorem wl_slTo {α : Type} {f : α → List AV} {xs : List α} {x y : Operand} {t e : TypeId} {n : Nat} {h : Nat} {hi : Int} (hE : TyE c.P t e n) (hx : opv rs x = some (.sl n f xs)) (hy : opv rs y = some (.val (.int .i64 hi))) (hh : hi = (h : Int)) (h2 : h ≤ xs.length) (hd : Nat.blt d c.nt = true) (k : WL c ops tl ⟨(d, .sl n f (xs.take h)) :: rs, hs⟩ Q) : WL c ops (⟨some d, .slice t x none (some y) none, ty, pos, af, none⟩ :: tl) ⟨rs, hs⟩ Q :=
 wl_slice (l := 0) (h := h) (li := 0) hx (.inr ⟨rfl, rfl⟩) rfl (.inl (by rw [Option.map_some, hy])) hh (Nat.zero_le _) h2 hd (by rw [List.drop_zero]; exact k)
end
section
variable {P : Program} {rs : List (Nat × AV)} {hsR : List HA} {d : Option Nat} {ty : TypeId} {pos : String} {af : Array Edge} {g : Option (Nat × Bool)}
end
section
variable {c : Cx} {rs : List (Nat × AV)} {hs : List HA} {Q : Exit → S → Prop} {ops : Array Oper} {tl : List Oper} {d : Nat} {ty : TypeId} {pos : String} {af : Array Edge}
end
section
variable {P : Program} {rs : List (Nat × AV)} {d : Option Nat} {ty : TypeId} {pos : String} {af : Array Edge} {g : Option (Nat × Bool)}
end
section
variable {c : Cx} {rs : List (Nat × AV)} {hs : List HA} {Q : Exit → S → Prop} {ops : Array Oper} {tl : List Oper} {d : Nat} {ty : TypeId} {pos : String} {af : Array Edge}
end
section
variable {P : Program} {rs : List (Nat × AV)} {d : Option Nat} {ty : TypeId} {pos : String} {af : Array Edge} {g : Option (Nat × Bool)}
theorem lt_rem {x y : Operand} {m n : Int} {t t' : TypeId} (hx : opv rs x = some (.val (.int .i64 m))) (hy : opv rs y = some (.val (.int .i64 n))) (h0 : 0 < n) (h1 : 0 ≤ m) (h2 : m ≤ 9223372036854775807) :
  LT P ⟨d, .binOp .rem t x y t', ty, pos, af, g⟩ rs [] (Is (.val (.int .i64 (m % n))) []) :=
 LT_val (fun _ e => by cases e) fun a w G hR _ => ⟨_, rfl, by
  have e1 : a.eval x = _ := opv_ok hR hx
  have e2 : a.eval y = _ := opv_ok hR hy
  have hq : m.tmod n = m % n := Int.tmod_eq_emod_of_nonneg h1
  have hr1 : 0 ≤ m % n := Int.emod_nonneg m (by omega)
  have hr2 : m % n < n := Int.emod_lt_of_pos m h0
  have hr3 : m % n ≤ m := by
   have e := Int.emod_add_mul_ediv m n
   have p := Int.mul_nonneg (show 0 ≤ n by omega) (Int.ediv_nonneg h1 (show 0 ≤ n by omega))
   generalize n * (m / n) = q at e p
   omega
  have hz : n ≠ 0 := by omega
  simp only [execOp, e1, e2]
  simp [go_sem, hz, hq, IntWalk.i64_in (m % n) (by omega)]⟩
end
section
variable {P : Program} {rs : List (Nat × AV)} {d : Option Nat} {ty : TypeId} {pos : String} {af : Array Edge} {g : Option (Nat × Bool)}
end
theorem flat_take {α : Type} {f : α → List AV} {n : Nat} : ∀ {xs : List α}, (∀ x ∈ xs, (f x).length = n) → ∀ (k : Nat), (xs.flatMap f).take (k * n) = (xs.take k).flatMap f ∧ (xs.flatMap f).drop (k * n) = (xs.drop k).flatMap f
 | [], _, k => by simp
 | x :: xs, _, 0 => by simp
 | x :: xs, h, k + 1 => by
  have hx := h x (by simp)
  obtain ⟨h1, h2⟩ := flat_take (xs := xs) (fun y hy => h y (by simp [hy])) k
  rw [List.flatMap_cons, Nat.succ_mul, show k * n + n = (f x).length + k * n by omega, List.take_append, List.drop_append, List.take_of_length_le (by omega), List.drop_of_length_le (l := f x) (by omega), Nat.add_sub_cancel_left, h1, h2]
  simp
section
variable {c : Cx} {rs : List (Nat × AV)} {hs : List HA} {Q : Exit → S → Prop} {ops : Array Oper} {tl : List Oper} {d : Nat} {ty : TypeId} {pos : String} {af : Array Edge}
end
section
variable {P : Program} {rs : List (Nat × AV)} {d : Option Nat} {ty : TypeId} {pos : String} {af : Array Edge} {g : Option (Nat × Bool)}
end
section
variable {c : Cx} {rs : List (Nat × AV)} {hs : List HA} {Q : Exit → S → Prop} {ops : Array Oper} {tl : List Oper} {d : Nat} {ty : TypeId} {pos : String} {af : Array Edge}
end
section
variable {P : Program} {rs : List (Nat × AV)} {d : Option Nat} {ty : TypeId} {pos : String} {af : Array Edge} {g : Option (Nat × Bool)}
end
section
variable {c : Cx} {rs : List (Nat × AV)} {hs r : List HA} {Q : Exit → S → Prop} {ops : Array Oper} {tl : List Oper} {d : Nat} {ty : TypeId} {pos : String} {af : Array Edge}
end
end Go.Proofs.YthddoikmgpgakaaDoor.Sw
namespace Go.Proofs.YthddoikmgpgakaaDoor.Sw
open Go.RowKit Go
open Go.WideElems (Fit)
open Go.ChangeMaps (setBlock heap_setBlock_same heap_setBlock_other)
section
variable {κ α : Type} [DecidableEq κ]
end
section
variable {κ α : Type} (kv : κ → Value) (g : α → AV)
variable {kv g}
variable (kv g)
variable {kv g}
end
section
variable {P : Program} {κ α : Type} [DecidableEq κ] {t : TypeId} {kv : κ → Value} {ok : κ → Prop} {g : α → AV} {l : List (κ × α)} {G : Nat → Option Obj} {F : List Nat} {w : World} {v : Value}
variable {rs : List (Nat × AV)} {d : Option Nat} {ty : TypeId} {pos : String} {af : Array Edge} {gd : Option (Nat × Bool)}
end
section
variable {c : Cx} {rs : List (Nat × AV)} {hs : List HA} {Q : Exit → S → Prop} {ops : Array Oper} {tl : List Oper} {d : Nat} {ty : TypeId} {pos : String} {af : Array Edge} {κ α : Type} [DecidableEq κ] {t : TypeId} {kv : κ → Value} {ok : κ → Prop} {g : α → AV} {l : List (κ × α)} {v : Value}
end
section
variable {P : Program} {rs : List (Nat × AV)} {d : Option Nat} {ty : TypeId} {pos : String} {af : Array Edge} {gd : Option (Nat × Bool)} {κ α : Type} {t : TypeId} {kv : κ → Value} {g : α → AV} {l rest : List (κ × α)} {v it : Value}
end
section
variable {c : Cx} {rs : List (Nat × AV)} {hs r : List HA} {Q : Exit → S → Prop} {ops : Array Oper} {tl : List Oper} {d : Nat} {ty : TypeId} {pos : String} {af : Array Edge} {κ α : Type} {t : TypeId} {kv : κ → Value} {g : α → AV} {l rest : List (κ × α)} {v it : Value}
end
end Go.Proofs.YthddoikmgpgakaaDoor.Sw
namespace Go.Proofs.YthddoikmgpgakaaDoor.Sw
open Go.RowKit Go
section
variable {P : Program} {w : World}
end
section
variable {P : Program} {rs : List (Nat × AV)} {d : Option Nat} {ty : TypeId} {pos : String} {af : Array Edge} {g : Option (Nat × Bool)}
end
end Go.Proofs.YthddoikmgpgakaaDoor.Sw
namespace Go.Proofs.YthddoikmgpgakaaDoor.Sw
open Go.RowKit Go
open Go.WideElems (Fit)
open Go.ChangeMaps (setBlock heap_setBlock_same heap_setBlock_other)
section
variable {P : Program} {κ α : Type} [DecidableEq κ] {t : TypeId} {kv : κ → Value} {ok : κ → Prop} {g : α → AV} {l : List (κ × α)} {G : Nat → Option Obj} {F : List Nat} {w : World} {v : Value}
variable {rs : List (Nat × AV)} {d : Option Nat} {ty : TypeId} {pos : String} {af : Array Edge} {gd : Option (Nat × Bool)}
end
section
variable {c : Cx} {rs : List (Nat × AV)} {hs : List HA} {Q : Exit → S → Prop} {ops : Array Oper} {tl : List Oper} {d : Nat} {ty : TypeId} {pos : String} {af : Array Edge} {κ α : Type} [DecidableEq κ] {t : TypeId} {kv : κ → Value} {ok : κ → Prop} {g : α → AV} {l : List (κ × α)} {v : Value}
end
end Go.Proofs.YthddoikmgpgakaaDoor.Sw
namespace Go.Proofs.YthddoikmgpgakaaDoor.Sw
open Go.RowKit Go
section
variable {P : Program} {rs : List (Nat × AV)} {d : Option Nat} {ty : TypeId} {pos : String} {af : Array Edge} {g : Option (Nat × Bool)}
end
end Go.Proofs.YthddoikmgpgakaaDoor.Sw
namespace Go.Proofs.YthddoikmgpgakaaDoor.Sw
open Go.RowKit Go Go.Shelf Go.Proofs
section
variable {P : Program} {rs : List (Nat × AV)} {d : Option Nat} {ty : TypeId} {pos : String} {af : Array Edge} {g : Option (Nat × Bool)}
end
attribute [local go_sem] eqPlace
end Go.Proofs.YthddoikmgpgakaaDoor.Sw
namespace Go.Proofs.YthddoikmgpgakaaDoor.Sw
open Go.RowKit Go Go.Shelf Go.Proofs
open Go.Proofs.YthddoikmgpgakaaDoor.Ma
instance {α : Type} {n : Nat} {f : α → List AV} {g : List α} : OneL (slC n f g) := inferInstanceAs (OneL [_])
instance {α : Type} {n : Nat} {f : α → List AV} : OneF (slC n f) := ⟨fun _ => inferInstance⟩
instance {α : Type} {n : Nat} {f : α → List AV} : LenF (slC n f) 1 := ⟨fun _ => rfl⟩
end Go.Proofs.YthddoikmgpgakaaDoor.Sw
namespace Go.Proofs.YthddoikmgpgakaaDoor.Sw
open Go.RowKit Go Go.Shelf Go.Proofs
section
variable {P : Program} {rs : List (Nat × AV)} {d : Option Nat} {ty : TypeId} {pos : String} {af : Array Edge} {g : Option (Nat × Bool)}
end
end Go.Proofs.YthddoikmgpgakaaDoor.Sw
namespace Go.Proofs.YthddoikmgpgakaaDoor
open Go.RowKit Go.Proofs Go.Shelf
attribute [local go_sem] Oper.semAt_some
attribute [local go_sem] eqPlace
attribute [local go_sem] eqEdit
end Go.Proofs.YthddoikmgpgakaaDoor
namespace Go.Proofs.YthddoikmgpgakaaDoor.Sw
open Go.RowKit Go Go.Shelf Go.Proofs
end Go.Proofs.YthddoikmgpgakaaDoor.Sw
namespace Go.Proofs.YthddoikmgpgakaaDoor
open Go.RowKit Go.Proofs Go.Shelf
end Go.Proofs.YthddoikmgpgakaaDoor
namespace Go.Proofs.YthddoikmgpgakaaDoor.Sw
open Go.RowKit Go Go.Shelf Go.Proofs
open Go.Proofs.YthddoikmgpgakaaDoor.Ma
structure Rdy (t : Tl) : Prop where
 ok : okT t.id t.hs t.st t.fo = true
 s : t.st.length ≤ 12
 f : t.fo.length ≤ 12
 os : okN t.st = true
 of : okN t.fo = true
theorem rdy_of {t : Tl} (h : okT t.id t.hs t.st t.fo = true) : Rdy t := by
 obtain ⟨a, b, c, d⟩ := okT_b h
 exact ⟨h, a, b, c, d⟩
end Go.Proofs.YthddoikmgpgakaaDoor.Sw
namespace Go.Proofs.YthddoikmgpgakaaDoor
open Go.RowKit Go.Proofs Go.Shelf
theorem dist_max : ∀ a b : List Int, dist a b ≤ max a.length b.length
 | [], b => by rw [dist_nil]; exact Nat.le_max_right _ _
 | x :: a, [] => by rw [dist_nil']; exact Nat.le_max_left _ _
 | x :: a, y :: b => by
  have h1 := dist_both x y a b
  have h2 := dist_max a b
  have h3 : (if x = y then 0 else 1) ≤ 1 := by split <;> omega
  simp only [List.length_cons]
  omega
end Go.Proofs.YthddoikmgpgakaaDoor
namespace Go.Proofs.YthddoikmgpgakaaDoor.Sw
open Go.RowKit Go Go.Shelf Go.Proofs
open Go.Proofs.YthddoikmgpgakaaDoor.Ma
section
variable {P : Program} {rs : List (Nat × AV)} {d : Option Nat} {ty : TypeId} {pos : String} {af : Array Edge} {g : Option (Nat × Bool)}
end
section
variable {c : Cx} {rs : List (Nat × AV)} {hs : List HA} {Q : Exit → S → Prop} {ops : Array Oper} {tl : List Oper} {d : Nat} {ty : TypeId} {pos : String} {af : Array Edge}
end
theorem Rdy.dist {a : Tl} (h : Rdy a) : dist a.st a.fo ≤ 12 := by
 have := dist_max a.st a.fo
 have := h.s
 have := h.f
 omega
theorem sameLs_con (xs : List (List Int)) (hl : xs.length ≤ 1000000) (hm : ∀ x ∈ xs, x.length ≤ 1000000) : Con Tryd.prog 59 [.sl 1 (slC 1 iC) xs, .sl 1 (slC 1 iC) xs] [] (Is (.val (.bool true)) []) := by
 refine con_of Tryd.func59 rfl (enters_of Tryd.func59 (by kernel_rfl) rfl) rfl ?_; intro n w0 F0 G0
 refine zS ?_
 simp only [decide_true, Bool.not_true]
 refine zS ?_
 refine W_loopJ (fun (k : Nat) => ⟨[(0, .sl 1 (slC 1 iC) xs), (1, .sl 1 (slC 1 iC) xs), (5, .val (.int .i64 k))], []⟩) (fun k => k ≤ xs.length) (fun k => xs.length - k) 0 (fun _ _ st => st_sub2 st zR zP) ?hj0 ?round
 case hj0 => exact Nat.zero_le _
 case round =>
  rintro k hk
  refine zS ?_
  refine w_cond rfl (fun hlt => ?_) (fun hlt => ?_)
  ·have hlt' : k < xs.length := by simpa using hlt
   have hq1 : xs[k]? = some xs[k] := List.getElem?_eq_getElem hlt'
   have hmk := hm _ (List.getElem_mem hlt')
   have C := sameI1_con xs[k] xs[k] hmk hmk
   rw [decide_eq_true rfl] at C
   refine zS ?_
   refine W_run 8 [17, 18, 19, 20, 21, 22, 23, 24] [0, 1, 2, 3, 4, 5, 6, 7] Cut.nil rfl goFlt mixedS (by kernel_rfl) rfl ?_
   refine rpv [] [] ?_
   refine rpv [] [] ?_
   refine rpv [0, 1] [] ?_
   refine rpv [2] [] ?_
   refine rpv [] [] ?_
   refine rpv [] [] ?_
   refine rpv [4, 5] [] ?_
   refine rpv [6] [] ?_
   refine ⟨⟨by kernel_rfl, by kernel_rfl⟩, fun vs => ?_⟩
   apply WL_auto [3, 7]
   ·exact goPk
   ·exact goNrm
   ·kernel_rfl
   ·kernel_rfl
   refine zS ?_
   (first | (apply wl_call (C); exact rfl; exact rfl) | (apply wl_callR (C); exact rfl; exact zM; exact rfl))
   refine zS ?_
   (refine ⟨k + 1, fun _ _ st => st_sub2 st ?_ ?_, ?_, ?_⟩; exact zR; exact zP)
   ·exact hlt'
   ·omega
  ·refine zS ?_
   (apply res1; exact rfl; exact rfl; exact ⟨rfl, rfl⟩)
end Go.Proofs.YthddoikmgpgakaaDoor.Sw
namespace Go.Proofs.YthddoikmgpgakaaDoor.Sw
open Go.RowKit Go
section
variable {P : Program} {rs : List (Nat × AV)} {d : Option Nat} {ty : TypeId} {pos : String} {af : Array Edge} {g : Option (Nat × Bool)}
end
end Go.Proofs.YthddoikmgpgakaaDoor.Sw
namespace Go.Proofs.YthddoikmgpgakaaDoor.Sw
open Go.RowKit Go Go.Shelf Go.Proofs
open Go.Proofs.YthddoikmgpgakaaDoor.Ma
theorem Rdy.sub {a : Tl} (h : Rdy a) {s f : List Int} (h1 : s.length ≤ 12) (h2 : f.length ≤ 12) (h3 : okN s = true) (h4 : okN f = true) : Rdy ⟨a.id, a.hs, s, f⟩ := by
 refine rdy_of ?_
 have hk := h.ok
 unfold okT at hk ⊢
 simp only [Bool.and_eq_true, decide_eq_true_eq] at hk ⊢
 exact ⟨⟨⟨⟨hk.1.1.1.1, h1⟩, h2⟩, h3⟩, h4⟩
theorem cells_cut {G : Nat → Option Obj} {F : List Nat} {w : World} {b : Nat} {e : TypeId} {cs : List AV} {tot : Nat} (k : Nat) (h : (HA.cells b e cs tot).P G F w) : (HA.cells b e (cs.take k) tot).P G F w := by
 obtain ⟨vs, rest, e1, e2, e3, e4, e5⟩ := h
 refine ⟨vs.take k, vs.drop k ++ rest, e1, e2.take k, fun u hu => e3 u (List.mem_of_mem_take hu), ?_, ?_⟩
 ·rw [← List.append_assoc, List.take_append_drop]; exact e4
 ·rw [← List.append_assoc, List.take_append_drop]; exact e5
theorem wl_rowTo {α : Type} {c : Cx} {rs : List (Nat × AV)} {hs r : List HA} {Q : Exit → S → Prop} {ops : Array Oper} {tl : List Oper} {d : Nat} {ty : TypeId} {pos : String} {af : Array Edge} {x hi : Operand} {t e : TypeId} {n : Nat} {v : Value} {f : α → List AV} {xs : List α} (h : Nat) (hne : xs ≠ []) (hx : opv rs x = some (.val v)) (hT : TyE c.P t e n) (hhi : opv rs hi = some (.val (.int .i64 (h : Int)))) (hh : h ≤ xs.length) (hr : Rm hs (.row v e n f xs) r) (hd : Nat.blt d c.nt = true)
  (k : ∀ v', WL c ops tl ⟨(d, .val v') :: rs, .row v' e n f (xs.take h) :: r⟩ Q) : WL c ops (⟨some d, .slice t x none (some hi) none, ty, pos, af, none⟩ :: tl) ⟨rs, hs⟩ Q := by
 refine WL_openRow hne hr fun b cap hv hnc hcm hlf => ?_
 subst hv
 refine wl_sliceV (l := 0) (h := h) (li := 0) hx hT (.inr ⟨rfl, rfl⟩) rfl (.inl (by rw [Option.map_some, hhi])) rfl (Nat.zero_le _) (by omega) hnc hd ?_
 rw [toV]
 refine WL_imp At.here (fun G F w hP => cells_cut (h * n) hP) ?_
 rw [(flat_take hlf h).1]
 have hl : (xs.take h).length = h := by rw [List.length_take]; omega
 refine WL_shutRow (cap := cap) (b := b) (xs.take h) (fun x hx => hlf x (List.mem_of_mem_take hx)) (by omega) hcm Rm.here ?_
 rw [hl]
 exact k _
theorem intsV_con (u : Value) [One (.val u)] : Con Tryd.prog 62 [.val u] [] (Is (.val u) []) := by
 refine con_of Tryd.func62 rfl (enters_of Tryd.func62 (by kernel_rfl) rfl) rfl ?_; intro n w0 F0 G0
 refine zS ?_
 (apply res1; exact rfl; exact rfl; exact ⟨rfl, rfl⟩)
theorem cutV_con (u v : Value) [One (.val u)] [One (.val v)] : Con Tryd.prog 63 [.val u, .val v] [] (Is (.agg [.val (.int .i64 1), .val (.int .i64 5), .val u, .val v]) []) := by
 refine con_of Tryd.func63 rfl (enters_of Tryd.func63 (by kernel_rfl) rfl) rfl ?_; intro n w0 F0 G0
 refine zS ?_;repeat(refine yA ?_;intro p hp;refine zS ?_)
 (apply resN; exact rfl; exact rfl; exact zM; exact inferInstance; exact rfl; exact ⟨rfl, rfl⟩)
def HalfP : AV → List HA → Prop := fun x y => ∃ us uf, One (.val us) ∧ One (.val uf) ∧ x = .agg [.val (.int .i64 1), .val (.int .i64 5), .val us, .val uf] ∧ y = [.row uf 3 1 iC [1, 2, 3, 4], .row us 3 1 iC [1, 1, 2, 4]]
theorem halfO_con : Con Tryd.prog 61 [] [] HalfP := by
 refine con_of Tryd.func61 rfl (enters_of Tryd.func61 (by kernel_rfl) rfl) rfl ?_; intro n w0 F0 G0
 refine zS ?_;repeat(refine yA ?_;intro p hp;refine zS ?_)
 (apply wl_lit iC; exact inferInstance; exact inferInstance; exact inferInstance; exact zE; exact rfl; (first | exact (of_decide_eq_true rfl) | decide | (simp; done) | (simp; omega)); exact rfl)
 intro us
 refine WL_one At.here (fun o1 => ?_)
 refine zS ?_
 (first | (apply wl_call (intsV_con us); exact rfl; exact rfl) | (apply wl_callR (intsV_con us); exact rfl; exact zM; exact rfl))
 refine zS ?_
 (apply wl_lit iC; exact inferInstance; exact inferInstance; exact inferInstance; exact zE; exact rfl; (first | exact (of_decide_eq_true rfl) | decide | (simp; done) | (simp; omega)); exact rfl)
 intro uf
 refine WL_one At.here (fun o2 => ?_)
 refine zS ?_
 (first | (apply wl_call (intsV_con uf); exact rfl; exact rfl) | (apply wl_callR (intsV_con uf); exact rfl; exact zM; exact rfl))
 refine zS ?_
 (first | (apply wl_call (cutV_con us uf); exact rfl; exact rfl) | (apply wl_callR (cutV_con us uf); exact rfl; exact zM; exact rfl))
 refine zS ?_
 (apply resKN; exact rfl; exact rfl; exact zM; exact inferInstance; exact rfl; exact ⟨us, uf, o1, o2, rfl, rfl⟩; exact yC)
def prT : List Tl := [hT, ⟨1, 5, [3, 3], [3]⟩]
def oddT : Tl := ⟨1, 5, [1, 1, 2, 4], [1, 2, 5, 4]⟩
def wildT : Rt := ⟨6, 3, 40, 1001⟩
def fullT : Tl := ⟨1, 5, List.replicate 12 1, [1, 2, 3, 4]⟩
def longT : Tl := ⟨1, 5, (List.range 12).map fun (k : Nat) => 1 + (k : Int) % 2, (List.range 12).map fun (k : Nat) => 2 - (k : Int) % 2⟩
def manyT : List Tl := [oddT, oddT, oddT, oddT, oddT, oddT, oddT]
theorem e_false : falseR ⟨1, 5, [1, 1, 2, 4, 1], [1, 2, 3, 4, 1]⟩ = (2, 0) := by decide +kernel
theorem e_is : isR hT [1, 1, 2, 3, 4] = (true, 0) := by decide +kernel
theorem e_kinds : kindsR hT 1 = ((1, 2), 0) := by
 unfold kindsR
 rw [if_pos a_okT, if_pos (by decide), a_span]
 decide +kernel
theorem e_match : matchR prT = ([0, 1], 3, 0) := by decide +kernel
theorem e_sure : sureR prT = ([0, 1], 0) := by decide +kernel
theorem e_owes : owesR prT 6 rT = ((0, 0), 0) := by
 unfold owesR owesL
 rw [if_neg (by decide +kernel), if_pos (by decide +kernel)]
 have e : ¬ hT.hs = 6 := by decide
 simp only [prT, List.foldl, if_neg e]
 rfl
theorem e_ok : okT oddT.id oddT.hs oddT.st oddT.fo = false := by decide +kernel
theorem e_kinds5 : (kindsR hT 5).2 = 72 := by
 unfold kindsR
 rw [if_pos a_okT, if_neg (by decide)]
theorem e_owed : (owedR hT wildT).2 = 71 := by
 unfold owedR owesR
 rw [if_neg (by decide +kernel), if_neg (by decide +kernel)]
theorem e_owesM : (owesR manyT 5 wildT).2 = 2 := by
 unfold owesR
 rw [if_pos (by decide +kernel)]
 decide +kernel
theorem e_owesW : (owesR prT 5 wildT).2 = 71 := by
 unfold owesR
 rw [if_neg (by decide +kernel), if_neg (by decide +kernel)]
theorem e_notch0 : (notchF fullT 0).2 = 72 := by decide +kernel
theorem e_notch1 : (notchF fullT 1).2 = 9 := by decide +kernel
theorem e_join : (joinF fullT hT).2 = 9 := by decide +kernel
theorem e_where : (whereR hT 5).2 = 73 := by
 rw [whereR_eq (a := hT) (r := (0, 73)) (.inr (.inl ⟨by decide +kernel, by decide, rfl⟩))]
theorem e_split : (splitF hT 0 5).2.2 = 73 := by decide +kernel
theorem e_matchM : (matchR manyT).2.2 = 2 := by decide +kernel
theorem e_sureM : (sureR (manyT.take 6)).2 = 70 := by decide +kernel
theorem e_sortM : (sortR manyT).2 = 2 := by decide +kernel
theorem e_lists : (listsR longT).2 = 0 ∨ (listsR longT).2 = 4 := by
 unfold listsR
 rw [if_pos (by decide +kernel)]
 split
 ·exact .inr rfl
 ·exact .inl rfl
def fullC (k : Nat) : List Int := if k = 0 then [1, 1, 2, 4] else List.replicate k 1
theorem fullC_step (k : Nat) : (fullC k).take k ++ [1] = fullC (k + 1) := by
 unfold fullC
 rw [if_neg (Nat.succ_ne_zero k)]
 by_cases h : k = 0
 ·subst h; rfl
 ·rw [if_neg h, List.take_of_length_le (by simp), ← List.replicate_succ']
theorem fullC_len (k : Nat) : k ≤ (fullC k).length ∧ (fullC k).length ≤ k + 4 ∧ fullC k ≠ [] := by
 unfold fullC
 split
 ·subst_vars; simp
 ·rename_i h
  refine ⟨by simp, by simp, fun e => ?_⟩
  have := congrArg List.length e
  simp at this; omega
theorem fullC_min (k : Nat) : min (((fullC k).length : Nat) : Int) (k : Int) = (k : Int) := by
 have := (fullC_len k).1
 omega
def lonS (k : Nat) : List Int := (List.range k).map fun (j : Nat) => 1 + (j : Int) % 2
def lonF (k : Nat) : List Int := (List.range k).map fun (j : Nat) => 2 - (j : Int) % 2
theorem lonS_step (k : Nat) : lonS (k + 1) = lonS k ++ [1 + (k : Int) % 2] := by unfold lonS; rw [List.range_succ]; simp
theorem lonF_step (k : Nat) : lonF (k + 1) = lonF k ++ [2 - (k : Int) % 2] := by unfold lonF; rw [List.range_succ]; simp
theorem lonS_len (k : Nat) : (lonS k).length = k := by simp [lonS]
theorem lonF_len (k : Nat) : (lonF k).length = k := by simp [lonF]
theorem m3_of {l : List Tl} (h : (l.all fun t => decide (t.st.length ≤ 1000) && decide (t.fo.length ≤ 1000)) = true) : small3 l := fun t ht => by
 have := List.all_eq_true.1 h t ht
 simpa using this
theorem argsC {P : Program} {k : FuncId} {avs avs' : List AV} {pre : List HA} {post : AV → List HA → Prop} (h : ∀ G vs, Fits G avs vs → Fits G avs' vs) (c : Con P k avs' pre post) : Con P k avs pre post :=
 ⟨c.enters, fun G Fp vs w hf hI => c.calls G Fp vs w (h G vs hf) hI⟩
theorem tallyExamples_con : Con Tryd.prog 9 [] [HA.tab] (Is (.val (.bool true)) []) := by
 have hs1 : hT.small := by constructor <;> decide
 have mP : small3 prT := m3_of (by decide)
 have mM : small3 manyT := m3_of (by decide)
 have CN := notchP_con hT 1 hs1
 have CF := falseP_con ⟨1, 5, [1, 1, 2, 4, 1], [1, 2, 3, 4, 1]⟩ (by decide) (by decide)
 have CI := isP_con hT [1, 1, 2, 3, 4] (by decide) (by decide) (by decide)
 have CL := listsF_con hT hs1
 have CK := kinds_con hT 1 (by decide) (by decide)
 have CM := matchF_con prT (by decide) mP
 have CS := sureF_con prT (by decide) mP
 have CO := owes_con prT 6 rT (by decide) mP
 rw [a_notch] at CN; rw [e_false] at CF; rw [e_is] at CI; rw [a_lists] at CL; rw [e_kinds] at CK; rw [e_match] at CM; rw [e_sure] at CS; rw [e_owes] at CO
 unfold seA at CK CO
 dsimp only at CN CF CI CL CK CM CS CO
 have H := half_con
 have hk2 : 2 < ([1, 2, 3, 4] : List Int).length := by decide
 refine con_of Tryd.func9 rfl (enters_of Tryd.func9 (by kernel_rfl) rfl) rfl ?_; intro n w0 F0 G0
 refine zS ?_;repeat(refine yA ?_;intro p hp;refine zS ?_)
 (first | (apply wl_call (alive_con); exact rfl; exact rfl) | (apply wl_callR (alive_con); exact rfl; exact zM; exact rfl))
 refine zS ?_;repeat(refine yA ?_;intro p hp;refine zS ?_)
 (first | (apply wl_call (H); exact rfl; exact rfl) | (apply wl_callR (H); exact rfl; exact zM; exact rfl))
 refine zS ?_;repeat(refine yA ?_;intro p hp;refine zS ?_)
 (first | (apply wl_call (CN); exact rfl; exact rfl) | (apply wl_callR (CN); exact rfl; exact zM; exact rfl))
 refine zS ?_;repeat(refine yA ?_;intro p hp;refine zS ?_)
 revert p
 intro p1 hp1
 (first | (apply wl_call (CF); exact rfl; exact rfl) | (apply wl_callR (CF); exact rfl; exact zM; exact rfl))
 refine zS ?_;repeat(refine yA ?_;intro p hp;refine zS ?_)
 (first | (apply wl_call (H); exact rfl; exact rfl) | (apply wl_callR (H); exact rfl; exact zM; exact rfl))
 refine zS ?_;repeat(refine yA ?_;intro p hp;refine zS ?_)
 (apply wl_litF iC; exact inferInstance; exact inferInstance; exact inferInstance; exact zE; exact rfl; (first | exact (of_decide_eq_true rfl) | decide | (simp; done) | (simp; omega)); exact rfl)
 refine zS ?_;repeat(refine yA ?_;intro p hp;refine zS ?_)
 (first | (apply wl_call (intsP_con [1, 1, 2, 3, 4]); exact rfl; exact rfl) | (apply wl_callR (intsP_con [1, 1, 2, 3, 4]); exact rfl; exact zM; exact rfl))
 refine zS ?_;repeat(refine yA ?_;intro p hp;refine zS ?_)
 (first | (apply wl_call (CI); exact rfl; exact rfl) | (apply wl_callR (CI); exact rfl; exact zM; exact rfl))
 refine zS ?_;repeat(refine yA ?_;intro p hp;refine zS ?_)
 (first | (apply wl_call (H); exact rfl; exact rfl) | (apply wl_callR (H); exact rfl; exact zM; exact rfl))
 refine zS ?_;repeat(refine yA ?_;intro p hp;refine zS ?_)
 (first | (apply wl_call (CL); exact rfl; exact rfl) | (apply wl_callR (CL); exact rfl; exact zM; exact rfl))
 refine zS ?_;repeat(refine yA ?_;intro p hp;refine zS ?_)
 (first | (apply wl_call (H); exact rfl; exact rfl) | (apply wl_callR (H); exact rfl; exact zM; exact rfl))
 refine zS ?_;repeat(refine yA ?_;intro p hp;refine zS ?_)
 (first | (apply wl_call (CK); exact rfl; exact rfl) | (apply wl_callR (CK); exact rfl; exact zM; exact rfl))
 refine zS ?_;repeat(refine yA ?_;intro p hp;refine zS ?_)
 revert p
 intro p9 hp9
 (first | (apply wl_call (H); exact rfl; exact rfl) | (apply wl_callR (H); exact rfl; exact zM; exact rfl))
 refine zS ?_;repeat(refine yA ?_;intro p hp;refine zS ?_)
 (apply wl_litF iC; exact inferInstance; exact inferInstance; exact inferInstance; exact zE; exact rfl; (first | exact (of_decide_eq_true rfl) | decide | (simp; done) | (simp; omega)); exact rfl)
 refine zS ?_;repeat(refine yA ?_;intro p hp;refine zS ?_)
 (first | (apply wl_call (intsP_con [3, 3]); exact rfl; exact rfl) | (apply wl_callR (intsP_con [3, 3]); exact rfl; exact zM; exact rfl))
 refine zS ?_;repeat(refine yA ?_;intro p hp;refine zS ?_)
 (apply wl_litF iC; exact inferInstance; exact inferInstance; exact inferInstance; exact zE; exact rfl; (first | exact (of_decide_eq_true rfl) | decide | (simp; done) | (simp; omega)); exact rfl)
 refine zS ?_;repeat(refine yA ?_;intro p hp;refine zS ?_)
 (first | (apply wl_call (intsP_con [3]); exact rfl; exact rfl) | (apply wl_callR (intsP_con [3]); exact rfl; exact zM; exact rfl))
 refine zS ?_;repeat(refine yA ?_;intro p hp;refine zS ?_)
 (first | (apply wl_call (cutP_con [3, 3] [3]); exact rfl; exact rfl) | (apply wl_callR (cutP_con [3, 3] [3]); exact rfl; exact zM; exact rfl))
 refine zS ?_;repeat(refine yA ?_;intro p hp;refine zS ?_)
 (apply wl_litF tC (xs := [hT, ⟨1, 5, [3, 3], [3]⟩]); exact inferInstance; exact inferInstance; exact inferInstance; exact zE; exact rfl; exact (of_decide_eq_true rfl); exact rfl)
 refine zS ?_;repeat(refine yA ?_;intro p hp;refine zS ?_)
 (first | (apply wl_call (CM); exact rfl; exact rfl) | (apply wl_callR (CM); exact rfl; exact zM; exact rfl))
 refine zS ?_;repeat(refine yA ?_;intro p hp;refine zS ?_)
 (first | (apply wl_call (CS); exact rfl; exact rfl) | (apply wl_callR (CS); exact rfl; exact zM; exact rfl))
 refine zS ?_;repeat(refine yA ?_;intro p hp;refine zS ?_)
 (first | (apply wl_call (rates_con); exact rfl; exact rfl) | (apply wl_callR (rates_con); exact rfl; exact zM; exact rfl))
 refine zS ?_;repeat(refine yA ?_;intro p hp;refine zS ?_)
 (first | (apply wl_call (CO); exact rfl; exact rfl) | (apply wl_callR (CO); exact rfl; exact zM; exact rfl))
 refine zS ?_;repeat(refine yA ?_;intro p hp;refine zS ?_)
 revert p
 intro p17 hp17
 have SL := sameLs_con [[1, 1, 2, 3, 4], [1, 1, 2, 4], [1, 1, 3, 4], [1, 2, 2, 4], [1, 2, 3, 4], [1, 2, 4]] (by decide) (by decide)
 have I1 := isL_con [0, 1] [0, 1] (by decide) (by decide)
 rw [decide_eq_true rfl] at I1
 refine W_run 70 [100, 101, 102, 103, 104, 105, 106, 107, 108, 109, 110, 111, 112, 113, 114, 115, 116, 117, 118, 119, 120, 121, 122, 123, 124, 125, 126, 127, 128, 129, 130, 131, 132, 133, 134, 135, 136, 137, 138, 139, 140, 141, 142, 143, 144, 145, 146, 147, 148, 149, 150, 151, 152, 153, 154, 155, 156, 157, 158, 159, 160, 161, 162, 163, 164, 165, 166, 167, 168, 169] [0, 1, 2, 3, 4, 5, 6, 7, 8, 9, 10, 11, 12, 13, 14, 15, 16, 17, 18, 19, 20, 21, 22, 23, 24, 25, 26, 27, 28, 29, 30, 31, 32, 33, 34, 35, 36, 37, 38, 39, 40, 41, 42, 43, 44, 45, 46, 47, 48, 49, 50, 51, 52, 53, 54, 55, 56, 57, 58, 59, 60, 61, 62, 63, 64, 65, 66, 67, 68, 69] Cut.nil rfl goFlt mixedS (by kernel_rfl) rfl ?_
 refine rpv [] [] ?_
 refine rpv [0] [] ?_
 refine rpv [1] [] ?_
 refine ryv [2] ?_
 refine ryv [2, 3] ?_
 refine rpv [2, 4] [] ?_
 refine rpv [5] [] ?_
 refine ryv [6] ?_
 refine ryv [6, 7] ?_
 refine rpv [6, 8] [] ?_
 refine rpv [9] [] ?_
 refine ryv [10] ?_
 refine ryv [10, 11] ?_
 refine rpv [10, 12] [] ?_
 refine rpv [13] [] ?_
 refine ryv [14] ?_
 refine ryv [14, 15] ?_
 refine rpv [14, 16] [] ?_
 refine rpv [17] [] ?_
 refine ryv [18] ?_
 refine ryv [18, 19] ?_
 refine rpv [18, 20] [] ?_
 refine rpv [21] [] ?_
 refine ryv [22] ?_
 refine ryx [22] (fun vs => by apply ltr_pk; exact goPk; (refine ltr ?_; apply LT_frz; apply lt_lit (f := iC); exact zE; exact rfl; (first | exact (of_decide_eq_true rfl) | decide | (simp; done) | (simp; omega)))) ?_
 refine ryx [22] (fun vs => by apply ltr_pk; exact goPk; (refine ltr ?_; apply LT_frz; apply lt_lit (f := iC); exact zE; exact rfl; (first | exact (of_decide_eq_true rfl) | decide | (simp; done) | (simp; omega)))) ?_
 refine ryx [22] (fun vs => by apply ltr_pk; exact goPk; (refine ltr ?_; apply LT_frz; apply lt_lit (f := iC); exact zE; exact rfl; (first | exact (of_decide_eq_true rfl) | decide | (simp; done) | (simp; omega)))) ?_
 refine ryx [22] (fun vs => by apply ltr_pk; exact goPk; (refine ltr ?_; apply LT_frz; apply lt_lit (f := iC); exact zE; exact rfl; (first | exact (of_decide_eq_true rfl) | decide | (simp; done) | (simp; omega)))) ?_
 refine ryx [22] (fun vs => by apply ltr_pk; exact goPk; (refine ltr ?_; apply LT_frz; apply lt_lit (f := iC); exact zE; exact rfl; (first | exact (of_decide_eq_true rfl) | decide | (simp; done) | (simp; omega)))) ?_
 refine ryx [22] (fun vs => by apply ltr_pk; exact goPk; (refine ltr ?_; apply LT_frz; apply lt_lit (f := iC); exact zE; exact rfl; (first | exact (of_decide_eq_true rfl) | decide | (simp; done) | (simp; omega)))) ?_
 refine ryx [22, 24, 25, 26, 27, 28, 29] (fun vs => by apply ltr_pk; exact goPk; (refine ltr ?_; apply LT_frz; apply lt_lit (f := slC 1 iC) (xs := [[1, 1, 2, 3, 4], [1, 1, 2, 4], [1, 1, 3, 4], [1, 2, 2, 4], [1, 2, 3, 4], [1, 2, 4]]); exact zE; exact rfl; (simp))) ?_
 refine ryx [22, 23, 30] (fun vs => by apply ltr_pk; exact goPk; (refine ltr ?_; refine lt_call ?_ (SL); exact rfl)) ?_
 refine ryv [22, 31] ?_
 refine rpv [22, 32] [] ?_
 refine rpv [33] [] ?_
 refine ryv [34] ?_
 refine ryv [34, 35] ?_
 refine rpv [34, 36] [] ?_
 refine rpv [37] [] ?_
 refine ryv [38] ?_
 refine ryx [38] (fun vs => by apply ltr_pk; exact goPk; (refine ltr ?_; refine lt_call ?_ ((span_con 1 2)); exact rfl)) ?_
 refine ryx [38, 39, 40] (fun vs => by apply ltr_pk; exact goPk; (refine ltr ?_; apply lt_neqN (xs := [1, 2]) (ys := [1, 2]); exact rfl; exact rfl; (repeat (first | exact Ints.nil | apply Ints.cons)); (repeat (first | exact Ints.nil | apply Ints.cons)); exact rfl; exact rfl)) ?_
 refine rpv [38, 41] [] ?_
 refine rpv [42] [] ?_
 refine ryv [43] ?_
 refine ryv [43] ?_
 refine ryx [43] (fun vs => by apply ltr_pk; exact goPk; (refine ltr ?_; apply LT_frz; apply lt_lit (f := iC); exact zE; exact rfl; (first | exact (of_decide_eq_true rfl) | decide | (simp; done) | (simp; omega)))) ?_
 refine ryx [43, 44, 45, 46] (fun vs => by apply ltr_pk; exact goPk; (refine ltr ?_; refine lt_call ?_ (I1); exact rfl)) ?_
 refine ryv [43, 47] ?_
 refine rpv [43, 48] [] ?_
 refine rpv [49] [] ?_
 refine ryv [50] ?_
 refine ryv [50, 51] ?_
 refine rpv [50, 52] [] ?_
 refine rpv [53] [] ?_
 refine ryv [54] ?_
 refine ryv [54] ?_
 refine ryx [54] (fun vs => by apply ltr_pk; exact goPk; (refine ltr ?_; apply LT_frz; apply lt_lit (f := iC); exact zE; exact rfl; (first | exact (of_decide_eq_true rfl) | decide | (simp; done) | (simp; omega)))) ?_
 refine ryx [54, 55, 56, 57] (fun vs => by apply ltr_pk; exact goPk; (refine ltr ?_; refine lt_call ?_ (I1); exact rfl)) ?_
 refine ryv [54, 58] ?_
 refine rpv [54, 59] [] ?_
 refine rpv [60] [] ?_
 refine ryv [61] ?_
 refine ryv [61, 62] ?_
 refine rpv [61, 63] [] ?_
 refine rpv [64] [] ?_
 refine ryv [65] ?_
 refine ryx [65] (fun vs => by apply ltr_pk; exact goPk; (refine ltr ?_; refine lt_call ?_ ((span_con 0 0)); exact rfl)) ?_
 refine ryx [65, 66, 67] (fun vs => by apply ltr_pk; exact goPk; (refine ltr ?_; apply lt_neqN (xs := [0, 0]) (ys := [0, 0]); exact rfl; exact rfl; (repeat (first | exact Ints.nil | apply Ints.cons)); (repeat (first | exact Ints.nil | apply Ints.cons)); exact rfl; exact rfl)) ?_
 refine rpv [65, 68] [] ?_
 refine ⟨⟨by kernel_rfl, by kernel_rfl⟩, fun vs => ?_⟩
 apply WL_auto [69]
 ·exact goPk
 ·exact goNrm
 ·kernel_rfl
 ·kernel_rfl
 refine zS ?_;repeat(refine yA ?_;intro p hp;refine zS ?_)
 refine zS ?_;repeat(refine yA ?_;intro p hp;refine zS ?_)
 (apply wl_callP (halfO_con); exact rfl; exact yC; exact rfl)
 rintro _ _ ⟨us, uf, o1, o2, rfl, rfl⟩
 refine zS ?_;repeat(refine yA ?_;intro p hp;refine zS ?_)
 (first | (apply wl_call (rates_con); exact rfl; exact rfl) | (apply wl_callR (rates_con); exact rfl; exact zM; exact rfl))
 refine zS ?_;repeat(refine yA ?_;intro p hp;refine zS ?_)
 (apply wl_callP (halfO_con); exact rfl; exact yC; exact rfl)
 rintro _ _ ⟨vs3, vf, o3, o4, rfl, rfl⟩
 refine zS ?_;repeat(refine yA ?_;intro p hp;refine zS ?_)
 (first | (apply wl_call (cutV_con (.slice none 0 0) (.slice none 0 0)); exact rfl; exact rfl) | (apply wl_callR (cutV_con (.slice none 0 0) (.slice none 0 0)); exact rfl; exact zM; exact rfl))
 refine zS ?_;repeat(refine yA ?_;intro p hp;refine zS ?_)
 rename_i p19 hp19 p20 hp20 p21 hp21
 revert p
 intro p22 hp22
 have C1 := falseP_con oddT (by decide) (by decide)
 have C2 := editsP_con oddT (by constructor <;> decide)
 have C3 := isP_con oddT [] (by decide) (by decide) (by decide)
 have C3 : Con _ _ [.agg (tC oddT), .val (.slice none 0 0)] _ _ := argsC (avs' := [.agg (tC oddT), .sl 1 iC []]) (fun G vs h => match vs, h with | [v1, v2], ⟨h1, h2, h3⟩ => ⟨h1, ⟨none, 0, h2, Nat.le_refl _, fun i hi => absurd hi (Nat.not_lt_zero _)⟩, h3⟩) C3
 have C4 := firstF_con oddT (by constructor <;> decide)
 have C5 := kinds_con hT 5 (by decide) (by decide)
 have C6 := owed_con hT wildT (by decide) (by decide)
 have C7 := owes_con manyT 5 wildT (by decide) mM
 have C8 := owes_con prT 5 wildT (by decide) mP
 have C9 := notchP_con fullT 0 (by constructor <;> decide)
 have C10 := notchP_con fullT 1 (by constructor <;> decide)
 have C11 := joinP_con fullT hT (by constructor <;> decide) hs1
 have C12 := whereP_con hT 5 (by decide) (by decide)
 have C13 := splitP_con hT 0 5 (by decide)
 have C14 := matchF_con manyT (by decide) mM
 have C15 := sureF_con (manyT.take 6) (by decide) (fun t ht => mM t (List.mem_of_mem_take ht))
 have C16 := sortF_con manyT (by decide) mM
 have C17 := listsF_con longT (by constructor <;> decide)
 have C18 := checkT_con oddT (by constructor <;> decide)
 have C19 := checkT_con hT hs1
 have f1 : (falseR oddT).2 = 70 := by decide +kernel
 have f2 : (editsR oddT).2 = 70 := by decide +kernel
 have f3 : (isR oddT []).2 = 70 := by decide +kernel
 have f4 : (firstR oddT).2 = 70 := by unfold firstR; rw [e_ok]; rfl
 rw [f1] at C1; rw [f2] at C2; rw [f3] at C3; rw [f4] at C4
 unfold seA at C5 C6 C7 C8
 rw [e_kinds5] at C5; rw [e_owed] at C6; rw [e_owesM] at C7; rw [e_owesW] at C8; rw [e_notch0] at C9; rw [e_notch1] at C10; rw [e_join] at C11; rw [e_where] at C12; rw [e_split] at C13; rw [e_matchM] at C14; rw [e_sureM] at C15; rw [e_sortM] at C16; rw [e_ok] at C18; rw [a_okT] at C19
 refine W_loopJ (fun (b : Nat × Value × Value × Value) => ⟨[(11, .sl 4 tC prT), (19, .val p19), (20, .val p20), (21, .val p21), (22, .val p22), (178, .val (.int .i64 b.1))], [.row b.2.1 3 1 iC (fullC b.1), .row b.2.2.1 3 1 iC (lonS b.1), .row b.2.2.2 3 1 iC (lonF b.1), .box p21 [.val (.int .i64 1), .val (.int .i64 5), .val b.2.1, .val vf] 24, .box p22 [.val (.int .i64 1), .val (.int .i64 5), .val b.2.2.1, .val b.2.2.2] 24, .row vf 3 1 iC [1, 2, 3, 4], .box p19 [.val (.int .i64 1), .val (.int .i64 5), .val us, .val uf] 24, .row us 3 1 iC [1, 1, 2, 4], .row uf 3 1 iC [1, 2, 5, 4], .box p20 (rC wildT) 64, HA.tab]⟩) (fun b => b.1 ≤ 12) (fun b => 12 - b.1) (0, vs3, .slice none 0 0, .slice none 0 0) (fun _ _ st => st_sub2 (st_nil 3 1 iC (st_nil 3 1 iC st)) zR zP) (Nat.zero_le _) ?_
 rintro ⟨k, v, a, b⟩ hk
 dsimp only at hk ⊢
 refine zS ?_;repeat(refine yA ?_;intro p hp;refine zS ?_)
 by_cases hk12 : k < 12
 ·rw [decide_eq_true (show (k : Int) < 12 by omega)]
  obtain ⟨g1, g2, g3⟩ := fullC_len k
  have hls := lonS_len k
  have hlf := lonF_len k
  refine zS ?_;repeat(refine yA ?_;intro p hp;refine zS ?_)
  rw [fullC_min]
  (apply wl_rowTo k; exact g3; exact rfl; exact inferInstance; exact rfl; exact g1; exact zN; exact rfl)
  intro v1
  refine zS ?_;repeat(refine yA ?_;intro p hp;refine zS ?_)
  (apply wl_litF iC (xs := [1]); exact inferInstance; exact inferInstance; exact inferInstance; exact zE; exact rfl; exact (of_decide_eq_true rfl); exact rfl)
  have htl : ((fullC k).take k).length ≤ 1000 := by rw [List.length_take]; omega
  (first | (apply wl_append; exact rfl; exact rfl; exact zN; exact inferInstance; exact inferInstance; (first | omega | (simp; omega)); exact rfl) | (apply wl_appendN; exact rfl; exact rfl; exact inferInstance; exact inferInstance; (first | omega | (simp; omega)); exact rfl))
  intro v2
  rw [fullC_step]
  refine WL_one zM (fun ho => ?_)
  refine zS ?_;repeat(refine yA ?_;intro p hp;refine zS ?_)
  refine W_run 15 [192, 193, 194, 195, 196, 197, 198, 199, 200, 201, 202, 203, 204, 205, 206] [0, 1, 2, 3, 4, 5, 6, 7, 8, 9, 10, 11, 12, 13, 14] (Cut.cons (h := HA.row a 3 1 iC (lonS k)) zN (Cut.cons (h := HA.row b 3 1 iC (lonF k)) zN (Cut.nil))) rfl goFlt mixedS (by kernel_rfl) rfl ?_
  refine rpv [] [] ?_
  refine rpv [0] [] ?_
  refine rpv [] [] ?_
  refine Run.pv [2] [] rfl (fun vs => by apply ltr_pk; exact goPk; (refine ltr ?_; apply lt_rem; exact rfl; exact rfl; omega; omega; omega)) goApp ?_
  refine rpv [3] [] ?_
  refine Run.pv [4] [] rfl (fun vs => by apply ltr_pk; exact goPk; (refine ltr ?_; apply LT_frz; apply lt_lit (f := iC); exact zE; exact rfl; (first | exact (of_decide_eq_true rfl) | decide | (simp; done) | (simp; omega)))) goApp ?_
  refine Run.tok [1, 5] [1000] rfl (fun vs => by apply ltr_pk; exact goPk; (refine ltr ?_; apply lt_append; exact rfl; exact rfl; (first | omega | (simp; omega)))) goApp ?_
  refine rpv [] [] ?_
  refine rpv [7] [] ?_
  refine rpv [] [] ?_
  refine Run.pv [9] [] rfl (fun vs => by apply ltr_pk; exact goPk; (refine ltr ?_; apply lt_rem; exact rfl; exact rfl; omega; omega; omega)) goApp ?_
  refine rpv [10] [] ?_
  refine Run.pv [11] [] rfl (fun vs => by apply ltr_pk; exact goPk; (refine ltr ?_; apply LT_frz; apply lt_lit (f := iC); exact zE; exact rfl; (first | exact (of_decide_eq_true rfl) | decide | (simp; done) | (simp; omega)))) goApp ?_
  refine Run.tok [8, 12] [1001] rfl (fun vs => by apply ltr_pk; exact goPk; (refine ltr ?_; apply lt_append; exact rfl; exact rfl; (first | omega | (simp; omega)))) goApp ?_
  refine rpv [] [] ?_
  refine ⟨⟨by kernel_rfl, by kernel_rfl⟩, fun vs => ?_⟩
  apply WL_auto [6, 13, 14]
  ·exact goPk
  ·exact goNrm
  ·kernel_rfl
  ·kernel_rfl
  generalize vs 6 = a2
  generalize vs 13 = b2
  rw [← lonS_step, ← lonF_step]
  refine WL_one (v := a2) zM (fun hA => ?_)
  refine WL_one (v := b2) zM (fun hB => ?_)
  refine zS ?_;repeat(refine yA ?_;intro p hp;refine zS ?_)
  refine ⟨(k + 1, v2, a2, b2), fun _ _ st => st_sub2 st zR zP, ?_, ?_⟩ <;> dsimp only <;> omega
 ·have hk2' : k = 12 := by omega
  subst hk2'
  (apply W_frzX (v := us) p19 2; exact zN; exact rfl; exact zM; exact rfl)
  (apply W_frzX (v := uf) p19 3; exact zN; exact rfl; exact zM; exact rfl)
  (apply W_frzX (v := v) p21 2; exact zN; exact rfl; exact zM; exact rfl)
  (apply W_frzX (v := vf) p21 3; exact zN; exact rfl; exact zM; exact rfl)
  (apply W_frzX (v := a) p22 2; exact zN; exact rfl; exact zM; exact rfl)
  (apply W_frzX (v := b) p22 3; exact zN; exact rfl; exact zM; exact rfl)
  refine zS ?_;repeat(refine yA ?_;intro p hp;refine zS ?_)
  (apply wl_litF tC (xs := manyT); exact inferInstance; exact inferInstance; exact inferInstance; exact zE; exact rfl; exact (of_decide_eq_true rfl); exact rfl)
  refine zS ?_;repeat(refine yA ?_;intro p hp;refine zS ?_)
  (first | (apply wl_call (C1); exact rfl; exact rfl) | (apply wl_callR (C1); exact rfl; exact zM; exact rfl))
  refine zS ?_;repeat(refine yA ?_;intro p hp;refine zS ?_)
  (first | (apply wl_call (C2); exact rfl; exact rfl) | (apply wl_callR (C2); exact rfl; exact zM; exact rfl))
  refine zS ?_;repeat(refine yA ?_;intro p hp;refine zS ?_)
  (first | (apply wl_call (C3); exact rfl; exact rfl) | (apply wl_callR (C3); exact rfl; exact zM; exact rfl))
  refine zS ?_;repeat(refine yA ?_;intro p hp;refine zS ?_)
  (first | (apply wl_call (C4); exact rfl; exact rfl) | (apply wl_callR (C4); exact rfl; exact zM; exact rfl))
  refine zS ?_;repeat(refine yA ?_;intro p hp;refine zS ?_)
  (first | (apply wl_call (H); exact rfl; exact rfl) | (apply wl_callR (H); exact rfl; exact zM; exact rfl))
  refine zS ?_;repeat(refine yA ?_;intro p hp;refine zS ?_)
  (first | (apply wl_call (C5); exact rfl; exact rfl) | (apply wl_callR (C5); exact rfl; exact zM; exact rfl))
  refine zS ?_;repeat(refine yA ?_;intro p hp;refine zS ?_)
  refine W_run 6 [243, 244, 245, 242, 246, 247] [0, 1, 2, 3, 4, 5] Cut.nil rfl goFlt mixedS (by kernel_rfl) rfl ?_
  refine Run.pv [] [] rfl (fun vs => by apply ltr_pk; exact goPk; (refine ltr ?_; refine lt_call ?_ (H); exact rfl)) goApp ?_
  refine rpv [] [] ?_
  refine Run.pv [0, 1] [] rfl (fun vs => by apply ltr_pk; exact goPk; (apply ltr_callR ((C6)); exact rfl; exact zM)) goApp ?_
  refine rpv [2] [] ?_
  refine rpv [3] [] ?_
  refine rpv [3] [] ?_
  refine ⟨⟨by kernel_rfl, by kernel_rfl⟩, fun vs => ?_⟩
  apply WL_auto [5]
  ·exact goPk
  ·exact goNrm
  ·kernel_rfl
  ·kernel_rfl
  refine zS ?_;repeat(refine yA ?_;intro p hp;refine zS ?_)
  refine zS ?_;repeat(refine yA ?_;intro p hp;refine zS ?_)
  (first | (apply wl_call (C7); exact rfl; exact rfl) | (apply wl_callR (C7); exact rfl; exact zM; exact rfl))
  refine zS ?_;repeat(refine yA ?_;intro p hp;refine zS ?_)
  (first | (apply wl_call (C8); exact rfl; exact rfl) | (apply wl_callR (C8); exact rfl; exact zM; exact rfl))
  refine zS ?_;repeat(refine yA ?_;intro p hp;refine zS ?_)
  (first | (apply wl_call (C9); exact rfl; exact rfl) | (apply wl_callR (C9); exact rfl; exact zM; exact rfl))
  refine zS ?_;repeat(refine yA ?_;intro p hp;refine zS ?_)
  (first | (apply wl_call (C10); exact rfl; exact rfl) | (apply wl_callR (C10); exact rfl; exact zM; exact rfl))
  refine zS ?_;repeat(refine yA ?_;intro p hp;refine zS ?_)
  refine W_run 8 [271, 272, 273, 270, 274, 275, 29, 1000007] [0, 1, 2, 3, 4, 5, 7] Cut.nil rfl goFlt mixedS (by kernel_rfl) rfl ?_
  refine rpv [] [] ?_
  refine Run.pv [] [] rfl (fun vs => by apply ltr_pk; exact goPk; (refine ltr ?_; refine lt_call ?_ (H); exact rfl)) goApp ?_
  refine Run.pv [0, 1] [] rfl (fun vs => by apply ltr_pk; exact goPk; (apply ltr_callR ((C11)); exact rfl; exact zM)) goApp ?_
  refine rpv [2] [] ?_
  refine rpv [3] [] ?_
  refine rpv [3] [] ?_
  refine Run.tok [] [] rfl (fun vs => by apply ltr_pk; exact goPk; exact goLtr) goApp ?_
  refine Run.fx [4, 6] [6] 6 (fun q => [.box q (tC (joinF fullT hT).1) 24]) rfl (fun vs => by apply ltr_pk; exact goPk; (refine ltr ?_; apply LT.fx; apply lt_store (av := .agg (tC (joinF fullT hT).1)); (first | exact .inl rfl | exact .inr ⟨rfl, rfl⟩); exact rfl; exact rfl; exact (of_decide_eq_true rfl); exact rfl)) goApp ?_
  refine ⟨⟨by kernel_rfl, by kernel_rfl⟩, fun vs => ?_⟩
  apply WL_auto [5]
  ·exact goPk
  ·exact goNrm
  ·kernel_rfl
  ·kernel_rfl
  refine zS ?_;repeat(refine yA ?_;intro p hp;refine zS ?_)
  refine zS ?_;repeat(refine yA ?_;intro p hp;refine zS ?_)
  (first | (apply wl_call (H); exact rfl; exact rfl) | (apply wl_callR (H); exact rfl; exact zM; exact rfl))
  refine zS ?_;repeat(refine yA ?_;intro p hp;refine zS ?_)
  (first | (apply wl_call (C12); exact rfl; exact rfl) | (apply wl_callR (C12); exact rfl; exact zM; exact rfl))
  refine zS ?_;repeat(refine yA ?_;intro p hp;refine zS ?_)
  (first | (apply wl_call (H); exact rfl; exact rfl) | (apply wl_callR (H); exact rfl; exact zM; exact rfl))
  refine zS ?_;repeat(refine yA ?_;intro p hp;refine zS ?_)
  (first | (apply wl_call (C13); exact rfl; exact rfl) | (apply wl_callR (C13); exact rfl; exact zM; exact rfl))
  refine zS ?_;repeat(refine yA ?_;intro p hp;refine zS ?_)
  (first | (apply wl_call (C14); exact rfl; exact rfl) | (apply wl_callR (C14); exact rfl; exact zM; exact rfl))
  refine zS ?_;repeat(refine yA ?_;intro p hp;refine zS ?_)
  (apply wl_slTo (h := 6); exact inferInstance; exact rfl; exact rfl; (first | exact rfl | omega | (simp; omega)); exact (by decide); exact rfl)
  refine zS ?_;repeat(refine yA ?_;intro p hp;refine zS ?_)
  (first | (apply wl_call (C15); exact rfl; exact rfl) | (apply wl_callR (C15); exact rfl; exact zM; exact rfl))
  refine zS ?_;repeat(refine yA ?_;intro p hp;refine zS ?_)
  (first | (apply wl_call (C16); exact rfl; exact rfl) | (apply wl_callR (C16); exact rfl; exact zM; exact rfl))
  refine zS ?_;repeat(refine yA ?_;intro p hp;refine zS ?_)
  (first | (apply wl_call (C17); exact rfl; exact rfl) | (apply wl_callR (C17); exact rfl; exact zM; exact rfl))
  refine zS ?_;repeat(refine yA ?_;intro p hp;refine zS ?_)
  rcases e_lists with hl | hl
  ·rw [hl]
   refine zS ?_;repeat(refine yA ?_;intro p hp;refine zS ?_)
   (first | (apply wl_call (C18); exact rfl; exact rfl) | (apply wl_callR (C18); exact rfl; exact zM; exact rfl))
   refine zS ?_;repeat(refine yA ?_;intro p hp;refine zS ?_)
   (first | (apply wl_call (H); exact rfl; exact rfl) | (apply wl_callR (H); exact rfl; exact zM; exact rfl))
   refine zS ?_;repeat(refine yA ?_;intro p hp;refine zS ?_)
   (first | (apply wl_call (C19); exact rfl; exact rfl) | (apply wl_callR (C19); exact rfl; exact zM; exact rfl))
   refine zS ?_;repeat(refine yA ?_;intro p hp;refine zS ?_)
   (apply res1; exact rfl; exact rfl; exact ⟨rfl, rfl⟩)
  ·rw [hl]
   refine zS ?_;repeat(refine yA ?_;intro p hp;refine zS ?_)
   (first | (apply wl_call (C18); exact rfl; exact rfl) | (apply wl_callR (C18); exact rfl; exact zM; exact rfl))
   refine zS ?_;repeat(refine yA ?_;intro p hp;refine zS ?_)
   (first | (apply wl_call (H); exact rfl; exact rfl) | (apply wl_callR (H); exact rfl; exact zM; exact rfl))
   refine zS ?_;repeat(refine yA ?_;intro p hp;refine zS ?_)
   (first | (apply wl_call (C19); exact rfl; exact rfl) | (apply wl_callR (C19); exact rfl; exact zM; exact rfl))
   refine zS ?_;repeat(refine yA ?_;intro p hp;refine zS ?_)
   (apply res1; exact rfl; exact rfl; exact ⟨rfl, rfl⟩)
end Go.Proofs.YthddoikmgpgakaaDoor.Sw
