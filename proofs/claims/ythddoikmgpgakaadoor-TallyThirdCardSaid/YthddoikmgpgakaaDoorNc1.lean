/- Proofs for one card: App, Frame, Reg, RegIn, Sw, SwOps, SwAny, SwOps2, SwOps3, SwR, SwF, Row, Tri, Steps, Left, Best, Comes, SwG, SwH, SwI, SwQ, SwL, SwB, SwS, SwM, SwX, Bk, SwN, MtA, LsB, LsD, LsG, Edits, LsK, Pa, Ota, Otb, TallyThird. No condition of its own. -/
import Derived.WalkKit
import Derived.Handy
import Derived.Deep.AppendSrc
import Derived.Test.YthddoikmgpgakaaDoorProg
import Derived.Outline
import Derived.RangeFuncNested
import Derived.Shelf.Abstract
import Derived.Deep.QuietTactic
import Derived.BigQuiet
import Derived.Deep.RegionHeld3
import Derived.WalkSmall
import Derived.Laws.EntriesVeiled
import Derived.Maps.AppendAt
import Derived.Deep.AppendLies
import Derived.Test.YthddoikmgpgakaaDoorCards
import Derived.Test.YthddoikmgpgakaaDoorTie
import Derived.ProofKit
import Derived.OpenShut
import Derived.LaidMore
import Derived.LaidOnce
import Derived.ChangeOld
import Derived.Below
import Derived.Stop.Joined
import Derived.Lib.SmallJoins
import Derived.OrdersHeld
import Derived.Deep.RegionHeld
import Derived.OrdersIn
import Derived.RangeFuncCalls
import Derived.RangeFuncLeaves
import Derived.IntWalk
import Derived.WalkSpells
import Derived.OwnWalk
import Derived.LoopNIn
import Derived.DeepKeys4
import Derived.Maps.OwnIn
import Derived.OwnWalkIn
import Derived.RangeFuncBound
import Derived.Shelf.RegionOpen
import Derived.TacticsInMore
import Derived.Sort.BigQuietIn
import Derived.LoopIn
import Derived.WalkMore
import Derived.Maps.Views
import Derived.Lib.AppendZerosOnto
import Derived.Lib.Walk
import Derived.Lib.SliceRun
import Derived.Laws.MakeOwn
import Derived.Deep.Cut
import Derived.Deep.Slices
import Derived.Lib.LazyBuf
import Derived.Scope
import Derived.Maps.RangeRun
import Derived.ArgAppend
import Derived.WideKeyEntry
import Derived.Shelf.SlSortCmp.Whole1
import Derived.Shelf.Lay
import Derived.Test.YthddoikmgpgakaaDoorNa8
set_option linter.unusedVariables false
set_option linter.unusedSimpArgs false
set_option maxRecDepth 40000
set_option maxHeartbeats 32000000
namespace Go.Proofs.YthddoikmgpgakaaDoor
open Go.RowKit Go
section
variable {P : Program} (w : World)
end
end Go.Proofs.YthddoikmgpgakaaDoor
namespace Go.Proofs.YthddoikmgpgakaaDoor
open Go Go.ChangeShapes Go.WideShapes Go.ChangeAt Go.RowKit
theorem laidOut : laidOutB Tryd.prog = true := by kernel_rfl
set_option maxRecDepth 100000 in
theorem tab_of {W : World} (h : laidMetH Tryd.prog laidL W) : Tab W := by
 obtain ⟨g, t, cs, fuel, p, hg, ht, hv, hd⟩ := h.funcs (n := "aguador/tally.checks") (List.mem_cons_self ..)
 obtain rfl := Option.some.inj ((show Tryd.prog.globalNamed "aguador/tally.checks" = some 0 by kernel_rfl).symm.trans hg)
 obtain rfl := Option.some.inj ((show (Tryd.prog.globals[0]?).map (·.type) = some 146 by kernel_rfl).symm.trans ht)
 have hd' : DataW.trod (funcToken Tryd.prog) Tryd.prog W 0 (fun _ => true) true fuel 146 cs.toList = some (.agg [.agg [.held [97, 103, 117, 97, 100, 111, 114, 47, 116, 97, 108, 108, 121, 46, 99, 104, 101, 99, 107, 115, 36, 49]], .agg [.held [97, 103, 117, 97, 100, 111, 114, 47, 116, 97, 108, 108, 121, 46, 99, 104, 101, 99, 107, 115, 36, 50]], .agg [.held [97, 103, 117, 97, 100, 111, 114, 47, 116, 97, 108, 108, 121, 46, 99, 104, 101, 99, 107, 115, 36, 51]]], p) := hd
 obtain ⟨xs, m, rfl, hx, hlen, hn, hel⟩ := DataW.trod_array Tryd.underlying146 hd'
 rw [show Tryd.prog.cellsOf 145 = 1 by kernel_rfl] at hel
 rw [show Tryd.prog.cellsOf 146 = 3 by kernel_rfl] at hlen
 obtain ⟨cl⟩ := cs
 match cl, hlen, xs, hn with
 | [v0, v1, v2], _, [x0, x1, x2], _ =>
  simp only [Prod.mk.injEq, DataW.agg.injEq, List.map_cons, List.map_nil, List.cons.injEq] at hx
  have h0 := hel 0 (by decide); have h1 := hel 1 (by decide); have h2 := hel 2 (by decide)
  simp at h0 h1 h2
  have go : ∀ (v : Value) (x : DataW (List UInt8) × List MemPlace) (b : UInt8) (r : List UInt8) (f0 : FuncId), ((List.range Tryd.prog.funcs.size).filter fun f => (Tryd.prog.funcs[f]?).any (·.name.toUTF8.data.toList == b :: r)) = [f0] →
    DataW.trod (funcToken Tryd.prog) Tryd.prog W 0 (fun _ => true) true m 145 [v] = some x → x.1 = .agg [.held (b :: r)] → v = .func (.func f0) #[] #[] := by
   intro v x b r f0 hone h hx
   obtain ⟨y, n, rfl, _, hy⟩ := trod_struct1 Tryd.underlying145 h
   simp only [DataW.agg.injEq, List.cons.injEq, and_true] at hx
   obtain ⟨y1, y2⟩ := y
   simp only at hx
   subst hx
   exact func_of_trod (P := Tryd.prog) Tryd.underlying25 hone (by simpa [show Tryd.prog.cellsOf 25 = 1 by kernel_rfl] using hy)
  have e0 := go v0 x0 _ _ 164 (by kernel_rfl) h0 hx.1.1.symm
  have e1 := go v1 x1 _ _ 165 (by kernel_rfl) h1 hx.1.2.1.symm
  have e2 := go v2 x2 _ _ 166 (by kernel_rfl) h2 hx.1.2.2.1.symm
  subst e0; subst e1; subst e2
  have c0 := World.var?_cell hg hv 0; have c1 := World.var?_cell hg hv 1; have c2 := World.var?_cell hg hv 2
  exact ⟨by simpa using c0, by simpa using c1, by simpa using c2⟩
end Go.Proofs.YthddoikmgpgakaaDoor
namespace Go.Proofs.YthddoikmgpgakaaDoor
open Go.RowKit Go
section
variable {P : Program} {ops : Array Oper} {Q : Exit → Act → World → Prop} {S : World → Prop} {held : List Nat}
end
section
variable {F : Fence} {n : Nat} {P : Program} {ops : Array Oper} {Q : Exit → Act → World → Prop} {S : World → Prop} {held : List Nat}
end
end Go.Proofs.YthddoikmgpgakaaDoor
namespace Go.Proofs.YthddoikmgpgakaaDoor.Sw
open Go.RowKit Go
section
variable {c : Cx} {s : S} {Q : Exit → S → Prop}
end
section
variable {c : Cx} {s : S} {Q : Exit → S → Prop} {ops : Array Oper} {tl : List Oper}
end
section
variable {c : Cx} {s : S} {Q : Exit → S → Prop} {ops : Array Oper} {tl : List Oper}
end
section
variable {P : Program} {rs : List (Nat × AV)} {d : Option Nat} {ty : TypeId} {pos : String} {af : Array Edge} {g : Option (Nat × Bool)}
end
section
variable {c : Cx} {s : S} {Q : Exit → S → Prop} {ops : Array Oper} {tl : List Oper}
end
section
variable {c : Cx} {rs : List (Nat × AV)} {hs : List HA} {Q : Exit → S → Prop} {ops : Array Oper} {tl : List Oper} {d : Nat} {op : Op} {ty : TypeId} {pos : String} {af : Array Edge}
end
section
variable {c : Cx} {rs : List (Nat × AV)} {hs : List HA} {Q : Exit → S → Prop} {ops : Array Oper} {tl : List Oper} {d : Nat} {ty : TypeId} {pos : String} {af : Array Edge} {x y : Operand} {t tb : TypeId} {p : Value} {j : Nat} {cs : List AV} {f : HA → List HA}
end
section
variable (ops : Array Oper) (m : Nat) (sp : List Sp) (hs0 : List HA)
end
section
variable {c : Cx} {ops : Array Oper} {m : Nat} {sp : List Sp} {hs0 hsR : List HA} {rsB : List (Nat × AV)} {Q : Exit → S → Prop}
end
section
variable {P : Program} {rs : List (Nat × AV)} {hsR : List HA} {d : Option Nat} {ty : TypeId} {pos : String} {af : Array Edge} {g : Option (Nat × Bool)} {x : Operand} {t tb : TypeId} {p : Value} {j : Nat} {cs : List AV} {f : HA → List HA}
end
section
variable {P : Program} {rs : List (Nat × AV)} {d : Option Nat} {ty : TypeId} {pos : String} {af : Array Edge} {g : Option (Nat × Bool)}
end
section
variable {P : Program} {rs : List (Nat × AV)} {d : Option Nat} {ty : TypeId} {pos : String} {af : Array Edge} {g : Option (Nat × Bool)}
theorem lt_eqlB {x y : Operand} {b b' : Bool} {t t' : TypeId} (ht : P.underlying t = some .bool) (hx : opv rs x = some (.val (.bool b))) (hy : opv rs y = some (.val (.bool b'))) : LT P ⟨d, .binOp .eql t x y t', ty, pos, af, g⟩ rs [] (Is (.val (.bool (b == b'))) []) :=
 LT_val (fun _ e => by cases e) fun a w G hR _ => ⟨_, rfl, by
  have e1 : a.eval x = _ := opv_ok hR hx
  have e2 : a.eval y = _ := opv_ok hR hy
  simp only [execOp, e1, e2]
  simp [go_sem, eqGuard, run_eql_bool w t b b' ht]⟩
end
section
variable {c : Cx} {rs : List (Nat × AV)} {hs : List HA} {Q : Exit → S → Prop} {ops : Array Oper} {tl : List Oper} {d : Nat} {ty : TypeId} {pos : String} {af : Array Edge}
end
section
variable {c : Cx} {rs : List (Nat × AV)} {hs : List HA} {Q : Exit → S → Prop} {ops : Array Oper} {tl : List Oper} {d : Nat} {ty : TypeId} {pos : String} {af : Array Edge}
end
section
variable {P : Program} {rs : List (Nat × AV)} {d : Option Nat} {ty : TypeId} {pos : String} {af : Array Edge} {g : Option (Nat × Bool)}
end
section
variable {c : Cx} {rs : List (Nat × AV)} {hs : List HA} {Q : Exit → S → Prop} {ops : Array Oper} {tl : List Oper} {d : Nat} {ty : TypeId} {pos : String} {af : Array Edge}
end
section
variable {P : Program} {rs : List (Nat × AV)} {hsR : List HA} {d : Option Nat} {ty : TypeId} {pos : String} {af : Array Edge} {g : Option (Nat × Bool)}
end
section
variable {P : Program} {rs : List (Nat × AV)} {hsR : List HA} {d : Option Nat} {ty : TypeId} {pos : String} {af : Array Edge} {g : Option (Nat × Bool)}
end
section
variable {c : Cx} {rs : List (Nat × AV)} {hs : List HA} {Q : Exit → S → Prop} {ops : Array Oper} {tl : List Oper} {d : Nat} {ty : TypeId} {pos : String} {af : Array Edge}
end
end Go.Proofs.YthddoikmgpgakaaDoor.Sw
namespace Go.Proofs.YthddoikmgpgakaaDoor
open Go.RowKit Go
section
variable {α : Type} {f : α → List Value} {n : Nat}
end
end Go.Proofs.YthddoikmgpgakaaDoor
namespace Go.Proofs.YthddoikmgpgakaaDoor
theorem dist_zero : ∀ (a b : List Int), dist a b = 0 → a = b
 | [], b, h => by rw [dist_nil] at h; exact (List.length_eq_zero_iff.1 h).symm
 | x :: a, b, h => by
  rcases dist_view_l x a b with e | ⟨z, b', rfl, e | e⟩
  ·omega
  ·omega
  ·by_cases hx : x = z
   ·rw [if_pos hx] at e
    rw [hx, dist_zero a b' (by omega)]
   ·rw [if_neg hx] at e; omega
end Go.Proofs.YthddoikmgpgakaaDoor
namespace Go.Proofs.YthddoikmgpgakaaDoor
open Go.RowKit Go.Proofs Go.Shelf
attribute [local go_sem] Oper.semAt_some
attribute [local go_sem] Oper.semAt_some
attribute [local go_sem] eqPlace
attribute [local go_sem] Oper.semAt_some
attribute [local go_sem] Oper.semAt_some
end Go.Proofs.YthddoikmgpgakaaDoor
namespace Go.Proofs.YthddoikmgpgakaaDoor.Sw
open Go.RowKit Go
section
variable {c : Cx} {rs : List (Nat × AV)} {hs : List HA} {Q : Exit → S → Prop} {g : Operand} {ps : Array Tmp} {assign body : Code} {gf : FuncId} {caps : List AV} {own r : List HA} {α β τ : Type} {f : α → τ → List AV} {t : α → τ → List HA} {xs : List α}
end
section
variable {P : Program} {rs : List (Nat × AV)} {hsR : List HA} {d : Option Nat} {ty : TypeId} {pos : String} {af : Array Edge} {g : Option (Nat × Bool)}
end
section
variable {c : Cx} {rs : List (Nat × AV)} {hs : List HA} {Q : Exit → S → Prop} {ops : Array Oper} {tl : List Oper} {d : Nat} {ty : TypeId} {pos : String} {af : Array Edge}
end
section
variable {P : Program} {rs : List (Nat × AV)} {hsR : List HA} {d : Option Nat} {ty : TypeId} {pos : String} {af : Array Edge} {g : Option (Nat × Bool)}
end
section
variable {c : Cx} {rs : List (Nat × AV)} {hs : List HA} {Q : Exit → S → Prop} {ops : Array Oper} {tl : List Oper} {d : Nat} {ty : TypeId} {pos : String} {af : Array Edge}
end
section
variable {P : Program} {rs : List (Nat × AV)} {d : Option Nat} {ty : TypeId} {pos : String} {af : Array Edge} {g : Option (Nat × Bool)}
end
section
variable {c : Cx} {rs : List (Nat × AV)} {hs : List HA} {Q : Exit → S → Prop} {ops : Array Oper} {tl : List Oper} {d : Nat} {ty : TypeId} {pos : String} {af : Array Edge}
end
section
variable {P : Program} {rs : List (Nat × AV)} {d : Option Nat} {ty : TypeId} {pos : String} {af : Array Edge} {g : Option (Nat × Bool)}
end
section
variable {P : Program} {rs : List (Nat × AV)} {d : Option Nat} {ty : TypeId} {pos : String} {af : Array Edge} {g : Option (Nat × Bool)}
end
section
variable {c : Cx} {rs : List (Nat × AV)} {hs : List HA} {Q : Exit → S → Prop} {ops : Array Oper} {tl : List Oper} {d : Nat} {ty : TypeId} {pos : String} {af : Array Edge}
end
section
variable {P : Program} {rs : List (Nat × AV)} {d : Option Nat} {ty : TypeId} {pos : String} {af : Array Edge} {g : Option (Nat × Bool)}
end
section
variable {c : Cx} {rs : List (Nat × AV)} {hs : List HA} {Q : Exit → S → Prop} {ops : Array Oper} {tl : List Oper} {d : Nat} {ty : TypeId} {pos : String} {af : Array Edge}
end
section
variable {P : Program} {rs : List (Nat × AV)} {d : Option Nat} {ty : TypeId} {pos : String} {af : Array Edge} {g : Option (Nat × Bool)}
end
section
variable {c : Cx} {rs : List (Nat × AV)} {hs r : List HA} {Q : Exit → S → Prop} {ops : Array Oper} {tl : List Oper} {d : Nat} {ty : TypeId} {pos : String} {af : Array Edge}
end
end Go.Proofs.YthddoikmgpgakaaDoor.Sw
namespace Go.Proofs.YthddoikmgpgakaaDoor.Sw
open Go.RowKit Go
open Go.WideElems (Fit)
open Go.ChangeMaps (setBlock heap_setBlock_same heap_setBlock_other)
section
variable {κ α : Type} [DecidableEq κ]
end
section
variable {κ α : Type} (kv : κ → Value) (g : α → AV)
variable {kv g}
variable (kv g)
variable {kv g}
end
section
variable {P : Program} {κ α : Type} [DecidableEq κ] {t : TypeId} {kv : κ → Value} {ok : κ → Prop} {g : α → AV} {l : List (κ × α)} {G : Nat → Option Obj} {F : List Nat} {w : World} {v : Value}
variable {rs : List (Nat × AV)} {d : Option Nat} {ty : TypeId} {pos : String} {af : Array Edge} {gd : Option (Nat × Bool)}
end
section
variable {c : Cx} {rs : List (Nat × AV)} {hs : List HA} {Q : Exit → S → Prop} {ops : Array Oper} {tl : List Oper} {d : Nat} {ty : TypeId} {pos : String} {af : Array Edge} {κ α : Type} [DecidableEq κ] {t : TypeId} {kv : κ → Value} {ok : κ → Prop} {g : α → AV} {l : List (κ × α)} {v : Value}
end
section
variable {P : Program} {rs : List (Nat × AV)} {d : Option Nat} {ty : TypeId} {pos : String} {af : Array Edge} {gd : Option (Nat × Bool)} {κ α : Type} {t : TypeId} {kv : κ → Value} {g : α → AV} {l rest : List (κ × α)} {v it : Value}
end
section
variable {c : Cx} {rs : List (Nat × AV)} {hs r : List HA} {Q : Exit → S → Prop} {ops : Array Oper} {tl : List Oper} {d : Nat} {ty : TypeId} {pos : String} {af : Array Edge} {κ α : Type} {t : TypeId} {kv : κ → Value} {g : α → AV} {l rest : List (κ × α)} {v it : Value}
end
end Go.Proofs.YthddoikmgpgakaaDoor.Sw
namespace Go.Proofs.YthddoikmgpgakaaDoor.Sw
open Go.RowKit Go
section
variable {P : Program} {w : World}
end
section
variable {P : Program} {rs : List (Nat × AV)} {d : Option Nat} {ty : TypeId} {pos : String} {af : Array Edge} {g : Option (Nat × Bool)}
end
end Go.Proofs.YthddoikmgpgakaaDoor.Sw
namespace Go.Proofs.YthddoikmgpgakaaDoor.Sw
open Go.RowKit Go
open Go.WideElems (Fit)
open Go.ChangeMaps (setBlock heap_setBlock_same heap_setBlock_other)
section
variable {P : Program} {κ α : Type} [DecidableEq κ] {t : TypeId} {kv : κ → Value} {ok : κ → Prop} {g : α → AV} {l : List (κ × α)} {G : Nat → Option Obj} {F : List Nat} {w : World} {v : Value}
variable {rs : List (Nat × AV)} {d : Option Nat} {ty : TypeId} {pos : String} {af : Array Edge} {gd : Option (Nat × Bool)}
end
section
variable {c : Cx} {rs : List (Nat × AV)} {hs : List HA} {Q : Exit → S → Prop} {ops : Array Oper} {tl : List Oper} {d : Nat} {ty : TypeId} {pos : String} {af : Array Edge} {κ α : Type} [DecidableEq κ] {t : TypeId} {kv : κ → Value} {ok : κ → Prop} {g : α → AV} {l : List (κ × α)} {v : Value}
end
end Go.Proofs.YthddoikmgpgakaaDoor.Sw
namespace Go.Proofs.YthddoikmgpgakaaDoor.Sw
open Go.RowKit Go
section
variable {P : Program} {rs : List (Nat × AV)} {d : Option Nat} {ty : TypeId} {pos : String} {af : Array Edge} {g : Option (Nat × Bool)}
end
end Go.Proofs.YthddoikmgpgakaaDoor.Sw
namespace Go.Proofs.YthddoikmgpgakaaDoor.Sw
open Go.RowKit Go Go.Shelf Go.Proofs
section
variable {P : Program} {rs : List (Nat × AV)} {d : Option Nat} {ty : TypeId} {pos : String} {af : Array Edge} {g : Option (Nat × Bool)}
end
attribute [local go_sem] eqPlace
section
variable {P : Program} {rs : List (Nat × AV)} {d : Option Nat} {ty : TypeId} {pos : String} {af : Array Edge} {g : Option (Nat × Bool)}
end
end Go.Proofs.YthddoikmgpgakaaDoor.Sw
namespace Go.Proofs.YthddoikmgpgakaaDoor
open Go.RowKit Go.Proofs Go.Shelf
attribute [local go_sem] Oper.semAt_some
attribute [local go_sem] eqPlace
attribute [local go_sem] eqEdit
end Go.Proofs.YthddoikmgpgakaaDoor
namespace Go.Proofs.YthddoikmgpgakaaDoor.Sw
open Go.RowKit Go Go.Shelf Go.Proofs
end Go.Proofs.YthddoikmgpgakaaDoor.Sw
namespace Go.Proofs.YthddoikmgpgakaaDoor
open Go.RowKit Go.Proofs Go.Shelf
end Go.Proofs.YthddoikmgpgakaaDoor
namespace Go.Proofs.YthddoikmgpgakaaDoor.Sw
open Go.RowKit Go Go.Shelf Go.Proofs
open Go.Proofs.YthddoikmgpgakaaDoor.Ma
structure Rdy (t : Tl) : Prop where
 ok : okT t.id t.hs t.st t.fo = true
 s : t.st.length ≤ 12
 f : t.fo.length ≤ 12
 os : okN t.st = true
 of : okN t.fo = true
theorem rdy_of {t : Tl} (h : okT t.id t.hs t.st t.fo = true) : Rdy t := by
 obtain ⟨a, b, c, d⟩ := okT_b h
 exact ⟨h, a, b, c, d⟩
theorem Rdy.of' {t : Tl} (h : (!(decide ((30 : Int) < t.st.length) || decide ((30 : Int) < t.fo.length)) && okT t.id t.hs t.st t.fo) = true) : Rdy t := by
 rw [Bool.and_eq_true] at h
 exact rdy_of h.2
theorem ready1_con (t : Tl) : Con Tryd.prog 67 [.agg (tC t)] [] (Is (.val (.bool (!(decide ((30 : Int) < t.st.length) || decide ((30 : Int) < t.fo.length)) && okT t.id t.hs t.st t.fo))) []) := by
 cases hg : (decide ((30 : Int) < t.st.length) || decide ((30 : Int) < t.fo.length)) with
 | true =>
  have GC := great_con t
  rw [hg] at GC
  refine con_of Tryd.func67 rfl (enters_of Tryd.func67 (by kernel_rfl) rfl) rfl ?_; intro n w0 F0 G0
  refine zS ?_;repeat(refine yA ?_;intro p hp;refine zS ?_)
  (first | (apply wl_call (GC); exact rfl; exact rfl) | (apply wl_callR (GC); exact rfl; exact zM; exact rfl))
  refine zS ?_
  (apply res1; exact rfl; exact rfl; exact ⟨rfl, rfl⟩)
 | false =>
  have h2 := hg
  simp only [Bool.or_eq_false_iff, decide_eq_false_iff_not] at h2
  have := ready_con t (by omega) (by omega)
  rwa [hg] at this
end Go.Proofs.YthddoikmgpgakaaDoor.Sw
namespace Go.Proofs.YthddoikmgpgakaaDoor
open Go.RowKit Go.Proofs Go.Shelf
theorem dist_max : ∀ a b : List Int, dist a b ≤ max a.length b.length
 | [], b => by rw [dist_nil]; exact Nat.le_max_right _ _
 | x :: a, [] => by rw [dist_nil']; exact Nat.le_max_left _ _
 | x :: a, y :: b => by
  have h1 := dist_both x y a b
  have h2 := dist_max a b
  have h3 : (if x = y then 0 else 1) ≤ 1 := by split <;> omega
  simp only [List.length_cons]
  omega
end Go.Proofs.YthddoikmgpgakaaDoor
namespace Go.Proofs.YthddoikmgpgakaaDoor.Sw
open Go.RowKit Go Go.Shelf Go.Proofs
open Go.Proofs.YthddoikmgpgakaaDoor.Ma
theorem wl_eqlB {c : Cx} {rs : List (Nat × AV)} {hs : List HA} {Q : Exit → S → Prop} {ops : Array Oper} {tl : List Oper} {d : Nat} {ty : TypeId} {pos : String} {af : Array Edge} {x y : Operand} {a b e : Bool} {t t' : TypeId} (ht : c.P.underlying t = some .bool) (hx : opv rs x = some (.val (.bool a))) (hy : opv rs y = some (.val (.bool b))) (he : (a == b) = e) (hd : Nat.blt d c.nt = true) (k : WL c ops tl ⟨(d, .val (.bool e)) :: rs, hs⟩ Q) : WL c ops (⟨some d, .binOp .eql t x y t', ty, pos, af, none⟩ :: tl) ⟨rs, hs⟩ Q := by subst he; exact wl_ex (lt_eqlB ht hx hy) hd k
section
variable {P : Program} {rs : List (Nat × AV)} {d : Option Nat} {ty : TypeId} {pos : String} {af : Array Edge} {g : Option (Nat × Bool)}
end
section
variable {c : Cx} {rs : List (Nat × AV)} {hs : List HA} {Q : Exit → S → Prop} {ops : Array Oper} {tl : List Oper} {d : Nat} {ty : TypeId} {pos : String} {af : Array Edge}
end
theorem falseR_ok {a : Tl} (h : Rdy a) : falseR a = ((dist a.st a.fo : Int), 0) := by unfold falseR; rw [if_pos h.ok]
theorem Rdy.dist {a : Tl} (h : Rdy a) : dist a.st a.fo ≤ 12 := by
 have := dist_max a.st a.fo
 have := h.s
 have := h.f
 omega
theorem rdy_cut {a b : List Int} (h1 : a.length ≤ 12) (h2 : b.length ≤ 12) (h3 : okN a = true) (h4 : okN b = true) : Rdy ⟨1, 5, a, b⟩ := ⟨by unfold okT; simp [h1, h2, h3, h4], h1, h2, h3, h4⟩
theorem Rdy.small {a : Tl} (h : Rdy a) : a.small := ⟨by have := h.s; omega, by have := h.f; omega⟩
theorem Rdy.lt {a : Tl} (h : Rdy a) : a.st.length ≤ 1000 ∧ a.fo.length ≤ 1000 := ⟨by have := h.s; omega, by have := h.f; omega⟩
theorem sameLs_con (xs : List (List Int)) (hl : xs.length ≤ 1000000) (hm : ∀ x ∈ xs, x.length ≤ 1000000) : Con Tryd.prog 59 [.sl 1 (slC 1 iC) xs, .sl 1 (slC 1 iC) xs] [] (Is (.val (.bool true)) []) := by
 refine con_of Tryd.func59 rfl (enters_of Tryd.func59 (by kernel_rfl) rfl) rfl ?_; intro n w0 F0 G0
 refine zS ?_
 simp only [decide_true, Bool.not_true]
 refine zS ?_
 refine W_loopJ (fun (k : Nat) => ⟨[(0, .sl 1 (slC 1 iC) xs), (1, .sl 1 (slC 1 iC) xs), (5, .val (.int .i64 k))], []⟩) (fun k => k ≤ xs.length) (fun k => xs.length - k) 0 (fun _ _ st => st_sub2 st zR zP) ?hj0 ?round
 case hj0 => exact Nat.zero_le _
 case round =>
  rintro k hk
  refine zS ?_
  refine w_cond rfl (fun hlt => ?_) (fun hlt => ?_)
  ·have hlt' : k < xs.length := by simpa using hlt
   have hq1 : xs[k]? = some xs[k] := List.getElem?_eq_getElem hlt'
   have hmk := hm _ (List.getElem_mem hlt')
   have C := sameI1_con xs[k] xs[k] hmk hmk
   rw [decide_eq_true rfl] at C
   refine zS ?_
   refine W_run 8 [17, 18, 19, 20, 21, 22, 23, 24] [0, 1, 2, 3, 4, 5, 6, 7] Cut.nil rfl goFlt mixedS (by kernel_rfl) rfl ?_
   refine rpv [] [] ?_
   refine rpv [] [] ?_
   refine rpv [0, 1] [] ?_
   refine rpv [2] [] ?_
   refine rpv [] [] ?_
   refine rpv [] [] ?_
   refine rpv [4, 5] [] ?_
   refine rpv [6] [] ?_
   refine ⟨⟨by kernel_rfl, by kernel_rfl⟩, fun vs => ?_⟩
   apply WL_auto [3, 7]
   ·exact goPk
   ·exact goNrm
   ·kernel_rfl
   ·kernel_rfl
   refine zS ?_
   (first | (apply wl_call (C); exact rfl; exact rfl) | (apply wl_callR (C); exact rfl; exact zM; exact rfl))
   refine zS ?_
   (refine ⟨k + 1, fun _ _ st => st_sub2 st ?_ ?_, ?_, ?_⟩; exact zR; exact zP)
   ·exact hlt'
   ·omega
  ·refine zS ?_
   (apply res1; exact rfl; exact rfl; exact ⟨rfl, rfl⟩)
theorem listsR_comm {a : Tl} (h : Rdy a) : listsR ⟨1, 5, a.fo, a.st⟩ = listsR a := by
 have h2 := rdy_cut h.f h.s h.of h.os
 unfold listsR
 rw [if_pos h2.ok, if_pos h.ok]
 dsimp only
 have e : tellT a.fo a.st 0 0 = tellT a.st a.fo 0 0 := tellT_comm h.os h.of
 rw [e]
theorem listsR_len {a : Tl} : (listsR a).1.length ≤ 200 ∧ (Rdy a → ∀ x ∈ (listsR a).1, x.length ≤ 24) := by
 refine ⟨?_, fun h => ?_⟩
 ·unfold listsR
  split
  ·split
   ·simp
   ·dsimp only; omega
  ·simp
 ·unfold listsR
  rw [if_pos h.ok]
  split
  ·intro x hx; cases hx
  ·rename_i hl
   intro x hx
   have hT := (tell_all h.os h.of (by omega) x).2 hx
   have := hT.length_le
   have := h.s
   have := h.f
   omega
theorem tallyThird_con (x y : Tl) : Con Tryd.prog 13 [.agg (tC x), .agg (tC y)] [HA.tab] (Is (.val (.bool true)) []) := by
 have RX := ready1_con x
 have RY := ready1_con y
 refine con_of Tryd.func13 rfl (enters_of Tryd.func13 (by kernel_rfl) rfl) rfl ?_; intro n w0 F0 G0
 refine zS ?_;repeat(refine yA ?_;intro p hp;refine zS ?_)
 rename_i p2 hp2
 (first | (apply wl_call (alive_con); exact rfl; exact rfl) | (apply wl_callR (alive_con); exact rfl; exact zM; exact rfl))
 refine zS ?_
 (first | (apply wl_call (RX); exact rfl; exact rfl) | (apply wl_callR (RX); exact rfl; exact zM; exact rfl))
 cases hx : (!(decide ((30 : Int) < x.st.length) || decide ((30 : Int) < x.fo.length)) && okT x.id x.hs x.st x.fo) with
 | false =>
  refine zS ?_
  (apply res1; exact rfl; exact rfl; exact ⟨rfl, rfl⟩)
 | true =>
  refine zS ?_
  (first | (apply wl_call (RY); exact rfl; exact rfl) | (apply wl_callR (RY); exact rfl; exact zM; exact rfl))
  cases hy : (!(decide ((30 : Int) < y.st.length) || decide ((30 : Int) < y.fo.length)) && okT y.id y.hs y.st y.fo) with
  | false =>
   refine zS ?_
   (apply res1; exact rfl; exact rfl; exact ⟨rfl, rfl⟩)
  | true =>
   have hX := Rdy.of' hx
   have hY := Rdy.of' hy
   have hXY := rdy_cut hX.s hY.s hX.os hY.os
   have hYX := rdy_cut hY.s hX.f hY.os hX.of
   have hXX := rdy_cut hX.f hX.s hX.of hX.os
   have C1 := falseP_con x hX.lt.1 hX.lt.2
   have C2 := falseP_con ⟨1, 5, x.st, y.st⟩ hXY.lt.1 hXY.lt.2
   have C3 := falseP_con ⟨1, 5, y.st, x.fo⟩ hYX.lt.1 hYX.lt.2
   have C4 := falseP_con ⟨1, 5, x.fo, x.st⟩ hXX.lt.1 hXX.lt.2
   have C5 := listsF_con ⟨1, 5, x.fo, x.st⟩ hXX.small
   have C6 := listsF_con x hX.small
   rw [falseR_ok hX] at C1
   rw [falseR_ok hXY] at C2
   rw [falseR_ok hYX] at C3
   rw [falseR_ok hXX] at C4
   rw [listsR_comm hX] at C5
   dsimp only at C1 C2 C3 C4 C5 C6
   rw [dist_comm x.fo x.st] at C4
   have d1 := hX.dist
   have d2 := hXY.dist
   have d3 := hYX.dist
   have d4 := dist_third x.st y.st x.fo
   have d5 : decide ((dist x.st x.fo : Int) = 0) = decide (x.st = x.fo) := by
    refine Bool.eq_iff_iff.2 ?_
    simp only [decide_eq_true_eq]
    constructor
    ·intro h; exact dist_zero _ _ (by omega)
    ·intro h; rw [h, dist_self]; rfl
   have C7 := sameI_con x.st x.fo (by have := hX.lt; omega) (by have := hX.lt; omega)
   have hL := listsR_len (a := x)
   have C8 := sameLs_con (listsR x).1 (by omega) fun z hz => by have := hL.2 hX z hz; omega
   dsimp only at d2 d3
   generalize dist x.st x.fo = n1 at C1 C4 d1 d4 d5
   generalize dist x.st y.st = n2 at C2 d2 d4
   generalize dist y.st x.fo = n3 at C3 d3 d4
   generalize listsR x = L at C5 C6 C8
   obtain ⟨L, e⟩ := L
   dsimp only at C5 C6 C8
   refine zS ?_
   (first | (apply wl_call (C1); exact rfl; exact rfl) | (apply wl_callR (C1); exact rfl; exact zM; exact rfl))
   refine zS ?_
   (first | (apply wl_call (cutP_con x.st y.st); exact rfl; exact rfl) | (apply wl_callR (cutP_con x.st y.st); exact rfl; exact zM; exact rfl))
   refine zS ?_
   (first | (apply wl_call (C2); exact rfl; exact rfl) | (apply wl_callR (C2); exact rfl; exact zM; exact rfl))
   refine zS ?_
   (first | (apply wl_call (cutP_con y.st x.fo); exact rfl; exact rfl) | (apply wl_callR (cutP_con y.st x.fo); exact rfl; exact zM; exact rfl))
   refine zS ?_
   (first | (apply wl_call (C3); exact rfl; exact rfl) | (apply wl_callR (C3); exact rfl; exact zM; exact rfl))
   refine zS ?_
   (first | (apply wl_call (cutP_con x.fo x.st); exact rfl; exact rfl) | (apply wl_callR (cutP_con x.fo x.st); exact rfl; exact zM; exact rfl))
   refine zS ?_
   (first | (apply wl_call (C4); exact rfl; exact rfl) | (apply wl_callR (C4); exact rfl; exact zM; exact rfl))
   refine zS ?_
   rw [decide_eq_false (show ¬ (n1 : Int) < 0 by omega)]
   refine zS ?_
   rw [decide_eq_false (show ¬ (12 : Int) < (n1 : Int) by omega)]
   refine zS ?_
   rw [decide_eq_false (show ¬ (12 : Int) < (n2 : Int) by omega)]
   refine zS ?_
   rw [decide_eq_false (show ¬ (12 : Int) < (n3 : Int) by omega)]
   refine zS ?_
   rw [decide_eq_false (show ¬ (n2 : Int) + (n3 : Int) < (n1 : Int) by omega)]
   refine zS ?_
   simp only [decide_true, Bool.not_true]
   refine zS ?_
   (first | (apply wl_call (cutP_con x.fo x.st); exact rfl; exact rfl) | (apply wl_callR (cutP_con x.fo x.st); exact rfl; exact zM; exact rfl))
   refine zS ?_
   (first | (apply wl_call (C5); exact rfl; exact rfl) | (apply wl_callR (C5); exact rfl; exact zM; exact rfl))
   refine zS ?_
   (first | (apply wl_call (C6); exact rfl; exact rfl) | (apply wl_callR (C6); exact rfl; exact zM; exact rfl))
   refine zS ?_
   simp only [decide_true]
   refine zS ?_
   (first | (apply wl_call (C8); exact rfl; exact rfl) | (apply wl_callR (C8); exact rfl; exact zM; exact rfl))
   refine zS ?_
   (first | (apply wl_call (C7); exact rfl; exact rfl) | (apply wl_callR (C7); exact rfl; exact zM; exact rfl))
   refine zS ?_
   (apply wl_eqlB (e := true); exact Tryd.underlying4; exact rfl; exact rfl; (rw [d5]; simp); exact rfl)
   refine zS ?_
   (apply res1; exact rfl; exact rfl; exact ⟨rfl, rfl⟩)
end Go.Proofs.YthddoikmgpgakaaDoor.Sw
