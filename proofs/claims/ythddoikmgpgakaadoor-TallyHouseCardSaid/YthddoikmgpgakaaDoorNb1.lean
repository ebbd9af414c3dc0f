/- Proofs for one card: App, Frame, Reg, RegIn, Sw, SwOps, SwAny, SwOps2, SwOps3, SwR, Ty, SwF, Row, Steps, Left, Best, Comes, Wide, SwG, SwH, SwI, SwQ, SwL, SwB, SwS, SwM, SwX, Bk, SwN, MtA, LsB, LsD, LsG, Edits, LsK, Pa, Ota, SwZ, TallyHouse. No condition of its own. -/
import Derived.WalkKit
import Derived.Handy
import Derived.Deep.AppendSrc
import Derived.Test.YthddoikmgpgakaaDoorProg
import Derived.Outline
import Derived.RangeFuncNested
import Derived.Shelf.Abstract
import Derived.Deep.QuietTactic
import Derived.BigQuiet
import Derived.Deep.RegionHeld3
import Derived.WalkSmall
import Derived.Laws.EntriesVeiled
import Derived.Maps.AppendAt
import Derived.Deep.AppendLies
import Derived.Test.YthddoikmgpgakaaDoorCards
import Derived.Test.YthddoikmgpgakaaDoorTie
import Derived.ProofKit
import Derived.OpenShut
import Derived.LaidMore
import Derived.LaidOnce
import Derived.ChangeOld
import Derived.Below
import Derived.Stop.Joined
import Derived.Lib.SmallJoins
import Derived.OrdersHeld
import Derived.Deep.RegionHeld
import Derived.OrdersIn
import Derived.RangeFuncCalls
import Derived.RangeFuncLeaves
import Derived.IntWalk
import Derived.WalkSpells
import Derived.OwnWalk
import Derived.LoopNIn
import Derived.DeepKeys4
import Derived.Maps.OwnIn
import Derived.OwnWalkIn
import Derived.RangeFuncBound
import Derived.Shelf.RegionOpen
import Derived.TacticsInMore
import Derived.Sort.BigQuietIn
import Derived.LoopIn
import Derived.WalkMore
import Derived.Maps.Views
import Derived.Lib.AppendZerosOnto
import Derived.Lib.Walk
import Derived.Lib.SliceRun
import Derived.Laws.MakeOwn
import Derived.Deep.Cut
import Derived.Deep.Slices
import Derived.Lib.LazyBuf
import Derived.Scope
import Derived.Maps.RangeRun
import Derived.ArgAppend
import Derived.WideKeyEntry
import Derived.Shelf.SlSortCmp.Whole1
import Derived.Shelf.Lay
import Derived.Test.YthddoikmgpgakaaDoorNa8
set_option linter.unusedVariables false
set_option linter.unusedSimpArgs false
set_option maxRecDepth 40000
set_option maxHeartbeats 32000000
namespace Go.Proofs.YthddoikmgpgakaaDoor
open Go.RowKit Go
section
variable {P : Program} (w : World)
end
end Go.Proofs.YthddoikmgpgakaaDoor
namespace Go.Proofs.YthddoikmgpgakaaDoor
open Go Go.ChangeShapes Go.WideShapes Go.ChangeAt Go.RowKit
theorem laidOut : laidOutB Tryd.prog = true := by kernel_rfl
set_option maxRecDepth 100000 in
theorem tab_of {W : World} (h : laidMetH Tryd.prog laidL W) : Tab W := by
 obtain ⟨g, t, cs, fuel, p, hg, ht, hv, hd⟩ := h.funcs (n := "aguador/tally.checks") (List.mem_cons_self ..)
 obtain rfl := Option.some.inj ((show Tryd.prog.globalNamed "aguador/tally.checks" = some 0 by kernel_rfl).symm.trans hg)
 obtain rfl := Option.some.inj ((show (Tryd.prog.globals[0]?).map (·.type) = some 146 by kernel_rfl).symm.trans ht)
 have hd' : DataW.trod (funcToken Tryd.prog) Tryd.prog W 0 (fun _ => true) true fuel 146 cs.toList = some (.agg [.agg [.held [97, 103, 117, 97, 100, 111, 114, 47, 116, 97, 108, 108, 121, 46, 99, 104, 101, 99, 107, 115, 36, 49]], .agg [.held [97, 103, 117, 97, 100, 111, 114, 47, 116, 97, 108, 108, 121, 46, 99, 104, 101, 99, 107, 115, 36, 50]], .agg [.held [97, 103, 117, 97, 100, 111, 114, 47, 116, 97, 108, 108, 121, 46, 99, 104, 101, 99, 107, 115, 36, 51]]], p) := hd
 obtain ⟨xs, m, rfl, hx, hlen, hn, hel⟩ := DataW.trod_array Tryd.underlying146 hd'
 rw [show Tryd.prog.cellsOf 145 = 1 by kernel_rfl] at hel
 rw [show Tryd.prog.cellsOf 146 = 3 by kernel_rfl] at hlen
 obtain ⟨cl⟩ := cs
 match cl, hlen, xs, hn with
 | [v0, v1, v2], _, [x0, x1, x2], _ =>
  simp only [Prod.mk.injEq, DataW.agg.injEq, List.map_cons, List.map_nil, List.cons.injEq] at hx
  have h0 := hel 0 (by decide); have h1 := hel 1 (by decide); have h2 := hel 2 (by decide)
  simp at h0 h1 h2
  have go : ∀ (v : Value) (x : DataW (List UInt8) × List MemPlace) (b : UInt8) (r : List UInt8) (f0 : FuncId), ((List.range Tryd.prog.funcs.size).filter fun f => (Tryd.prog.funcs[f]?).any (·.name.toUTF8.data.toList == b :: r)) = [f0] →
    DataW.trod (funcToken Tryd.prog) Tryd.prog W 0 (fun _ => true) true m 145 [v] = some x → x.1 = .agg [.held (b :: r)] → v = .func (.func f0) #[] #[] := by
   intro v x b r f0 hone h hx
   obtain ⟨y, n, rfl, _, hy⟩ := trod_struct1 Tryd.underlying145 h
   simp only [DataW.agg.injEq, List.cons.injEq, and_true] at hx
   obtain ⟨y1, y2⟩ := y
   simp only at hx
   subst hx
   exact func_of_trod (P := Tryd.prog) Tryd.underlying25 hone (by simpa [show Tryd.prog.cellsOf 25 = 1 by kernel_rfl] using hy)
  have e0 := go v0 x0 _ _ 164 (by kernel_rfl) h0 hx.1.1.symm
  have e1 := go v1 x1 _ _ 165 (by kernel_rfl) h1 hx.1.2.1.symm
  have e2 := go v2 x2 _ _ 166 (by kernel_rfl) h2 hx.1.2.2.1.symm
  subst e0; subst e1; subst e2
  have c0 := World.var?_cell hg hv 0; have c1 := World.var?_cell hg hv 1; have c2 := World.var?_cell hg hv 2
  exact ⟨by simpa using c0, by simpa using c1, by simpa using c2⟩
end Go.Proofs.YthddoikmgpgakaaDoor
namespace Go.Proofs.YthddoikmgpgakaaDoor
open Go.RowKit Go
section
variable {P : Program} {ops : Array Oper} {Q : Exit → Act → World → Prop} {S : World → Prop} {held : List Nat}
end
section
variable {F : Fence} {n : Nat} {P : Program} {ops : Array Oper} {Q : Exit → Act → World → Prop} {S : World → Prop} {held : List Nat}
end
end Go.Proofs.YthddoikmgpgakaaDoor
namespace Go.Proofs.YthddoikmgpgakaaDoor.Sw
open Go.RowKit Go
section
variable {c : Cx} {s : S} {Q : Exit → S → Prop}
end
section
variable {c : Cx} {s : S} {Q : Exit → S → Prop} {ops : Array Oper} {tl : List Oper}
end
section
variable {c : Cx} {s : S} {Q : Exit → S → Prop} {ops : Array Oper} {tl : List Oper}
end
section
variable {P : Program} {rs : List (Nat × AV)} {d : Option Nat} {ty : TypeId} {pos : String} {af : Array Edge} {g : Option (Nat × Bool)}
end
section
variable {c : Cx} {s : S} {Q : Exit → S → Prop} {ops : Array Oper} {tl : List Oper}
end
section
variable {c : Cx} {rs : List (Nat × AV)} {hs : List HA} {Q : Exit → S → Prop} {ops : Array Oper} {tl : List Oper} {d : Nat} {op : Op} {ty : TypeId} {pos : String} {af : Array Edge}
end
section
variable {c : Cx} {rs : List (Nat × AV)} {hs : List HA} {Q : Exit → S → Prop} {ops : Array Oper} {tl : List Oper} {d : Nat} {ty : TypeId} {pos : String} {af : Array Edge} {x y : Operand} {t tb : TypeId} {p : Value} {j : Nat} {cs : List AV} {f : HA → List HA}
end
section
variable (ops : Array Oper) (m : Nat) (sp : List Sp) (hs0 : List HA)
end
section
variable {c : Cx} {ops : Array Oper} {m : Nat} {sp : List Sp} {hs0 hsR : List HA} {rsB : List (Nat × AV)} {Q : Exit → S → Prop}
end
section
variable {P : Program} {rs : List (Nat × AV)} {hsR : List HA} {d : Option Nat} {ty : TypeId} {pos : String} {af : Array Edge} {g : Option (Nat × Bool)} {x : Operand} {t tb : TypeId} {p : Value} {j : Nat} {cs : List AV} {f : HA → List HA}
end
section
variable {P : Program} {rs : List (Nat × AV)} {d : Option Nat} {ty : TypeId} {pos : String} {af : Array Edge} {g : Option (Nat × Bool)}
end
section
variable {P : Program} {rs : List (Nat × AV)} {d : Option Nat} {ty : TypeId} {pos : String} {af : Array Edge} {g : Option (Nat × Bool)}
end
section
variable {c : Cx} {rs : List (Nat × AV)} {hs : List HA} {Q : Exit → S → Prop} {ops : Array Oper} {tl : List Oper} {d : Nat} {ty : TypeId} {pos : String} {af : Array Edge}
end
section
variable {c : Cx} {rs : List (Nat × AV)} {hs : List HA} {Q : Exit → S → Prop} {ops : Array Oper} {tl : List Oper} {d : Nat} {ty : TypeId} {pos : String} {af : Array Edge}
end
instance : TyF Tryd.prog 24 1 1 := ⟨fun a w => by kernel_rfl⟩
instance : TyF Tryd.prog 68 0 0 := ⟨fun a w => by kernel_rfl⟩
instance : TyF Tryd.prog 68 1 1 := ⟨fun a w => by kernel_rfl⟩
section
variable {P : Program} {rs : List (Nat × AV)} {d : Option Nat} {ty : TypeId} {pos : String} {af : Array Edge} {g : Option (Nat × Bool)}
end
section
variable {c : Cx} {rs : List (Nat × AV)} {hs : List HA} {Q : Exit → S → Prop} {ops : Array Oper} {tl : List Oper} {d : Nat} {ty : TypeId} {pos : String} {af : Array Edge}
end
section
variable {P : Program} {rs : List (Nat × AV)} {hsR : List HA} {d : Option Nat} {ty : TypeId} {pos : String} {af : Array Edge} {g : Option (Nat × Bool)}
end
section
variable {P : Program} {rs : List (Nat × AV)} {hsR : List HA} {d : Option Nat} {ty : TypeId} {pos : String} {af : Array Edge} {g : Option (Nat × Bool)}
end
section
variable {c : Cx} {rs : List (Nat × AV)} {hs : List HA} {Q : Exit → S → Prop} {ops : Array Oper} {tl : List Oper} {d : Nat} {ty : TypeId} {pos : String} {af : Array Edge}
end
end Go.Proofs.YthddoikmgpgakaaDoor.Sw
namespace Go.Proofs.YthddoikmgpgakaaDoor
open Go.RowKit Go
section
variable {α : Type} {f : α → List Value} {n : Nat}
end
end Go.Proofs.YthddoikmgpgakaaDoor
namespace Go.Proofs.YthddoikmgpgakaaDoor
open Go.RowKit Go.Proofs Go.Shelf
attribute [local go_sem] Oper.semAt_some
attribute [local go_sem] Oper.semAt_some
attribute [local go_sem] eqPlace
attribute [local go_sem] Oper.semAt_some
attribute [local go_sem] Oper.semAt_some
theorem refRates_any (r : Rt) (w : World) :
  Calls Tryd.prog 70 #[r.val] w fun e w' => e = .returned (.bool r.ok) ∧ Below w.heap.size w w' := by
 have hok : r.ok = ((decide (0 ≤ r.skin) && decide (r.skin ≤ 1000)) && ((decide (0 ≤ r.half) && decide (r.half ≤ 1000)) && ((decide (0 ≤ r.barrel) && decide (r.barrel ≤ 1000)) && (decide (0 ≤ r.paid) && decide (r.paid ≤ 1000))))) := rfl
 have HOK := hid hok; clear hok
 obtain ⟨q1, hq1⟩ : ∃ q, (decide (0 ≤ r.skin) && decide (r.skin ≤ 1000)) = q := ⟨_, rfl⟩
 obtain ⟨q2, hq2⟩ : ∃ q, (decide (0 ≤ r.half) && decide (r.half ≤ 1000)) = q := ⟨_, rfl⟩
 obtain ⟨q3, hq3⟩ : ∃ q, (decide (0 ≤ r.barrel) && decide (r.barrel ≤ 1000)) = q := ⟨_, rfl⟩
 obtain ⟨q4, hq4⟩ : ∃ q, (decide (0 ≤ r.paid) && decide (r.paid ≤ 1000)) = q := ⟨_, rfl⟩
 rw [hq1, hq2, hq3, hq4] at HOK
 unfold Rt.val
 cases q1 with
 | false => (go_enter Tryd.func70, Tryd.ntmps70; go_wp2_with (refine (within_any _ _ _ _).mono ?_; rintro e w' ⟨rfl, rfl⟩); go_ret; exact ⟨(congrArg (fun b => Ending.returned (Value.bool b)) (by rw [HOK.out]; first | rfl | simp [*])), goBl⟩)
 | true =>
  cases q2 with
  | false => (go_enter Tryd.func70, Tryd.ntmps70; go_wp2_with (refine (within_any _ _ _ _).mono ?_; rintro e w' ⟨rfl, rfl⟩); go_ret; exact ⟨(congrArg (fun b => Ending.returned (Value.bool b)) (by rw [HOK.out]; first | rfl | simp [*])), goBl⟩)
  | true =>
   cases q3 with
   | false => (go_enter Tryd.func70, Tryd.ntmps70; go_wp2_with (refine (within_any _ _ _ _).mono ?_; rintro e w' ⟨rfl, rfl⟩); go_ret; exact ⟨(congrArg (fun b => Ending.returned (Value.bool b)) (by rw [HOK.out]; first | rfl | simp [*])), goBl⟩)
   | true =>
    cases q4 with
    | false => (go_enter Tryd.func70, Tryd.ntmps70; go_wp2_with (refine (within_any _ _ _ _).mono ?_; rintro e w' ⟨rfl, rfl⟩); go_ret; exact ⟨(congrArg (fun b => Ending.returned (Value.bool b)) (by rw [HOK.out]; first | rfl | simp [*])), goBl⟩)
    | true => (go_enter Tryd.func70, Tryd.ntmps70; go_wp2_with (refine (within_any _ _ _ _).mono ?_; rintro e w' ⟨rfl, rfl⟩); go_ret; exact ⟨(congrArg (fun b => Ending.returned (Value.bool b)) (by rw [HOK.out]; first | rfl | simp [*])), goBl⟩)
end Go.Proofs.YthddoikmgpgakaaDoor
namespace Go.Proofs.YthddoikmgpgakaaDoor.Sw
open Go.RowKit Go
section
variable {c : Cx} {rs : List (Nat × AV)} {hs : List HA} {Q : Exit → S → Prop} {g : Operand} {ps : Array Tmp} {assign body : Code} {gf : FuncId} {caps : List AV} {own r : List HA} {α β τ : Type} {f : α → τ → List AV} {t : α → τ → List HA} {xs : List α}
end
section
variable {P : Program} {rs : List (Nat × AV)} {hsR : List HA} {d : Option Nat} {ty : TypeId} {pos : String} {af : Array Edge} {g : Option (Nat × Bool)}
end
section
variable {c : Cx} {rs : List (Nat × AV)} {hs : List HA} {Q : Exit → S → Prop} {ops : Array Oper} {tl : List Oper} {d : Nat} {ty : TypeId} {pos : String} {af : Array Edge}
end
section
variable {P : Program} {rs : List (Nat × AV)} {hsR : List HA} {d : Option Nat} {ty : TypeId} {pos : String} {af : Array Edge} {g : Option (Nat × Bool)}
end
section
variable {c : Cx} {rs : List (Nat × AV)} {hs : List HA} {Q : Exit → S → Prop} {ops : Array Oper} {tl : List Oper} {d : Nat} {ty : TypeId} {pos : String} {af : Array Edge}
end
section
variable {P : Program} {rs : List (Nat × AV)} {d : Option Nat} {ty : TypeId} {pos : String} {af : Array Edge} {g : Option (Nat × Bool)}
end
section
variable {c : Cx} {rs : List (Nat × AV)} {hs : List HA} {Q : Exit → S → Prop} {ops : Array Oper} {tl : List Oper} {d : Nat} {ty : TypeId} {pos : String} {af : Array Edge}
end
section
variable {P : Program} {rs : List (Nat × AV)} {d : Option Nat} {ty : TypeId} {pos : String} {af : Array Edge} {g : Option (Nat × Bool)}
end
section
variable {P : Program} {rs : List (Nat × AV)} {d : Option Nat} {ty : TypeId} {pos : String} {af : Array Edge} {g : Option (Nat × Bool)}
end
section
variable {c : Cx} {rs : List (Nat × AV)} {hs : List HA} {Q : Exit → S → Prop} {ops : Array Oper} {tl : List Oper} {d : Nat} {ty : TypeId} {pos : String} {af : Array Edge}
end
section
variable {P : Program} {rs : List (Nat × AV)} {d : Option Nat} {ty : TypeId} {pos : String} {af : Array Edge} {g : Option (Nat × Bool)}
end
section
variable {c : Cx} {rs : List (Nat × AV)} {hs : List HA} {Q : Exit → S → Prop} {ops : Array Oper} {tl : List Oper} {d : Nat} {ty : TypeId} {pos : String} {af : Array Edge}
end
section
variable {P : Program} {rs : List (Nat × AV)} {d : Option Nat} {ty : TypeId} {pos : String} {af : Array Edge} {g : Option (Nat × Bool)}
end
section
variable {c : Cx} {rs : List (Nat × AV)} {hs r : List HA} {Q : Exit → S → Prop} {ops : Array Oper} {tl : List Oper} {d : Nat} {ty : TypeId} {pos : String} {af : Array Edge}
end
end Go.Proofs.YthddoikmgpgakaaDoor.Sw
namespace Go.Proofs.YthddoikmgpgakaaDoor.Sw
open Go.RowKit Go
open Go.WideElems (Fit)
open Go.ChangeMaps (setBlock heap_setBlock_same heap_setBlock_other)
section
variable {κ α : Type} [DecidableEq κ]
end
section
variable {κ α : Type} (kv : κ → Value) (g : α → AV)
variable {kv g}
variable (kv g)
variable {kv g}
end
section
variable {P : Program} {κ α : Type} [DecidableEq κ] {t : TypeId} {kv : κ → Value} {ok : κ → Prop} {g : α → AV} {l : List (κ × α)} {G : Nat → Option Obj} {F : List Nat} {w : World} {v : Value}
variable {rs : List (Nat × AV)} {d : Option Nat} {ty : TypeId} {pos : String} {af : Array Edge} {gd : Option (Nat × Bool)}
end
section
variable {c : Cx} {rs : List (Nat × AV)} {hs : List HA} {Q : Exit → S → Prop} {ops : Array Oper} {tl : List Oper} {d : Nat} {ty : TypeId} {pos : String} {af : Array Edge} {κ α : Type} [DecidableEq κ] {t : TypeId} {kv : κ → Value} {ok : κ → Prop} {g : α → AV} {l : List (κ × α)} {v : Value}
end
section
variable {P : Program} {rs : List (Nat × AV)} {d : Option Nat} {ty : TypeId} {pos : String} {af : Array Edge} {gd : Option (Nat × Bool)} {κ α : Type} {t : TypeId} {kv : κ → Value} {g : α → AV} {l rest : List (κ × α)} {v it : Value}
end
section
variable {c : Cx} {rs : List (Nat × AV)} {hs r : List HA} {Q : Exit → S → Prop} {ops : Array Oper} {tl : List Oper} {d : Nat} {ty : TypeId} {pos : String} {af : Array Edge} {κ α : Type} {t : TypeId} {kv : κ → Value} {g : α → AV} {l rest : List (κ × α)} {v it : Value}
end
end Go.Proofs.YthddoikmgpgakaaDoor.Sw
namespace Go.Proofs.YthddoikmgpgakaaDoor.Sw
open Go.RowKit Go
section
variable {P : Program} {w : World}
end
section
variable {P : Program} {rs : List (Nat × AV)} {d : Option Nat} {ty : TypeId} {pos : String} {af : Array Edge} {g : Option (Nat × Bool)}
end
end Go.Proofs.YthddoikmgpgakaaDoor.Sw
namespace Go.Proofs.YthddoikmgpgakaaDoor.Sw
open Go.RowKit Go
open Go.WideElems (Fit)
open Go.ChangeMaps (setBlock heap_setBlock_same heap_setBlock_other)
section
variable {P : Program} {κ α : Type} [DecidableEq κ] {t : TypeId} {kv : κ → Value} {ok : κ → Prop} {g : α → AV} {l : List (κ × α)} {G : Nat → Option Obj} {F : List Nat} {w : World} {v : Value}
variable {rs : List (Nat × AV)} {d : Option Nat} {ty : TypeId} {pos : String} {af : Array Edge} {gd : Option (Nat × Bool)}
end
section
variable {c : Cx} {rs : List (Nat × AV)} {hs : List HA} {Q : Exit → S → Prop} {ops : Array Oper} {tl : List Oper} {d : Nat} {ty : TypeId} {pos : String} {af : Array Edge} {κ α : Type} [DecidableEq κ] {t : TypeId} {kv : κ → Value} {ok : κ → Prop} {g : α → AV} {l : List (κ × α)} {v : Value}
end
end Go.Proofs.YthddoikmgpgakaaDoor.Sw
namespace Go.Proofs.YthddoikmgpgakaaDoor.Sw
open Go.RowKit Go
section
variable {P : Program} {rs : List (Nat × AV)} {d : Option Nat} {ty : TypeId} {pos : String} {af : Array Edge} {g : Option (Nat × Bool)}
end
end Go.Proofs.YthddoikmgpgakaaDoor.Sw
namespace Go.Proofs.YthddoikmgpgakaaDoor.Sw
open Go.RowKit Go Go.Shelf Go.Proofs
section
variable {P : Program} {rs : List (Nat × AV)} {d : Option Nat} {ty : TypeId} {pos : String} {af : Array Edge} {g : Option (Nat × Bool)}
end
attribute [local go_sem] eqPlace
section
variable {P : Program} {rs : List (Nat × AV)} {d : Option Nat} {ty : TypeId} {pos : String} {af : Array Edge} {g : Option (Nat × Bool)}
end
end Go.Proofs.YthddoikmgpgakaaDoor.Sw
namespace Go.Proofs.YthddoikmgpgakaaDoor
open Go.RowKit Go.Proofs Go.Shelf
attribute [local go_sem] Oper.semAt_some
attribute [local go_sem] eqPlace
attribute [local go_sem] eqEdit
end Go.Proofs.YthddoikmgpgakaaDoor
namespace Go.Proofs.YthddoikmgpgakaaDoor.Sw
open Go.RowKit Go Go.Shelf Go.Proofs
end Go.Proofs.YthddoikmgpgakaaDoor.Sw
namespace Go.Proofs.YthddoikmgpgakaaDoor
open Go.RowKit Go.Proofs Go.Shelf
end Go.Proofs.YthddoikmgpgakaaDoor
namespace Go.Proofs.YthddoikmgpgakaaDoor.Sw
open Go.RowKit Go Go.Shelf Go.Proofs
open Go.Proofs.YthddoikmgpgakaaDoor.Ma
theorem refRates_con (r : Rt) : Con Tryd.prog 70 [.agg (rC r)] [] (Is (.val (.bool r.ok)) []) := by
 refine con_same (enters_of Tryd.func70 (by kernel_rfl) rfl) fun G vs w hf hG => ?_
 match vs, hf with
 | [v], ⟨h', _⟩ =>
  obtain rfl := fits_rt h'
  exact (refRates_any r w).mono fun e w' ⟨h, hb⟩ => ⟨_, h, rfl, hb⟩
theorem lt_remT {P : Program} {rs : List (Nat × AV)} {d : Option Nat} {ty : TypeId} {pos : String} {af : Array Edge} {g : Option (Nat × Bool)} {x y : Operand} {m n : Int} {t t' : TypeId} (hx : opv rs x = some (.val (.int .i64 m))) (hy : opv rs y = some (.val (.int .i64 n))) (h0 : 0 < n) (h1 : n ≤ 1000000) :
  LT P ⟨d, .binOp .rem t x y t', ty, pos, af, g⟩ rs [] (Is (.val (.int .i64 (m.tmod n))) []) :=
 LT_val (fun _ e => by cases e) fun a w G hR _ => ⟨_, rfl, by
  have e1 : a.eval x = _ := opv_ok hR hx
  have e2 : a.eval y = _ := opv_ok hR hy
  have hr : -n < m.tmod n ∧ m.tmod n < n := by
   rcases Int.le_total 0 m with h | h
   ·have := Int.tmod_nonneg n h
    have := Int.tmod_lt_of_pos m h0
    omega
   ·have a1 : (-m).tmod n = -(m.tmod n) := Int.neg_tmod m n
    have a2 := Int.tmod_nonneg n (show 0 ≤ -m by omega)
    have a3 := Int.tmod_lt_of_pos (-m) h0
    omega
  have hz : n ≠ 0 := by omega
  simp only [execOp, e1, e2]
  simp [go_sem, hz, IntWalk.i64_in (m.tmod n) (by omega)]⟩
theorem wl_remT {c : Cx} {rs : List (Nat × AV)} {hs : List HA} {Q : Exit → S → Prop} {ops : Array Oper} {tl : List Oper} {d : Nat} {ty : TypeId} {pos : String} {af : Array Edge} {x y : Operand} {m n : Int} {t t' : TypeId} (hx : opv rs x = some (.val (.int .i64 m))) (hy : opv rs y = some (.val (.int .i64 n))) (h0 : 0 < n) (h1 : n ≤ 1000000) (hd : Nat.blt d c.nt = true) (k : WL c ops tl ⟨(d, .val (.int .i64 (m.tmod n))) :: rs, hs⟩ Q) : WL c ops (⟨some d, .binOp .rem t x y t', ty, pos, af, none⟩ :: tl) ⟨rs, hs⟩ Q := wl_ex (lt_remT hx hy h0 h1) hd k
structure Rdy (t : Tl) : Prop where
 ok : okT t.id t.hs t.st t.fo = true
 s : t.st.length ≤ 12
 f : t.fo.length ≤ 12
 os : okN t.st = true
 of : okN t.fo = true
theorem rdy_of {t : Tl} (h : okT t.id t.hs t.st t.fo = true) : Rdy t := by
 obtain ⟨a, b, c, d⟩ := okT_b h
 exact ⟨h, a, b, c, d⟩
theorem spanR {r : Rt} (h : r.ok = true) (t : Tl) : IsSpan (rateW r) (TrueL t.st t.fo) (spanF (rateW r) t.st t.fo).1 (spanF (rateW r) t.st t.fo).2 := span_is (rateW_b h) _ _
theorem spanR_b {r : Rt} (h : r.ok = true) {t : Tl} (ht : Rdy t) : -24000 ≤ (spanF (rateW r) t.st t.fo).1 ∧ (spanF (rateW r) t.st t.fo).1 ≤ (spanF (rateW r) t.st t.fo).2 ∧ (spanF (rateW r) t.st t.fo).2 ≤ 24000 := by
 have := span_b (rateW_b h) (spanR h t)
 have := ht.s
 have := ht.f
 omega
theorem owedR_ok {a : Tl} {r : Rt} (ha : Rdy a) (h : r.ok = true) : owedR a r = (spanF (rateW r) a.st a.fo, 0) := by
 have h1 : a.ok = true := ha.ok
 unfold owedR owesR errAll owesL
 simp [h1, h]
theorem owesR_ok {ts : List Tl} {house : Int} {r : Rt} (hl : ts.length ≤ 6) (ha : ∀ t ∈ ts, Rdy t) (h : r.ok = true) : owesR ts house r = (owesL (rateW r) house ts, 0) := by
 have h1 : errAll ts = 0 := by
  unfold errAll
  have h2 : ts.all Tl.ok = true := List.all_eq_true.2 fun t ht => (ha t ht).ok
  rw [if_neg (by omega), if_pos h2]
 unfold owesR
 rw [if_neg (by rw [h1]; simp), if_pos h]
theorem owesL_take (W : Int → Int) (house : Int) (ts : List Tl) {k : Nat} (hk : k < ts.length) : owesL W house (ts.take (k + 1)) = if ts[k].hs = house then ((owesL W house (ts.take k)).1 + (spanF W ts[k].st ts[k].fo).1, (owesL W house (ts.take k)).2 + (spanF W ts[k].st ts[k].fo).2) else owesL W house (ts.take k) := by
 unfold owesL
 rw [List.take_succ_eq_append_getElem hk, List.foldl_append]
 rfl
end Go.Proofs.YthddoikmgpgakaaDoor.Sw
namespace Go.Proofs.YthddoikmgpgakaaDoor.Sw
open Go.RowKit Go
def nthV : List AV → Nat → AV
 | [], _ => .any
 | v :: _, 0 => v
 | _ :: l, i + 1 => nthV l i
def rgI (ds : List Nat) (vals : List AV) (dp : List Nat) (rd : List (Nat × AV)) : List (Nat × AV) := match dp with
 | [] => rd
 | j :: t => (nthN ds j, nthV vals j) :: rgI ds vals t rd
def rgA (ds : List Nat) (vals : List AV) : List (Nat × AV) → List (Nat × AV) := fun rs => match ds, vals with
 | d :: ds, v :: vs => (d, v) :: rgA ds vs rs
 | _, _ => rs
def PureAll (P : Program) (hs : List HA) (ds : List Nat) (vals : List AV) : List Oper → List (List Nat × List (Nat × AV)) → List AV → Prop
 | o :: l, x :: ins, v :: vs => LTr P o (rgI ds vals x.1 x.2) hs [] (Is v []) ∧ PureAll P hs ds vals l ins vs
 | [], [], [] => True
 | _, _, _ => False
theorem PureAll.get {P : Program} {hs : List HA} {ds : List Nat} {vals : List AV} : ∀ {l : List Oper} {ins : List (List Nat × List (Nat × AV))} {vs : List AV}, PureAll P hs ds vals l ins vs → ∀ {i : Nat} {o : Oper}, l[i]? = some o → ∃ x, ins[i]? = some x ∧ LTr P o (rgI ds vals x.1 x.2) hs [] (Is (nthV vs i) [])
 | o :: l, x :: ins, v :: vs, h, 0, o', e => by
  simp at e; subst e
  exact ⟨x, rfl, h.1⟩
 | o :: l, x :: ins, v :: vs, h, i + 1, o', e => by
  obtain ⟨y, h1, h2⟩ := PureAll.get h.2 (i := i) (by simpa using e)
  exact ⟨y, by simpa using h1, h2⟩
 | [], _, _, _, i, o', e => by simp at e
 | _ :: _, [], _, h, _, _, _ => h.elim
 | _ :: _, _ :: _, [], h, _, _, _ => h.elim
def pureOK (ops : Array Oper) (ins : List (List Nat × List Nat)) (nt : Nat) : Bool :=
 (List.range ops.size).all fun i =>
  (match ops[i]? with | some o => o.guard.isNone && o.dst.isSome && okD o.dst nt && o.after.toList.all (fun e => !Region.binds .any e || decide (e.on < i)) | none => false) &&
  ((ins.getD i ([], [])).1.all fun j => decide (j < ops.size) && ancP ops 8 i j) &&
  ((ins.getD i ([], [])).2.all fun r => (List.range ops.size).all fun k => !decide (dstN ops k = r) || decide (k = i) || ancP ops 8 k i) &&
  ((List.range ops.size).all fun k => decide (i = k) || !decide (dstN ops i = dstN ops k))
def insN (ins : List (List Nat × List (Nat × AV))) : List (List Nat × List Nat) := ins.map fun x => (x.1, x.2.map (·.1))
def SubL (rs : List (Nat × AV)) : List (Nat × AV) → Prop
 | [] => True
 | x :: t => look rs x.1 = some x.2 ∧ SubL rs t
theorem SubL.mem {rs : List (Nat × AV)} : ∀ {l : List (Nat × AV)}, SubL rs l → ∀ x ∈ l, look rs x.1 = some x.2
 | _ :: _, h, x, hx => by
  rcases List.mem_cons.1 hx with rfl | hx
  ·exact h.1
  ·exact SubL.mem h.2 x hx
def SubLs (rs : List (Nat × AV)) : List (List Nat × List (Nat × AV)) → Prop
 | [] => True
 | x :: t => SubL rs x.2 ∧ SubLs rs t
theorem SubLs.mem {rs : List (Nat × AV)} : ∀ {l : List (List Nat × List (Nat × AV))}, SubLs rs l → ∀ x ∈ l, SubL rs x.2
 | _ :: _, h, x, hx => by
  rcases List.mem_cons.1 hx with rfl | hx
  ·exact h.1
  ·exact SubLs.mem h.2 x hx
theorem regM_ok {G : Nat → Option Obj} {a : Act} : ∀ {l : List (Nat × AV)}, (∀ x ∈ l, x.2.P G (a.tmps.getD x.1 undef)) → RegOK l G a
 | [], _, i, av, e => by cases e
 | (j, v) :: l, h, i, av, e => by
  simp only [look] at e
  cases hb : Nat.beq j i with
  | true =>
   rw [hb] at e
   obtain rfl := Nat.eq_of_beq_eq_true hb
   simp only [cond_true, Option.some.injEq] at e
   subst e
   exact h (j, v) (by simp)
  | false => rw [hb] at e; exact regM_ok (l := l) (fun x hx => h x (by simp [hx])) i av (by simpa using e)
theorem rgI_mem {ds : List Nat} {vals : List AV} {rd : List (Nat × AV)} : ∀ {dp : List Nat} {x : Nat × AV}, x ∈ rgI ds vals dp rd → (∃ j ∈ dp, x = (nthN ds j, nthV vals j)) ∨ x ∈ rd
 | [], x, h => .inr h
 | j :: t, x, h => by
  rcases List.mem_cons.1 h with rfl | h
  ·exact .inl ⟨j, by simp, rfl⟩
  ·rcases rgI_mem h with ⟨k, hk, e⟩ | h
   ·exact .inl ⟨k, by simp [hk], e⟩
   ·exact .inr h
theorem rgA_look {rs : List (Nat × AV)} {i : Nat} {av : AV} : ∀ {ds : List Nat} {vals : List AV}, look (rgA ds vals rs) i = some av → (∃ j, j < ds.length ∧ nthN ds j = i ∧ nthV vals j = av) ∨ look rs i = some av
 | [], _, e => .inr e
 | _ :: _, [], e => .inr e
 | d :: ds, v :: vs, e => by
  simp only [rgA, look] at e
  cases hb : Nat.beq d i with
  | true =>
   rw [hb] at e
   obtain rfl := Nat.eq_of_beq_eq_true hb
   simp only [cond_true, Option.some.injEq] at e
   exact .inl ⟨0, by simp, rfl, e⟩
  | false =>
   rw [hb] at e
   rcases rgA_look (ds := ds) (vals := vs) (by simpa using e) with ⟨j, h1, h2, h3⟩ | h
   ·exact .inl ⟨j + 1, by simpa using h1, h2, h3⟩
   ·exact .inr h
section
variable {c : Cx} {Q : Exit → S → Prop} {l : List Oper} {rs rsB : List (Nat × AV)} {hs : List HA} {vals : List AV} {ins : List (List Nat × List (Nat × AV))} {ds : List Nat}
def RelP (c : Cx) (ops : Array Oper) (hs : List HA) (rs : List (Nat × AV)) (vals : List AV) (D : Array Bool) (a : Act) (w : World) : Prop :=
 ∃ (G : Nat → Option Obj) (F : List Nat), Inv G F hs w ∧ Fr c.w0 w c.F0 F c.G0 G ∧ a.tmps.size = c.nt ∧ Mk c G F w a.defers ∧
  (∀ j, j < ops.size → D.getD j false = true → (nthV vals j).P G (a.tmps.getD (dstN ops j) undef)) ∧ (∀ r av, look rs r = some av → (∀ k, k < ops.size → dstN ops k = r → D.getD k false = false) → av.P G (a.tmps.getD r undef))
theorem pure_step {ops : Array Oper} (hl : ops = l.toArray) (hok : pureOK ops (insN ins) c.nt = true) (hds : (List.range ops.size).map (dstN ops) = ds) (hsub : SubLs rs ins) (hall : PureAll c.P hs ds vals l ins vals)
  {D : Array Bool} {i : Nat} {o : Oper} (ho : ops[i]? = some o) (hDs : D.size = ops.size) (hDi : D.getD i false = false) (hcl : ∀ k, D.getD k false = true → ∀ j, ancP ops 8 k j = true → D.getD j false = true) (hanc : ∀ j, ancP ops 8 i j = true → D.getD j false = true) {a : Act} {w : World} (h : RelP c ops hs rs vals D a w) :
  wpOpIn c.F c.n c.P ops (Post c Q) i (RelP c ops hs rs vals (D.setIfInBounds i true)) a w := by
 have hi : i < ops.size := (Array.getElem?_eq_some_iff.1 ho).1
 have hk := List.all_eq_true.1 hok i (List.mem_range.2 hi)
 simp only [ho, Bool.and_eq_true, List.all_eq_true, decide_eq_true_eq, Bool.or_eq_true, Bool.not_eq_true', decide_eq_false_iff_not, List.mem_range] at hk
 obtain ⟨⟨⟨⟨⟨⟨hg, hdst⟩, hdk⟩, _⟩, hdep⟩, hrd⟩, hdis⟩ := hk
 obtain ⟨d, hd⟩ := Option.isSome_iff_exists.1 hdst
 have hdN : dstN ops i = d := by unfold dstN; rw [ho]; simp [hd]
 rw [hd] at hdk
 obtain ⟨x, hx, hlt⟩ := hall.get (i := i) (o := o) (by rw [hl] at ho; simpa using ho)
 have hx2 : (insN ins).getD i ([], []) = (x.1, x.2.map (·.1)) := by
  unfold insN
  rw [List.getD_eq_getElem?_getD, List.getElem?_map, hx]; rfl
 rw [hx2] at hdep hrd
 obtain ⟨G, F, hI, hF, hsz, hmk, hav, hin⟩ := h
 have hnth : ∀ j, j < ops.size → nthN ds j = dstN ops j := fun j hj => by
  rw [← hds, nthN_map _ j (by simpa using hj), List.getElem_range]
 have hR : RegOK (rgI ds vals x.1 x.2) G a := regM_ok fun y hy => by
  rcases rgI_mem hy with ⟨j, hj, rfl⟩ | hy
  ·obtain ⟨h1, h2⟩ := hdep j hj
   dsimp only
   rw [hnth j h1]
   exact hav j h1 (hanc j h2)
  ·refine hin _ _ ((hsub.mem x (List.mem_of_getElem? hx)).mem y hy) fun k hk2 hkr => ?_
   have := hrd y.1 (List.mem_map.2 ⟨y, hy, rfl⟩) k hk2
   rcases this with (h | rfl) | h
   ·exact absurd hkr h
   ·exact hDi
   ·cases hDk : D.getD k false with
    | false => rfl
    | true => rw [hcl k hDk i h] at hDi; cases hDi
 unfold wpOpIn
 simp only [ho]
 have hgn : o.guard = none := by simpa using hg
 rw [if_pos (by simp [Region.wanted, hgn])]
 refine hlt.go c.F c.n c.wd a w G F _ _ hR hI fun v av prod' G' F' w' ⟨prod, hpe, hp1, hp2⟩ hfr hi' hv => ?_
 subst hpe hp1 hp2
 have hget : ∀ r, r ≠ d → (a.put o.dst v).tmps.getD r undef = a.tmps.getD r undef := fun r hr => by
  rw [hd]
  simp only [Act.put, Array.getD_eq_getD_getElem?, Array.getElem?_setIfInBounds, if_neg (show ¬ d = r from fun e => hr e.symm)]
 have hgd : (a.put o.dst v).tmps.getD d undef = v := by
  have hlt' : d < a.tmps.size := by rw [hsz]; simpa only [okD, Nat.blt_eq] using hdk
  rw [hd]; simp [Act.put, Array.getD, hlt']
 have hDset : ∀ k, (D.setIfInBounds i true).getD k false = true ↔ (k = i ∨ D.getD k false = true) := fun k => by
  by_cases hk : k = i
  ·subst hk; simp [Array.getD_eq_getD_getElem?, hDs, hi]
  ·rw [getD_set_ne false (Ne.symm hk)]; simp [hk]
 refine ⟨G', F', hi', hF.trans hfr, by rw [(size_put a _ v).1, hsz], by rw [(size_put a _ v).2]; exact hmk.step hfr, fun j hj hDj => ?_, fun r av hr hno => ?_⟩
 ·by_cases hji : j = i
  ·subst hji
   rw [hdN, hgd]; exact hv
  ·have hDj2 := ((hDset j).1 hDj).resolve_left hji
   have hne : dstN ops j ≠ d := fun e => by
    rcases hdis j hj with h | h
    ·exact hji h.symm
    ·exact h (hdN.trans e.symm)
   rw [hget _ hne]
   exact AV.mono _ hfr.gle (hav j hj hDj2)
 ·have hne : r ≠ d := fun e => by
   have := hno i hi (hdN.trans e.symm)
   rw [(hDset i).2 (.inl rfl)] at this; cases this
  rw [hget _ hne]
  refine AV.mono _ hfr.gle (hin r av hr fun k hk2 hkr => ?_)
  have h1 := hno k hk2 hkr
  cases hDk : D.getD k false with
  | false => rfl
  | true => rw [(hDset k).2 (.inr hDk)] at h1; cases h1
theorem W_pure {id : Nat} (ds : List Nat) (vals : List AV) (ins : List (List Nat × List (Nat × AV))) (hm : c.P.follows .mixedOrders = true) (hds : (List.range l.toArray.size).map (dstN l.toArray) = ds) (hflt : Flt ds rs rsB) (hok : pureOK l.toArray (insN ins) c.nt = true) (hsub : SubLs rs ins) (hall : PureAll c.P hs ds vals l ins vals)
  (k : Q .normal ⟨rgA ds vals rsB, hs⟩) : W c (.region id l.toArray true) ⟨rs, hs⟩ Q := ⟨fun a w st => by
 obtain ⟨G, F, hI, hF, hR, hsz, hdf⟩ := st
 have hno : ∀ j, (Array.replicate l.toArray.size false).getD j false = false := fun j => by
  simp only [Array.getD_eq_getD_getElem?]
  by_cases h : j < l.toArray.size
  ·simp [show j < l.length by simpa using h]
  ·simp [show ¬ j < l.length by simpa using h]
 refine wpIn_region_any hm ?_
 have hds' := hds
 generalize hl : l.toArray = ops at *
 have main : ∀ (fuel : Nat) (D : Array Bool) (a : Act) (w : World), D.size = ops.size → Closed ops D → ((List.range ops.size).filter fun j => !D.getD j false).length ≤ fuel → RelP c ops hs rs vals D a w → wpAnyIn c.F c.n c.P .any ops (Post c Q) fuel D a w := by
  have hbefore : ∀ i o, ops[i]? = some o → ∀ e ∈ o.after, Region.binds .any e = true → e.on < i := fun i o ho e he hb => by
   have hk := List.all_eq_true.1 hok i (List.mem_range.2 (Array.getElem?_eq_some_iff.1 ho).1)
   simp only [ho, Bool.and_eq_true, List.all_eq_true, decide_eq_true_eq, Bool.or_eq_true, Bool.not_eq_true'] at hk
   rcases hk.1.1.1.2 e (Array.mem_toList_iff.2 he) with h | h
   ·rw [hb] at h; cases h
   ·exact h
  have fin : ∀ (fuel : Nat) (D : Array Bool) (a : Act) (w : World), D.size = ops.size → (∀ j, j < ops.size → D.getD j false = true) → RelP c ops hs rs vals D a w → wpAnyIn c.F c.n c.P .any ops (Post c Q) fuel D a w := fun fuel D a w hs' hall2 hR2 => by
   have hr : Region.ready .any ops D = [] := by
    cases hr : Region.ready .any ops D with
    | nil => rfl
    | cons i t =>
     obtain ⟨h1, o, ho, _⟩ := mem_ready.1 (show i ∈ Region.ready .any ops D by rw [hr]; simp)
     have hi := (Array.getElem?_eq_some_iff.1 ho).1
     have h2 := hall2 i hi
     simp only [Array.getD_eq_getD_getElem?, Array.getElem?_eq_getElem (show i < D.size by omega)] at h1 h2
     simp at h1 h2
     rw [h1] at h2; cases h2
   obtain ⟨G, F, hI, hF, hsz, hmk, hav, hin⟩ := hR2
   refine wpAnyIn_done hr ⟨_, ⟨G, F, hI, hF, fun i av e => ?_, hsz, hmk⟩, k⟩ fuel
   rcases rgA_look e with ⟨j, h1, h2, h3⟩ | e
   ·have hj : j < ops.size := by rw [← hds'] at h1; simpa using h1
    rw [← hds', nthN_map _ j (by simpa using hj), List.getElem_range] at h2
    rw [← h2, ← h3]
    exact hav j hj (hall2 j hj)
   ·rw [← hflt.eq] at e
    obtain ⟨e1, e2⟩ := rmR_look e
    refine hin i av e1 fun k hk hkr => ?_
    exact absurd (hds' ▸ List.mem_map.2 ⟨k, List.mem_range.2 hk, hkr⟩) e2
  intro fuel
  induction fuel with
  | zero =>
   intro D a w hs' hc hf hR2
   refine fin 0 D a w hs' (fun j hj => ?_) hR2
   cases hd : D.getD j false with
   | true => rfl
   | false =>
    have : j ∈ (List.range ops.size).filter fun j => !D.getD j false := List.mem_filter.2 ⟨List.mem_range.2 hj, by simp [hd]⟩
    have := List.length_pos_of_mem this
    omega
  | succ fuel ih =>
   intro D a w hs' hc hf hR2
   by_cases hall2 : ∀ j, j < ops.size → D.getD j false = true
   ·exact fin _ D a w hs' hall2 hR2
   ·refine ⟨fun h0 => ?_, fun i hi => ?_⟩
    ·exfalso
     refine hall2 fun j => ?_
     induction j using Nat.strongRecOn with
     | _ j ihj =>
      intro hj
      cases hd : D.getD j false with
      | true => rfl
      | false =>
       exfalso
       have ho : ops[j]? = some ops[j] := Array.getElem?_eq_getElem hj
       have hmem : j ∈ Region.ready .any ops D := mem_ready.2 ⟨by simp only [Array.getD_eq_getD_getElem?, Array.getElem?_eq_getElem (show j < D.size by omega)] at hd ⊢; exact hd, _, ho, fun e he hb => by
        have h4 := hbefore j _ ho e he hb
        exact ihj e.on h4 (by omega)⟩
       rw [h0] at hmem
       cases hmem
    ·obtain ⟨h1, o, ho, h2⟩ := mem_ready.1 hi
     have hlt := (Array.getElem?_eq_some_iff.1 ho).1
     have hDi : D.getD i false = false := getD_ft h1
     have hanc : ∀ j, ancP ops 8 i j = true → D.getD j false = true := fun j hj => ancP_listed hc 8 i o ho (fun e he hb => h2 e he hb) hj
     have hDs : ∀ k, (D.setIfInBounds i true).getD k false = true ↔ (k = i ∨ D.getD k false = true) := fun k => by
      by_cases hk : k = i
      ·subst hk; simp [Array.getD_eq_getD_getElem?, hs', hlt]
      ·rw [getD_set_ne false (Ne.symm hk)]; simp [hk]
     refine wpOpIn_mono (fun a' w' h' => ?_) (pure_step (Q := Q) hl.symm hok hds' hsub hall ho hs' hDi (fun k hk j hj => closed_anc hc hk hj) hanc hR2)
     refine ih _ a' w' (by simpa using hs') (fun j oj hoj hj e he hb => ?_) ?_ h'
     ·rcases (hDs j).1 hj with rfl | hj
      ·rw [ho] at hoj; obtain rfl := Option.some.inj hoj
       exact (hDs _).2 (.inr (h2 e he hb))
      ·exact (hDs _).2 (.inr (hc j oj hoj hj e he hb))
     ·have hlen : (i :: (List.range ops.size).filter fun j => !(D.setIfInBounds i true).getD j false).length ≤ ((List.range ops.size).filter fun j => !D.getD j false).length := by
       refine sub_len (List.nodup_cons.2 ⟨fun h => ?_, List.Pairwise.filter _ List.nodup_range⟩) fun x hx => ?_
       ·have := (List.mem_filter.1 h).2
        rw [(hDs i).2 (.inl rfl)] at this; cases this
       ·rcases List.mem_cons.1 hx with rfl | hx
        ·exact List.mem_filter.2 ⟨List.mem_range.2 hlt, by simp [hDi]⟩
        ·obtain ⟨h3, h4⟩ := List.mem_filter.1 hx
         refine List.mem_filter.2 ⟨h3, ?_⟩
         cases hd : D.getD x false with
         | false => rfl
         | true => rw [(hDs x).2 (.inr hd)] at h4; cases h4
      simp only [List.length_cons] at hlen
      omega
 refine main _ _ _ _ (by simp) (fun j o ho hj => ?_) ?_ ⟨G, F, ⟨hI.gin, hI.nd, hI.own, hsP.loc (w := w) (fun _ _ => rfl) hI.hs⟩, ⟨hF.os, hF.tape, hF.output, hF.size, hF.same, hF.newF, hF.gle, hF.newG⟩, hsz, hdf, fun j _ hj => ?_, fun r av hr _ => hR r av hr⟩
 ·rw [hno] at hj; cases hj
 ·have h1 := List.length_filter_le (fun j => !(Array.replicate ops.size false).getD j false) (List.range ops.size)
  rw [List.length_range] at h1
  exact h1
 ·rw [hno] at hj; cases hj⟩
end
end Go.Proofs.YthddoikmgpgakaaDoor.Sw
namespace Go.Proofs.YthddoikmgpgakaaDoor.Sw
open Go.RowKit Go Go.Shelf Go.Proofs
open Go.Proofs.YthddoikmgpgakaaDoor.Ma
theorem owesL_b {r : Rt} (h : r.ok = true) (house : Int) : ∀ {ts : List Tl}, (∀ t ∈ ts, Rdy t) → ∀ k, k ≤ ts.length → -(24000 * (k : Int)) ≤ (owesL (rateW r) house (ts.take k)).1 ∧ (owesL (rateW r) house (ts.take k)).1 ≤ 24000 * (k : Int) ∧ -(24000 * (k : Int)) ≤ (owesL (rateW r) house (ts.take k)).2 ∧ (owesL (rateW r) house (ts.take k)).2 ≤ 24000 * (k : Int)
 | ts, ht, 0, _ => by simp [owesL]
 | ts, ht, k + 1, hk => by
  have IH := owesL_b h house ht k (by omega)
  rw [owesL_take _ _ _ (show k < ts.length by omega)]
  have B := spanR_b h (ht _ (List.getElem_mem (show k < ts.length by omega)))
  split
  ·dsimp only; omega
  ·omega
theorem tallyHouse_con (ts : List Tl) (house0 : Int) (r : Rt) : Con Tryd.prog 17 [.sl 4 tC ts, .val (.int .i64 house0), .agg (rC r)] [HA.tab] (Is (.val (.bool true)) []) := by
 refine con_of Tryd.func17 rfl (enters_of Tryd.func17 (by kernel_rfl) rfl) rfl ?_; intro n w0 F0 G0
 refine zS ?_;repeat(refine yA ?_;intro p hp;refine zS ?_)
 revert p
 intro p1 hp1
 (first | (apply wl_call (alive_con); exact rfl; exact rfl) | (apply wl_callR (alive_con); exact rfl; exact zM; exact rfl))
 refine zS ?_;repeat(refine yA ?_;intro p hp;refine zS ?_)
 (first | (apply wl_call (greatAll_con ts); exact rfl; exact rfl) | (apply wl_callR (greatAll_con ts); exact rfl; exact zM; exact rfl))
 refine zS ?_;repeat(refine yA ?_;intro p hp;refine zS ?_)
 cases hg : (decide ((12 : Int) < ts.length) || ts.any greatT) with
 | true =>
  refine zS ?_;repeat(refine yA ?_;intro p hp;refine zS ?_)
  (apply res1; exact rfl; exact rfl; exact ⟨rfl, rfl⟩)
 | false =>
  have hts : small3 ts := fun u hu => by
   simp only [Bool.or_eq_false_iff, List.any_eq_false] at hg
   have := hg.2 u hu
   simp [greatT] at this; omega
  refine zS ?_;repeat(refine yA ?_;intro p hp;refine zS ?_)
  refine wl_part rfl rfl (fun h6 => ?_) (fun h6 => ?_)
  ·refine zS ?_;repeat(refine yA ?_;intro p hp;refine zS ?_)
   (apply res1; exact rfl; exact rfl; exact ⟨rfl, rfl⟩)
  ·have hl : ts.length ≤ 6 := by simp at h6; omega
   refine zS ?_;repeat(refine yA ?_;intro p hp;refine zS ?_)
   (first | (apply wl_call (refRates_con r); exact rfl; exact rfl) | (apply wl_callR (refRates_con r); exact rfl; exact zM; exact rfl))
   cases hr : r.ok with
   | false =>
    refine zS ?_;repeat(refine yA ?_;intro p hp;refine zS ?_)
    (apply res1; exact rfl; exact rfl; exact ⟨rfl, rfl⟩)
   | true =>
    refine zS ?_;repeat(refine yA ?_;intro p hp;refine zS ?_)
    refine W_loopJ (fun (k : Nat) => ⟨[(0, .sl 4 tC ts), (1, .val (.int .i64 house0)), (5, .val p1), (7, .val (.bool true)), (36, .sl 4 tC ts), (37, .val (.int .i64 ts.length)), (38, .val (.int .i64 k))], [.box p1 (rC r) 64, HA.tab]⟩) (fun k => k ≤ ts.length ∧ ∀ t ∈ ts.take k, Rdy t) (fun k => ts.length - k) 0 (fun _ _ st => st_sub2 st zR zP) ⟨Nat.zero_le _, fun t ht => by simp at ht⟩ ?_
    rintro k ⟨hk, hok⟩
    refine zS ?_;repeat(refine yA ?_;intro p hp;refine zS ?_)
    refine w_cond rfl (fun hlt => ?_) (fun hlt => ?_)
    ·have hlt' : k < ts.length := by simpa using hlt
     have hm := hts _ (List.getElem_mem hlt')
     refine zS ?_;repeat(refine yA ?_;intro p hp;refine zS ?_)
     (first | (apply wl_call (tally_con _ hm.1 hm.2); exact rfl; exact rfl) | (apply wl_callR (tally_con _ hm.1 hm.2); exact rfl; exact zM; exact rfl))
     cases ho : okT ts[k].id ts[k].hs ts[k].st ts[k].fo with
     | false =>
      refine zS ?_;repeat(refine yA ?_;intro p hp;refine zS ?_)
      (apply res1; exact rfl; exact rfl; exact ⟨rfl, rfl⟩)
     | true =>
      refine zS ?_;repeat(refine yA ?_;intro p hp;refine zS ?_)
      (refine ⟨k + 1, fun _ _ st => st_sub2 st ?_ ?_, ?_, ?_⟩; exact zR; exact zP)
      ·refine ⟨hlt', fun t ht => ?_⟩
       rw [List.take_succ_eq_append_getElem hlt', List.mem_append] at ht
       rcases ht with ht | ht
       ·exact hok t ht
       ·rw [List.mem_singleton] at ht; subst ht; exact rdy_of ho
      ·omega
    ·have hkk : k = ts.length := by simp at hlt; omega
     subst hkk
     rw [List.take_length] at hok
     have C1 := fun h => owes_con ts h r (by omega) hts
     have OB := owesL_b hr (ts := ts)
     refine zS ?_;repeat(refine yA ?_;intro p hp;refine zS ?_)
     rcases Nat.eq_zero_or_pos ts.length with h0 | h0
     ·have e0 : decide ((0 : Int) < (ts.length : Int)) = false := decide_eq_false (by omega)
      rw [e0]
      refine zS ?_;repeat(refine yA ?_;intro p hp;refine zS ?_)
      have C2 := C1 house0
      rw [owesR_ok hl hok hr] at C2
      unfold seA at C2
      dsimp only at C2
      have OB := OB house0 hok
      have hfull : owesL (rateW r) house0 ts = owesL (rateW r) house0 (ts.take ts.length) := by rw [List.take_length]
      (first | (apply wl_call (C2); exact rfl; exact rfl) | (apply wl_callR (C2); exact rfl; exact zM; exact rfl))
      refine zS ?_;repeat(refine yA ?_;intro p hp;refine zS ?_)
      refine W_loopJ (fun (k : Nat) => ⟨[(0, .sl 4 tC ts), (1, .val (.int .i64 house0)), (5, .val p1), (7, .val (.bool true)), (10, .val p), (11, .val (.int .i64 0)), (12, .val (.int .i64 (owesL (rateW r) house0 (ts.take k)).1)), (13, .val (.int .i64 (owesL (rateW r) house0 (ts.take k)).2)), (66, .sl 4 tC ts), (67, .val (.int .i64 ts.length)), (68, .val (.int .i64 k))], [.box p (pC (owesL (rateW r) house0 ts)) 68, .box p1 (rC r) 64, HA.tab]⟩) (fun k => k ≤ ts.length) (fun k => ts.length - k) 0 (fun _ _ st => st_sub2 st zR zP) (Nat.zero_le _) ?_
      intro k hk
      refine zS ?_;repeat(refine yA ?_;intro p hp;refine zS ?_)
      refine w_cond rfl (fun hlt => ?_) (fun hlt => ?_)
      ·have hlt' : k < ts.length := by simpa using hlt
       have hm := hts _ (List.getElem_mem hlt')
       have hrd := hok _ (List.getElem_mem hlt')
       have C3 := owed_con ts[k] r hm.1 hm.2
       rw [owedR_ok hrd hr] at C3
       unfold seA at C3
       dsimp only at C3
       have B := spanR_b hr hrd
       have E := owesL_take (rateW r) house0 ts hlt'
       have OB2 := OB k (by omega)
       generalize spanF (rateW r) ts[k].st ts[k].fo = q at C3 B E
       obtain ⟨a, b⟩ := q
       dsimp only at C3 B E
       have hq1 : ts[k]? = some ts[k] := List.getElem?_eq_getElem hlt'
       refine zS ?_;repeat(refine yA ?_;intro p hp;refine zS ?_)
       revert p
       intro p2 hp2
       (first | (apply wl_call (C3); exact rfl; exact rfl) | (apply wl_callR (C3); exact rfl; exact zM; exact rfl))
       refine zS ?_;repeat(refine yA ?_;intro p hp;refine zS ?_)
       rw [decide_eq_false (show ¬ a < -24000 by omega)]
       refine zS ?_;repeat(refine yA ?_;intro p hp;refine zS ?_)
       rw [decide_eq_false (show ¬ (24000 : Int) < b by omega)]
       refine zS ?_;repeat(refine yA ?_;intro p hp;refine zS ?_)
       rw [decide_eq_false (show ¬ b < a by omega)]
       refine zS ?_;repeat(refine yA ?_;intro p hp;refine zS ?_)
       refine w_cond rfl (fun heq => ?_) (fun heq => ?_)
       ·have heq' : ts[k].hs = house0 := by simpa using heq
        rw [if_pos heq'] at E
        obtain ⟨x, hx⟩ : ∃ x, x = (owesL (rateW r) house0 (ts.take k)).1 := ⟨_, rfl⟩
        obtain ⟨y, hy⟩ : ∃ y, y = (owesL (rateW r) house0 (ts.take k)).2 := ⟨_, rfl⟩
        rw [← hx, ← hy] at E OB2 ⊢
        refine W_pure [101, 102, 103, 104, 105, 106, 107, 108, 12, 13] [.val (.int .i64 (x)), .at p 0, .val (.int .i64 (a)), .val (.int .i64 (x + a)), .val (.int .i64 (y)), .at p 1, .val (.int .i64 (b)), .val (.int .i64 (y + b)), .val (.int .i64 (x + a)), .val (.int .i64 (y + b))] [([], [(12, .val (.int .i64 (x)))]), ([], [(16, .val p)]), ([1], []), ([0, 2], []), ([], [(13, .val (.int .i64 (y)))]), ([], [(16, .val p)]), ([5], []), ([4, 6], []), ([3], []), ([7], [])] mixedS rfl goFlt (by kernel_rfl) (by repeat' (first | exact trivial | exact rfl | constructor)) ?_ ?_
        ·(repeat (refine ⟨by exact goLtr, ?_⟩))
         exact trivial
        refine zS ?_;repeat(refine yA ?_;intro p hp;refine zS ?_)
        refine ⟨k + 1, fun _ _ st => st_sub2 st (by rw [E]; exact zR) zP, hlt', ?_⟩
        omega
       ·have heq' : ¬ ts[k].hs = house0 := by simpa using heq
        rw [if_neg heq'] at E
        refine zS ?_;repeat(refine yA ?_;intro p hp;refine zS ?_)
        refine ⟨k + 1, fun _ _ st => st_sub2 st (by rw [E]; exact zR) zP, hlt', ?_⟩
        omega
      ·have hkk : k = ts.length := by simp at hlt; omega
       subst hkk
       rw [← hfull]
       refine zS ?_;repeat(refine yA ?_;intro p hp;refine zS ?_)
       refine W_run 10 [110, 111, 112, 113, 114, 115, 116, 117, 118, 119] [0, 1, 2, 3, 4, 5, 6, 7, 8, 9] Cut.nil rfl goFlt mixedS (by kernel_rfl) rfl ?_
       refine rpv [] [] ?_
       refine rpv [0] [] ?_
       refine ryv [1] ?_
       refine ryv [1, 2] ?_
       refine rpv [1, 3] [] ?_
       refine rpv [4] [] ?_
       refine ryv [5] ?_
       refine ryv [5] ?_
       refine ryv [5] ?_
       refine ryx [5, 7, 8] (fun vs => by apply ltr_pk; exact goPk; (refine ltr ?_; refine lt_call ?_ ((span_con (owesL (rateW r) house0 ts).1 (owesL (rateW r) house0 ts).2)); exact rfl)) ?_
       refine ⟨⟨by kernel_rfl, by kernel_rfl⟩, fun vs => ?_⟩
       apply WL_auto [5, 6, 9]
       ·exact goPk
       ·exact goNrm
       ·kernel_rfl
       ·kernel_rfl
       refine zS ?_;repeat(refine yA ?_;intro p hp;refine zS ?_)
       simp only [decide_true]
       (apply res1; exact rfl; exact rfl; exact ⟨rfl, rfl⟩)
     ·have e0 : decide ((0 : Int) < (ts.length : Int)) = true := decide_eq_true (by omega)
      rw [e0]
      refine zS ?_;repeat(refine yA ?_;intro p hp;refine zS ?_)
      (apply wl_remT; exact rfl; exact rfl; omega; omega; exact rfl)
      refine zS ?_;repeat(refine yA ?_;intro p hp;refine zS ?_)
      refine W_meetE (fun (h : Int) => ⟨[(0, .sl 4 tC ts), (1, .val (.int .i64 h)), (5, .val p1), (7, .val (.bool true))], [.box p1 (rC r) 64, HA.tab]⟩) (fun _ => True) ?_ ?_
      ·refine w_cond rfl (fun hm2 => ?_) (fun hm2 => ?_)
       ·refine zS ?_;repeat(refine yA ?_;intro p hp;refine zS ?_)
        exact ⟨rfl, ts[0].hs, fun _ _ st => st_sub2 st zR zP, trivial⟩
       ·refine zS ?_;repeat(refine yA ?_;intro p hp;refine zS ?_)
        exact ⟨rfl, house0, fun _ _ st => st_sub2 st zR zP, trivial⟩
      ·intro house _
       refine zS ?_;repeat(refine yA ?_;intro p hp;refine zS ?_)
       have C2 := C1 house
       rw [owesR_ok hl hok hr] at C2
       unfold seA at C2
       dsimp only at C2
       have OB := OB house hok
       have hfull : owesL (rateW r) house ts = owesL (rateW r) house (ts.take ts.length) := by rw [List.take_length]
       (first | (apply wl_call (C2); exact rfl; exact rfl) | (apply wl_callR (C2); exact rfl; exact zM; exact rfl))
       refine zS ?_;repeat(refine yA ?_;intro p hp;refine zS ?_)
       refine W_loopJ (fun (k : Nat) => ⟨[(0, .sl 4 tC ts), (1, .val (.int .i64 house)), (5, .val p1), (7, .val (.bool true)), (10, .val p), (11, .val (.int .i64 0)), (12, .val (.int .i64 (owesL (rateW r) house (ts.take k)).1)), (13, .val (.int .i64 (owesL (rateW r) house (ts.take k)).2)), (66, .sl 4 tC ts), (67, .val (.int .i64 ts.length)), (68, .val (.int .i64 k))], [.box p (pC (owesL (rateW r) house ts)) 68, .box p1 (rC r) 64, HA.tab]⟩) (fun k => k ≤ ts.length) (fun k => ts.length - k) 0 (fun _ _ st => st_sub2 st zR zP) (Nat.zero_le _) ?_
       intro k hk
       refine zS ?_;repeat(refine yA ?_;intro p hp;refine zS ?_)
       refine w_cond rfl (fun hlt => ?_) (fun hlt => ?_)
       ·have hlt' : k < ts.length := by simpa using hlt
        have hm := hts _ (List.getElem_mem hlt')
        have hrd := hok _ (List.getElem_mem hlt')
        have C3 := owed_con ts[k] r hm.1 hm.2
        rw [owedR_ok hrd hr] at C3
        unfold seA at C3
        dsimp only at C3
        have B := spanR_b hr hrd
        have E := owesL_take (rateW r) house ts hlt'
        have OB2 := OB k (by omega)
        generalize spanF (rateW r) ts[k].st ts[k].fo = q at C3 B E
        obtain ⟨a, b⟩ := q
        dsimp only at C3 B E
        have hq1 : ts[k]? = some ts[k] := List.getElem?_eq_getElem hlt'
        refine zS ?_;repeat(refine yA ?_;intro p hp;refine zS ?_)
        revert p
        intro p2 hp2
        (first | (apply wl_call (C3); exact rfl; exact rfl) | (apply wl_callR (C3); exact rfl; exact zM; exact rfl))
        refine zS ?_;repeat(refine yA ?_;intro p hp;refine zS ?_)
        rw [decide_eq_false (show ¬ a < -24000 by omega)]
        refine zS ?_;repeat(refine yA ?_;intro p hp;refine zS ?_)
        rw [decide_eq_false (show ¬ (24000 : Int) < b by omega)]
        refine zS ?_;repeat(refine yA ?_;intro p hp;refine zS ?_)
        rw [decide_eq_false (show ¬ b < a by omega)]
        refine zS ?_;repeat(refine yA ?_;intro p hp;refine zS ?_)
        refine w_cond rfl (fun heq => ?_) (fun heq => ?_)
        ·have heq' : ts[k].hs = house := by simpa using heq
         rw [if_pos heq'] at E
         obtain ⟨x, hx⟩ : ∃ x, x = (owesL (rateW r) house (ts.take k)).1 := ⟨_, rfl⟩
         obtain ⟨y, hy⟩ : ∃ y, y = (owesL (rateW r) house (ts.take k)).2 := ⟨_, rfl⟩
         rw [← hx, ← hy] at E OB2 ⊢
         refine W_pure [101, 102, 103, 104, 105, 106, 107, 108, 12, 13] [.val (.int .i64 (x)), .at p 0, .val (.int .i64 (a)), .val (.int .i64 (x + a)), .val (.int .i64 (y)), .at p 1, .val (.int .i64 (b)), .val (.int .i64 (y + b)), .val (.int .i64 (x + a)), .val (.int .i64 (y + b))] [([], [(12, .val (.int .i64 (x)))]), ([], [(16, .val p)]), ([1], []), ([0, 2], []), ([], [(13, .val (.int .i64 (y)))]), ([], [(16, .val p)]), ([5], []), ([4, 6], []), ([3], []), ([7], [])] mixedS rfl goFlt (by kernel_rfl) (by repeat' (first | exact trivial | exact rfl | constructor)) ?_ ?_
         ·(repeat (refine ⟨by exact goLtr, ?_⟩))
          exact trivial
         refine zS ?_;repeat(refine yA ?_;intro p hp;refine zS ?_)
         refine ⟨k + 1, fun _ _ st => st_sub2 st (by rw [E]; exact zR) zP, hlt', ?_⟩
         omega
        ·have heq' : ¬ ts[k].hs = house := by simpa using heq
         rw [if_neg heq'] at E
         refine zS ?_;repeat(refine yA ?_;intro p hp;refine zS ?_)
         refine ⟨k + 1, fun _ _ st => st_sub2 st (by rw [E]; exact zR) zP, hlt', ?_⟩
         omega
       ·have hkk : k = ts.length := by simp at hlt; omega
        subst hkk
        rw [← hfull]
        refine zS ?_;repeat(refine yA ?_;intro p hp;refine zS ?_)
        refine W_run 10 [110, 111, 112, 113, 114, 115, 116, 117, 118, 119] [0, 1, 2, 3, 4, 5, 6, 7, 8, 9] Cut.nil rfl goFlt mixedS (by kernel_rfl) rfl ?_
        refine rpv [] [] ?_
        refine rpv [0] [] ?_
        refine ryv [1] ?_
        refine ryv [1, 2] ?_
        refine rpv [1, 3] [] ?_
        refine rpv [4] [] ?_
        refine ryv [5] ?_
        refine ryv [5] ?_
        refine ryv [5] ?_
        refine ryx [5, 7, 8] (fun vs => by apply ltr_pk; exact goPk; (refine ltr ?_; refine lt_call ?_ ((span_con (owesL (rateW r) house ts).1 (owesL (rateW r) house ts).2)); exact rfl)) ?_
        refine ⟨⟨by kernel_rfl, by kernel_rfl⟩, fun vs => ?_⟩
        apply WL_auto [5, 6, 9]
        ·exact goPk
        ·exact goNrm
        ·kernel_rfl
        ·kernel_rfl
        refine zS ?_;repeat(refine yA ?_;intro p hp;refine zS ?_)
        simp only [decide_true]
        (apply res1; exact rfl; exact rfl; exact ⟨rfl, rfl⟩)
end Go.Proofs.YthddoikmgpgakaaDoor.Sw
