/- Proofs for one card: App, Frame, Reg, RegIn, Sw, SwOps, SwAny, SwOps2, SwOps3, SwR, SwF, Row, Steps, Left, Best, Comes, SwG, SwH, SwI, SwQ, SwL, SwB, SwS, SwM, SwX, Bk, SwN, MtA. No condition of its own. -/
import Derived.WalkKit
import Derived.Handy
import Derived.Deep.AppendSrc
import Derived.Test.YthddoikmgpgakaaDoorProg
import Derived.Outline
import Derived.RangeFuncNested
import Derived.Shelf.Abstract
import Derived.Deep.QuietTactic
import Derived.BigQuiet
import Derived.Deep.RegionHeld3
import Derived.WalkSmall
import Derived.Laws.EntriesVeiled
import Derived.Maps.AppendAt
import Derived.Deep.AppendLies
import Derived.Test.YthddoikmgpgakaaDoorCards
import Derived.Test.YthddoikmgpgakaaDoorTie
import Derived.ProofKit
import Derived.OpenShut
import Derived.LaidMore
import Derived.LaidOnce
import Derived.ChangeOld
import Derived.Below
import Derived.Stop.Joined
import Derived.Lib.SmallJoins
import Derived.OrdersHeld
import Derived.Deep.RegionHeld
import Derived.OrdersIn
import Derived.RangeFuncCalls
import Derived.RangeFuncLeaves
import Derived.IntWalk
import Derived.WalkSpells
import Derived.OwnWalk
import Derived.LoopNIn
import Derived.DeepKeys4
import Derived.Maps.OwnIn
import Derived.OwnWalkIn
import Derived.RangeFuncBound
import Derived.Shelf.RegionOpen
import Derived.TacticsInMore
import Derived.Sort.BigQuietIn
import Derived.LoopIn
import Derived.WalkMore
import Derived.Maps.Views
import Derived.Lib.AppendZerosOnto
import Derived.Lib.Walk
import Derived.Lib.SliceRun
import Derived.Laws.MakeOwn
import Derived.Deep.Cut
import Derived.Deep.Slices
import Derived.Lib.LazyBuf
import Derived.Scope
import Derived.Maps.RangeRun
import Derived.ArgAppend
import Derived.WideKeyEntry
import Derived.Test.YthddoikmgpgakaaDoorMa5
set_option linter.unusedVariables false
set_option linter.unusedSimpArgs false
set_option maxRecDepth 40000
set_option maxHeartbeats 32000000
namespace Go.Proofs.YthddoikmgpgakaaDoor
open Go.RowKit Go
section
variable {P : Program} (w : World)
end
end Go.Proofs.YthddoikmgpgakaaDoor
namespace Go.Proofs.YthddoikmgpgakaaDoor
open Go Go.ChangeShapes Go.WideShapes Go.ChangeAt Go.RowKit
theorem laidOut : laidOutB Tryd.prog = true := by kernel_rfl
set_option maxRecDepth 100000 in
theorem tab_of {W : World} (h : laidMetH Tryd.prog laidL W) : Tab W := by
 obtain ⟨g, t, cs, fuel, p, hg, ht, hv, hd⟩ := h.funcs (n := "aguador/tally.checks") (List.mem_cons_self ..)
 obtain rfl := Option.some.inj ((show Tryd.prog.globalNamed "aguador/tally.checks" = some 0 by kernel_rfl).symm.trans hg)
 obtain rfl := Option.some.inj ((show (Tryd.prog.globals[0]?).map (·.type) = some 146 by kernel_rfl).symm.trans ht)
 have hd' : DataW.trod (funcToken Tryd.prog) Tryd.prog W 0 (fun _ => true) true fuel 146 cs.toList = some (.agg [.agg [.held [97, 103, 117, 97, 100, 111, 114, 47, 116, 97, 108, 108, 121, 46, 99, 104, 101, 99, 107, 115, 36, 49]], .agg [.held [97, 103, 117, 97, 100, 111, 114, 47, 116, 97, 108, 108, 121, 46, 99, 104, 101, 99, 107, 115, 36, 50]], .agg [.held [97, 103, 117, 97, 100, 111, 114, 47, 116, 97, 108, 108, 121, 46, 99, 104, 101, 99, 107, 115, 36, 51]]], p) := hd
 obtain ⟨xs, m, rfl, hx, hlen, hn, hel⟩ := DataW.trod_array Tryd.underlying146 hd'
 rw [show Tryd.prog.cellsOf 145 = 1 by kernel_rfl] at hel
 rw [show Tryd.prog.cellsOf 146 = 3 by kernel_rfl] at hlen
 obtain ⟨cl⟩ := cs
 match cl, hlen, xs, hn with
 | [v0, v1, v2], _, [x0, x1, x2], _ =>
  simp only [Prod.mk.injEq, DataW.agg.injEq, List.map_cons, List.map_nil, List.cons.injEq] at hx
  have h0 := hel 0 (by decide); have h1 := hel 1 (by decide); have h2 := hel 2 (by decide)
  simp at h0 h1 h2
  have go : ∀ (v : Value) (x : DataW (List UInt8) × List MemPlace) (b : UInt8) (r : List UInt8) (f0 : FuncId), ((List.range Tryd.prog.funcs.size).filter fun f => (Tryd.prog.funcs[f]?).any (·.name.toUTF8.data.toList == b :: r)) = [f0] →
    DataW.trod (funcToken Tryd.prog) Tryd.prog W 0 (fun _ => true) true m 145 [v] = some x → x.1 = .agg [.held (b :: r)] → v = .func (.func f0) #[] #[] := by
   intro v x b r f0 hone h hx
   obtain ⟨y, n, rfl, _, hy⟩ := trod_struct1 Tryd.underlying145 h
   simp only [DataW.agg.injEq, List.cons.injEq, and_true] at hx
   obtain ⟨y1, y2⟩ := y
   simp only at hx
   subst hx
   exact func_of_trod (P := Tryd.prog) Tryd.underlying25 hone (by simpa [show Tryd.prog.cellsOf 25 = 1 by kernel_rfl] using hy)
  have e0 := go v0 x0 _ _ 164 (by kernel_rfl) h0 hx.1.1.symm
  have e1 := go v1 x1 _ _ 165 (by kernel_rfl) h1 hx.1.2.1.symm
  have e2 := go v2 x2 _ _ 166 (by kernel_rfl) h2 hx.1.2.2.1.symm
  subst e0; subst e1; subst e2
  have c0 := World.var?_cell hg hv 0; have c1 := World.var?_cell hg hv 1; have c2 := World.var?_cell hg hv 2
  exact ⟨by simpa using c0, by simpa using c1, by simpa using c2⟩
end Go.Proofs.YthddoikmgpgakaaDoor
namespace Go.Proofs.YthddoikmgpgakaaDoor
open Go.RowKit Go
section
variable {P : Program} {ops : Array Oper} {Q : Exit → Act → World → Prop} {S : World → Prop} {held : List Nat}
end
section
variable {F : Fence} {n : Nat} {P : Program} {ops : Array Oper} {Q : Exit → Act → World → Prop} {S : World → Prop} {held : List Nat}
end
end Go.Proofs.YthddoikmgpgakaaDoor
namespace Go.Proofs.YthddoikmgpgakaaDoor.Sw
open Go.RowKit Go
section
variable {c : Cx} {s : S} {Q : Exit → S → Prop}
end
section
variable {c : Cx} {s : S} {Q : Exit → S → Prop} {ops : Array Oper} {tl : List Oper}
end
section
variable {c : Cx} {s : S} {Q : Exit → S → Prop} {ops : Array Oper} {tl : List Oper}
end
section
variable {P : Program} {rs : List (Nat × AV)} {d : Option Nat} {ty : TypeId} {pos : String} {af : Array Edge} {g : Option (Nat × Bool)}
end
section
variable {c : Cx} {s : S} {Q : Exit → S → Prop} {ops : Array Oper} {tl : List Oper}
end
section
variable {c : Cx} {rs : List (Nat × AV)} {hs : List HA} {Q : Exit → S → Prop} {ops : Array Oper} {tl : List Oper} {d : Nat} {op : Op} {ty : TypeId} {pos : String} {af : Array Edge}
end
section
variable {c : Cx} {rs : List (Nat × AV)} {hs : List HA} {Q : Exit → S → Prop} {ops : Array Oper} {tl : List Oper} {d : Nat} {ty : TypeId} {pos : String} {af : Array Edge} {x y : Operand} {t tb : TypeId} {p : Value} {j : Nat} {cs : List AV} {f : HA → List HA}
end
section
variable (ops : Array Oper) (m : Nat) (sp : List Sp) (hs0 : List HA)
end
section
variable {c : Cx} {ops : Array Oper} {m : Nat} {sp : List Sp} {hs0 hsR : List HA} {rsB : List (Nat × AV)} {Q : Exit → S → Prop}
end
section
variable {P : Program} {rs : List (Nat × AV)} {hsR : List HA} {d : Option Nat} {ty : TypeId} {pos : String} {af : Array Edge} {g : Option (Nat × Bool)} {x : Operand} {t tb : TypeId} {p : Value} {j : Nat} {cs : List AV} {f : HA → List HA}
end
section
variable {P : Program} {rs : List (Nat × AV)} {d : Option Nat} {ty : TypeId} {pos : String} {af : Array Edge} {g : Option (Nat × Bool)}
end
section
variable {P : Program} {rs : List (Nat × AV)} {d : Option Nat} {ty : TypeId} {pos : String} {af : Array Edge} {g : Option (Nat × Bool)}
end
section
variable {c : Cx} {rs : List (Nat × AV)} {hs : List HA} {Q : Exit → S → Prop} {ops : Array Oper} {tl : List Oper} {d : Nat} {ty : TypeId} {pos : String} {af : Array Edge}
end
section
variable {c : Cx} {rs : List (Nat × AV)} {hs : List HA} {Q : Exit → S → Prop} {ops : Array Oper} {tl : List Oper} {d : Nat} {ty : TypeId} {pos : String} {af : Array Edge}
end
section
variable {P : Program} {rs : List (Nat × AV)} {d : Option Nat} {ty : TypeId} {pos : String} {af : Array Edge} {g : Option (Nat × Bool)}
end
section
variable {c : Cx} {rs : List (Nat × AV)} {hs : List HA} {Q : Exit → S → Prop} {ops : Array Oper} {tl : List Oper} {d : Nat} {ty : TypeId} {pos : String} {af : Array Edge}
end
section
variable {P : Program} {rs : List (Nat × AV)} {hsR : List HA} {d : Option Nat} {ty : TypeId} {pos : String} {af : Array Edge} {g : Option (Nat × Bool)}
end
section
variable {P : Program} {rs : List (Nat × AV)} {hsR : List HA} {d : Option Nat} {ty : TypeId} {pos : String} {af : Array Edge} {g : Option (Nat × Bool)}
end
section
variable {c : Cx} {rs : List (Nat × AV)} {hs : List HA} {Q : Exit → S → Prop} {ops : Array Oper} {tl : List Oper} {d : Nat} {ty : TypeId} {pos : String} {af : Array Edge}
end
end Go.Proofs.YthddoikmgpgakaaDoor.Sw
namespace Go.Proofs.YthddoikmgpgakaaDoor
open Go.RowKit Go
section
variable {α : Type} {f : α → List Value} {n : Nat}
end
end Go.Proofs.YthddoikmgpgakaaDoor
namespace Go.Proofs.YthddoikmgpgakaaDoor
open Go.RowKit Go.Proofs Go.Shelf
attribute [local go_sem] Oper.semAt_some
attribute [local go_sem] Oper.semAt_some
attribute [local go_sem] eqPlace
attribute [local go_sem] Oper.semAt_some
attribute [local go_sem] Oper.semAt_some
end Go.Proofs.YthddoikmgpgakaaDoor
namespace Go.Proofs.YthddoikmgpgakaaDoor.Sw
open Go.RowKit Go
section
variable {c : Cx} {rs : List (Nat × AV)} {hs : List HA} {Q : Exit → S → Prop} {g : Operand} {ps : Array Tmp} {assign body : Code} {gf : FuncId} {caps : List AV} {own r : List HA} {α β τ : Type} {f : α → τ → List AV} {t : α → τ → List HA} {xs : List α}
end
section
variable {P : Program} {rs : List (Nat × AV)} {hsR : List HA} {d : Option Nat} {ty : TypeId} {pos : String} {af : Array Edge} {g : Option (Nat × Bool)}
end
section
variable {c : Cx} {rs : List (Nat × AV)} {hs : List HA} {Q : Exit → S → Prop} {ops : Array Oper} {tl : List Oper} {d : Nat} {ty : TypeId} {pos : String} {af : Array Edge}
end
section
variable {P : Program} {rs : List (Nat × AV)} {hsR : List HA} {d : Option Nat} {ty : TypeId} {pos : String} {af : Array Edge} {g : Option (Nat × Bool)}
end
section
variable {c : Cx} {rs : List (Nat × AV)} {hs : List HA} {Q : Exit → S → Prop} {ops : Array Oper} {tl : List Oper} {d : Nat} {ty : TypeId} {pos : String} {af : Array Edge}
end
section
variable {P : Program} {rs : List (Nat × AV)} {d : Option Nat} {ty : TypeId} {pos : String} {af : Array Edge} {g : Option (Nat × Bool)}
end
section
variable {c : Cx} {rs : List (Nat × AV)} {hs : List HA} {Q : Exit → S → Prop} {ops : Array Oper} {tl : List Oper} {d : Nat} {ty : TypeId} {pos : String} {af : Array Edge}
end
section
variable {P : Program} {rs : List (Nat × AV)} {d : Option Nat} {ty : TypeId} {pos : String} {af : Array Edge} {g : Option (Nat × Bool)}
end
section
variable {P : Program} {rs : List (Nat × AV)} {d : Option Nat} {ty : TypeId} {pos : String} {af : Array Edge} {g : Option (Nat × Bool)}
end
section
variable {c : Cx} {rs : List (Nat × AV)} {hs : List HA} {Q : Exit → S → Prop} {ops : Array Oper} {tl : List Oper} {d : Nat} {ty : TypeId} {pos : String} {af : Array Edge}
end
section
variable {P : Program} {rs : List (Nat × AV)} {d : Option Nat} {ty : TypeId} {pos : String} {af : Array Edge} {g : Option (Nat × Bool)}
end
section
variable {c : Cx} {rs : List (Nat × AV)} {hs : List HA} {Q : Exit → S → Prop} {ops : Array Oper} {tl : List Oper} {d : Nat} {ty : TypeId} {pos : String} {af : Array Edge}
end
section
variable {P : Program} {rs : List (Nat × AV)} {d : Option Nat} {ty : TypeId} {pos : String} {af : Array Edge} {g : Option (Nat × Bool)}
end
section
variable {c : Cx} {rs : List (Nat × AV)} {hs r : List HA} {Q : Exit → S → Prop} {ops : Array Oper} {tl : List Oper} {d : Nat} {ty : TypeId} {pos : String} {af : Array Edge}
end
end Go.Proofs.YthddoikmgpgakaaDoor.Sw
namespace Go.Proofs.YthddoikmgpgakaaDoor.Sw
open Go.RowKit Go
open Go.WideElems (Fit)
open Go.ChangeMaps (setBlock heap_setBlock_same heap_setBlock_other)
section
variable {κ α : Type} [DecidableEq κ]
end
section
variable {κ α : Type} (kv : κ → Value) (g : α → AV)
variable {kv g}
variable (kv g)
variable {kv g}
end
section
variable {P : Program} {κ α : Type} [DecidableEq κ] {t : TypeId} {kv : κ → Value} {ok : κ → Prop} {g : α → AV} {l : List (κ × α)} {G : Nat → Option Obj} {F : List Nat} {w : World} {v : Value}
variable {rs : List (Nat × AV)} {d : Option Nat} {ty : TypeId} {pos : String} {af : Array Edge} {gd : Option (Nat × Bool)}
end
section
variable {c : Cx} {rs : List (Nat × AV)} {hs : List HA} {Q : Exit → S → Prop} {ops : Array Oper} {tl : List Oper} {d : Nat} {ty : TypeId} {pos : String} {af : Array Edge} {κ α : Type} [DecidableEq κ] {t : TypeId} {kv : κ → Value} {ok : κ → Prop} {g : α → AV} {l : List (κ × α)} {v : Value}
end
section
variable {P : Program} {rs : List (Nat × AV)} {d : Option Nat} {ty : TypeId} {pos : String} {af : Array Edge} {gd : Option (Nat × Bool)} {κ α : Type} {t : TypeId} {kv : κ → Value} {g : α → AV} {l rest : List (κ × α)} {v it : Value}
end
section
variable {c : Cx} {rs : List (Nat × AV)} {hs r : List HA} {Q : Exit → S → Prop} {ops : Array Oper} {tl : List Oper} {d : Nat} {ty : TypeId} {pos : String} {af : Array Edge} {κ α : Type} {t : TypeId} {kv : κ → Value} {g : α → AV} {l rest : List (κ × α)} {v it : Value}
end
end Go.Proofs.YthddoikmgpgakaaDoor.Sw
namespace Go.Proofs.YthddoikmgpgakaaDoor.Sw
open Go.RowKit Go
section
variable {P : Program} {w : World}
end
section
variable {P : Program} {rs : List (Nat × AV)} {d : Option Nat} {ty : TypeId} {pos : String} {af : Array Edge} {g : Option (Nat × Bool)}
end
end Go.Proofs.YthddoikmgpgakaaDoor.Sw
namespace Go.Proofs.YthddoikmgpgakaaDoor.Sw
open Go.RowKit Go
open Go.WideElems (Fit)
open Go.ChangeMaps (setBlock heap_setBlock_same heap_setBlock_other)
section
variable {P : Program} {κ α : Type} [DecidableEq κ] {t : TypeId} {kv : κ → Value} {ok : κ → Prop} {g : α → AV} {l : List (κ × α)} {G : Nat → Option Obj} {F : List Nat} {w : World} {v : Value}
variable {rs : List (Nat × AV)} {d : Option Nat} {ty : TypeId} {pos : String} {af : Array Edge} {gd : Option (Nat × Bool)}
end
section
variable {c : Cx} {rs : List (Nat × AV)} {hs : List HA} {Q : Exit → S → Prop} {ops : Array Oper} {tl : List Oper} {d : Nat} {ty : TypeId} {pos : String} {af : Array Edge} {κ α : Type} [DecidableEq κ] {t : TypeId} {kv : κ → Value} {ok : κ → Prop} {g : α → AV} {l : List (κ × α)} {v : Value}
end
end Go.Proofs.YthddoikmgpgakaaDoor.Sw
namespace Go.Proofs.YthddoikmgpgakaaDoor.Sw
open Go.RowKit Go
section
variable {P : Program} {rs : List (Nat × AV)} {d : Option Nat} {ty : TypeId} {pos : String} {af : Array Edge} {g : Option (Nat × Bool)}
end
end Go.Proofs.YthddoikmgpgakaaDoor.Sw
