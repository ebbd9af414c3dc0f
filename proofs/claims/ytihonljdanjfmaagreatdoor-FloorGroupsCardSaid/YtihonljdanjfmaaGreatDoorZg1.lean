/- Proofs for one card: Reg, RegIn, Sw, SwOps, SwAny, App, SwOps2, SwOps3, SwR, SwF, SwG, SwH, Ty8, DoorG, FloorC, Row, Steps, Left, Best, Comes, SwI, SwQ, FloorM, Gr2, Gr3, SwL, SwM, SwB, FloorCa, FloorLb, SwS, FloorCe, FloorCg, FloorLk, SwN, FloorPc, FloorCj, OCom, U8, DoorU, OAa, OQa, OQb, OPa, FloorPays, OTa, OHa, OTb, OTc, OTd, OGa, SwX, OGb, FloorGroups. No condition of its own. -/
import Derived.WalkKit
import Derived.Handy
import Derived.Deep.AppendSrc
import Derived.OrdersHeld
import Derived.Deep.RegionHeld
import Derived.OrdersIn
import Derived.RangeFuncCalls
import Derived.RangeFuncNested
import Derived.RangeFuncLeaves
import Derived.IntWalk
import Derived.WalkSpells
import Derived.Maps.AppendAt
import Derived.Deep.AppendLies
import Derived.OwnWalk
import Derived.LoopNIn
import Derived.RangeFuncBound
import Derived.Test.YtihonljdanjfmaaGreatDoorProg
import Derived.Test.YtihonljdanjfmaaGreatDoorCards
import Derived.Test.YtihonljdanjfmaaGreatDoorTie
import Derived.ProofKit
import Derived.OpenShut
import Derived.LaidMore
import Derived.LaidOnce
import Derived.ChangeOld
import Derived.Below
import Derived.Stop.Joined
import Derived.Lib.SmallJoins
import Derived.Deep.Slices
import Derived.WalkSmall
import Derived.Shelf.Abstract
import Derived.Laws.EntriesVeiled
import Derived.ChangeSame
import Derived.Deep.Strs
import Derived.Outline
import Derived.Deep.QuietTactic
import Derived.BigQuiet
import Derived.Deep.RegionHeld3
import Derived.DeepKeys4
import Derived.Maps.OwnIn
import Derived.OwnWalkIn
import Derived.Shelf.RegionOpen
import Derived.TacticsInMore
import Derived.Sort.BigQuietIn
import Derived.LoopIn
import Derived.WalkMore
import Derived.Maps.Views
import Derived.Lib.AppendZerosOnto
import Derived.Lib.Walk
import Derived.Lib.SliceRun
import Derived.Laws.MakeOwn
import Derived.Deep.Cut
import Derived.Lib.LazyBuf
import Derived.Scope
import Derived.WideKeyEntry
import Derived.Maps.RangeRun
import Derived.Test.YtihonljdanjfmaaGreatDoorZd9
set_option linter.unusedVariables false
set_option linter.unusedSimpArgs false
set_option maxRecDepth 40000
set_option maxHeartbeats 32000000
namespace Go.Proofs.YtihonljdanjfmaaGreatDoor
open Go.RowKit Go
section
variable {P : Program} {ops : Array Oper} {Q : Exit → Act → World → Prop} {S : World → Prop} {held : List Nat}
end
section
variable {F : Fence} {n : Nat} {P : Program} {ops : Array Oper} {Q : Exit → Act → World → Prop} {S : World → Prop} {held : List Nat}
end
end Go.Proofs.YtihonljdanjfmaaGreatDoor
namespace Go.Proofs.YtihonljdanjfmaaGreatDoor.Sw
open Go.RowKit Go
section
variable {c : Cx} {s : S} {Q : Exit → S → Prop}
end
section
variable {c : Cx} {s : S} {Q : Exit → S → Prop} {ops : Array Oper} {tl : List Oper}
end
section
variable {c : Cx} {s : S} {Q : Exit → S → Prop} {ops : Array Oper} {tl : List Oper}
end
section
variable {P : Program} {rs : List (Nat × AV)} {d : Option Nat} {ty : TypeId} {pos : String} {af : Array Edge} {g : Option (Nat × Bool)}
end
section
variable {c : Cx} {s : S} {Q : Exit → S → Prop} {ops : Array Oper} {tl : List Oper}
end
section
variable {c : Cx} {rs : List (Nat × AV)} {hs : List HA} {Q : Exit → S → Prop} {ops : Array Oper} {tl : List Oper} {d : Nat} {op : Op} {ty : TypeId} {pos : String} {af : Array Edge}
end
section
variable {c : Cx} {rs : List (Nat × AV)} {hs : List HA} {Q : Exit → S → Prop} {ops : Array Oper} {tl : List Oper} {d : Nat} {ty : TypeId} {pos : String} {af : Array Edge} {x y : Operand} {t tb : TypeId} {p : Value} {j : Nat} {cs : List AV} {f : HA → List HA}
end
section
variable (ops : Array Oper) (m : Nat) (sp : List Sp) (hs0 : List HA)
end
section
variable {c : Cx} {ops : Array Oper} {m : Nat} {sp : List Sp} {hs0 hsR : List HA} {rsB : List (Nat × AV)} {Q : Exit → S → Prop}
end
section
variable {P : Program} {rs : List (Nat × AV)} {hsR : List HA} {d : Option Nat} {ty : TypeId} {pos : String} {af : Array Edge} {g : Option (Nat × Bool)} {x : Operand} {t tb : TypeId} {p : Value} {j : Nat} {cs : List AV} {f : HA → List HA}
end
end Go.Proofs.YtihonljdanjfmaaGreatDoor.Sw
namespace Go.Proofs.YtihonljdanjfmaaGreatDoor
open Go.RowKit Go
section
variable {P : Program} (w : World)
end
end Go.Proofs.YtihonljdanjfmaaGreatDoor
namespace Go.Proofs.YtihonljdanjfmaaGreatDoor.Sw
open Go.RowKit Go
section
variable {P : Program} {rs : List (Nat × AV)} {d : Option Nat} {ty : TypeId} {pos : String} {af : Array Edge} {g : Option (Nat × Bool)}
end
section
variable {P : Program} {rs : List (Nat × AV)} {d : Option Nat} {ty : TypeId} {pos : String} {af : Array Edge} {g : Option (Nat × Bool)}
end
section
variable {c : Cx} {rs : List (Nat × AV)} {hs : List HA} {Q : Exit → S → Prop} {ops : Array Oper} {tl : List Oper} {d : Nat} {ty : TypeId} {pos : String} {af : Array Edge}
end
section
variable {c : Cx} {rs : List (Nat × AV)} {hs : List HA} {Q : Exit → S → Prop} {ops : Array Oper} {tl : List Oper} {d : Nat} {ty : TypeId} {pos : String} {af : Array Edge}
end
section
variable {P : Program} {rs : List (Nat × AV)} {d : Option Nat} {ty : TypeId} {pos : String} {af : Array Edge} {g : Option (Nat × Bool)}
end
section
variable {c : Cx} {rs : List (Nat × AV)} {hs : List HA} {Q : Exit → S → Prop} {ops : Array Oper} {tl : List Oper} {d : Nat} {ty : TypeId} {pos : String} {af : Array Edge}
end
section
variable {P : Program} {rs : List (Nat × AV)} {hsR : List HA} {d : Option Nat} {ty : TypeId} {pos : String} {af : Array Edge} {g : Option (Nat × Bool)}
end
section
variable {P : Program} {rs : List (Nat × AV)} {hsR : List HA} {d : Option Nat} {ty : TypeId} {pos : String} {af : Array Edge} {g : Option (Nat × Bool)}
end
section
variable {c : Cx} {rs : List (Nat × AV)} {hs : List HA} {Q : Exit → S → Prop} {ops : Array Oper} {tl : List Oper} {d : Nat} {ty : TypeId} {pos : String} {af : Array Edge}
end
section
variable {c : Cx} {rs : List (Nat × AV)} {hs : List HA} {Q : Exit → S → Prop} {g : Operand} {ps : Array Tmp} {assign body : Code} {gf : FuncId} {caps : List AV} {own r : List HA} {α β τ : Type} {f : α → τ → List AV} {t : α → τ → List HA} {xs : List α}
end
section
variable {P : Program} {rs : List (Nat × AV)} {hsR : List HA} {d : Option Nat} {ty : TypeId} {pos : String} {af : Array Edge} {g : Option (Nat × Bool)}
end
section
variable {c : Cx} {rs : List (Nat × AV)} {hs : List HA} {Q : Exit → S → Prop} {ops : Array Oper} {tl : List Oper} {d : Nat} {ty : TypeId} {pos : String} {af : Array Edge}
end
instance : Ty1 Tryz.prog 5 := ⟨fun w => by kernel_rfl, fun w => by kernel_rfl⟩
instance : TyE Tryz.prog 54 5 1 := tyE (z := .int .u8 0) (b := 1) (by kernel_rfl) (by kernel_rfl) (by decide) rfl (by decide)
end Go.Proofs.YtihonljdanjfmaaGreatDoor.Sw
namespace Go.Proofs.YtihonljdanjfmaaGreatDoor.Sw
open Go Go.RowKit Go.ChangeShapes Go.WideShapes Go.ChangeAt
set_option maxRecDepth 100000 in
theorem arg_one {H : Type} {enc : TypeId × Value → H} {W : World} {t : TypeId} {α : Type} {g : α → AV} (hr : Reads t fun x => [g x]) {v : Value} {d : DataW H} {p : List MemPlace} (hc : v.cells.toList = [v]) (h : DataW.Trod enc Tryz.prog W 0 (fun _ => true) true t v d p) : ∃ x, (g x).P (gh W) v := by
 obtain ⟨m, hm⟩ := h
 rw [hc] at hm
 obtain ⟨x, h1, _⟩ := hr hm
 exact ⟨x, h1⟩
set_option maxRecDepth 100000 in
theorem arg_sl {H : Type} {enc : TypeId × Value → H} {W : World} {t e : TypeId} {α : Type} {g : α → AV} (hr : Reads t fun x => [g x]) {v : Value} {d : DataW H} {p : List MemPlace} {base : Nat} (ht : Tryz.prog.underlying t = some (.slice e)) (hv : Value.okWide Tryz.prog W .any base t v) (h : DataW.Trod enc Tryz.prog W 0 (fun _ => true) true t v d p) : ∃ x, (g x).P (gh W) v := by
 obtain ⟨a, n, c, rfl⟩ := okWide_slice ht hv
 exact arg_one hr rfl h
end Go.Proofs.YtihonljdanjfmaaGreatDoor.Sw
namespace Go.Proofs.YtihonljdanjfmaaGreatDoor
open Go Go.ChangeShapes Go.WideShapes Go.ChangeAt Go.RowKit
theorem laidOut : laidOutB Tryz.prog = true := by kernel_rfl
end Go.Proofs.YtihonljdanjfmaaGreatDoor
namespace Go.Proofs.YtihonljdanjfmaaGreatDoor.Sw
open Go Go.RowKit Go.ChangeShapes Go.WideShapes Go.ChangeAt
set_option maxRecDepth 100000
end Go.Proofs.YtihonljdanjfmaaGreatDoor.Sw
namespace Go.Proofs.YtihonljdanjfmaaGreatDoor.Sw
open Go.RowKit Go Go.Shelf Go.Proofs
end Go.Proofs.YtihonljdanjfmaaGreatDoor.Sw
namespace Go.Proofs.YtihonljdanjfmaaGreatDoor
open Go.RowKit Go
section
variable {α : Type} {f : α → List Value} {n : Nat}
end
end Go.Proofs.YtihonljdanjfmaaGreatDoor
namespace Go.Proofs.YtihonljdanjfmaaGreatDoor
open Go.RowKit Go.Proofs Go.Shelf
attribute [local go_sem] Oper.semAt_some
attribute [local go_sem] Oper.semAt_some
attribute [local go_sem] eqPlace
attribute [local go_sem] Oper.semAt_some
attribute [local go_sem] Oper.semAt_some
end Go.Proofs.YtihonljdanjfmaaGreatDoor
namespace Go.Proofs.YtihonljdanjfmaaGreatDoor.Sw
open Go.RowKit Go
section
variable {P : Program} {rs : List (Nat × AV)} {hsR : List HA} {d : Option Nat} {ty : TypeId} {pos : String} {af : Array Edge} {g : Option (Nat × Bool)}
end
section
variable {c : Cx} {rs : List (Nat × AV)} {hs : List HA} {Q : Exit → S → Prop} {ops : Array Oper} {tl : List Oper} {d : Nat} {ty : TypeId} {pos : String} {af : Array Edge}
end
section
variable {P : Program} {rs : List (Nat × AV)} {d : Option Nat} {ty : TypeId} {pos : String} {af : Array Edge} {g : Option (Nat × Bool)}
end
section
variable {c : Cx} {rs : List (Nat × AV)} {hs : List HA} {Q : Exit → S → Prop} {ops : Array Oper} {tl : List Oper} {d : Nat} {ty : TypeId} {pos : String} {af : Array Edge}
end
section
variable {P : Program} {rs : List (Nat × AV)} {d : Option Nat} {ty : TypeId} {pos : String} {af : Array Edge} {g : Option (Nat × Bool)}
theorem lt_rem {x y : Operand} {m n : Int} {t t' : TypeId} (hx : opv rs x = some (.val (.int .i64 m))) (hy : opv rs y = some (.val (.int .i64 n))) (h0 : 0 < n) (h1 : 0 ≤ m) (h2 : m ≤ 9223372036854775807) :
  LT P ⟨d, .binOp .rem t x y t', ty, pos, af, g⟩ rs [] (Is (.val (.int .i64 (m % n))) []) :=
 LT_val (fun _ e => by cases e) fun a w G hR _ => ⟨_, rfl, by
  have e1 : a.eval x = _ := opv_ok hR hx
  have e2 : a.eval y = _ := opv_ok hR hy
  have hq : m.tmod n = m % n := Int.tmod_eq_emod_of_nonneg h1
  have hr1 : 0 ≤ m % n := Int.emod_nonneg m (by omega)
  have hr2 : m % n < n := Int.emod_lt_of_pos m h0
  have hr3 : m % n ≤ m := by
   have e := Int.emod_add_mul_ediv m n
   have p := Int.mul_nonneg (show 0 ≤ n by omega) (Int.ediv_nonneg h1 (show 0 ≤ n by omega))
   generalize n * (m / n) = q at e p
   omega
  have hz : n ≠ 0 := by omega
  simp only [execOp, e1, e2]
  simp [go_sem, hz, hq, IntWalk.i64_in (m % n) (by omega)]⟩
theorem run_conv8 {s t : TypeId} (hs : P.underlying s = some (.int .u8)) (ht : P.underlying t = some (.int .i64)) {n : Int} (h : 0 ≤ n ∧ n ≤ 255) (w : World) : (convert s t (.int .u8 n)).run P w = .ok (.int .i64 n) w := by
 simp [convert, run_underlying hs, run_underlying ht, Conv.intToInt, IntWalk.i64_in n (by omega)]
end
theorem wl_rem {c : Cx} {rs : List (Nat × AV)} {hs : List HA} {Q : Exit → S → Prop} {ops : Array Oper} {tl : List Oper} {d : Nat} {ty : TypeId} {pos : String} {af : Array Edge} {x y : Operand} {m n : Int} {t t' : TypeId} (hx : opv rs x = some (.val (.int .i64 m))) (hy : opv rs y = some (.val (.int .i64 n))) (h0 : 0 < n) (h1 : 0 ≤ m) (h2 : m ≤ 9223372036854775807) (hd : Nat.blt d c.nt = true) (k : WL c ops tl ⟨(d, .val (.int .i64 (m % n))) :: rs, hs⟩ Q) : WL c ops (⟨some d, .binOp .rem t x y t', ty, pos, af, none⟩ :: tl) ⟨rs, hs⟩ Q := wl_ex (lt_rem hx hy h0 h1 h2) hd k
end Go.Proofs.YtihonljdanjfmaaGreatDoor.Sw
namespace Go.Proofs.YtihonljdanjfmaaGreatDoor.Sw
open Go.RowKit Go Go.Shelf Go.Proofs
end Go.Proofs.YtihonljdanjfmaaGreatDoor.Sw
namespace Go.Proofs.YtihonljdanjfmaaGreatDoor.Gr
open Go.Proofs.YtihonljdanjfmaaGreatDoor.Sw (Pay)
theorem treeGo_ok {ids : List Int} : ∀ {m : Nat} {L : List (Nat × Nat)} {left : List Int} {out : List Pay}, L.length = m → Ok ids.length L → left.length = ids.length → Zr ids.length L (lf left) → Min ids.length L (lf left) → ∃ r, treeGo ids m L left out = some r ∧ ∀ v, v < ids.length → lf r.1 v = 0
 | 0, L, left, out, hl, hok, hlen, hz, hm => by
  have : L = [] := List.eq_nil_of_length_eq_zero hl
  subst this
  exact ⟨(left, out), rfl, zr_nil hz⟩
 | m + 1, L, left, out, hl, hok, hlen, hz, hm => by
  obtain ⟨i0, e0, hi0, hl0⟩ := hm.leaf hok hz (by intro h; rw [h] at hl; simp at hl)
  obtain ⟨⟨i, e⟩, hf⟩ := findLeaf_of hok.nd hi0 hl0
  obtain ⟨hi, hle⟩ := findLeaf_some hf
  obtain ⟨hon, hne, _, _⟩ := oth_spec hok hle.1 hle.2.1
  have hx := hm.left hok hz hle
  unfold treeGo
  rw [hf]
  dsimp only
  rw [if_neg (by exact hx)]
  refine treeGo_ok (by rw [List.length_erase_of_mem hle.1]; omega) (hok.erase e) (by rw [mvL_len, hlen]) ?_ ?_
  ·rw [lf_mvL (by omega) (by omega)]; exact step_zr hok hz hle
  ·rw [lf_mvL (by omega) (by omega)]; exact step_min hok hm hle
theorem treeR_ok {ids : List Int} {L : List (Nat × Nat)} {owed : List Int} (hok : Ok ids.length L) (hlen : owed.length = ids.length) (hz : Zr ids.length L (lf owed)) (hm : Min ids.length L (lf owed)) : ∃ out, treeR ids L owed = some out := by
 obtain ⟨r, hr, h0⟩ := treeGo_ok (out := []) rfl hok hlen hz hm
 refine ⟨r.2, ?_⟩
 unfold treeR
 rw [hr]
 dsimp only
 rw [if_pos (all_zero.2 (by rw [treeGo_len hr, hlen]; exact h0))]
theorem Zr.sup {n : Nat} {L S : List (Nat × Nat)} {x : Nat → Int} (h : Zr n S x) (hs : ∀ p ∈ S, p ∈ L) : Zr n L x := fun P hP => h P fun p hp => hP p (hs p hp)
end Go.Proofs.YtihonljdanjfmaaGreatDoor.Gr
namespace Go.Proofs.YtihonljdanjfmaaGreatDoor.Sw
open Go.RowKit Go
section
variable {P : Program} {rs : List (Nat × AV)} {d : Option Nat} {ty : TypeId} {pos : String} {af : Array Edge} {g : Option (Nat × Bool)}
end
section
variable {c : Cx} {rs : List (Nat × AV)} {hs : List HA} {Q : Exit → S → Prop} {ops : Array Oper} {tl : List Oper} {d : Nat} {ty : TypeId} {pos : String} {af : Array Edge}
end
theorem WL_unpack {c : Cx} {rs : List (Nat × AV)} {hs r l l' : List HA} {h : HA} {Q : Exit → S → Prop} {ops : Array Oper} {tl : List Oper} (hp : l.Perm (h :: l')) (hr : Rm hs (.pack l) r) (k : WL c ops tl ⟨rs, h :: .pack l' :: r⟩ Q) : WL c ops tl ⟨rs, hs⟩ Q := ⟨fun a w st => k.out a w (st_unpack hr hp st)⟩
end Go.Proofs.YtihonljdanjfmaaGreatDoor.Sw
namespace Go.Proofs.YtihonljdanjfmaaGreatDoor.Sw
open Go.RowKit Go
open Go.WideElems (Fit)
open Go.ChangeMaps (setBlock heap_setBlock_same heap_setBlock_other)
section
variable {κ α : Type} [DecidableEq κ]
end
section
variable {κ α : Type} (kv : κ → Value) (g : α → AV)
variable {kv g}
variable (kv g)
variable {kv g}
end
section
variable {P : Program} {κ α : Type} [DecidableEq κ] {t : TypeId} {kv : κ → Value} {ok : κ → Prop} {g : α → AV} {l : List (κ × α)} {G : Nat → Option Obj} {F : List Nat} {w : World} {v : Value}
variable {rs : List (Nat × AV)} {d : Option Nat} {ty : TypeId} {pos : String} {af : Array Edge} {gd : Option (Nat × Bool)}
end
section
variable {c : Cx} {rs : List (Nat × AV)} {hs : List HA} {Q : Exit → S → Prop} {ops : Array Oper} {tl : List Oper} {d : Nat} {ty : TypeId} {pos : String} {af : Array Edge} {κ α : Type} [DecidableEq κ] {t : TypeId} {kv : κ → Value} {ok : κ → Prop} {g : α → AV} {l : List (κ × α)} {v : Value}
end
end Go.Proofs.YtihonljdanjfmaaGreatDoor.Sw
namespace Go.Proofs.YtihonljdanjfmaaGreatDoor.Sw
open Go.RowKit Go
section
variable {P : Program} {rs : List (Nat × AV)} {d : Option Nat} {ty : TypeId} {pos : String} {af : Array Edge} {g : Option (Nat × Bool)}
end
section
variable {c : Cx} {rs : List (Nat × AV)} {hs : List HA} {Q : Exit → S → Prop} {ops : Array Oper} {tl : List Oper} {d : Nat} {ty : TypeId} {pos : String} {af : Array Edge}
end
end Go.Proofs.YtihonljdanjfmaaGreatDoor.Sw
namespace Go.Proofs.YtihonljdanjfmaaGreatDoor.Sw
open Go.RowKit Go Go.Shelf Go.Proofs
end Go.Proofs.YtihonljdanjfmaaGreatDoor.Sw
namespace Go.Proofs.YtihonljdanjfmaaGreatDoor.Sw
open Go.RowKit Go Go.Shelf Go.Proofs
open Go.Proofs.YtihonljdanjfmaaGreatDoor.Gr (payLt)
section
variable {P : Program} {rs : List (Nat × AV)} {d : Option Nat} {ty : TypeId} {pos : String} {af : Array Edge} {g : Option (Nat × Bool)}
end
section
variable {c : Cx} {rs : List (Nat × AV)} {hs : List HA} {Q : Exit → S → Prop} {ops : Array Oper} {tl : List Oper} {d : Nat} {ty : TypeId} {pos : String} {af : Array Edge}
end
end Go.Proofs.YtihonljdanjfmaaGreatDoor.Sw
namespace Go.Proofs.YtihonljdanjfmaaGreatDoor.Sw
open Go.RowKit Go
section
variable {P : Program} {rs : List (Nat × AV)} {d : Option Nat} {ty : TypeId} {pos : String} {af : Array Edge} {g : Option (Nat × Bool)}
end
section
variable {c : Cx} {rs : List (Nat × AV)} {hs r : List HA} {Q : Exit → S → Prop} {ops : Array Oper} {tl : List Oper} {d : Nat} {ty : TypeId} {pos : String} {af : Array Edge}
end
end Go.Proofs.YtihonljdanjfmaaGreatDoor.Sw
namespace Go.Proofs.YtihonljdanjfmaaGreatDoor.Sw
open Go.RowKit Go Go.Shelf Go.Proofs
end Go.Proofs.YtihonljdanjfmaaGreatDoor.Sw
namespace Go.Proofs.YtihonljdanjfmaaGreatDoor.Sw
open Go.RowKit Go Go.Shelf Go.Proofs
open Go.Proofs.YtihonljdanjfmaaGreatDoor.Gr (payLt)
theorem bst8_mem {xs : List (List Pay)} {b y : List Pay} (h : xs.foldl (fun b x => if befR x b = true then x else b) b = y) : y ∈ xs ∨ y = b := by
 induction xs generalizing b with
 | nil => exact .inr h.symm
 | cons x t ih =>
  rcases ih h with h1 | h1
  ·exact .inl (by simp [h1])
  ·dsimp only at h1
   split at h1
   ·exact .inl (by simp [h1])
   ·exact .inr h1
end Go.Proofs.YtihonljdanjfmaaGreatDoor.Sw
namespace Go.Proofs.YtihonljdanjfmaaGreatDoor.Sw
open Go.RowKit Go
open Go.WideElems (Fit)
open Go.ChangeMaps (setBlock heap_setBlock_same heap_setBlock_other)
section
variable {P : Program} {κ α : Type} [DecidableEq κ] {t : TypeId} {kv : κ → Value} {ok : κ → Prop} {g : α → AV} {l : List (κ × α)} {G : Nat → Option Obj} {F : List Nat} {w : World} {v : Value}
variable {rs : List (Nat × AV)} {d : Option Nat} {ty : TypeId} {pos : String} {af : Array Edge} {gd : Option (Nat × Bool)}
end
section
variable {c : Cx} {rs : List (Nat × AV)} {hs : List HA} {Q : Exit → S → Prop} {ops : Array Oper} {tl : List Oper} {d : Nat} {ty : TypeId} {pos : String} {af : Array Edge} {κ α : Type} [DecidableEq κ] {t : TypeId} {kv : κ → Value} {ok : κ → Prop} {g : α → AV} {l : List (κ × α)} {v : Value}
end
end Go.Proofs.YtihonljdanjfmaaGreatDoor.Sw
namespace Go.Proofs.YtihonljdanjfmaaGreatDoor.Sw
open Go.RowKit Go Go.Shelf Go.Proofs
open Go.Proofs.YtihonljdanjfmaaGreatDoor.Gr (headsR hf mergeH hf_merge Lab lab_all Cl)
end Go.Proofs.YtihonljdanjfmaaGreatDoor.Sw
namespace Go.Proofs.YtihonljdanjfmaaGreatDoor.Sw
open Go.RowKit Go Go.Shelf Go.Proofs
theorem u8_ok {n : Int} (h : (Lit.int .u8 n).wf = true) : 0 ≤ n ∧ n ≤ 255 := by
 simp only [Lit.wf, IntKind.min, IntKind.max, IntKind.signed, IntKind.bits, Bool.and_eq_true, decide_eq_true_eq] at h
 simp at h
 omega
def u8C (b : Fin 256) : List AV := [.val (.int .u8 (b.val : Int))]
def chF (by_ : List (Fin 256)) (i : Nat) : Int := if by_.length = 0 then 0 else ((by_.getD (i % by_.length) 0).val : Int)
theorem chF_btw (l : List (Fin 256)) (i : Nat) : 0 ≤ chF l i ∧ chF l i ≤ 255 := by
 unfold chF
 split
 ·omega
 ·have := (l.getD (i % l.length) 0).isLt
  omega
theorem choice_con (l : List (Fin 256)) (i : Nat) (hi : i ≤ 1000) : Con Tryz.prog 28 [.sl 1 u8C l, .val (.int .i64 (i : Int))] [] (Is (.val (.int .i64 (chF l i))) []) := by
 refine con_of Tryz.func28 rfl (enters_of Tryz.func28 (by kernel_rfl) rfl) rfl ?_; intro n w0 F0 G0
 refine zS ?_
 refine w_cond rfl (fun h0 => ?_) (fun h0 => ?_)
 ·have h0' : l.length = 0 := by simpa using h0
  refine zS ?_
  (apply res1; exact rfl; exact rfl; exact ⟨(congrArg (fun b => AV.val (Value.int .i64 b)) (by unfold chF; rw [if_pos h0'])), rfl⟩)
 ·have h0' : l.length ≠ 0 := by simpa using h0
  have hm : i % l.length < l.length := Nat.mod_lt _ (by omega)
  have e1 : (i : Int) % (l.length : Int) = ((i % l.length : Nat) : Int) := by omega
  have e2 : chF l i = (((l[i % l.length]).val : Nat) : Int) := by
   unfold chF
   rw [if_neg h0', List.getD_eq_getElem?_getD, List.getElem?_eq_getElem hm]; rfl
  have q : l[i % l.length]? = some l[i % l.length] := List.getElem?_eq_getElem hm
  obtain ⟨x, hx⟩ : ∃ x, x = l[i % l.length] := ⟨_, rfl⟩
  rw [← hx] at e2 q
  have c1 := fun w => run_conv8 (P := Tryz.prog) Tryz.underlying5 Tryz.underlying3 (n := ((x.val : Nat) : Int)) ⟨by omega, by have := x.isLt; omega⟩ w
  refine zS ?_
  (apply wl_rem; exact rfl; exact rfl; omega; omega; omega; exact rfl)
  rw [e1]
  refine zS ?_
  rw [← hx]
  (apply wl_convC (.int .i64 ((x.val : Nat) : Int)); exact rfl; exact c1; exact rfl)
  refine zS ?_
  (apply res1; exact rfl; exact rfl; exact ⟨(congrArg (fun b => AV.val (Value.int .i64 b)) e2.symm), rfl⟩)
end Go.Proofs.YtihonljdanjfmaaGreatDoor.Sw
namespace Go.Proofs.YtihonljdanjfmaaGreatDoor.Sw
open Go Go.RowKit Go.ChangeShapes Go.WideShapes Go.ChangeAt
set_option maxRecDepth 100000
theorem reads_u8 : Reads 5 u8C := fun {H enc W n cs y} h => by
 obtain ⟨m, rfl, _, hw⟩ := DataW.trod_int Tryz.underlying5 h
 have := u8_ok hw
 have e : ((m.toNat : Nat) : Int) = m := by omega
 exact ⟨⟨m.toNat, by omega⟩, (by show Value.int .u8 m = .int .u8 ((m.toNat : Nat) : Int); rw [e]), trivial⟩
theorem reads_u8s : Reads 54 fun xs : List (Fin 256) => [AV.sl 1 u8C xs] := reads_sl Tryz.underlying54 (n := 1) (by kernel_rfl) Nat.one_pos (fun _ => rfl) reads_u8
end Go.Proofs.YtihonljdanjfmaaGreatDoor.Sw
namespace Go.Proofs.YtihonljdanjfmaaGreatDoor.Sw
open Go.RowKit Go Go.Shelf Go.Proofs
open Go.Proofs.YtihonljdanjfmaaGreatDoor.Gr (Zr sumP Cl lf)
theorem idx_at {ids : List Int} (hr : rises 0 ids = true) {i : Nat} (hi : i < ids.length) : ids.idxOf ids[i] = i := by
 have hm := List.getElem_mem hi
 have hj := List.idxOf_lt_length_of_mem hm
 have he : ids[ids.idxOf ids[i]] = ids[i] := List.getElem_idxOf hj
 rcases Nat.lt_trichotomy (ids.idxOf ids[i]) i with h | h | h
 ·have := rises_sorted hr _ _ hj hi h; omega
 ·exact h
 ·have := rises_sorted hr _ _ hi hj h; omega
theorem alo_of {f : Flo} {l : List Int} (hok : floOk f = true) (hr : rises 0 l = true) (hm : ∀ x ∈ l, x ∈ f.ids) : aloR f l = (canB (ownF l f) (netS f l), 0) := by
 have hn : (l.any fun n => !decide (n ∈ f.ids)) = false := by
  rw [List.any_eq_false]
  intro x hx
  simp [hm x hx]
 unfold aloR
 rw [if_pos hok, if_pos (by rw [hr, hn]; rfl)]
theorem speakR_comm (qs : List Qu) (a b : Int) : speakR qs a b = speakR qs b a := by
 have h : hits a b = hits b a := by
  funext q
  unfold hits
  rw [Int.min_comm, Int.max_comm]
 unfold speakR
 rw [h]
 congr 1
 exact decide_eq_decide.2 ⟨fun h e => h e.symm, fun h e => h e.symm⟩
end Go.Proofs.YtihonljdanjfmaaGreatDoor.Sw
namespace Go.Proofs.YtihonljdanjfmaaGreatDoor.Sw
open Go.RowKit Go Go.Shelf Go.Proofs
open Go.Proofs.YtihonljdanjfmaaGreatDoor.Gr (treeR pick sub_pick pick_sub)
theorem few_first {α : Type} {g : Nat → List α} : ∀ {m : Nat}, fewTo g m ≠ [] → ∃ k, k < m ∧ fewTo g m = g k ∧ ∀ j, j < k → g j = []
 | 0, h => absurd rfl h
 | m + 1, h => by
  rw [fewTo] at h ⊢
  by_cases he : (fewTo g m).isEmpty = true
  ·rw [if_pos he] at h ⊢
   refine ⟨m, by omega, rfl, fun j hj => ?_⟩
   cases hg : g j with
   | nil => rfl
   | cons x t =>
    exfalso
    have : ∀ m, j < m → fewTo g m ≠ [] := by
     intro m hm
     induction m with
     | zero => omega
     | succ m ih =>
      rw [fewTo]
      by_cases hj2 : j < m
      ·have := ih hj2
       rw [if_neg (by cases hq : fewTo g m with | nil => exact absurd hq this | cons a b => simp)]
       exact this
      ·have hjm : j = m := by omega
       subst hjm
       split
       ·rw [hg]; simp
       ·rename_i h2; intro e; rw [e] at h2; exact h2 rfl
    exact this m hj (List.isEmpty_iff.1 he)
  ·rw [if_neg he] at h ⊢
   obtain ⟨k, hk, e, h3⟩ := few_first h
   exact ⟨k, by omega, e, h3⟩
theorem few_some {α : Type} {g : Nat → List α} {j : Nat} (hj : g j ≠ []) : ∀ {m : Nat}, j < m → fewTo g m ≠ []
 | m + 1, hm => by
  rw [fewTo]
  by_cases hj2 : j < m
  ·have := few_some hj hj2
   rw [if_neg (by cases hq : fewTo g m with | nil => exact absurd hq this | cons a b => simp)]
   exact this
  ·have hjm : j = m := by omega
   subst hjm
   split
   ·exact hj
   ·rename_i h2; intro e; rw [e] at h2; exact h2 rfl
end Go.Proofs.YtihonljdanjfmaaGreatDoor.Sw
namespace Go.Proofs.YtihonljdanjfmaaGreatDoor.Sw
open Go.RowKit Go Go.Shelf Go.Proofs
open Go.Proofs.YtihonljdanjfmaaGreatDoor.Gr (treeR treeR_ok pick sub_pick pick_sub Zr Cl Ok Forest Side Min sumP sumP_upd sumP_congr upd lf amt amt_side amt_swap payE cl_of_erase)
theorem allR_of {f : Flo} {S : List (Nat × Nat)} {out : List Pay} (hS : S.Sublist (prR (spk f) f.ids.length f.ids.length)) (h : treeR f.ids S (owed8 f) = some out) : out ∈ allR f S.length := by
 obtain ⟨t, ht, e⟩ := sub_pick hS
 unfold allR allTo
 refine List.mem_filterMap.2 ⟨t, List.mem_range.2 ht, ?_⟩
 rw [e, if_pos rfl]; exact h
theorem allR_zr {f : Flo} {S : List (Nat × Nat)} (hnd : S.Nodup) (hm : ∀ e ∈ S, PrS f e) (hz : Zr f.ids.length S (lf (owed8 f))) : ∃ k, k ≤ S.length ∧ allR f k ≠ [] := by
 have hok := prR_ok (spk f) f.ids.length
 obtain ⟨T, hT, hTn, hTe⟩ := sub_of_set hnd hok.nd fun e he => (prR_mem (Nat.le_refl _)).2 ⟨Nat.lt_trans (hm e he).1 (hm e he).2.1, (hm e he).1, (hm e he).2.1, (hm e he).2.2⟩
 have hzT : Zr f.ids.length T (lf (owed8 f)) := hz.sup fun p hp => (hTe p).1 hp
 have hlT : T.length = S.length := ((List.perm_ext_iff_of_nodup hnd hTn).2 hTe).length_eq.symm
 obtain ⟨R, hR, hRo, hRz, hRm⟩ := Gr.exists_min _ rfl (hok.sub hT) hzT
 obtain ⟨out, ho⟩ := treeR_ok hRo (owed8_len f) hRz hRm
 refine ⟨R.length, by rw [← hlT]; exact hR.length_le, fun e => ?_⟩
 have := allR_of (hR.trans hT) ho
 rw [e] at this; cases this
theorem idx_getD {ids : List Int} (hr : rises 0 ids = true) {i : Nat} (hi : i < ids.length) : ids.idxOf (ids.getD i 0) = i := by
 rw [List.getD_eq_getElem?_getD, List.getElem?_eq_getElem hi]; exact idx_at hr hi
end Go.Proofs.YtihonljdanjfmaaGreatDoor.Sw
namespace Go.Proofs.YtihonljdanjfmaaGreatDoor.Sw
open Go.RowKit Go Go.Shelf Go.Proofs
theorem stl_told {f : Flo} (hS : Sml f) (hf : floOk f = true) (h0 : (stlN f).2 = 0) : ∃ k, k < 6 ∧ (stlN f).1 ∈ allR f k ∧ (∀ j, j < k → allR f j = []) ∧ (stlN f).1.length = k := by
 rw [stl_eq hS] at h0 ⊢
 have ha : (askR f).2.2 = 0 := by
  unfold stlN8 at h0
  split at h0
  ·assumption
  ·exact h0
 have hne : fewTo (allR f) 6 ≠ [] := fun e => by
  unfold askR at ha
  rw [if_pos hf, e] at ha
  simp at ha
 obtain ⟨k, hk, ek, hm⟩ := few_first hne
 have hal : (askR f).1 = fewTo (allR f) 6 := by
  unfold askR
  rw [if_pos hf, if_neg]
  intro e; exact hne (List.isEmpty_iff.1 e)
 have hin : (stlN8 f).1 ∈ allR f k := by
  unfold stlN8 bst8
  rw [if_pos ha, hal]
  dsimp only
  rw [ek] at hne ⊢
  rcases bst8_mem (xs := allR f k) (b := (allR f k).headD []) rfl with h | h
  ·exact h
  ·rw [h]; exact head_mem hne
 exact ⟨k, hk, hin, hm, (told (flo_f hf) hS (rises_of_ok hf) hin).len⟩
theorem fewN8_of {f : Flo} (hS : Sml f) (hf : floOk f = true) {k : Nat} (hk : k < 6) (h1 : allR f k ≠ []) (h2 : ∀ j, j < k → allR f j = []) : fewN8 f = ((k : Int), 0) := by
 have hne := few_some h1 hk
 obtain ⟨j, hj, ej, hjm⟩ := few_first hne
 have hjk : j = k := by
  rcases Nat.lt_trichotomy j k with h | h | h
  ·rw [ej, h2 j h] at hne; exact absurd rfl hne
  ·exact h
  ·exact absurd (hjm k h) h1
 subst hjk
 have ha : askR f = (fewTo (allR f) 6, chTo (allR f) 6, 0) := by
  unfold askR
  rw [if_pos hf, if_neg]
  intro e; exact hne (List.isEmpty_iff.1 e)
 unfold fewN8
 rw [ha, if_pos rfl]
 dsimp only
 rw [ej] at hne ⊢
 rw [(told (flo_f hf) hS (rises_of_ok hf) (head_mem hne)).len]
theorem told_speak {f : Flo} {k : Nat} {l : List Pay} (h : l ∈ allR f k) {x : Pay} (hx : x ∈ l) : speakR f.qs x.a x.b = true ∧ x.a ∈ f.ids ∧ x.b ∈ f.ids := by
 obtain ⟨L, hL⟩ := allR_mem.1 h
 obtain ⟨e, he, rfl⟩ := List.mem_map.1 (hL.pe.mem_iff.1 hx)
 have hm := hL.mem e he
 have hb : ∀ i, i < f.ids.length → f.ids.getD i 0 ∈ f.ids := fun i hi => by
  rw [List.getD_eq_getElem?_getD, List.getElem?_eq_getElem hi]; exact List.getElem_mem hi
 have b1 := hb e.1 (Nat.lt_trans hm.1 hm.2.1)
 have b2 := hb e.2 hm.2.1
 have hs : speakR f.qs (f.ids.getD e.1 0) (f.ids.getD e.2 0) = true := hm.2.2
 rcases payE_ends f.ids (Gr.lf (owed8 f)) L e with ⟨c1, c2⟩ | ⟨c1, c2⟩
 ·rw [c1, c2]; exact ⟨hs, b1, b2⟩
 ·rw [c1, c2]; exact ⟨by rw [speakR_comm]; exact hs, b2, b1⟩
theorem stlN_err {f : Flo} (hf : floOk f = true) : (stlN f).2 = 0 ∨ (stlN f).2 = 8 := by
 unfold stlN
 split
 ·exact .inl rfl
 ·rename_i h
  unfold errL at h ⊢
  rw [if_pos hf] at h ⊢
  split at h
  ·rename_i h2; right; dsimp only; rw [if_pos h2]
  ·exact absurd rfl h
theorem lsB2 {f : Flo} (hS : Sml f) : errL f = 0 → ∀ x ∈ lsF f, PayB x := fun he x hx => by
 obtain ⟨k, hk, hb⟩ := lsF_told hS he
 exact (hb x hx).payB (by omega)
end Go.Proofs.YtihonljdanjfmaaGreatDoor.Sw
namespace Go.Proofs.YtihonljdanjfmaaGreatDoor.Sw
open Go.RowKit Go Go.Shelf Go.Proofs
open Go.Proofs.YtihonljdanjfmaaGreatDoor.Gr (treeR treeR_ok pick Zr Cl Ok Forest Side Min sumP lf amt payE headsR hf Lab lab_all even_iff)
theorem allR_zr6 {f : Flo} (hn : f.ids.length ≤ 6) {S : List (Nat × Nat)} (hnd : S.Nodup) (hm : ∀ e ∈ S, PrS f e) (hz : Zr f.ids.length S (lf (owed8 f))) : ∃ k, k ≤ S.length ∧ k < 6 ∧ allR f k ≠ [] := by
 have hok := prR_ok (spk f) f.ids.length
 obtain ⟨T, hT, hTn, hTe⟩ := sub_of_set hnd hok.nd fun e he => (prR_mem (Nat.le_refl _)).2 ⟨Nat.lt_trans (hm e he).1 (hm e he).2.1, (hm e he).1, (hm e he).2.1, (hm e he).2.2⟩
 have hzT : Zr f.ids.length T (lf (owed8 f)) := hz.sup fun p hp => (hTe p).1 hp
 have hlT : T.length = S.length := ((List.perm_ext_iff_of_nodup hnd hTn).2 hTe).length_eq.symm
 obtain ⟨R, hR, hRo, hRz, hRm⟩ := Gr.exists_min _ rfl (hok.sub hT) hzT
 obtain ⟨out, ho⟩ := treeR_ok hRo (owed8_len f) hRz hRm
 refine ⟨R.length, by rw [← hlT]; exact hR.length_le, ?_, fun e => ?_⟩
 ·rcases hRm.small hRo hRz with h | h <;> omega
 ·have := allR_of (hR.trans hT) ho
  rw [e] at this; cases this
theorem can_ask {f : Flo} (hf : floOk f = true) : canB f (owed8 f) = decide ((askR f).2.2 = 0) := by
 have hn := (flo_f hf).ids
 have hiff := evB_iff (n := f.ids.length) (L := prP (spk f) f.ids.length) (cu := owed8 f) fun p hp => by have := prP_mem.1 hp; omega
 refine Bool.eq_iff_iff.2 ?_
 rw [decide_eq_true_iff]
 show evB f.ids.length (prP (spk f) f.ids.length) (owed8 f) = true ↔ _
 rw [hiff]
 have hok := prR_ok (spk f) f.ids.length
 have hsame : ∀ p, p ∈ prP (spk f) f.ids.length ↔ p ∈ prR (spk f) f.ids.length f.ids.length := fun p => by
  rw [prP_mem, prR_mem (Nat.le_refl _)]
  constructor
  ·rintro ⟨h1, h2, h3⟩; exact ⟨by omega, h1, h2, h3⟩
  ·rintro ⟨_, h1, h2, h3⟩; exact ⟨h1, h2, h3⟩
 constructor
 ·intro hz
  obtain ⟨k, _, hk, h1⟩ := allR_zr6 hn hok.nd (fun e he => by have := (prR_mem (Nat.le_refl _)).1 he; exact ⟨this.2.1, this.2.2.1, this.2.2.2⟩) (hz.sup fun p hp => (hsame p).1 hp)
  have hne := few_some h1 hk
  unfold askR
  rw [if_pos hf, if_neg]
  intro e; exact hne (List.isEmpty_iff.1 e)
 ·intro h0
  have hne : fewTo (allR f) 6 ≠ [] := fun e => by
   unfold askR at h0
   rw [if_pos hf, e] at h0
   simp at h0
  obtain ⟨k, _, ek, _⟩ := few_first hne
  have hin := head_mem hne
  rw [ek] at hin
  obtain ⟨L, hL⟩ := allR_mem.1 hin
  exact hL.zr.sup fun p hp => prP_mem.2 (hL.mem p hp)
def dP (ids : List Int) (x : Pay) (v : Nat) : Int := (if ids.idxOf x.a = v then x.p else 0) - (if ids.idxOf x.b = v then x.p else 0)
end Go.Proofs.YtihonljdanjfmaaGreatDoor.Sw
namespace Go.Proofs.YtihonljdanjfmaaGreatDoor.Sw
open Go.RowKit Go Go.Shelf Go.Proofs
end Go.Proofs.YtihonljdanjfmaaGreatDoor.Sw
namespace Go.Proofs.YtihonljdanjfmaaGreatDoor.Sw
open Go.RowKit Go Go.Shelf Go.Proofs
open Go.Proofs.YtihonljdanjfmaaGreatDoor.Gr (Zr Cl Forest sumP lf amt payE headsR hf Lab lab_all even_iff)
theorem sum_filter (g : Nat → Int) (p : Nat → Bool) : ∀ m, (((List.range m).filter p).map g).sum = sumP m g p
 | 0 => rfl
 | m + 1 => by
  rw [List.range_succ, List.filter_append, List.map_append, List.sum_append, sum_filter g p m]
  show _ = sumP m g p + (if p m then g m else 0)
  by_cases h : p m = true
  ·rw [List.filter_cons_of_pos h, if_pos h]; simp
  ·rw [List.filter_cons_of_neg h, if_neg h]; simp
def zerG (f : Flo) (cu : List Int) (l : List Pay) : Bool := (grG f l).all fun g => decide ((g.map fun id => cu.getD (f.ids.idxOf id) 0).sum = 0)
theorem zero_iff {f : Flo} (hr : rises 0 f.ids = true) {cu : List Int} {l : List Pay} (hm : ∀ x ∈ l, x.a ∈ f.ids ∧ x.b ∈ f.ids) : zerG f cu l = true ↔ Zr f.ids.length (prsG f l) (lf cu) := by
 have hlt := prsG_lt hm
 have HL := lab_all hlt
 have H := hd_heads hlt
 rw [← even_iff HL]
 unfold zerG grG allG
 generalize headsR f.ids.length (prsG f l) = h at HL H ⊢
 have hsum : ∀ k, ((grpG h f.ids f.ids.length k).map fun id => cu.getD (f.ids.idxOf id) 0).sum = sumP f.ids.length (lf cu) fun v => decide (hf h v = k) := fun k => by
  rw [← sum_filter (lf cu)]
  unfold grpG
  rw [List.map_map]
  congr 1
  refine List.map_congr_left fun j hj => ?_
  have hj' := List.mem_range.1 (List.mem_filter.1 hj).1
  simp only [Function.comp]
  rw [idx_getD hr hj']; rfl
 rw [List.all_eq_true]
 constructor
 ·intro ha j
  by_cases hj : j < f.ids.length ∧ hf h j = j
  ·have := ha _ (List.mem_map.2 ⟨j, mem_rtsG.2 hj, rfl⟩)
   rw [hsum] at this
   exact of_decide_eq_true this
  ·have hno : ∀ v, v < f.ids.length → decide (hf h v = j) = false := fun v hv => decide_eq_false fun e => by
    refine hj ⟨by rw [← e]; exact Nat.lt_of_le_of_lt (H.le v hv) hv, ?_⟩
    rw [← e]; exact H.rt v hv
   rw [Gr.sumP_congr (Q := fun _ => false) (fun _ _ => rfl) hno]
   exact Gr.sumP_none _ _
 ·intro ha g hg
  obtain ⟨k, _, rfl⟩ := List.mem_map.1 hg
  rw [hsum]
  exact decide_eq_true (ha k)
end Go.Proofs.YtihonljdanjfmaaGreatDoor.Sw
namespace Go.Proofs.YtihonljdanjfmaaGreatDoor.Sw
open Go.RowKit Go Go.Shelf Go.Proofs
section
variable {P : Program} {rs : List (Nat × AV)} {d : Option Nat} {ty : TypeId} {pos : String} {af : Array Edge} {g : Option (Nat × Bool)}
end
theorem grG_in {f : Flo} {l : List Pay} {g : List Int} (hg : g ∈ grG f l) : g.length ≤ f.ids.length ∧ ∀ id ∈ g, id ∈ f.ids := by
 unfold grG allG at hg
 obtain ⟨k, _, rfl⟩ := List.mem_map.1 hg
 refine ⟨grpG_len _ _ _ _, fun id hid => ?_⟩
 unfold grpG at hid
 obtain ⟨j, hj, rfl⟩ := List.mem_map.1 hid
 have hj' := List.mem_range.1 (List.mem_filter.1 hj).1
 rw [List.getD_eq_getElem?_getD, List.getElem?_eq_getElem hj']
 exact List.getElem_mem hj'
end Go.Proofs.YtihonljdanjfmaaGreatDoor.Sw
namespace Go.Proofs.YtihonljdanjfmaaGreatDoor.Sw
open Go.RowKit Go Go.Shelf Go.Proofs
open Go.Proofs.YtihonljdanjfmaaGreatDoor.Gr (Zr lf payLt payLt_no)
theorem nodup_of {α : Type} [DecidableEq α] : ∀ S : List α, ∃ T : List α, T.Nodup ∧ T.length ≤ S.length ∧ ∀ e, e ∈ S ↔ e ∈ T
 | [] => ⟨[], List.nodup_nil, Nat.le_refl _, fun _ => Iff.rfl⟩
 | a :: S => by
  obtain ⟨T, h1, h2, h3⟩ := nodup_of S
  by_cases h : a ∈ T
  ·refine ⟨T, h1, by rw [List.length_cons]; omega, fun e => ?_⟩
   rw [List.mem_cons, h3]
   exact ⟨fun q => q.elim (fun q => q ▸ h) id, .inr⟩
  ·refine ⟨a :: T, List.nodup_cons.2 ⟨h, h1⟩, by rw [List.length_cons, List.length_cons]; omega, fun e => ?_⟩
   rw [List.mem_cons, List.mem_cons, h3]
def PP (f : Flo) (x : Pay) : Prop := ∃ i j, i < j ∧ j < f.ids.length ∧ spk f i j = true ∧ x.a = f.ids.getD i 0 ∧ x.b = f.ids.getD j 0
theorem PP.mem {f : Flo} {x : Pay} (h : PP f x) : x.a ∈ f.ids ∧ x.b ∈ f.ids := by
 obtain ⟨i, j, h1, h2, _, h4, h5⟩ := h
 rw [h4, h5, List.getD_eq_getElem?_getD, List.getD_eq_getElem?_getD, List.getElem?_eq_getElem (by omega), List.getElem?_eq_getElem h2]
 exact ⟨List.getElem_mem _, List.getElem_mem _⟩
theorem PP.prs {f : Flo} (hr : rises 0 f.ids = true) {l : List Pay} (h : ∀ x ∈ l, PP f x) : ∀ e ∈ prsG f l, PrS f e := fun e he => by
 unfold prsG at he
 obtain ⟨x, hx, rfl⟩ := List.mem_map.1 he
 obtain ⟨i, j, h1, h2, h3, h4, h5⟩ := h x hx
 rw [h4, h5, idx_getD hr (by omega), idx_getD hr h2]
 exact ⟨h1, h2, h3⟩
structure StF (f : Flo) (l : List Pay) : Prop where
 len : l.length ≤ 5
 few : fewN8 f = ((l.length : Int), 0)
 sp : ∀ x ∈ l, speakR f.qs x.a x.b = true ∧ x.a ∈ f.ids ∧ x.b ∈ f.ids
 pe : ∀ x ∈ l, 1 ≤ x.p ∧ x.p ≤ 22000000
 od : ∀ i (h : i < l.length) (h1 : i - 1 < l.length), 0 < i → ¬ l[i].a < l[i - 1].a ∧ (l[i - 1].a = l[i].a → l[i - 1].b < l[i].b)
 ze : ∀ v, v < f.ids.length → lf (payFold f.ids l (owed8 f)) v = 0
 no : ∀ so : List Pay, (∀ x ∈ so, PP f x) → so.length < l.length → zerG f (owed8 f) so = false
theorem st_none {f : Flo} (hS : Sml f) (hf : floOk f = true) (h0 : (stlN f).2 = 8) : canB f (owed8 f) = false ∧ fewN8 f = (0, 8) ∧ (stlN f).1 = [] ∧ ∀ so : List Pay, (∀ x ∈ so, PP f x) → zerG f (owed8 f) so = false := by
 have hr := rises_of_ok hf
 have ha : ¬ (askR f).2.2 = 0 := fun e => by
  rw [stl_eq hS] at h0
  unfold stlN8 at h0
  rw [if_pos e] at h0
  cases h0
 have hc : canB f (owed8 f) = false := by rw [can_ask hf]; exact decide_eq_false ha
 refine ⟨hc, ?_, ?_, fun so hso => ?_⟩
 ·unfold fewN8
  rw [if_neg ha]
  unfold askR at ha ⊢
  rw [if_pos hf] at ha ⊢
  split
  ·rfl
  ·rename_i h; rw [if_neg h] at ha; exact absurd rfl ha
 ·rw [stl_eq hS]
  unfold stlN8
  rw [if_neg ha]
 ·rw [← Bool.not_eq_true, zero_iff hr fun x hx => (hso x hx).mem]
  intro hz
  have : canB f (owed8 f) = true := (evB_iff (n := f.ids.length) (L := prP (spk f) f.ids.length) (cu := owed8 f) fun p hp => by have := prP_mem.1 hp; omega).2 (hz.sup fun p hp => prP_mem.2 (PP.prs hr hso p hp))
  rw [hc] at this; cases this
end Go.Proofs.YtihonljdanjfmaaGreatDoor.Sw
namespace Go.Proofs.YtihonljdanjfmaaGreatDoor.Sw
open Go.RowKit Go Go.Shelf Go.Proofs
open Go.Proofs.YtihonljdanjfmaaGreatDoor.Gr (Zr Cl Ok Forest sumP lf headsR headsR_snoc hf_merge mergeH Lab lab_all treeR_ok payE)
theorem nd_inj {α : Type} {l : List α} (h : l.Nodup) {i j : Nat} {hi : i < l.length} {hj : j < l.length} (e : l[i] = l[j]) : i = j := by
 rcases Nat.lt_trichotomy i j with q | q | q
 ·exact absurd e (List.pairwise_iff_getElem.1 h i j hi hj q)
 ·exact q
 ·exact absurd e.symm (List.pairwise_iff_getElem.1 h j i hj hi q)
theorem roots_take {n : Nat} {L : List (Nat × Nat)} (hn : L.Nodup) (hf : Forest L) (hlt : ∀ p ∈ L, p.1 < n ∧ p.2 < n) : ∀ k, k ≤ L.length → (rtsG (headsR n (L.take k)) n).length + k = n := by
 intro k
 induction k with
 | zero =>
  intro _
  have : rtsG (headsR n (L.take 0)) n = List.range n := by
   unfold rtsG
   refine List.filter_eq_self.2 fun j hj => ?_
   have hj := List.mem_range.1 hj
   simp [headsR, Gr.hf, List.getD_eq_getElem?_getD, hj]
  rw [this, List.length_range]; rfl
 | succ k ih =>
  intro hk
  have hk' : k < L.length := by omega
  have ih := ih (by omega)
  have hlT : ∀ q ∈ L.take k, q.1 < n ∧ q.2 < n := fun q hq => hlt q (List.mem_of_mem_take hq)
  have hp := hlt _ (List.getElem_mem hk')
  have LB := lab_all hlT
  have H := hd_heads hlT
  obtain ⟨P, hP, hne⟩ := hf _ (List.getElem_mem hk')
  have hcl : Cl (L.take k) P := fun q hq => by
   refine hP q (hn.mem_erase_iff.2 ⟨fun e => ?_, List.mem_of_mem_take hq⟩)
   obtain ⟨i, hi, rfl⟩ := List.mem_take_iff_getElem.1 hq
   have := nd_inj hn e
   omega
  have hab : Gr.hf (headsR n (L.take k)) L[k].1 ≠ Gr.hf (headsR n (L.take k)) L[k].2 := fun e => by
   refine hne ?_
   rw [← LB.cl P hcl _ hp.1, ← LB.cl P hcl _ hp.2]
   exact congrArg P e
  rw [List.take_succ_eq_append_getElem hk', headsR_snoc]
  generalize headsR n (L.take k) = h at ih LB H hab ⊢
  generalize L[k] = p at hp hab ⊢
  have ra := H.rt _ hp.1
  have rb := H.rt _ hp.2
  have la := H.le _ hp.1
  have lb := H.le _ hp.2
  have hM : Gr.hf h (max (Gr.hf h p.1) (Gr.hf h p.2)) = max (Gr.hf h p.1) (Gr.hf h p.2) := by
   rcases Nat.le_total (Gr.hf h p.1) (Gr.hf h p.2) with q | q
   ·rw [Nat.max_eq_right q]; exact rb
   ·rw [Nat.max_eq_left q]; exact ra
  have hm : Gr.hf h (min (Gr.hf h p.1) (Gr.hf h p.2)) = min (Gr.hf h p.1) (Gr.hf h p.2) := by
   rcases Nat.le_total (Gr.hf h p.1) (Gr.hf h p.2) with q | q
   ·rw [Nat.min_eq_left q]; exact ra
   ·rw [Nat.min_eq_right q]; exact rb
  have hMn : max (Gr.hf h p.1) (Gr.hf h p.2) < n := by omega
  have hmM : min (Gr.hf h p.1) (Gr.hf h p.2) ≠ max (Gr.hf h p.1) (Gr.hf h p.2) := by omega
  have e : rtsG (mergeH h p) n = (rtsG h n).erase (max (Gr.hf h p.1) (Gr.hf h p.2)) := by
   rw [(rtsG_nd h n).erase_eq_filter]
   unfold rtsG
   rw [List.filter_filter]
   refine List.filter_congr fun j hj => ?_
   have hj := List.mem_range.1 hj
   rw [hf_merge (by rw [LB.len]; exact hj)]
   generalize max (Gr.hf h p.1) (Gr.hf h p.2) = M at *
   generalize min (Gr.hf h p.1) (Gr.hf h p.2) = m at *
   by_cases c : Gr.hf h j = M
   ·rw [if_pos c, c]
    rw [decide_eq_false (show ¬ m = j from fun e => hmM (by rw [← e, hm] at c; exact c))]
    by_cases d : j = M
    ·simp [d]
    ·rw [decide_eq_false (show ¬ M = j from fun e => d e.symm)]; simp
   ·rw [if_neg c]
    by_cases d : j = M
    ·subst d; exact absurd hM c
    ·simp [d]
  have hmem : max (Gr.hf h p.1) (Gr.hf h p.2) ∈ rtsG h n := mem_rtsG.2 ⟨hMn, hM⟩
  have hpos := List.length_pos_of_mem hmem
  rw [e, List.length_erase_of_mem hmem]
  omega
theorem roots_forest {n : Nat} {L : List (Nat × Nat)} (hn : L.Nodup) (hf : Forest L) (hlt : ∀ p ∈ L, p.1 < n ∧ p.2 < n) : (rtsG (headsR n L) n).length + L.length = n := by
 have := roots_take hn hf hlt L.length (Nat.le_refl _)
 rwa [List.take_length] at this
theorem heads_le {n : Nat} {L M : List (Nat × Nat)} (hL : ∀ p ∈ L, p.1 < n ∧ p.2 < n) (hM : ∀ p ∈ M, p.1 < n ∧ p.2 < n) (h : ∀ P, Cl L P → Cl M P) {v : Nat} (hv : v < n) : Gr.hf (headsR n L) v ≤ Gr.hf (headsR n M) v := by
 have A := lab_all hL
 have B := lab_all hM
 have HA := hd_heads hL
 have HB := hd_heads hM
 have hl := HB.le v hv
 have := B.cl (fun u => decide (Gr.hf (headsR n L) u = Gr.hf (headsR n L) v)) (h _ fun p hp => by simp only [A.one p hp]) v hv
 have e : Gr.hf (headsR n L) (Gr.hf (headsR n M) v) = Gr.hf (headsR n L) v := by simpa using this
 have := HA.le _ (Nat.lt_of_le_of_lt hl hv)
 omega
theorem heads_same {n : Nat} {L M : List (Nat × Nat)} (hL : ∀ p ∈ L, p.1 < n ∧ p.2 < n) (hM : ∀ p ∈ M, p.1 < n ∧ p.2 < n) (h : ∀ P, Cl L P ↔ Cl M P) : headsR n L = headsR n M := by
 have HA := hd_heads hL
 have HB := hd_heads hM
 refine List.ext_getElem (by rw [HA.len, HB.len]) fun v h1 h2 => ?_
 have hv : v < n := by rw [← HA.len]; exact h1
 have a := heads_le hL hM (fun P => (h P).1) hv
 have b := heads_le hM hL (fun P => (h P).2) hv
 have e : ∀ (l : List Nat) (hl : v < l.length), Gr.hf l v = l[v] := fun l hl => by simp [Gr.hf, List.getD_eq_getElem?_getD, hl]
 rw [e _ h1, e _ h2] at a b
 omega
theorem sumI_perm {l m : List Int} (h : l.Perm m) : l.sum = m.sum := by
 induction h with
 | nil => rfl
 | cons x _ ih => rw [List.sum_cons, List.sum_cons, ih]
 | swap x y l => simp only [List.sum_cons]; omega
 | trans _ _ a b => exact a.trans b
theorem sum_own {n : Nat} {x : Nat → Int} {js : List Nat} (hnd : js.Nodup) (hlt : ∀ j ∈ js, j < n) (P : Nat → Bool) : sumP js.length (fun i => x (js.getD i 0)) P = sumP n x (fun v => decide (v ∈ js) && P (js.idxOf v)) := by
 rw [← sum_filter, ← sum_filter]
 have e : (((List.range js.length).filter P).map fun i => x (js.getD i 0)) = (((List.range js.length).filter P).map fun i => js.getD i 0).map x := by rw [List.map_map]; rfl
 rw [e]
 refine sumI_perm (List.Perm.map _ ((List.perm_ext_iff_of_nodup ?_ (List.nodup_range.filter _)).2 fun v => ?_))
 ·refine List.pairwise_map.2 (List.Pairwise.imp_of_mem (R := (· ≠ ·)) (fun {a b} ha hb hab hE => hab ?_) (List.nodup_range.filter _))
  have ha := List.mem_range.1 (List.mem_filter.1 ha).1
  have hb := List.mem_range.1 (List.mem_filter.1 hb).1
  simp only [List.getD_eq_getElem?_getD, List.getElem?_eq_getElem ha, List.getElem?_eq_getElem hb, Option.getD_some] at hE
  exact nd_inj hnd hE
 ·simp only [List.mem_map, List.mem_filter, List.mem_range, Bool.and_eq_true, decide_eq_true_eq]
  constructor
  ·rintro ⟨i, ⟨hi, hP⟩, rfl⟩
   have e : js.getD i 0 = js[i] := by simp [List.getD_eq_getElem?_getD, hi]
   rw [e]
   refine ⟨hlt _ (List.getElem_mem hi), List.getElem_mem hi, ?_⟩
   rw [hnd.idxOf_getElem]; exact hP
  ·rintro ⟨_, hm, hP⟩
   have hi := List.idxOf_lt_length_of_mem hm
   exact ⟨js.idxOf v, ⟨hi, hP⟩, by simp [List.getD_eq_getElem?_getD, hi]⟩
theorem sum_parts {x : Nat → Int} {P : Nat → Bool} {c : Nat → Nat} {m : Nat} : ∀ {n : Nat}, (∀ v, v < n → c v < m) → sumP n x P = Gr.sumN m fun k => sumP n x (fun v => decide (c v = k) && P v)
 | 0, _ => (Gr.sumN_zero m).symm
 | n + 1, h => by
  have ih := sum_parts (x := x) (P := P) (c := c) (m := m) (n := n) (fun v hv => h v (by omega))
  rw [Gr.sumN_congr (g := fun k => sumP n x (fun v => decide (c v = k) && P v) + if c n = k then (if P n then x n else 0) else 0) (fun k => ?_), Gr.sumN_add _ _ _ (h n (by omega)), ← ih]
  ·rfl
  ·show sumP n x (fun v => decide (c v = k) && P v) + (if (decide (c n = k) && P n) = true then x n else 0) = _
   by_cases e : c n = k
   ·rw [if_pos e, decide_eq_true e, Bool.true_and]
   ·rw [if_neg e, decide_eq_false e, Bool.false_and]; rfl
theorem parts_roots {n : Nat} {R : List (Nat × Nat)} (hlt : ∀ p ∈ R, p.1 < n ∧ p.2 < n) {c : Nat → Nat} (hc : ∀ p ∈ R, c p.1 = c p.2) {vals : List Nat} (hv : vals.Nodup) (hm : ∀ k ∈ vals, ∃ v, v < n ∧ c v = k) : vals.length ≤ (rtsG (headsR n R) n).length := by
 have LB := lab_all hlt
 have H := hd_heads hlt
 generalize headsR n R = h at LB H ⊢
 obtain ⟨T, h1, h2, h3⟩ := nodup_of ((rtsG h n).map c)
 obtain ⟨S, s1, s2, s3⟩ := sub_of_set hv h1 fun k hk => (h3 k).1 (by
  obtain ⟨v, hvn, rfl⟩ := hm k hk
  refine List.mem_map.2 ⟨Gr.hf h v, mem_rtsG.2 ⟨LB.lt v hvn, H.rt v hvn⟩, ?_⟩
  have := LB.cl (fun u => decide (c u = c v)) (fun p hp => by simp only [hc p hp]) v hvn
  simpa using this)
 have e := ((List.perm_ext_iff_of_nodup hv s2).2 s3).length_eq
 have := s1.length_le
 rw [List.length_map] at h2
 omega
theorem cl_prs {f : Flo} (hr : rises 0 f.ids = true) {k : Nat} {L : List (Nat × Nat)} {l : List Pay} (hL : SetL f.ids (owed8 f) (PrS f) k L l) (P : Nat → Bool) : Cl (prsG f l) P ↔ Cl L P := by
 have key : ∀ e ∈ L, (f.ids.idxOf (payE f.ids (lf (owed8 f)) L e).a = e.1 ∧ f.ids.idxOf (payE f.ids (lf (owed8 f)) L e).b = e.2) ∨ (f.ids.idxOf (payE f.ids (lf (owed8 f)) L e).a = e.2 ∧ f.ids.idxOf (payE f.ids (lf (owed8 f)) L e).b = e.1) := fun e he => by
  have hm := hL.mem e he
  have i1 := idx_getD hr (show e.1 < f.ids.length from Nat.lt_trans hm.1 hm.2.1)
  have i2 := idx_getD hr hm.2.1
  rcases payE_ends f.ids (lf (owed8 f)) L e with ⟨c1, c2⟩ | ⟨c1, c2⟩
  ·left; rw [c1, c2]; exact ⟨i1, i2⟩
  ·right; rw [c1, c2]; exact ⟨i2, i1⟩
 constructor
 ·intro h e he
  have hx : payE f.ids (lf (owed8 f)) L e ∈ l := hL.pe.mem_iff.2 (List.mem_map.2 ⟨e, he, rfl⟩)
  have := h _ (List.mem_map.2 ⟨_, hx, rfl⟩)
  dsimp only at this
  rcases key e he with ⟨a, b⟩ | ⟨a, b⟩
  ·rwa [a, b] at this
  ·rw [a, b] at this; exact this.symm
 ·intro h p hp
  obtain ⟨x, hx, rfl⟩ := List.mem_map.1 hp
  obtain ⟨e, he, rfl⟩ := List.mem_map.1 (hL.pe.mem_iff.1 hx)
  have := h e he
  dsimp only
  rcases key e he with ⟨a, b⟩ | ⟨a, b⟩
  ·rw [a, b]; exact this
  ·rw [a, b]; exact this.symm
theorem setL_lt {f : Flo} {k : Nat} {L : List (Nat × Nat)} {l : List Pay} (hL : SetL f.ids (owed8 f) (PrS f) k L l) : ∀ p ∈ L, p.1 < f.ids.length ∧ p.2 < f.ids.length := fun p hp => by
 have := hL.mem p hp
 exact ⟨Nat.lt_trans this.1 this.2.1, this.2.1⟩
theorem told_groups {f : Flo} (hr : rises 0 f.ids = true) {k : Nat} {l : List Pay} (hl : l ∈ allR f k) : (grG f l).length + k = f.ids.length := by
 have hm : ∀ x ∈ l, x.a ∈ f.ids ∧ x.b ∈ f.ids := fun x hx => (told_speak hl hx).2
 obtain ⟨L, hL⟩ := allR_mem.1 hl
 unfold grG
 rw [allG_len, heads_same (prsG_lt hm) (setL_lt hL) (cl_prs hr hL), ← hL.len]
 exact roots_forest hL.nd hL.fo (setL_lt hL)
def OwnZ (f : Flo) (js : List Nat) : Prop := ∀ P : Nat → Bool, (∀ a b, a < b → b < js.length → spk f (js.getD a 0) (js.getD b 0) = true → P a = P b) → sumP js.length (fun i => lf (owed8 f) (js.getD i 0)) P = 0
def idsJ (f : Flo) (js : List Nat) : List Int := js.map fun j => f.ids.getD j 0
theorem getD_in {l : List Int} {j : Nat} (h : j < l.length) : l.getD j 0 = l[j] := by rw [List.getD_eq_getElem?_getD, List.getElem?_eq_getElem h]; rfl
theorem rises_part {ids : List Int} (hr : rises 0 ids = true) : ∀ {js : List Nat} {last : Int}, js.Pairwise (· < ·) → (∀ j ∈ js, j < ids.length ∧ last < ids.getD j 0) → rises last (js.map fun j => ids.getD j 0) = true
 | [], _, _, _ => rfl
 | j :: t, last, hs, h => by
  have hj := h j (by simp)
  obtain ⟨h1, h2⟩ := List.pairwise_cons.1 hs
  have e := getD_in hj.1
  have hb := rises_all hr _ (List.getElem_mem hj.1)
  rw [List.map_cons, rises, decide_eq_true (show last + 1 ≤ ids.getD j 0 by omega), decide_eq_true (show ids.getD j 0 ≤ 9999 by omega), rises_part hr h2 fun i hi => ⟨(h i (by simp [hi])).1, by
   have hi' := (h i (by simp [hi])).1
   rw [e, getD_in hi']
   exact rises_sorted hr _ _ hj.1 hi' (h1 i hi)⟩]
  rfl
theorem alo_part {f : Flo} (hok : floOk f = true) {js : List Nat} (hs : js.Pairwise (· < ·)) (hlt : ∀ j ∈ js, j < f.ids.length) : aloR f (idsJ f js) = (canB (ownF (idsJ f js) f) (netS f (idsJ f js)), 0) := by
 have hr := rises_of_ok hok
 refine alo_of hok (rises_part hr hs fun j hj => ⟨hlt j hj, ?_⟩) fun x hx => ?_
 ·have := rises_all hr _ (List.getElem_mem (hlt j hj))
  rw [getD_in (hlt j hj)]; omega
 ·obtain ⟨j, hj, rfl⟩ := List.mem_map.1 hx
  rw [getD_in (hlt j hj)]
  exact List.getElem_mem _
theorem alo_own {f : Flo} (hok : floOk f = true) {js : List Nat} (hs : js.Pairwise (· < ·)) (hlt : ∀ j ∈ js, j < f.ids.length) : (aloR f (idsJ f js)).1 = true ↔ OwnZ f js := by
 have hr := rises_of_ok hok
 rw [alo_part hok hs hlt]
 have hlen : (ownF (idsJ f js) f).ids.length = js.length := by show (idsJ f js).length = _; unfold idsJ; rw [List.length_map]
 have hget : ∀ i, i < js.length → (idsJ f js).getD i 0 = f.ids.getD (js.getD i 0) 0 := fun i hi => by
  unfold idsJ
  simp [List.getD_eq_getElem?_getD, hi]
 have hjm : ∀ i, i < js.length → js.getD i 0 ∈ js := fun i hi => by rw [List.getD_eq_getElem?_getD, List.getElem?_eq_getElem hi]; exact List.getElem_mem hi
 have hx : ∀ i, i < js.length → lf (netS f (idsJ f js)) i = lf (owed8 f) (js.getD i 0) := fun i hi => by
  have hi2 : i < (idsJ f js).length := by unfold idsJ; rw [List.length_map]; exact hi
  have e1 : lf (netS f (idsJ f js)) i = (owed8 f).getD (f.ids.idxOf ((idsJ f js).getD i 0)) 0 := by
   unfold lf netS
   simp [List.getD_eq_getElem?_getD, hi2]
  rw [e1, hget i hi, idx_getD hr (hlt _ (hjm i hi))]; rfl
 have hsp : ∀ a b, a < js.length → b < js.length → spk (ownF (idsJ f js) f) a b = spk f (js.getD a 0) (js.getD b 0) := fun a b ha hb => by
  show speakR f.qs ((idsJ f js).getD a 0) ((idsJ f js).getD b 0) = _
  rw [hget a ha, hget b hb]; rfl
 show evB (ownF (idsJ f js) f).ids.length (prP (spk (ownF (idsJ f js) f)) (ownF (idsJ f js) f).ids.length) (netS f (idsJ f js)) = true ↔ _
 rw [hlen, evB_iff fun p hp => by have := prP_mem.1 hp; omega]
 constructor
 ·intro h P hP
  rw [← h P fun p hp => by
   obtain ⟨h1, h2, h3⟩ := prP_mem.1 hp
   rw [hsp _ _ (by omega) h2] at h3
   exact hP _ _ h1 h2 h3]
  exact Gr.sumP_congr (fun i hi => (hx i hi).symm) fun _ _ => rfl
 ·intro h P hP
  rw [← h P fun a b hab hb hs => hP (a, b) (prP_mem.2 ⟨hab, hb, by rw [hsp _ _ (by omega) hb]; exact hs⟩)]
  exact Gr.sumP_congr (fun i hi => hx i hi) fun _ _ => rfl
theorem idx_mono {js : List Nat} (hs : js.Pairwise (· < ·)) {a b : Nat} (ha : a ∈ js) (hb : b ∈ js) (h : a < b) : js.idxOf a < js.idxOf b := by
 have ia := List.idxOf_lt_length_of_mem ha
 have ib := List.idxOf_lt_length_of_mem hb
 have ea : js[js.idxOf a] = a := List.getElem_idxOf ia
 have eb : js[js.idxOf b] = b := List.getElem_idxOf ib
 rcases Nat.lt_trichotomy (js.idxOf a) (js.idxOf b) with q | q | q
 ·exact q
 ·have : js[js.idxOf a] = js[js.idxOf b] := by congr 1
  omega
 ·have := List.pairwise_iff_getElem.1 hs _ _ ib ia q
  omega
theorem getD_idx {js : List Nat} {a : Nat} (ha : a ∈ js) : js.getD (js.idxOf a) 0 = a := by
 have ia := List.idxOf_lt_length_of_mem ha
 rw [List.getD_eq_getElem?_getD, List.getElem?_eq_getElem ia]
 exact List.getElem_idxOf ia
theorem grp_own {f : Flo} (hr : rises 0 f.ids = true) {k : Nat} {l : List Pay} (hl : l ∈ allR f k) (r : Nat) : OwnZ f ((List.range f.ids.length).filter fun j => decide (Gr.hf (headsR f.ids.length (prsG f l)) j = r)) := by
 have hm : ∀ x ∈ l, x.a ∈ f.ids ∧ x.b ∈ f.ids := fun x hx => (told_speak hl hx).2
 obtain ⟨L, hL⟩ := allR_mem.1 hl
 have LB := lab_all (prsG_lt hm)
 have hcl := cl_prs hr hL
 generalize headsR f.ids.length (prsG f l) = h at LB ⊢
 intro P hP
 have hnd : ((List.range f.ids.length).filter fun j => decide (Gr.hf h j = r)).Nodup := List.nodup_range.filter _
 have hso : ((List.range f.ids.length).filter fun j => decide (Gr.hf h j = r)).Pairwise (· < ·) := List.pairwise_lt_range.filter _
 have hme : ∀ v, v ∈ ((List.range f.ids.length).filter fun j => decide (Gr.hf h j = r)) ↔ v < f.ids.length ∧ Gr.hf h v = r := fun v => by simp
 generalize ((List.range f.ids.length).filter fun j => decide (Gr.hf h j = r)) = js at hP hnd hso hme ⊢
 rw [sum_own hnd fun j hj => ((hme j).1 hj).1]
 refine hL.zr _ fun e he => ?_
 have hm := hL.mem e he
 have hlab : Gr.hf h e.1 = Gr.hf h e.2 := by
  have := (hcl (fun u => decide (Gr.hf h u = Gr.hf h e.2))).1 (fun p hp => by simp only [LB.one p hp]) e he
  simpa using this
 by_cases hin : Gr.hf h e.1 = r
 ·have m1 : e.1 ∈ js := (hme _).2 ⟨Nat.lt_trans hm.1 hm.2.1, hin⟩
  have m2 : e.2 ∈ js := (hme _).2 ⟨hm.2.1, by rw [← hlab]; exact hin⟩
  rw [decide_eq_true m1, decide_eq_true m2, Bool.true_and, Bool.true_and]
  exact hP _ _ (idx_mono hso m1 m2 hm.1) (List.idxOf_lt_length_of_mem m2) (by rw [getD_idx m1, getD_idx m2]; exact hm.2.2)
 ·rw [decide_eq_false fun q => hin ((hme _).1 q).2, decide_eq_false fun q => hin (by rw [hlab]; exact ((hme _).1 q).2)]; rfl
theorem parts_few {f : Flo} {k : Nat} (hk : ∀ j, j < k → allR f j = []) {c : Nat → Nat} {m : Nat} (hc : ∀ v, v < f.ids.length → c v < m) (ho : ∀ i, OwnZ f ((List.range f.ids.length).filter fun v => decide (c v = i)))
  {vals : List Nat} (hv : vals.Nodup) (hm : ∀ k ∈ vals, ∃ v, v < f.ids.length ∧ c v = k) : vals.length + k ≤ f.ids.length := by
 have hok := prR_ok (spk f) f.ids.length
 have hS : ((prR (spk f) f.ids.length f.ids.length).filter fun p => decide (c p.1 = c p.2)).Sublist (prR (spk f) f.ids.length f.ids.length) := List.filter_sublist
 have hz : Zr f.ids.length ((prR (spk f) f.ids.length f.ids.length).filter fun p => decide (c p.1 = c p.2)) (lf (owed8 f)) := fun P hP => by
  rw [sum_parts hc, Gr.sumN_congr (g := fun _ => 0) (fun i => ?_), Gr.sumN_zero]
  have ho := ho i
  have hnd : ((List.range f.ids.length).filter fun v => decide (c v = i)).Nodup := List.nodup_range.filter _
  have hso : ((List.range f.ids.length).filter fun v => decide (c v = i)).Pairwise (· < ·) := List.pairwise_lt_range.filter _
  have hme : ∀ v, v ∈ ((List.range f.ids.length).filter fun v => decide (c v = i)) ↔ v < f.ids.length ∧ c v = i := fun v => by simp
  generalize ((List.range f.ids.length).filter fun v => decide (c v = i)) = js at ho hnd hso hme
  have hg : ∀ a, a < js.length → js.getD a 0 ∈ js := fun a ha => by rw [List.getD_eq_getElem?_getD, List.getElem?_eq_getElem ha]; exact List.getElem_mem ha
  have := ho (fun a => P (js.getD a 0)) fun a b hab hb hs => by
   have ma := hg a (by omega)
   have mb := hg b hb
   have a1 := (hme _).1 ma
   have b1 := (hme _).1 mb
   have hlt : js.getD a 0 < js.getD b 0 := by
    have hx := List.pairwise_iff_getElem.1 hso a b (by omega) hb hab
    have ea : js.getD a 0 = js[a]'(by omega) := by rw [List.getD_eq_getElem?_getD, List.getElem?_eq_getElem (by omega)]; rfl
    have eb : js.getD b 0 = js[b] := by rw [List.getD_eq_getElem?_getD, List.getElem?_eq_getElem hb]; rfl
    omega
   refine hP (js.getD a 0, js.getD b 0) (List.mem_filter.2 ⟨(prR_mem (Nat.le_refl _)).2 ⟨a1.1, hlt, b1.1, hs⟩, ?_⟩)
   show decide (c (js.getD a 0) = c (js.getD b 0)) = true
   rw [a1.2, b1.2]
   exact decide_eq_true rfl
  rw [sum_own hnd fun j hj => ((hme j).1 hj).1] at this
  rw [← this]
  refine Gr.sumP_congr (fun _ _ => rfl) fun v hv => ?_
  by_cases e : c v = i
  ·have mv := (hme v).2 ⟨hv, e⟩
   rw [decide_eq_true e, decide_eq_true mv, getD_idx mv]
  ·rw [decide_eq_false e, decide_eq_false fun q => e ((hme _).1 q).2]; rfl
 obtain ⟨R, hR, hRo, hRz, hRm⟩ := Gr.exists_min _ rfl (hok.sub hS) hz
 obtain ⟨out, hout⟩ := treeR_ok hRo (owed8_len f) hRz hRm
 have h1 := allR_of (hR.trans hS) hout
 have hk' : k ≤ R.length := by
  rcases Nat.lt_or_ge R.length k with q | q
  ·rw [hk _ q] at h1; cases h1
  ·exact q
 have hlt : ∀ p ∈ R, p.1 < f.ids.length ∧ p.2 < f.ids.length := fun p hp => by
  have := (prR_mem (Nat.le_refl _)).1 ((hR.trans hS).subset hp)
  exact ⟨this.1, this.2.2.1⟩
 have h2 := roots_forest hRo.nd (hRm.bridges hRo hRz) hlt
 have h3 := parts_roots hlt (c := c) (fun p hp => by simpa using (List.mem_filter.1 (hR.subset hp)).2) hv hm
 omega
theorem sorted_head {js : List Nat} (hs : js.Pairwise (· < ·)) {r : Nat} (hr : r ∈ js) (hle : ∀ j ∈ js, r ≤ j) : ∃ t, js = r :: t := by
 match js, hr with
 | a :: t, hr =>
  have h1 := hle a (by simp)
  rcases List.mem_cons.1 hr with e | e
  ·exact ⟨t, by rw [e]⟩
  ·have := (List.pairwise_cons.1 hs).1 r e; omega
structure GrF (f : Flo) (gs : List (List Int)) : Prop where
 fit : ∀ g ∈ gs, g.length ≤ f.ids.length ∧ ∀ id ∈ g, id ∈ f.ids
 al : ∀ g ∈ gs, aloR f g = (true, 0)
 ne : ∀ g ∈ gs, 0 < g.length
 od : ∀ i (h : i < gs.length) (h1 : i - 1 < gs.length), 0 < i → gs[i - 1].getD 0 0 < gs[i].getD 0 0
 pe : gs.flatten.Perm f.ids
 few : fewN8 f = ((f.ids.length : Int) - (gs.length : Int), 0)
 cnt : gs.length ≤ f.ids.length
 pt : ∀ (c : Nat → Nat) (m : Nat), (∀ v, v < f.ids.length → c v < m) → (∀ i, OwnZ f ((List.range f.ids.length).filter fun v => decide (c v = i))) → ∀ vals : List Nat, vals.Nodup → (∀ k ∈ vals, ∃ v, v < f.ids.length ∧ c v = k) → vals.length ≤ gs.length
theorem gr_facts {f : Flo} (hS : Sml f) (hf : floOk f = true) (h0 : (stlN f).2 = 0) : GrF f (grG f (stlN f).1) := by
 obtain ⟨k, hk, hin, hm, hlen⟩ := stl_told hS hf h0
 generalize (stlN f).1 = l at hin hlen
 have hr := rises_of_ok hf
 have hne : allR f k ≠ [] := fun e => by rw [e] at hin; cases hin
 have hmem : ∀ x ∈ l, x.a ∈ f.ids ∧ x.b ∈ f.ids := fun x hx => (told_speak hin hx).2
 have hcn := told_groups hr hin
 have H := hd_heads (prsG_lt hmem)
 have LB := lab_all (prsG_lt hmem)
 have hgo := grp_own hr hin
 have hgi := fun g hg => grG_in (f := f) (l := l) (g := g) hg
 have hall : grG f l = (rtsG (headsR f.ids.length (prsG f l)) f.ids.length).map (grpG (headsR f.ids.length (prsG f l)) f.ids f.ids.length) := rfl
 have hhead : ∀ r ∈ rtsG (headsR f.ids.length (prsG f l)) f.ids.length, ∃ t, grpG (headsR f.ids.length (prsG f l)) f.ids f.ids.length r = f.ids.getD r 0 :: t := fun r hr' => by
  obtain ⟨r1, r2⟩ := mem_rtsG.1 hr'
  obtain ⟨t, ht⟩ := sorted_head (js := (List.range f.ids.length).filter fun j => decide (Gr.hf (headsR f.ids.length (prsG f l)) j = r)) (List.pairwise_lt_range.filter _) (r := r) (by simp [r1, r2]) fun j hj => by
   have hj := List.mem_filter.1 hj
   have h2 : Gr.hf (headsR f.ids.length (prsG f l)) j = r := by simpa using hj.2
   rw [← h2]; exact H.le j (List.mem_range.1 hj.1)
  exact ⟨_, by unfold grpG; rw [ht, List.map_cons]⟩
 refine ⟨hgi, fun g hg => ?_, fun g hg => ?_, fun i hi h1 hi0 => ?_, ?_, ?_, by omega, fun c m hc ho vals hv hvm => ?_⟩
 ·rw [hall] at hg
  obtain ⟨r, _, rfl⟩ := List.mem_map.1 hg
  have hs : ((List.range f.ids.length).filter fun j => decide (Gr.hf (headsR f.ids.length (prsG f l)) j = r)).Pairwise (· < ·) := List.pairwise_lt_range.filter _
  have hl : ∀ j ∈ ((List.range f.ids.length).filter fun j => decide (Gr.hf (headsR f.ids.length (prsG f l)) j = r)), j < f.ids.length := fun j hj => List.mem_range.1 (List.mem_filter.1 hj).1
  have h1 := (alo_own hf hs hl).2 (hgo r)
  have h2 := alo_part hf hs hl
  show aloR f (idsJ f _) = _
  rw [h2] at h1 ⊢
  rw [show canB _ _ = true from h1]
 ·rw [hall] at hg
  obtain ⟨r, hr', rfl⟩ := List.mem_map.1 hg
  obtain ⟨t, ht⟩ := hhead r hr'
  rw [ht]; simp
 ·have hl : (grG f l).length = (rtsG (headsR f.ids.length (prsG f l)) f.ids.length).length := allG_len _ _ _
  have m1 := List.getElem_mem (show i < (rtsG (headsR f.ids.length (prsG f l)) f.ids.length).length by omega)
  have m0 := List.getElem_mem (show i - 1 < (rtsG (headsR f.ids.length (prsG f l)) f.ids.length).length by omega)
  have hso : (rtsG (headsR f.ids.length (prsG f l)) f.ids.length).Pairwise (· < ·) := List.pairwise_lt_range.filter _
  have hlt := List.pairwise_iff_getElem.1 hso (i - 1) i (by omega) (by omega) (by omega)
  obtain ⟨t1, e1⟩ := hhead _ m1
  obtain ⟨t0, e0⟩ := hhead _ m0
  have b1 := (mem_rtsG.1 m1).1
  have b0 := (mem_rtsG.1 m0).1
  have g1 : (grG f l)[i] = grpG (headsR f.ids.length (prsG f l)) f.ids f.ids.length (rtsG (headsR f.ids.length (prsG f l)) f.ids.length)[i] := by simp only [hall, List.getElem_map]
  have g0 : (grG f l)[i - 1] = grpG (headsR f.ids.length (prsG f l)) f.ids f.ids.length (rtsG (headsR f.ids.length (prsG f l)) f.ids.length)[i - 1] := by simp only [hall, List.getElem_map]
  rw [g1, g0, e1, e0]
  show f.ids.getD _ 0 < f.ids.getD _ 0
  rw [getD_in b1, getD_in b0]
  exact rises_sorted hr _ _ b0 b1 hlt
 ·have e1 : (grG f l).flatten = ((rtsG (headsR f.ids.length (prsG f l)) f.ids.length).flatMap fun r => (List.range f.ids.length).filter fun j => decide (Gr.hf (headsR f.ids.length (prsG f l)) j = r)).map fun j => f.ids.getD j 0 := by
   rw [hall, List.map_flatMap]; rfl
  have e2 : (List.range f.ids.length).map (fun j => f.ids.getD j 0) = f.ids := by
   refine List.ext_getElem (by simp) fun i h1 h2 => ?_
   rw [List.getElem_map, List.getElem_range, getD_in h2]
  rw [e1]
  refine (List.Perm.map _ ((List.perm_ext_iff_of_nodup ?_ List.nodup_range).2 fun v => ?_)).trans (.of_eq e2)
  ·refine List.pairwise_flatMap.2 ⟨fun r _ => List.nodup_range.filter _, List.Pairwise.imp (fun {a b} hab x hx y hy e => hab ?_) (rtsG_nd _ _)⟩
   have hx := (List.mem_filter.1 hx).2
   have hy := (List.mem_filter.1 hy).2
   rw [e] at hx
   have hx : Gr.hf (headsR f.ids.length (prsG f l)) y = a := by simpa using hx
   have hy : Gr.hf (headsR f.ids.length (prsG f l)) y = b := by simpa using hy
   rw [← hx, ← hy]
  ·simp only [List.mem_flatMap, List.mem_filter, List.mem_range, decide_eq_true_eq]
   constructor
   ·rintro ⟨_, _, h, _⟩; exact h
   ·intro h
    exact ⟨_, mem_rtsG.2 ⟨LB.lt v h, H.rt v h⟩, h, rfl⟩
 ·rw [fewN8_of hS hf hk hne hm]
  congr 1
  omega
 ·have := parts_few hm hc ho hv hvm
  omega
end Go.Proofs.YtihonljdanjfmaaGreatDoor.Sw
namespace Go.Proofs.YtihonljdanjfmaaGreatDoor.Sw
open Go.RowKit Go
open Go.WideElems (Fit)
open Go.ChangeMaps (setBlock heap_setBlock_same heap_setBlock_other)
def CurP {κ α : Type} (kv : κ → Value) (g : α → AV) (G : Nat → Option Obj) (es : Array MapEntry) (seen : Array Nat) (c0 clock : Nat) : Option (κ × α) → Prop
 | none => True
 | some p => c0 = clock ∧ ∃ (e : MapEntry) (seen0 : Array Nat), seen = seen0.push e.born ∧ e ∈ es.toList ∧ e.key = kv p.1 ∧ (g p.2).P G e.val
theorem CurP.mono {κ α : Type} {kv : κ → Value} {g : α → AV} {G G' : Nat → Option Obj} {es : Array MapEntry} {seen : Array Nat} {c0 clock : Nat} (h : Gle G G') : ∀ {cur : Option (κ × α)}, CurP kv g G es seen c0 clock cur → CurP kv g G' es seen c0 clock cur
 | none, _ => trivial
 | some p, ⟨h0, e, s, h1, h2, h3, h4⟩ => ⟨h0, e, s, h1, h2, h3, (g p.2).mono h h4⟩
def HA.mit {κ α : Type} (P : Program) (v it : Value) (t : TypeId) (kv : κ → Value) (g : α → AV) (l rest : List (κ × α)) (cur : Option (κ × α)) : HA :=
 ⟨fun G F w => ∃ b r es clock since seen c0, v = .map (some b) ∧ it = .pointer (some ⟨r, 0, none⟩) ∧ F = [r, b] ∧ w.heap[b]? = some (.map es clock) ∧ w.heap[r]? = some (.mapIter (some b) since seen c0) ∧ Fit P t anyM es clock ∧ MpP kv g G l es.toList ∧ (∀ x ∈ es.toList, x.born < since) ∧ since ≤ c0 ∧ since ≤ clock ∧ CurP kv g G es seen c0 clock cur ∧ MpP kv g G rest (leftOf es seen).toList,
  fun h ⟨b, r, es, clock, since, seen, c0, e1, e2, e3, e4, e5, e6, ⟨l', p1, p2⟩, e8, e9, e10, e11, ⟨l2, q1, q2⟩⟩ => ⟨b, r, es, clock, since, seen, c0, e1, e2, e3, e4, e5, e6, ⟨l', p1, p2.mono h⟩, e8, e9, e10, e11.mono h, ⟨l2, q1, q2.mono h⟩⟩,
  fun h ⟨b, r, es, clock, since, seen, c0, e1, e2, e3, e4, e5, k⟩ => ⟨b, r, es, clock, since, seen, c0, e1, e2, e3, (h b (by rw [e3]; simp)).trans e4, (h r (by rw [e3]; simp)).trans e5, k⟩⟩
theorem setB_same {w : World} {r : Nat} {o0 : Obj} (h : w.heap[r]? = some o0) (o : Obj) : (setBlock w r o).heap[r]? = some o := by
 have hlt := (Array.getElem?_eq_some_iff.1 h).1
 simp [setBlock, hlt]
theorem setB_other {w : World} {r j : Nat} (o : Obj) (h : j ≠ r) : (setBlock w r o).heap[j]? = w.heap[j]? := by
 simp [setBlock, Array.getElem?_setIfInBounds, Ne.symm h]
theorem left_none (es : Array MapEntry) : leftOf es #[] = es := Array.filter_eq_self.2 fun x _ => by simp
theorem left_push {es : Array MapEntry} {seen : Array Nat} {e : MapEntry} (hn : (es.toList.map (·.born)).Nodup) (he : e ∈ (leftOf es seen).toList) : (leftOf es seen).toList.Perm (e :: (leftOf es (seen.push e.born)).toList) := by
 unfold leftOf at he ⊢
 rw [Array.toList_filter] at he ⊢
 rw [Array.toList_filter]
 have hes : es.toList.Nodup := (List.pairwise_map.1 hn).imp fun h e => h (by rw [e])
 have hinj : ∀ x ∈ es.toList, x.born = e.born → x = e := fun x hx h => by
  have hme := (List.mem_filter.1 he).1
  have h1 := find_born e es.toList hn hme
  have h2 := find_born x es.toList hn hx
  rw [h] at h2
  exact Option.some.inj (h2.symm.trans h1)
 refine (List.perm_ext_iff_of_nodup (hes.filter _) (List.nodup_cons.2 ⟨fun h => ?_, hes.filter _⟩)).2 fun x => ?_
 ·have := (List.mem_filter.1 h).2
  simp at this
 ·rw [List.mem_cons, List.mem_filter, List.mem_filter]
  have hme := List.mem_filter.1 he
  constructor
  ·rintro ⟨h1, h2⟩
   by_cases h : x.born = e.born
   ·exact .inl (hinj x h1 h)
   ·refine .inr ⟨h1, ?_⟩
    simp only [Array.contains_eq_mem, Array.mem_push, Bool.not_eq_true', decide_eq_false_iff_not, not_or] at h2 ⊢
    exact ⟨by simpa using h2, h⟩
  ·rintro (rfl | ⟨h1, h2⟩)
   ·exact hme
   ·refine ⟨h1, ?_⟩
    simp only [Array.contains_eq_mem, Array.mem_push, Bool.not_eq_true', decide_eq_false_iff_not, not_or] at h2 ⊢
    exact h2.1
section
variable {P : Program} {rs : List (Nat × AV)} {d : Option Nat} {ty : TypeId} {pos : String} {af : Array Edge} {gd : Option (Nat × Bool)} {κ α : Type} {t : TypeId} {kv : κ → Value} {g : α → AV} {l rest : List (κ × α)} {v it : Value}
theorem lt_range {tm e : TypeId} (ht : P.underlying tm = some (.map t e)) {x : Operand} (hx : opv rs x = some (.val v)) :
  LT P ⟨d, .range tm x, ty, pos, af, gd⟩ rs [.mp P v t kv g l] (fun av pr => ∃ u, One (.val u) ∧ av = .val u ∧ pr = [.mit P v u t kv g l l none]) :=
 LT_eff (fun _ e => by cases e) fun ac w G F hR hI => by
  obtain ⟨F1, F2, e, ⟨b, es, clock, hv, hF1, hb, hF, hm⟩, h2⟩ := hI.hs
  have h2' : F2 = [] := h2
  subst h2' hF1 hv
  have hFb : F = [b] := List.perm_singleton.1 (by simpa using e)
  subst hFb
  have e1 : ac.eval x = .map (some b) := opv_ok hR hx
  have hr := run_range_map (P := P) w tm t _ b es clock ht hb
  have hlt := (hI.own b (by simp)).1
  refine ⟨_, w.alloc (.mapIter (some b) clock #[] clock), .pointer (some ⟨w.heap.size, 0, none⟩), _, _, G, [w.heap.size, b], by simp [execOp, e1, hr, Result.andThen], .inl rfl, ⟨_, ⟨fun _ _ h => by subst h; rfl⟩, rfl, rfl⟩, fr_alloc _ _ _, ⟨gin_alloc hI.gin _, ?_, fun b' hb' => ?_, [w.heap.size, b], [], by simp, ⟨b, w.heap.size, es, clock, clock, #[], clock, rfl, rfl, rfl, (Below.heap_alloc _ _ _ hlt).trans hb, heap_alloc_new w _, hF, hm, hF.stamped.1, Nat.le_refl _, Nat.le_refl _, trivial, by rw [left_none]; exact hm⟩, rfl⟩, rfl⟩
  ·simp; omega
  ·rcases List.mem_cons.1 hb' with rfl | hb'
   ·refine ⟨by simp, ?_⟩
    cases hg : G w.heap.size with
    | none => rfl
    | some o => exact absurd (hI.gin.lt hg) (Nat.lt_irrefl _)
   ·have := hI.own b' hb'
    exact ⟨by simp; omega, this.2⟩
def NextP (P : Program) (v it : Value) (t : TypeId) (kv : κ → Value) (g : α → AV) (l rest : List (κ × α)) : AV → List HA → Prop := fun av pr =>
 (rest = [] ∧ av = .tup [.val (.bool false)] ∧ pr = [.mit P v it t kv g l [] none]) ∨ ∃ p r, rest.Perm (p :: r) ∧ av = .tup [.val (.bool true), .val (kv p.1), g p.2] ∧ pr = [.mit P v it t kv g l r (some p)]
theorem lt_next {cur : Option (κ × α)} {x : Operand} (hx : opv rs x = some (.val it)) :
  LT P ⟨d, .next x false, ty, pos, af, gd⟩ rs [.mit P v it t kv g l rest cur] (NextP P v it t kv g l rest) :=
 LT_eff (fun _ e => by cases e) fun ac w G F hR hI => by
  obtain ⟨F1, F2, e, ⟨b, r, es, clock, since, seen, c0, rfl, rfl, rfl, hb, hr, hF, hm, hold, hsc, hcl, _, hle⟩, h2⟩ := hI.hs
  have h2' : F2 = [] := h2
  subst h2'
  rw [List.append_nil] at e
  have e1 : ac.eval x = .pointer (some ⟨r, 0, none⟩) := opv_ok hR hx
  rcases run_next_at (P := P) w ty r b since c0 seen es clock hr hb hold hsc with ⟨h0, hrun⟩ | ⟨en, hen, w1, hw1, hrun⟩
  ·have hl0 : rest = [] := by
    have h1 := hle.len
    have h2 : (leftOf es seen).toList.length = 0 := by rw [Array.length_toList]; exact h0
    exact List.eq_nil_of_length_eq_zero (by omega)
   subst hl0
   exact ⟨_, w, _, _, _, G, F, by simp [execOp, e1, hrun, Result.andThen], .inl rfl, .inl ⟨rfl, rfl, rfl⟩, Fr.refl _ _ _, ⟨hI.gin, hI.nd, hI.own, [r, b], [], by simpa using e, ⟨b, r, es, clock, since, seen, c0, rfl, rfl, rfl, hb, hr, hF, hm, hold, hsc, hcl, trivial, hle⟩, rfl⟩, [_], rfl, rfl, trivial⟩
  ·have hp := left_push (seen := seen) hF.stamped.2.1 hen
   obtain ⟨p, l3, q1, q2, q3, q4⟩ := (hle.perm hp).uncons
   have hme : en ∈ es.toList := by
    unfold leftOf at hen
    rw [Array.toList_filter] at hen
    exact (List.mem_filter.1 hen).1
   have hrb : r ≠ b := fun h => by rw [h, hb] at hr; cases hr
   have hnr : ∀ j, j ≠ r → (setBlock w1 r (.mapIter (some b) since (seen.push en.born) clock)).heap[j]? = w.heap[j]? := fun j hj => by
    rcases hw1 with rfl | rfl
    ·exact setB_other _ hj
    ·exact setB_other (w := w.drew) _ hj
   have hsame : (setBlock w1 r (.mapIter (some b) since (seen.push en.born) clock)).heap[r]? = some (.mapIter (some b) since (seen.push en.born) clock) := by
    rcases hw1 with rfl | rfl
    ·exact setB_same hr _
    ·exact setB_same (w := w.drew) hr _
   have hsz : (setBlock w1 r (.mapIter (some b) since (seen.push en.born) clock)).heap.size = w.heap.size := by
    rcases hw1 with rfl | rfl <;> simp [setBlock]
   have hrF : r ∈ F := e.mem_iff.2 (by simp)
   refine ⟨_, _, _, _, _, G, F, by simp [execOp, e1, hrun, Result.andThen], .inl rfl, .inr ⟨p, l3, q1, rfl, rfl⟩, ⟨?_, ?_, ?_, by rw [hsz]; exact Nat.le_refl _, fun j _ hj => hnr j fun h => hj (by rw [h]; exact hrF), fun _ h => .inl h, Gle.refl _, fun _ _ h => .inl h⟩, ⟨fun b' o' e' => ?_, hI.nd, fun b' hb' => ?_, [r, b], [], by simpa using e, ⟨b, r, es, clock, since, _, clock, rfl, rfl, rfl, (hnr b (Ne.symm hrb)).trans hb, hsame, hF, hm, hold, hcl, hcl, ⟨rfl, en, seen, rfl, hme, q2, q3⟩, q4⟩, rfl⟩, [_, _, _], rfl, rfl, q2, q3, trivial⟩
   ·rcases hw1 with rfl | rfl <;> rfl
   ·rcases hw1 with rfl | rfl <;> rfl
   ·rcases hw1 with rfl | rfl <;> rfl
   ·have hne : b' ≠ r := fun h => by
     subst h
     rw [(hI.own b' hrF).2] at e'; cases e'
    exact (hnr b' hne).trans (hI.gin b' o' e')
   ·have := hI.own b' hb'
    exact ⟨by rw [hsz]; exact this.1, this.2⟩
theorem lt_mitlen {cur : Option (κ × α)} {tm e : TypeId} (ht : P.underlying tm = some (.map t e)) {x : Operand} (hx : opv rs x = some (.val v)) :
  LT P ⟨d, .call { callee := .builtin .len, args := #[x], argTypes := #[tm] }, ty, pos, af, gd⟩ rs [.mit P v it t kv g l rest cur] (Is (.val (.int .i64 l.length)) [.mit P v it t kv g l rest cur]) :=
 LT_read (fun _ e => by cases e) fun a w G F hR _ ⟨b, r, es, clock, since, seen, c0, hv, _, _, hb, _, _, hm, _⟩ => by
  have e2 : a.eval x = v := opv_ok hR hx
  have e3 : a.eval x = .map (some b) := e2.trans hv
  have hl := hm.len
  refine ⟨_, rfl, ?_⟩
  simp [execOp, resolve, e3, invoke, builtin, Builtin.len_, run_underlying ht, MapKept.run_getObj_map hb, goInt, Result.andThen, hl]
theorem lt_entry {p : κ × α} {x : Operand} (hx : opv rs x = some (.val it)) :
  LT P ⟨d, .entry x, ty, pos, af, gd⟩ rs [.mit P v it t kv g l rest (some p)] (Is (.tup [.val (kv p.1), g p.2]) [.mit P v it t kv g l rest (some p)]) :=
 LT_read (fun _ e => by cases e) fun a w G F hR _ ⟨b, r, es, clock, since, seen, c0, hv, hit, _, hb, hr, hF, _, _, _, _, ⟨hcc, e, s0, hse, hme, hk, hg⟩, _⟩ => by
  have e1 : a.eval x = it := opv_ok hR hx
  have e2 : a.eval x = .pointer (some ⟨r, 0, none⟩) := e1.trans hit
  subst hse hcc
  have h := run_entry_at (P := P) w r b since s0 es c0 e hr hb hme hF.stamped.2.1
  exact ⟨_, ⟨[_, _], rfl, hk, hg, trivial⟩, by simp [execOp, e2, h, Result.andThen]⟩
end
section
variable {c : Cx} {rs : List (Nat × AV)} {hs r : List HA} {Q : Exit → S → Prop} {ops : Array Oper} {tl : List Oper} {d : Nat} {ty : TypeId} {pos : String} {af : Array Edge} {κ α : Type} {t : TypeId} {kv : κ → Value} {g : α → AV} {l rest : List (κ × α)} {v it : Value}
theorem wl_range {tm e : TypeId} {x : Operand} (ht : c.P.underlying tm = some (.map t e)) (hx : opv rs x = some (.val v)) (hr : Rm hs (.mp c.P v t kv g l) r) (hd : Nat.blt d c.nt = true)
  (k : ∀ u, One (.val u) → WL c ops tl ⟨(d, .val u) :: rs, .mit c.P v u t kv g l l none :: r⟩ Q) : WL c ops (⟨some d, .range tm x, ty, pos, af, none⟩ :: tl) ⟨rs, hs⟩ Q :=
 WL_lt (cons := [.mp c.P v t kv g l]) (rest := r) hd rfl (fun _ _ _ h => hr.sel h) (lt_range ht hx) fun av pr ⟨u, h1, e1, e2⟩ => by subst e1; subst e2; exact k u h1
theorem wl_next {cur : Option (κ × α)} {x : Operand} (hx : opv rs x = some (.val it)) (hr : Rm hs (.mit c.P v it t kv g l rest cur) r) (hd : Nat.blt d c.nt = true)
  (k0 : rest = [] → WL c ops tl ⟨(d, .tup [.val (.bool false)]) :: rs, .mit c.P v it t kv g l [] none :: r⟩ Q)
  (k1 : ∀ p q, rest.Perm (p :: q) → WL c ops tl ⟨(d, .tup [.val (.bool true), .val (kv p.1), g p.2]) :: rs, .mit c.P v it t kv g l q (some p) :: r⟩ Q) : WL c ops (⟨some d, .next x false, ty, pos, af, none⟩ :: tl) ⟨rs, hs⟩ Q :=
 WL_lt (cons := [.mit c.P v it t kv g l rest cur]) (rest := r) hd rfl (fun _ _ _ h => hr.sel h) (lt_next hx) fun av pr h => by
  rcases h with ⟨h0, e1, e2⟩ | ⟨p, q, h1, e1, e2⟩
  ·subst e1; subst e2; exact k0 h0
  ·subst e1; subst e2; exact k1 p q h1
theorem wl_mitlen {cur : Option (κ × α)} {tm e : TypeId} {x : Operand} {h : HA → List HA} (ht : c.P.underlying tm = some (.map t e)) (hx : opv rs x = some (.val v)) (hat : At hs (.mit c.P v it t kv g l rest cur) h) (hd : Nat.blt d c.nt = true)
  (kk : WL c ops tl ⟨(d, .val (.int .i64 l.length)) :: rs, hs⟩ Q) : WL c ops (⟨some d, .call { callee := .builtin .len, args := #[x], argTypes := #[tm] }, ty, pos, af, none⟩ :: tl) ⟨rs, hs⟩ Q := wl_rd (lt_mitlen ht hx) hat hd kk
theorem wl_entry {p : κ × α} {x : Operand} {h : HA → List HA} (hx : opv rs x = some (.val it)) (hat : At hs (.mit c.P v it t kv g l rest (some p)) h) (hd : Nat.blt d c.nt = true)
  (k : WL c ops tl ⟨(d, .tup [.val (kv p.1), g p.2]) :: rs, hs⟩ Q) : WL c ops (⟨some d, .entry x, ty, pos, af, none⟩ :: tl) ⟨rs, hs⟩ Q := wl_rd (lt_entry hx) hat hd k
end
end Go.Proofs.YtihonljdanjfmaaGreatDoor.Sw
namespace Go.Proofs.YtihonljdanjfmaaGreatDoor.Sw
open Go.RowKit Go Go.Shelf Go.Proofs
open Go.Proofs.YtihonljdanjfmaaGreatDoor.Gr (lf)
abbrev kI : Int → Value := fun n => .int .i64 n
theorem keyI : KeyT Tryz.prog 3 kI (fun n => -9223372036854775808 ≤ n ∧ n ≤ 9223372036854775807) := keyT_int Tryz.underlying3
def unG : Unit → AV := fun _ => .val (.bool true)
def ovG : OV → AV := fun v => .val v.1
def slG : List Int → AV := fun g => .sl 1 iC g
theorem delM_none {κ α : Type} [DecidableEq κ] {l : List (κ × α)} {k : κ} (h : getM l k = none) : delM l k = l := List.filter_eq_self.2 fun p hp => by simpa using getM_none.1 h p hp
theorem getM_perm {κ α : Type} [DecidableEq κ] {k : κ} {a : α} : ∀ {l : List (κ × α)}, l.Pairwise (fun p q => p.1 ≠ q.1) → getM l k = some a → l.Perm ((k, a) :: delM l k)
 | p :: t, hp, h => by
  obtain ⟨h1, h2⟩ := List.pairwise_cons.1 hp
  by_cases e : p.1 = k
  ·have : p = (k, a) := by
    rw [getM, if_pos e] at h
    cases h; rw [← e]
   have hd : delM (p :: t) k = t := by
    unfold delM
    rw [List.filter_cons_of_neg (by simp [e])]
    exact List.filter_eq_self.2 fun q hq => by have := h1 q hq; rw [e] at this; simpa using fun z : q.1 = k => this z.symm
   rw [hd, this]
  ·rw [getM, if_neg e] at h
   have hd : delM (p :: t) k = p :: delM t k := by unfold delM; rw [List.filter_cons_of_pos (by simp [e])]
   rw [hd]
   exact ((getM_perm h2 h).cons p).trans (List.Perm.swap _ _ _)
 | [], _, h => by simp [getM] at h
theorem putM_pw {κ α : Type} [DecidableEq κ] {l : List (κ × α)} {k : κ} {a : α} (h : l.Pairwise (fun p q => p.1 ≠ q.1)) : (putM l k a).Pairwise (fun p q => p.1 ≠ q.1) :=
 List.pairwise_cons.2 ⟨fun q hq => by have := (List.mem_filter.1 hq).2; simpa using fun e : k = q.1 => (by simpa using this : ¬ q.1 = k) e.symm, h.sublist List.filter_sublist⟩
theorem rowsM_frz {κ α : Type} {e : TypeId} {n : Nat} {f : α → List AV} {rest : List HA} {h : κ × OV → List α} {w : World} : ∀ {m : List (κ × OV)} {G : Nat → Option Obj} {F : List Nat}, Inv G F (m.map (fun p => HA.row p.2.1 e n f (h p)) ++ rest) w →
  ∃ G' F', Inv G' F' rest w ∧ Fr w w F F' G G' ∧ ∀ p ∈ m, (AV.sl n f (h p)).P G' p.2.1
 | [], G, F, hI => ⟨G, F, hI, Fr.refl _ _ _, fun _ q => absurd q List.not_mem_nil⟩
 | p :: m, G, F, hI => by
  obtain ⟨G1, F1, h1, h2, h3⟩ := row_freeze (rest := m.map (fun p => HA.row p.2.1 e n f (h p)) ++ rest) hI
  obtain ⟨G2, F2, k1, k2, k3⟩ := rowsM_frz h1
  refine ⟨G2, F2, k1, h2.trans k2, fun q hq => ?_⟩
  rcases List.mem_cons.1 hq with rfl | hq
  ·exact (AV.sl n f (h q)).mono k2.gle h3
  ·exact k3 q hq
theorem mpL_conv {κ α β : Type} {kv : κ → Value} {g : α → AV} {g' : β → AV} {c : κ × α → β} {G G' : Nat → Option Obj} : ∀ {l : List (κ × α)} {xs : List MapEntry}, MpL kv g G l xs → (∀ p ∈ l, ∀ v, (g p.2).P G v → (g' (c p)).P G' v) → MpL kv g' G' (l.map fun p => (p.1, c p)) xs
 | [], [], _, _ => trivial
 | p :: l, x :: xs, h, k => ⟨⟨h.1.1, k p (by simp) _ h.1.2⟩, mpL_conv h.2 fun q hq => k q (by simp [hq])⟩
 | [], _ :: _, h, _ => h.elim
 | _ :: _, [], h, _ => h.elim
theorem st_frzMap {κ : Type} {c : Cx} {rs : List (Nat × AV)} {hs r r' : List HA} {P : Program} {t : TypeId} {kv : κ → Value} {h : κ × OV → List Int} {m : List (κ × OV)} {e : TypeId} {v : Value} {a : Act} {w : World} (hr : Rm hs (.pack (m.map fun p => HA.row p.2.1 e 1 iC (h p))) r) (hr2 : Rm r (.mp P v t kv ovG m) r')
  (st : St c ⟨rs, hs⟩ a w) : St c ⟨rs, .mp P v t kv slG (m.map fun p => (p.1, h p)) :: r'⟩ a w := by
 obtain ⟨G, F, hI, hF, hR, rr⟩ := st
 obtain ⟨G', F', h1, h2, h3⟩ := rowsM_frz ⟨hI.gin, hI.nd, hI.own, hsP.pack.1 (hr.sel hI.hs)⟩
 obtain ⟨A, B, ep, ⟨b, es, clock, e1, e2, e3, e4, l', p1, p2⟩, hB⟩ := hr2.sel h1.hs
 refine ⟨G', F', ⟨h1.gin, h1.nd, h1.own, A, B, ep, ⟨b, es, clock, e1, e2, e3, e4, _, p1.map _, mpL_conv p2 fun p hp v hv => ?_⟩, hB⟩, hF.trans h2, hR.mono h2.gle, rr.1, rr.2.step h2⟩
 have hv' : v = p.2.1 := hv
 rw [hv']
 exact h3 p (p1.mem_iff.2 hp)
theorem W_frzMap {κ : Type} {c : Cx} {rs : List (Nat × AV)} {hs r r' : List HA} {Q : Exit → S → Prop} {x : Code} {P : Program} {t : TypeId} {kv : κ → Value} {h : κ × OV → List Int} {m : List (κ × OV)} {e : TypeId} {v : Value} (hr : Rm hs (.pack (m.map fun p => HA.row p.2.1 e 1 iC (h p))) r) (hr2 : Rm r (.mp P v t kv ovG m) r')
  (k : W c x ⟨rs, .mp P v t kv slG (m.map fun p => (p.1, h p)) :: r'⟩ Q) : W c x ⟨rs, hs⟩ Q := ⟨fun a w st => k.out a w (st_frzMap hr hr2 st)⟩
theorem WL_pack0 {c : Cx} {rs : List (Nat × AV)} {hs : List HA} {Q : Exit → S → Prop} {ops : Array Oper} {tl : List Oper} (kk : WL c ops tl ⟨rs, .pack [] :: hs⟩ Q) : WL c ops tl ⟨rs, hs⟩ Q := ⟨fun a w st => kk.out a w (by
 obtain ⟨G, F, hI, rr⟩ := st
 exact ⟨G, F, ⟨hI.gin, hI.nd, hI.own, [], F, .refl _, rfl, hI.hs⟩, rr⟩)⟩
def prtJ (c : Nat → Int) (i : Nat) (k : Int) : List Nat := (List.range i).filter fun j => decide (c j = k)
def prtI (ids : List Int) (c : Nat → Int) (i : Nat) (k : Int) : List Int := (prtJ c i k).map fun j => ids.getD j 0
theorem prtI_succ (ids : List Int) (c : Nat → Int) (i : Nat) (k : Int) : prtI ids c (i + 1) k = prtI ids c i k ++ if c i = k then [ids.getD i 0] else [] := by
 unfold prtI prtJ
 rw [List.range_succ, List.filter_append, List.map_append]
 by_cases e : c i = k <;> simp [e]
theorem prtI_len (ids : List Int) (c : Nat → Int) (i : Nat) (k : Int) : (prtI ids c i k).length ≤ i := by
 unfold prtI prtJ
 rw [List.length_map]
 exact Nat.le_trans (List.length_filter_le _ _) (by simp)
theorem prtI_none {ids : List Int} {c : Nat → Int} {i : Nat} {k : Int} (h : ∀ j, j < i → c j ≠ k) : prtI ids c i k = [] := by
 unfold prtI prtJ
 rw [List.filter_eq_nil_iff.2 fun j hj => by simpa using h j (List.mem_range.1 hj)]; rfl
theorem put_rows {ids : List Int} {c : Nat → Int} {i : Nat} {k : Int} (hk : c i = k) {m : List (Int × OV)} {ov : OV} {e : TypeId} :
  (putM m k ov).map (fun p => HA.row p.2.1 e 1 iC (prtI ids c (i + 1) p.1)) = HA.row ov.1 e 1 iC (prtI ids c i k ++ [ids.getD i 0]) :: (delM m k).map fun p => HA.row p.2.1 e 1 iC (prtI ids c i p.1) := by
 unfold putM
 rw [List.map_cons]
 congr 1
 ·dsimp only
  rw [prtI_succ, if_pos hk]
 ·refine List.map_congr_left fun p hp => ?_
  have : ¬ p.1 = k := by simpa using (List.mem_filter.1 hp).2
  rw [prtI_succ, if_neg fun e => this (by rw [← e, hk]), List.append_nil]
structure PrtF (c : Nat → Int) (i : Nat) (m : List (Int × OV)) : Prop where
 pw : m.Pairwise fun p q => p.1 ≠ q.1
 inn : ∀ j, j < i → ∃ v, getM m (c j) = some v
 out : ∀ p ∈ m, ∃ j, j < i ∧ c j = p.1
 len : m.length ≤ i
theorem PrtF.put {c : Nat → Int} {i : Nat} {m : List (Int × OV)} (h : PrtF c i m) {k : Int} (hk : c i = k) (ov : OV) : PrtF c (i + 1) (putM m k ov) := by
 refine ⟨putM_pw h.pw, fun j hj => ?_, fun p hp => ?_, by have := putM_len m k ov; have := h.len; omega⟩
 ·rw [getM_put]
  by_cases e : c j = k
  ·exact ⟨ov, by rw [if_pos e]⟩
  ·rw [if_neg e]
   refine h.inn j ?_
   rcases Nat.lt_or_ge j i with q | q
   ·exact q
   ·exact absurd (by rw [show j = i by omega]; exact hk) e
 ·rcases List.mem_cons.1 hp with rfl | hp
  ·exact ⟨i, by omega, hk⟩
  ·obtain ⟨j, hj, e⟩ := h.out p (List.mem_filter.1 hp).1
   exact ⟨j, by omega, e⟩
theorem parts_le {f : Flo} (hok : floOk f = true) {gs : List (List Int)} (hA : GrF f gs) {c : Nat → Int} (hc : ∀ j, 0 ≤ c j ∧ c j ≤ 3) {m : List (Int × OV)} (hm : PrtF c f.ids.length m) (ha : ∀ p ∈ m, (aloR f (prtI f.ids c f.ids.length p.1)).1 = true) : m.length ≤ gs.length := by
 have key := hA.pt (fun v => (c v).toNat) 4 (fun v _ => by have := hc v; omega) (fun i => ?_) (m.map fun p => p.1.toNat) ?_ fun k hk => ?_
 ·rwa [List.length_map] at key
 ·have he : ((List.range f.ids.length).filter fun v => decide ((c v).toNat = i)) = prtJ c f.ids.length (i : Int) := by
   unfold prtJ
   refine List.filter_congr fun v _ => ?_
   have := hc v
   exact decide_eq_decide.2 ⟨fun h => by omega, fun h => by omega⟩
  rw [he]
  by_cases hex : ∃ v, v < f.ids.length ∧ c v = (i : Int)
  ·obtain ⟨v, hv, hvi⟩ := hex
   obtain ⟨ov, hov⟩ := hm.inn v hv
   have hin := (getM_iff hm.pw).1 hov
   have h1 := ha _ hin
   dsimp only at h1
   rw [hvi] at h1
   exact (alo_own hok (List.pairwise_lt_range.filter _) fun j hj => List.mem_range.1 (List.mem_filter.1 hj).1).1 h1
  ·have : prtJ c f.ids.length (i : Int) = [] := List.filter_eq_nil_iff.2 fun j hj => by simpa using fun e => hex ⟨j, List.mem_range.1 hj, e⟩
   rw [this]
   intro P _; rfl
 ·refine List.pairwise_map.2 (hm.pw.imp_of_mem fun {a b} ha hb hab e => hab ?_)
  obtain ⟨j, _, ej⟩ := hm.out a ha
  obtain ⟨j', _, ej'⟩ := hm.out b hb
  have := hc j
  have := hc j'
  omega
 ·obtain ⟨p, hp, rfl⟩ := List.mem_map.1 hk
  obtain ⟨j, hj, ej⟩ := hm.out p hp
  exact ⟨j, hj, by rw [ej]⟩
end Go.Proofs.YtihonljdanjfmaaGreatDoor.Sw
namespace Go.Proofs.YtihonljdanjfmaaGreatDoor.Sw
open Go.RowKit Go Go.Shelf Go.Proofs
theorem flat_takeG {gs : List (List Int)} {i : Nat} (h : i < gs.length) : (gs.take (i + 1)).flatten = (gs.take i).flatten ++ gs[i] := by
 rw [List.take_succ_eq_append_getElem h, List.flatten_append]; simp
theorem flat_nd {gs : List (List Int)} (hn : gs.flatten.Nodup) {i : Nat} (h : i < gs.length) {k : Nat} (hk : k < gs[i].length) : gs[i][k] ∉ (gs.take i).flatten ++ gs[i].take k := by
 have e : gs.flatten = ((gs.take i).flatten ++ gs[i].take k) ++ (gs[i].drop k ++ (gs.drop (i + 1)).flatten) := by
  conv => lhs; rw [← List.take_append_drop i gs, List.flatten_append, List.drop_eq_getElem_cons h, List.flatten_cons]
  rw [List.append_assoc, ← List.append_assoc (gs[i].take k), List.take_append_drop]
 rw [e] at hn
 intro hm
 exact (List.nodup_append.1 hn).2.2 _ hm gs[i][k] (List.mem_append.2 (.inl (by rw [(List.drop_eq_getElem_cons hk : gs[i].drop k = gs[i][k] :: gs[i].drop (k + 1))]; exact List.mem_cons_self))) rfl
theorem floorGroups_con (f : Flo) (by_ : List (Fin 256)) : Con Tryz.prog 5 [.agg (flC f), .sl 1 u8C by_] [tab8, HA.tab] (Is (.val (.bool true)) []) := by
 refine con_of Tryz.func5 rfl (enters_of Tryz.func5 (by kernel_rfl) rfl) rfl ?_; intro n w0 F0 G0
 refine zS ?_;repeat(refine yA ?_;intro p hp;refine zS ?_)
 (apply wl_callP (alive_con); exact rfl; exact yC; exact rfl)
 rintro _ _ ⟨rfl, rfl⟩
 refine zS ?_
 (first | (apply wl_call (ready_con f); exact rfl; exact rfl) | (apply wl_callR (ready_con f); exact rfl; exact zM; exact rfl))
 refine zS ?_
 cases hR : (!greatF f && floOk f) with
 | false =>
  refine zS ?_
  (apply res1; exact rfl; exact rfl; exact ⟨rfl, rfl⟩)
 | true =>
  obtain ⟨hS, hok⟩ := ready_ok hR
  have hF := flo_f hok
  have hr := rises_of_ok hok
  have hidl := hF.ids
  have GC := Groups_con f hS (lsB2 hS)
  have FC := Fewest_con f hS
  rw [few_eq hS] at FC
  have he := stlN_err hok
  have hA := gr_facts hS hok
  have hB := st_none hS hok
  rcases he with h0 | h0
  ·have hA := hA h0
   rw [show grpN f = (grG f (stlN f).1, 0) by unfold grpN; rw [if_pos h0]] at GC
   rw [hA.few] at FC
   dsimp only at GC FC
   generalize grG f (stlN f).1 = gs at GC FC hA
   clear hB h0
   have hcnt := hA.cnt
   have hids : ∀ id ∈ f.ids, -9223372036854775808 ≤ id ∧ id ≤ 9223372036854775807 := fun id hid => by have := rises_all hr id hid; omega
   have hidn : f.ids.Nodup := List.pairwise_iff_getElem.2 fun i j hi hj hij e => by have := rises_sorted hr i j hi hj hij; omega
   have hfn : gs.flatten.Nodup := (hA.pe.nodup_iff).2 hidn
   have hfl : gs.flatten.length = f.ids.length := hA.pe.length_eq
   have z0 : (!decide ((f.ids.length : Int) - (gs.length : Int) = (f.ids.length : Int) - (gs.length : Int))) = false := by simp
   refine zS ?_
   (first | (apply wl_call (GC); exact rfl; exact rfl) | (apply wl_callR (GC); exact rfl; exact zM; exact rfl))
   refine zS ?_
   (first | (apply wl_call (FC); exact rfl; exact rfl) | (apply wl_callR (FC); exact rfl; exact zM; exact rfl))
   refine zS ?_
   rw [z0]
   refine zS ?_
   (apply wl_mmake keyI unG; exact rfl; intro mv hmv)
   refine zS ?_
   refine W_loopJ (fun (b : Nat × List (Int × Unit)) => ⟨[(1, .sl 1 u8C by_), (2, .val p), (5, .val (.bool true)), (6, .sl 1 (slC 1 iC) gs), (10, .val mv), (75, .sl 1 (slC 1 iC) gs), (76, .val (.int .i64 gs.length)), (77, .val (.int .i64 b.1))], [.mp Tryz.prog mv 3 kI unG b.2, .box p (flC f) 27, tab8]⟩) (fun b => b.1 ≤ gs.length ∧ b.2.length = (gs.take b.1).flatten.length ∧ ∀ id, getM b.2 id = none ↔ id ∉ (gs.take b.1).flatten) (fun b => gs.length - b.1) (0, []) (fun _ _ st => st_sub2 st zR zP) ⟨Nat.zero_le _, rfl, fun id => by simp [getM]⟩ ?_
   rintro ⟨i, m⟩ ⟨hi, hml, hmn⟩
   dsimp only at hi hml hmn ⊢
   refine zS ?_
   refine w_cond rfl (fun hlt => ?_) (fun hlt => ?_)
   ·have hi' : i < gs.length := by simpa using hlt
    have hgm := List.getElem_mem hi'
    have hfit := hA.fit _ hgm
    have hne := hA.ne _ hgm
    have AC := Alone_con f gs[i] hS (by omega)
    rw [hA.al _ hgm] at AC
    dsimp only at AC
    have q1 : gs[i]? = some gs[i] := List.getElem?_eq_getElem hi'
    have hi1 : i - 1 < gs.length := by omega
    have q0 : gs[i - 1]? = some gs[i - 1] := List.getElem?_eq_getElem hi1
    have hod := hA.od i hi' hi1
    have hne0 := hA.ne _ (List.getElem_mem hi1)
    have hnd := fun k (hk : k < gs[i].length) => flat_nd hfn hi' hk
    have hft := flat_takeG hi'
    have hpl : (gs.take i).flatten.length ≤ 6 := by
     have e1 : gs.flatten = (gs.take i).flatten ++ (gs.drop i).flatten := by rw [← List.flatten_append, List.take_append_drop]
     have e2 := congrArg List.length e1
     rw [List.length_append] at e2
     omega
    generalize (gs.take i).flatten = pre at hml hmn hnd hft hpl
    have z3 : decide ((gs[i].length : Int) = 0) = false := decide_eq_false (by omega)
    have z4 : decide ((0 : Int) < (gs[i - 1].length : Int)) = true := decide_eq_true (by omega)
    have g1 : gs[i].getD 0 0 = gs[i][0] := getD_in hne
    have g0 : gs[i - 1].getD 0 0 = gs[i - 1][0] := getD_in hne0
    rw [g1, g0] at hod
    have r1 : gs[i][0]? = some gs[i][0] := List.getElem?_eq_getElem hne
    have r0 : gs[i - 1][0]? = some gs[i - 1][0] := List.getElem?_eq_getElem hne0
    refine zS ?_
    (first | (apply wl_call (AC); exact rfl; exact rfl) | (apply wl_callR (AC); exact rfl; exact zM; exact rfl))
    refine zS ?_
    refine W_meet ⟨[(1, .sl 1 u8C by_), (2, .val p), (5, .val (.bool true)), (6, .sl 1 (slC 1 iC) gs), (10, .val mv), (12, .sl 1 iC gs[i]), (75, .sl 1 (slC 1 iC) gs), (76, .val (.int .i64 gs.length)), (77, .val (.int .i64 i)), (124, .val (.bool false))], [.mp Tryz.prog mv 3 kI unG m, .box p (flC f) 27, tab8]⟩ ?_ ?_
    ·by_cases hi0 : 0 < i
     ·have z1 : decide ((0 : Int) < (i : Int)) = true := decide_eq_true (by omega)
      have z2 : decide (gs[i][0] ≤ gs[i - 1][0]) = false := decide_eq_false (by have := hod hi0; omega)
      refine W_run 37 [88, 89, 90, 91, 92, 93, 94, 95, 96, 97, 98, 99, 100, 101, 102, 103, 104, 105, 106, 107, 108, 109, 110, 111, 112, 113, 114, 115, 116, 117, 118, 119, 120, 121, 122, 123, 124] [0, 1, 2, 3, 4, 5, 6, 7, 8, 9, 10, 11, 12, 13, 14, 15, 16, 17, 18, 19, 20, 21, 22, 23, 24, 25, 26, 27, 28, 29, 30, 31, 32, 33, 34, 35, 36] Cut.nil rfl goFlt mixedS (by kernel_rfl) rfl ?_
      refine rpv [] [] ?_
      refine Run.pv [0] [] rfl (fun vs => by apply ltr_pk; exact goPk; (refine ltr ?_; apply LT_bool false; apply lt_neq; exact rfl; exact rfl; exact rfl)) goApp ?_
      refine rpv [1] [] ?_
      refine ryv [2] ?_
      refine ryx [2, 3] (fun vs => by apply ltr_pk; exact goPk; (refine ltr ?_; apply LT_bool false; apply lt_not; exact rfl; exact rfl)) ?_
      refine rpv [2, 4] [] ?_
      refine rpv [5] [] ?_
      refine ryv [6] ?_
      refine ryv [6, 7] ?_
      refine ryx [6, 8] (fun vs => by apply ltr_pk; exact goPk; (refine ltr ?_; apply LT_bool false; apply lt_eql; exact rfl; exact rfl; exact z3)) ?_
      refine rpv [6, 9] [] ?_
      refine rpv [10] [] ?_
      refine ryv [11] ?_
      refine ryx [11, 12] (fun vs => by apply ltr_pk; exact goPk; (refine ltr ?_; apply LT_bool true; apply lt_gtr; exact rfl; exact rfl; exact z1)) ?_
      refine ryv [11, 13] ?_
      refine ryv [14] ?_
      refine ryv [14] ?_
      refine ryx [14, 16] (fun vs => by apply ltr_pk; exact goPk; (refine ltr ?_; apply LT_int ((i - 1 : Nat) : Int); apply lt_sub; exact rfl; exact rfl; omega; omega; omega)) ?_
      refine ryv [14, 15, 17] ?_
      refine ryv [14, 18] ?_
      refine ryv [14, 19] ?_
      refine ryx [14, 20] (fun vs => by apply ltr_pk; exact goPk; (refine ltr ?_; apply LT_bool true; apply lt_gtr; exact rfl; exact rfl; exact z4)) ?_
      refine ryv [11, 14, 21] ?_
      refine ryv [11, 22] ?_
      refine ryv [23] ?_
      refine ryv [23] ?_
      refine ryx [23, 25] (fun vs => by apply ltr_pk; exact goPk; (refine ltr ?_; apply LT_int ((i - 1 : Nat) : Int); apply lt_sub; exact rfl; exact rfl; omega; omega; omega)) ?_
      refine ryv [23, 24, 26] ?_
      refine ryv [23, 27] ?_
      refine ryv [23, 28] ?_
      refine ryv [23, 29] ?_
      refine ryv [23] ?_
      refine ryv [23, 31] ?_
      refine ryv [23, 32] ?_
      refine ryx [23, 30, 33] (fun vs => by apply ltr_pk; exact goPk; (refine ltr ?_; apply LT_bool false; apply lt_geq; exact rfl; exact rfl; exact z2)) ?_
      refine ryv [11, 23, 34] ?_
      refine rpv [11, 35] [] ?_
      refine ⟨⟨by kernel_rfl, by kernel_rfl⟩, fun vs => ?_⟩
      apply WL_auto [36]
      ·exact goPk
      ·exact goNrm
      ·kernel_rfl
      ·kernel_rfl
      refine zS ?_
      refine zS ?_
      exact ⟨rfl, fun _ _ st => st_sub2 st zR zP⟩
     ·have z1 : decide ((0 : Int) < (i : Int)) = false := decide_eq_false (by omega)
      refine W_run 37 [88, 89, 90, 91, 92, 93, 94, 95, 96, 97, 98, 99, 100, 101, 102, 103, 104, 105, 106, 107, 108, 109, 110, 111, 112, 113, 114, 115, 116, 117, 118, 119, 120, 121, 122, 123, 124] [0, 1, 2, 3, 4, 5, 6, 7, 8, 9, 10, 11, 12, 13, 14, 15, 16, 17, 18, 19, 20, 21, 22, 23, 24, 25, 26, 27, 28, 29, 30, 31, 32, 33, 34, 35, 36] Cut.nil rfl goFlt mixedS (by kernel_rfl) rfl ?_
      refine rpv [] [] ?_
      refine Run.pv [0] [] rfl (fun vs => by apply ltr_pk; exact goPk; (refine ltr ?_; apply LT_bool false; apply lt_neq; exact rfl; exact rfl; exact rfl)) goApp ?_
      refine rpv [1] [] ?_
      refine ryv [2] ?_
      refine ryx [2, 3] (fun vs => by apply ltr_pk; exact goPk; (refine ltr ?_; apply LT_bool false; apply lt_not; exact rfl; exact rfl)) ?_
      refine rpv [2, 4] [] ?_
      refine rpv [5] [] ?_
      refine ryv [6] ?_
      refine ryv [6, 7] ?_
      refine ryx [6, 8] (fun vs => by apply ltr_pk; exact goPk; (refine ltr ?_; apply LT_bool false; apply lt_eql; exact rfl; exact rfl; exact z3)) ?_
      refine rpv [6, 9] [] ?_
      refine rpv [10] [] ?_
      refine ryv [11] ?_
      refine ryx [11, 12] (fun vs => by apply ltr_pk; exact goPk; (refine ltr ?_; apply LT_bool false; apply lt_gtr; exact rfl; exact rfl; exact z1)) ?_
      refine ryv [11, 13] ?_
      refine rno [14] ?_
      refine rno [14] ?_
      refine rno [14, 16] ?_
      refine rno [14, 15, 17] ?_
      refine rno [14, 18] ?_
      refine rno [14, 19] ?_
      refine rno [14, 20] ?_
      refine ryv [11, 14, 21] ?_
      refine ryv [11, 22] ?_
      refine rno [23] ?_
      refine rno [23] ?_
      refine rno [23, 25] ?_
      refine rno [23, 24, 26] ?_
      refine rno [23, 27] ?_
      refine rno [23, 28] ?_
      refine rno [23, 29] ?_
      refine rno [23] ?_
      refine rno [23, 31] ?_
      refine rno [23, 32] ?_
      refine rno [23, 30, 33] ?_
      refine ryv [11, 23, 34] ?_
      refine rpv [11, 35] [] ?_
      refine ⟨⟨by kernel_rfl, by kernel_rfl⟩, fun vs => ?_⟩
      apply WL_auto [36]
      ·exact goPk
      ·exact goNrm
      ·kernel_rfl
      ·kernel_rfl
      refine zS ?_
      refine zS ?_
      exact ⟨rfl, fun _ _ st => st_sub2 st zR zP⟩
    ·clear z3 z4 hod r0 r1 g0 g1 AC
     refine zS ?_
     refine W_loopJ (fun (b : Nat × List (Int × Unit)) => ⟨[(1, .sl 1 u8C by_), (2, .val p), (5, .val (.bool true)), (6, .sl 1 (slC 1 iC) gs), (10, .val mv), (75, .sl 1 (slC 1 iC) gs), (76, .val (.int .i64 gs.length)), (77, .val (.int .i64 i)), (125, .sl 1 iC gs[i]), (126, .val (.int .i64 gs[i].length)), (127, .val (.int .i64 b.1))], [.mp Tryz.prog mv 3 kI unG b.2, .box p (flC f) 27, tab8]⟩) (fun b => b.1 ≤ gs[i].length ∧ b.2.length = pre.length + b.1 ∧ ∀ id, getM b.2 id = none ↔ id ∉ pre ++ gs[i].take b.1) (fun b => gs[i].length - b.1) (0, m) (fun _ _ st => st_sub2 st zR zP) ⟨Nat.zero_le _, hml, fun id => by rw [List.take_zero, List.append_nil]; exact hmn id⟩ ?_
     clear hml hmn
     rintro ⟨k, m⟩ ⟨hk, hml, hmn⟩
     dsimp only at hk hml hmn ⊢
     refine zS ?_
     refine w_cond rfl (fun hltk => ?_) (fun hltk => ?_)
     ·have hk' : k < gs[i].length := by simpa using hltk
      have hid := hids _ (hfit.2 _ (List.getElem_mem hk'))
      have hno := (hmn _).2 (hnd k hk')
      have qk : gs[i][k]? = some gs[i][k] := List.getElem?_eq_getElem hk'
      have htk : gs[i].take (k + 1) = gs[i].take k ++ [gs[i][k]] := List.take_succ_eq_append_getElem hk'
      have hfl1 := hfit.1
      refine zS ?_
      (apply wl_look1 keyI gs[i][k] Tryz.underlying58 (fun w => by kernel_rfl); exact rfl; exact zM; exact rfl; exact KeyV.val; exact hid; exact rfl)
      rw [hno]
      refine WL_as 133 (.val (.bool false)) rfl ?_
      refine zS ?_
      (apply wl_mput keyI gs[i][k] () Tryz.underlying58; exact rfl; exact zM; exact rfl; exact KeyV.val; exact hid; exact rfl; omega)
      refine zS ?_
      (refine ⟨(k + 1, putM m gs[i][k] ()), fun _ _ st => st_sub2 st ?_ ?_, ?_, ?_⟩; exact zR; exact zP)
      ·refine ⟨hk', ?_, fun id => ?_⟩
       ·dsimp only
        unfold putM
        rw [List.length_cons, delM_none hno, hml]; omega
       ·dsimp only
        rw [getM_put, htk, ← List.append_assoc]
        by_cases e : id = gs[i][k]
        ·rw [if_pos e, e]
         exact ⟨fun h => (by cases h), fun h => absurd (List.mem_append.2 (.inr (List.mem_singleton.2 rfl))) h⟩
        ·rw [if_neg e, hmn id]
         exact ⟨fun h q => h ((List.mem_append.1 q).resolve_right fun z => e (List.mem_singleton.1 z)), fun h q => h (List.mem_append.2 (.inl q))⟩
      ·dsimp only; omega
     ·have hkk : k = gs[i].length := by simp at hltk; omega
      subst hkk
      rw [List.take_length, ← hft] at hmn
      refine zS ?_
      (refine ⟨(i + 1, m), fun _ _ st => st_sub2 st ?_ ?_, ?_, ?_⟩; exact zR; exact zP)
      ·exact ⟨hi', by dsimp only; rw [hft, List.length_append]; exact hml, hmn⟩
      ·dsimp only; omega
   ·have hii : i = gs.length := by simp at hlt; omega
    subst hii
    rw [List.take_length, hfl] at hml
    clear hmn
    have z1 : (!decide ((m.length : Int) = (f.ids.length : Int))) = false := by rw [hml]; simp
    refine zS ?_
    (apply wl_mlen; exact Tryz.underlying58; exact rfl; exact zM; exact rfl)
    refine zS ?_
    rw [z1]
    refine zS ?_
    (apply wl_mmake keyI ovG; exact rfl; intro mw hmw)
    refine WL_pack0 ?_
    refine zS ?_
    refine W_loopJ (fun (b : Nat × List (Int × OV)) => ⟨[(1, .sl 1 u8C by_), (2, .val p), (5, .val (.bool true)), (6, .sl 1 (slC 1 iC) gs), (17, .val mw), (146, .sl 1 iC f.ids), (147, .val (.int .i64 f.ids.length)), (148, .val (.int .i64 b.1))], [.mp Tryz.prog mw 3 kI ovG b.2, .pack (b.2.map fun p => HA.row p.2.1 3 1 iC (prtI f.ids (fun v => chF by_ v % 4) b.1 p.1)), .box p (flC f) 27, tab8]⟩) (fun b => b.1 ≤ f.ids.length ∧ PrtF (fun v => chF by_ v % 4) b.1 b.2) (fun b => f.ids.length - b.1) (0, []) (fun _ _ st => st_sub2 st zR zP) ⟨Nat.zero_le _, .nil, fun j hj => by omega, fun p hp => by (cases hp), Nat.le_refl _⟩ ?_
    clear hml z1
    rintro ⟨j, M⟩ ⟨hj, hM⟩
    dsimp only at hj hM ⊢
    refine zS ?_
    refine w_cond rfl (fun hltj => ?_) (fun hltj => ?_)
    ·have hj' : j < f.ids.length := by simpa using hltj
     have qj : f.ids[j]? = some f.ids[j] := List.getElem?_eq_getElem hj'
     have hcb := chF_btw by_ j
     obtain ⟨k, hk⟩ : ∃ k, chF by_ j % 4 = k := ⟨_, rfl⟩
     have hkr : -9223372036854775808 ≤ k ∧ k ≤ 9223372036854775807 := by omega
     have hput := fun ov : OV => put_rows (ids := f.ids) (c := fun v => chF by_ v % 4) (i := j) (k := k) hk (m := M) (ov := ov) (e := 3)
     have hMp := fun ov => hM.put hk ov
     have hpl := prtI_len f.ids (fun v => chF by_ v % 4) j k
     rw [getD_in hj'] at hput
     have hMl := hM.len
     have CC := choice_con by_ j (by omega)
     refine zS ?_
     (first | (apply wl_call (CC); exact rfl; exact rfl) | (apply wl_callR (CC); exact rfl; exact zM; exact rfl))
     refine zS ?_
     (apply wl_rem; exact rfl; exact rfl; omega; omega; omega; exact rfl)
     rw [hk]
     refine zS ?_
     cases hg : getM M k with
     | none =>
      have hnil : prtI f.ids (fun v => chF by_ v % 4) j k = [] := prtI_none fun v hv e => by
       obtain ⟨ov, hov⟩ := hM.inn v hv
       have hov' : getM M (chF by_ v % 4) = some ov := hov
       rw [show chF by_ v % 4 = k from e, hg] at hov'; cases hov'
      rw [hnil, delM_none hg] at hput
      (apply wl_look1 (z := .slice none 0 0) keyI k Tryz.underlying60 (fun w => by kernel_rfl); exact rfl; exact zM; exact rfl; exact KeyV.val; exact hkr; exact rfl)
      rw [hg]
      refine WL_as 161 (.val (.slice none 0 0)) rfl ?_
      refine zS ?_
      (apply wl_litF iC; exact inferInstance; exact inferInstance; exact inferInstance; exact zE; exact rfl; (first | exact (of_decide_eq_true rfl) | decide | (simp; done) | (simp; omega)); exact rfl)
      (apply wl_appendN; exact rfl; exact rfl; exact inferInstance; exact inferInstance; (simp); exact rfl)
      intro v2
      refine WL_one (v := v2) zM (fun hone => ?_)
      obtain ⟨ov, rfl⟩ : ∃ o : OV, v2 = o.1 := ⟨⟨v2, hone.out (fun _ => none) v2 rfl⟩, rfl⟩
      refine zS ?_
      (apply wl_mput keyI k ov Tryz.underlying60; exact rfl; exact zM; exact rfl; exact KeyV.val; exact hkr; exact rfl; omega)
      refine zS ?_
      refine ⟨(j + 1, putM M k ov), fun _ _ st => st_sub2 (st_repack (.of_eq (hput ov)) zN zN st) zR zP, ⟨hj', hMp ov⟩, ?_⟩
      dsimp only; omega
     | some ow =>
      have hpe := (getM_perm hM.pw hg).map fun p => HA.row p.2.1 3 1 iC (prtI f.ids (fun v => chF by_ v % 4) j p.1)
      rw [List.map_cons] at hpe
      dsimp only at hpe
      (apply wl_look1 (z := .slice none 0 0) keyI k Tryz.underlying60 (fun w => by kernel_rfl); exact rfl; exact zM; exact rfl; exact KeyV.val; exact hkr; exact rfl)
      rw [hg]
      refine WL_as 161 (.val ow.1) rfl ?_
      refine WL_unpack hpe zN ?_
      refine zS ?_
      (apply wl_litF iC; exact inferInstance; exact inferInstance; exact inferInstance; exact zE; exact rfl; (first | exact (of_decide_eq_true rfl) | decide | (simp; done) | (simp; omega)); exact rfl)
      (first | (apply wl_append; exact rfl; exact rfl; exact zN; exact inferInstance; exact inferInstance; (first | omega | (simp; omega)); exact rfl) | (apply wl_appendN; exact rfl; exact rfl; exact inferInstance; exact inferInstance; (first | omega | (simp; omega)); exact rfl))
      intro v2
      refine WL_one (v := v2) zM (fun hone => ?_)
      obtain ⟨ov, rfl⟩ : ∃ o : OV, v2 = o.1 := ⟨⟨v2, hone.out (fun _ => none) v2 rfl⟩, rfl⟩
      refine zS ?_
      (apply wl_mput keyI k ov Tryz.underlying60; exact rfl; exact zM; exact rfl; exact KeyV.val; exact hkr; exact rfl; omega)
      refine zS ?_
      refine ⟨(j + 1, putM M k ov), fun _ _ st => st_sub2 (st_repack (.of_eq (hput ov)) zN zN st) zR zP, ⟨hj', hMp ov⟩, ?_⟩
      dsimp only; omega
    ·have hjj : j = f.ids.length := by simp at hltj; omega
     subst hjj
     refine W_frzMap zN zN ?_
     have hle := parts_le hok hA (c := fun v => chF by_ v % 4) (fun v => (by have := chF_btw by_ v; omega : 0 ≤ chF by_ v % 4 ∧ chF by_ v % 4 ≤ 3)) hM
     have hal : ∀ k : Int, aloR f (prtI f.ids (fun v => chF by_ v % 4) f.ids.length k) = ((aloR f (prtI f.ids (fun v => chF by_ v % 4) f.ids.length k)).1, 0) := fun k => by
      have h := alo_part hok (js := prtJ (fun v => chF by_ v % 4) f.ids.length k) (List.pairwise_lt_range.filter _) fun v hv => List.mem_range.1 (List.mem_filter.1 hv).1
      have h' : aloR f (prtI f.ids (fun v => chF by_ v % 4) f.ids.length k) = _ := h
      rw [h']
     have hpl := fun k : Int => prtI_len f.ids (fun v => chF by_ v % 4) f.ids.length k
     generalize prtI f.ids (fun v => chF by_ v % 4) f.ids.length = pt at hle hal hpl ⊢
     clear hM
     refine zS ?_
     (apply wl_range Tryz.underlying60; exact rfl; exact zN; exact rfl)
     intro it hit
     refine zS ?_
     refine W_loopJ (fun (b : List (Int × List Int) × Option (Int × List Int)) => ⟨[(1, .sl 1 u8C by_), (2, .val p), (5, .val (.bool true)), (6, .sl 1 (slC 1 iC) gs), (17, .val mw), (167, .val it)], [.mit Tryz.prog mw it 3 kI slG (M.map fun p => (p.1, pt p.1)) b.1 b.2, .box p (flC f) 27, tab8]⟩) (fun b => ∃ done, (M.map fun p => (p.1, pt p.1)).Perm (done ++ b.1) ∧ ∀ q ∈ done, (aloR f q.2).1 = true) (fun b => b.1.length) (M.map fun p => (p.1, pt p.1), none) (fun _ _ st => st_sub2 st zR zP) ⟨[], .refl _, fun _ h => absurd h List.not_mem_nil⟩ ?_
     rintro ⟨rest, cur⟩ ⟨done, hpe, hdone⟩
     dsimp only at hpe ⊢
     refine zS ?_
     (apply wl_next; exact rfl; exact zN; exact rfl)
     ·intro hr0
      subst hr0
      have hML := hle fun q hq => hdone (q.1, pt q.1) (by
       have := hpe.mem_iff.1 (List.mem_map.2 ⟨q, hq, rfl⟩)
       rwa [List.append_nil] at this)
      have z1 : decide (((M.map fun p => (p.1, pt p.1)).length : Int) ≤ (gs.length : Int)) = true := decide_eq_true (by rw [List.length_map]; omega)
      refine zS ?_
      (apply wl_mitlen Tryz.underlying60; exact rfl; exact zM; exact rfl)
      refine zS ?_
      rw [z1]
      refine zS ?_
      (apply res1; exact rfl; exact rfl; exact ⟨rfl, rfl⟩)
     ·rintro q rst hq
      have hqM : q ∈ M.map fun p => (p.1, pt p.1) := hpe.mem_iff.2 (List.mem_append.2 (.inr (hq.mem_iff.2 (by simp))))
      obtain ⟨q0, _, hq0⟩ := List.mem_map.1 hqM
      have hq2 : q.2 = pt q0.1 := by rw [← hq0]
      have hqa := hal q0.1
      have hql := hpl q0.1
      rw [← hq2] at hqa hql
      have AC := Alone_con f q.2 hS (by omega)
      rw [hqa] at AC
      dsimp only at AC
      refine zS ?_
      (apply wl_entry; exact rfl; exact zM; exact rfl)
      refine zS ?_
      refine WL_as 171 (.sl 1 iC q.2) rfl ?_
      refine zS ?_
      (first | (apply wl_call (AC); exact rfl; exact rfl) | (apply wl_callR (AC); exact rfl; exact zM; exact rfl))
      refine zS ?_
      cases hb : (aloR f q.2).1 with
      | false =>
       refine zS ?_
       (apply res1; exact rfl; exact rfl; exact ⟨rfl, rfl⟩)
      | true =>
       refine zS ?_
       refine ⟨(rst, some q), fun _ _ st => st_sub2 st zR zP, ⟨done ++ [q], ?_, fun x hx => ?_⟩, ?_⟩
       ·dsimp only
        rw [List.append_assoc]
        exact hpe.trans (hq.append_left done)
       ·rcases List.mem_append.1 hx with h | h
        ·exact hdone x h
        ·rw [List.mem_singleton] at h; rw [h]; exact hb
       ·dsimp only
        have := hq.length_eq
        rw [List.length_cons] at this
        omega
  ·obtain ⟨_, h2, _, _⟩ := hB h0
   rw [h2] at FC
   rw [show grpN f = ([], 8) by unfold grpN; rw [h0]; rfl] at GC
   dsimp only at FC GC
   refine zS ?_
   (first | (apply wl_call (GC); exact rfl; exact rfl) | (apply wl_callR (GC); exact rfl; exact zM; exact rfl))
   refine zS ?_
   (first | (apply wl_call (FC); exact rfl; exact rfl) | (apply wl_callR (FC); exact rfl; exact zM; exact rfl))
   refine zS ?_
   (apply res1; exact rfl; exact rfl; exact ⟨rfl, rfl⟩)
end Go.Proofs.YtihonljdanjfmaaGreatDoor.Sw
