/- Proofs for one card: Reg, RegIn, Sw, SwOps, SwAny, App, SwOps2, SwOps3, SwR, SwF, SwG, SwH, Ty8, DoorG, FloorC, FloorL, Row, Steps, Left, Best, EdL, Comes, Leaf2, FloorY, FloorM, Gr3, SwI, SwL, SwM, SwB, FloorU, FloorCa, FloorCd, FloorLb, SwS, FloorCe, FloorCg, SwN, FloorPc, FloorCj, SwQ, FloorCm, AlB, OCom, OQa, OQb, FloorQuarrel. No condition of its own. -/
import Derived.WalkKit
import Derived.Handy
import Derived.Deep.AppendSrc
import Derived.OrdersHeld
import Derived.Deep.RegionHeld
import Derived.OrdersIn
import Derived.RangeFuncCalls
import Derived.RangeFuncNested
import Derived.RangeFuncLeaves
import Derived.IntWalk
import Derived.WalkSpells
import Derived.Maps.AppendAt
import Derived.Deep.AppendLies
import Derived.OwnWalk
import Derived.LoopNIn
import Derived.RangeFuncBound
import Derived.Test.YtihonljdanjfmaaGreatDoorProg
import Derived.Test.YtihonljdanjfmaaGreatDoorCards
import Derived.Test.YtihonljdanjfmaaGreatDoorTie
import Derived.ProofKit
import Derived.OpenShut
import Derived.LaidMore
import Derived.LaidOnce
import Derived.ChangeOld
import Derived.Below
import Derived.Stop.Joined
import Derived.Lib.SmallJoins
import Derived.Deep.Slices
import Derived.WalkSmall
import Derived.Shelf.Abstract
import Derived.Laws.EntriesVeiled
import Derived.ChangeSame
import Derived.Deep.Strs
import Derived.Outline
import Derived.Deep.QuietTactic
import Derived.BigQuiet
import Derived.Deep.RegionHeld3
import Derived.DeepKeys4
import Derived.Maps.OwnIn
import Derived.OwnWalkIn
import Derived.Shelf.RegionOpen
import Derived.TacticsInMore
import Derived.Sort.BigQuietIn
import Derived.LoopIn
import Derived.WalkMore
import Derived.Maps.Views
import Derived.Lib.AppendZerosOnto
import Derived.Lib.Walk
import Derived.Lib.SliceRun
import Derived.Laws.MakeOwn
import Derived.Deep.Cut
import Derived.Lib.LazyBuf
import Derived.Scope
import Derived.WideKeyEntry
import Derived.Test.YtihonljdanjfmaaGreatDoorZd9
set_option linter.unusedVariables false
set_option linter.unusedSimpArgs false
set_option maxRecDepth 40000
set_option maxHeartbeats 32000000
namespace Go.Proofs.YtihonljdanjfmaaGreatDoor
open Go.RowKit Go
section
variable {P : Program} {ops : Array Oper} {Q : Exit → Act → World → Prop} {S : World → Prop} {held : List Nat}
end
section
variable {F : Fence} {n : Nat} {P : Program} {ops : Array Oper} {Q : Exit → Act → World → Prop} {S : World → Prop} {held : List Nat}
end
end Go.Proofs.YtihonljdanjfmaaGreatDoor
namespace Go.Proofs.YtihonljdanjfmaaGreatDoor.Sw
open Go.RowKit Go
section
variable {c : Cx} {s : S} {Q : Exit → S → Prop}
end
section
variable {c : Cx} {s : S} {Q : Exit → S → Prop} {ops : Array Oper} {tl : List Oper}
end
section
variable {c : Cx} {s : S} {Q : Exit → S → Prop} {ops : Array Oper} {tl : List Oper}
end
section
variable {P : Program} {rs : List (Nat × AV)} {d : Option Nat} {ty : TypeId} {pos : String} {af : Array Edge} {g : Option (Nat × Bool)}
end
section
variable {c : Cx} {s : S} {Q : Exit → S → Prop} {ops : Array Oper} {tl : List Oper}
end
section
variable {c : Cx} {rs : List (Nat × AV)} {hs : List HA} {Q : Exit → S → Prop} {ops : Array Oper} {tl : List Oper} {d : Nat} {op : Op} {ty : TypeId} {pos : String} {af : Array Edge}
end
section
variable {c : Cx} {rs : List (Nat × AV)} {hs : List HA} {Q : Exit → S → Prop} {ops : Array Oper} {tl : List Oper} {d : Nat} {ty : TypeId} {pos : String} {af : Array Edge} {x y : Operand} {t tb : TypeId} {p : Value} {j : Nat} {cs : List AV} {f : HA → List HA}
end
section
variable (ops : Array Oper) (m : Nat) (sp : List Sp) (hs0 : List HA)
end
section
variable {c : Cx} {ops : Array Oper} {m : Nat} {sp : List Sp} {hs0 hsR : List HA} {rsB : List (Nat × AV)} {Q : Exit → S → Prop}
end
section
variable {P : Program} {rs : List (Nat × AV)} {hsR : List HA} {d : Option Nat} {ty : TypeId} {pos : String} {af : Array Edge} {g : Option (Nat × Bool)} {x : Operand} {t tb : TypeId} {p : Value} {j : Nat} {cs : List AV} {f : HA → List HA}
end
end Go.Proofs.YtihonljdanjfmaaGreatDoor.Sw
namespace Go.Proofs.YtihonljdanjfmaaGreatDoor
open Go.RowKit Go
section
variable {P : Program} (w : World)
end
end Go.Proofs.YtihonljdanjfmaaGreatDoor
namespace Go.Proofs.YtihonljdanjfmaaGreatDoor.Sw
open Go.RowKit Go
section
variable {P : Program} {rs : List (Nat × AV)} {d : Option Nat} {ty : TypeId} {pos : String} {af : Array Edge} {g : Option (Nat × Bool)}
end
section
variable {P : Program} {rs : List (Nat × AV)} {d : Option Nat} {ty : TypeId} {pos : String} {af : Array Edge} {g : Option (Nat × Bool)}
end
section
variable {c : Cx} {rs : List (Nat × AV)} {hs : List HA} {Q : Exit → S → Prop} {ops : Array Oper} {tl : List Oper} {d : Nat} {ty : TypeId} {pos : String} {af : Array Edge}
end
section
variable {c : Cx} {rs : List (Nat × AV)} {hs : List HA} {Q : Exit → S → Prop} {ops : Array Oper} {tl : List Oper} {d : Nat} {ty : TypeId} {pos : String} {af : Array Edge}
end
section
variable {P : Program} {rs : List (Nat × AV)} {d : Option Nat} {ty : TypeId} {pos : String} {af : Array Edge} {g : Option (Nat × Bool)}
end
section
variable {c : Cx} {rs : List (Nat × AV)} {hs : List HA} {Q : Exit → S → Prop} {ops : Array Oper} {tl : List Oper} {d : Nat} {ty : TypeId} {pos : String} {af : Array Edge}
end
section
variable {P : Program} {rs : List (Nat × AV)} {hsR : List HA} {d : Option Nat} {ty : TypeId} {pos : String} {af : Array Edge} {g : Option (Nat × Bool)}
end
section
variable {P : Program} {rs : List (Nat × AV)} {hsR : List HA} {d : Option Nat} {ty : TypeId} {pos : String} {af : Array Edge} {g : Option (Nat × Bool)}
end
section
variable {c : Cx} {rs : List (Nat × AV)} {hs : List HA} {Q : Exit → S → Prop} {ops : Array Oper} {tl : List Oper} {d : Nat} {ty : TypeId} {pos : String} {af : Array Edge}
end
section
variable {c : Cx} {rs : List (Nat × AV)} {hs : List HA} {Q : Exit → S → Prop} {g : Operand} {ps : Array Tmp} {assign body : Code} {gf : FuncId} {caps : List AV} {own r : List HA} {α β τ : Type} {f : α → τ → List AV} {t : α → τ → List HA} {xs : List α}
end
section
variable {P : Program} {rs : List (Nat × AV)} {hsR : List HA} {d : Option Nat} {ty : TypeId} {pos : String} {af : Array Edge} {g : Option (Nat × Bool)}
end
section
variable {c : Cx} {rs : List (Nat × AV)} {hs : List HA} {Q : Exit → S → Prop} {ops : Array Oper} {tl : List Oper} {d : Nat} {ty : TypeId} {pos : String} {af : Array Edge}
end
instance : TyQ Tryz.prog 52 2 := ⟨fun x y xs ys w h1 h2 => by
 match xs, ys, h1, h2 with
 | [x0, x1], [y0, y1], _, _ => refine ⟨?_, ?_, ?_, ?_⟩ <;> simp [go_sem] <;> by_cases h10 : x0 = y0 <;> by_cases h11 : x1 = y1 <;> simp [*]⟩
end Go.Proofs.YtihonljdanjfmaaGreatDoor.Sw
namespace Go.Proofs.YtihonljdanjfmaaGreatDoor.Sw
open Go Go.RowKit Go.ChangeShapes Go.WideShapes Go.ChangeAt
set_option maxRecDepth 100000 in
theorem arg_int {H : Type} {enc : TypeId × Value → H} {W : World} {t : TypeId} {k : IntKind} {v : Value} {d : DataW H} {p : List MemPlace} {base : Nat} (ht : Tryz.prog.underlying t = some (.int k)) (hv : Value.okWide Tryz.prog W .any base t v) (h : DataW.Trod enc Tryz.prog W 0 (fun _ => true) true t v d p) : ∃ i : Int, (AV.val (.int k i)).P (gh W) v ∧ (Lit.int k i).wf = true := by
 obtain ⟨n, rfl, _, _, hw⟩ := open_int ht hv h
 exact ⟨n, rfl, hw⟩
end Go.Proofs.YtihonljdanjfmaaGreatDoor.Sw
namespace Go.Proofs.YtihonljdanjfmaaGreatDoor
open Go Go.ChangeShapes Go.WideShapes Go.ChangeAt Go.RowKit
theorem laidOut : laidOutB Tryz.prog = true := by kernel_rfl
end Go.Proofs.YtihonljdanjfmaaGreatDoor
namespace Go.Proofs.YtihonljdanjfmaaGreatDoor.Sw
open Go Go.RowKit Go.ChangeShapes Go.WideShapes Go.ChangeAt
set_option maxRecDepth 100000
end Go.Proofs.YtihonljdanjfmaaGreatDoor.Sw
namespace Go.Proofs.YtihonljdanjfmaaGreatDoor.Sw
open Go.RowKit Go Go.Shelf Go.Proofs
theorem floOk_of (f : Flo) : floOk f = (chkA f && qusOk f.ids none f.qs && bilsOk f.ids 0 f.bs && paysOk f.ids f.ps) := rfl
end Go.Proofs.YtihonljdanjfmaaGreatDoor.Sw
namespace Go.Proofs.YtihonljdanjfmaaGreatDoor
open Go.RowKit Go
section
variable {α : Type} {f : α → List Value} {n : Nat}
end
end Go.Proofs.YtihonljdanjfmaaGreatDoor
namespace Go.Proofs.YtihonljdanjfmaaGreatDoor
open Go.RowKit Go.Proofs Go.Shelf
attribute [local go_sem] Oper.semAt_some
attribute [local go_sem] Oper.semAt_some
attribute [local go_sem] eqPlace
attribute [local go_sem] Oper.semAt_some
def nxt (st fo : List Int) (i k : Nat) : Nx :=
 if h : i < st.length ∧ k < fo.length then
  if st[i]'h.1 = fo[k]'h.2 then ⟨i + 1, k + 1, []⟩
  else if dd st fo i k = dd st fo (i + 1) (k + 1) + 1 then ⟨i + 1, k + 1, [⟨3, k, fo[k]'h.2⟩]⟩
  else if dd st fo i k = dd st fo (i + 1) k + 1 then ⟨i + 1, k, [⟨1, k, 0⟩]⟩
  else ⟨i, k + 1, [⟨2, k, fo[k]'h.2⟩]⟩
 else if i < st.length then ⟨i + 1, k, [⟨1, k, 0⟩]⟩
 else if h : k < fo.length then ⟨i, k + 1, [⟨2, k, fo[k]⟩]⟩
 else ⟨i, k, []⟩
attribute [local go_sem] Oper.semAt_some
theorem take_succ_eq {α : Type} [DecidableEq α] {xs ys : List α} {k : Nat} (h : xs.take k = ys.take k) (hx : k < xs.length) (hy : k < ys.length) (e : xs[k] = ys[k]) : xs.take (k + 1) = ys.take (k + 1) := by
 rw [List.take_succ_eq_append_getElem hx, List.take_succ_eq_append_getElem hy, h, e]
end Go.Proofs.YtihonljdanjfmaaGreatDoor
namespace Go.Proofs.YtihonljdanjfmaaGreatDoor.Sw
open Go.RowKit Go Go.Shelf Go.Proofs
theorem speak8_con (f : Flo) (a b : Int) (hl : f.qs.length ≤ 1000) : Con Tryz.prog 20 [.agg (flC f), .val (.int .i64 a), .val (.int .i64 b)] [] (Is (.val (.bool (speakR f.qs a b))) []) := by
 refine con_of Tryz.func20 rfl (enters_of Tryz.func20 (by kernel_rfl) rfl) rfl ?_; intro n w0 F0 G0
 refine zS ?_;repeat(refine yA ?_;intro p hp;refine zS ?_)
 refine W_loopJ (fun (k : Nat) => ⟨[(1, .val (.int .i64 a)), (2, .val (.int .i64 b)), (10, .sl 2 quC f.qs), (11, .val (.int .i64 f.qs.length)), (12, .val (.int .i64 k))], []⟩) (fun k => k ≤ f.qs.length ∧ (f.qs.take k).any (hits a b) = false) (fun k => f.qs.length - k) 0 (fun _ _ st => st_sub2 st zR zP) ?hj0 ?round
 case hj0 => simp
 case round =>
  rintro k ⟨hk, hno⟩
  refine zS ?_;repeat(refine yA ?_;intro p hp;refine zS ?_)
  refine w_cond rfl (fun hlt => ?_) (fun hlt => ?_)
  ·have hlt' : k < f.qs.length := by simpa using hlt
   have htk : f.qs.take (k + 1) = f.qs.take k ++ [f.qs[k]] := List.take_succ_eq_append_getElem hlt'
   refine zS ?_;repeat(refine yA ?_;intro p hp;refine zS ?_)
   have fin : hits a b f.qs[k] = true → speakR f.qs a b = false := fun h => by
    have : f.qs.any (hits a b) = true := List.any_eq_true.2 ⟨_, List.getElem_mem hlt', h⟩
    simp [speakR, this]
   have nxt : hits a b f.qs[k] = false → (f.qs.take (k + 1)).any (hits a b) = false := fun h => by rw [htk, List.any_append, hno]; simpa using h
   refine wl_part rfl rfl (fun g1 => ?_) (fun g1 => ?_)
   ·refine zS ?_;repeat(refine yA ?_;intro p hp;refine zS ?_)
    refine w_cond rfl (fun g2 => ?_) (fun g2 => ?_)
    ·have := fin (by unfold hits; rw [g1, g2]; rfl)
     refine zS ?_;repeat(refine yA ?_;intro p hp;refine zS ?_)
     (apply res1; exact rfl; exact rfl; exact ⟨(congrArg (fun b => AV.val (Value.bool b)) this.symm), rfl⟩)
    ·have := nxt (by unfold hits; rw [g1, g2]; rfl)
     refine zS ?_;repeat(refine yA ?_;intro p hp;refine zS ?_)
     (refine ⟨k + 1, fun _ _ st => st_sub2 st ?_ ?_, ?_, ?_⟩; exact zR; exact zP)
     ·exact ⟨by omega, this⟩
     ·omega
   ·have := nxt (by unfold hits; rw [g1]; rfl)
    refine zS ?_;repeat(refine yA ?_;intro p hp;refine zS ?_)
    (refine ⟨k + 1, fun _ _ st => st_sub2 st ?_ ?_, ?_, ?_⟩; exact zR; exact zP)
    ·exact ⟨by omega, this⟩
    ·omega
  ·refine zS ?_;repeat(refine yA ?_;intro p hp;refine zS ?_)
   have hkk : k = f.qs.length := by simp at hlt; omega
   subst hkk
   rw [List.take_length] at hno
   (apply res1; exact rfl; exact rfl; exact ⟨(congrArg (fun b => AV.val (Value.bool b)) (by simp [speakR, hno])), rfl⟩)
end Go.Proofs.YtihonljdanjfmaaGreatDoor.Sw
namespace Go.Proofs.YtihonljdanjfmaaGreatDoor.Gr
open Go.Proofs.YtihonljdanjfmaaGreatDoor.Sw (Pay)
end Go.Proofs.YtihonljdanjfmaaGreatDoor.Gr
namespace Go.Proofs.YtihonljdanjfmaaGreatDoor.Sw
open Go.RowKit Go
section
variable {P : Program} {rs : List (Nat × AV)} {hsR : List HA} {d : Option Nat} {ty : TypeId} {pos : String} {af : Array Edge} {g : Option (Nat × Bool)}
end
section
variable {c : Cx} {rs : List (Nat × AV)} {hs : List HA} {Q : Exit → S → Prop} {ops : Array Oper} {tl : List Oper} {d : Nat} {ty : TypeId} {pos : String} {af : Array Edge}
end
section
variable {P : Program} {rs : List (Nat × AV)} {d : Option Nat} {ty : TypeId} {pos : String} {af : Array Edge} {g : Option (Nat × Bool)}
end
section
variable {c : Cx} {rs : List (Nat × AV)} {hs : List HA} {Q : Exit → S → Prop} {ops : Array Oper} {tl : List Oper} {d : Nat} {ty : TypeId} {pos : String} {af : Array Edge}
end
theorem run_append_row {P : Program} {w : World} (t tx ty e : TypeId) (i : TypeInfo) (ht : P.underlying t = some (.slice e)) (hi : P.info? e = some i) (b sLen sCap : Nat) (x : Value) (n : Nat) (news : List Value) (hs : Src P i.size tx x n news w)
  (hroom : sLen + n ≤ sCap) (cur : Array Value) (te : TypeId) (hb : w.heap[b]? = some (.cells cur te (0, 0))) (hsz : sLen * i.size + news.length ≤ cur.size) :
  (Builtin.append_ #[t, tx] ty #[.slice (some ⟨b, 0, none⟩) sLen sCap, x]).run P w = .ok (.slice (some ⟨b, 0, none⟩) (sLen + n) sCap) (w.setRow b (cur.toList.take (sLen * i.size) ++ news ++ cur.toList.drop (sLen * i.size + news.length)).toArray) := by
 have hst := run_storeCells_at P b (sLen * i.size) te news 0 cur w hb (by simpa using hsz) hs.one
 simp only [Nat.add_zero] at hst
 rcases hs.kind with ⟨e', hk⟩ | hk <;> simp [Builtin.append_, run_underlying ht, run_underlying hk, sizeOf, typeInfo, hi, hs.len, hroom, hs.cells, Addr.add_lit, hst]
section
variable {P : Program} {rs : List (Nat × AV)} {d : Option Nat} {ty : TypeId} {pos : String} {af : Array Edge} {g : Option (Nat × Bool)}
theorem lt_slice3V {x lo hi mx : Operand} {t e : TypeId} {n : Nat} (hT : TyE P t e n) {ad : Option Addr} {len cap l h m : Nat} (hx : opv rs x = some (.val (.slice ad len cap)))
  (hlo : opv rs lo = some (.val (.int .i64 (l : Int)))) (hhi : opv rs hi = some (.val (.int .i64 (h : Int)))) (hmx : opv rs mx = some (.val (.int .i64 (m : Int)))) (h1 : l ≤ h) (h2 : h ≤ m) (h3 : m ≤ cap) :
  LT P ⟨d, .slice t x (some lo) (some hi) (some mx), ty, pos, af, g⟩ rs [] (Is .any []) :=
 LT_val (fun _ e => by cases e) fun a w G hR hG => by
  have e1 : a.eval x = _ := opv_ok hR hx
  have e2 : a.eval lo = _ := opv_ok hR hlo
  have e3 : a.eval hi = _ := opv_ok hR hhi
  have e4 : a.eval mx = _ := opv_ok hR hmx
  obtain ⟨i, z, hi', _, hs, _⟩ := hT.info
  have hb : ∀ (x : Nat) (y : Nat) (code : BoundsCode), x ≤ y → (Instr.sliceBound (.int .i64 (x : Int)) y code).run P w = .ok x w := fun x y code hxy => by
   have : (0 : Int) ≤ (x : Int) ∧ (x : Int) ≤ (y : Int) := by omega
   simp [Instr.sliceBound, asIntOf, this]
  refine ⟨.slice (if m = l then ad else ad.map (·.add (l * n))) (h - l) (m - l), trivial, ?_⟩
  simp [execOp, e1, e2, e3, e4, Instr.sliceAt, Instr.slice, Instr.sliceBounds, run_underlying hT.und, sizeOf, typeInfo, hi', hs, hb _ _ _ h1, hb _ _ _ h2, hb _ _ _ h3]
theorem lt_moveV {x y : Operand} {t e : TypeId} {n : Nat} (hT : TyE P t e n) {b i j m cap c : Nat} {cs : List AV} (hx : opv rs x = some (.val (.slice (some ⟨b, 0, none⟩) i cap))) (hy : opv rs y = some (.val (.slice (if cap = j then some ⟨b, 0, none⟩ else some ⟨b, j * n, none⟩) m c))) (hij : i ≤ j) (hcs : cs.length = (j + m) * n) (hcap : j + m ≤ cap) :
  LT P ⟨d, .call { callee := .builtin .append, args := #[x, y], argTypes := #[t, t] }, ty, pos, af, g⟩ rs [.cells b e cs (cap * n)] (Is (.val (.slice (some ⟨b, 0, none⟩) (i + m) cap)) [.cells b e (cs.take (i * n) ++ cs.drop (j * n)) (cap * n)]) :=
 LT_eff (fun _ e => by cases e) fun a w G F hR hI => by
  obtain ⟨F1, F2, ep, ⟨vs, rest, hF1, hf, hone, hb, htot⟩, h2⟩ := hI.hs
  have h2' : F2 = [] := h2
  subst h2' hF1
  have hF : F = [b] := List.perm_singleton.1 (by simpa using ep)
  subst hF
  obtain ⟨ti, z, hi, hz, hs, hby, hzs⟩ := hT.info
  have e1 : a.eval x = _ := opv_ok hR hx
  have e2 : a.eval y = _ := opv_ok hR hy
  have hvl : vs.length = (j + m) * n := by rw [hf.length, hcs]
  have hjm : (j + m) * n = j * n + m * n := Nat.add_mul _ _ _
  have hle : (j + m) * n ≤ cap * n := Nat.mul_le_mul_right n hcap
  have hij' : i * n ≤ j * n := Nat.mul_le_mul_right n hij
  have hcell : ∀ q u, (vs.drop (j * n))[q]? = some u → w.cell? ⟨b, j * n + q, none⟩ = some u := fun q u hu => by
   rw [cell_of_row w b _ _ _ _ hb]
   rw [List.getElem?_drop] at hu
   have hlt := (List.getElem?_eq_some_iff.1 hu).1
   simp only [List.getElem?_toArray]
   rw [List.getElem?_append_left hlt]; exact hu
  have hsrc : Src P ti.size t (.slice (if cap = j then some ⟨b, 0, none⟩ else some ⟨b, j * n, none⟩) m c) m (vs.drop (j * n)) w := by
   by_cases hcj : cap = j
   ·have hm0 : m = 0 := by omega
    subst hm0
    have hd : vs.drop (j * n) = [] := List.drop_of_length_le (by omega)
    rw [if_pos hcj, hd]
    exact Src.ofSlice w hT.und ⟨b, 0, none⟩ 0 c [] (by simp) (fun j u e => by simp at e) (fun _ h => by simp at h)
   ·rw [if_neg hcj]
    exact Src.ofSlice w hT.und ⟨b, j * n, none⟩ m c _ (by rw [List.length_drop, hs]; omega) (fun q u hu => by rw [add_plain]; exact hcell q u hu) (fun u hu => hone u (List.mem_of_mem_drop hu))
  have hdl : (vs.drop (j * n)).length = m * n := by rw [List.length_drop]; omega
  have hr := run_append_row (P := P) t t ty e ti hT.und hi b i cap _ m _ hsrc (by omega) _ e hb (by rw [hs, hdl]; simp only [List.size_toArray]; omega)
  obtain ⟨f1, f2⟩ := fr_setRow hI.gin (hI.own b (by simp)).2 ((vs ++ rest).toArray.toList.take (i * ti.size) ++ vs.drop (j * n) ++ (vs ++ rest).toArray.toList.drop (i * ti.size + (vs.drop (j * n)).length)).toArray
  refine ⟨_, _, _, _, _, G, [b], ?_, .inl rfl, ⟨rfl, rfl⟩, f1, ⟨f2, by simp, fun q hq => ?_, [b], [], by simp, ⟨vs.take (i * n) ++ vs.drop (j * n), (vs ++ rest).drop (i * n + m * n), rfl, (hf.take _).append (hf.drop _), fun u hu => ?_, ?_, ?_⟩, rfl⟩, rfl⟩
  ·simp [execOp, resolve, e1, e2, invoke, builtin, hr]
  ·rw [List.mem_singleton] at hq; subst hq; simp only [setRow_size]; exact hI.own _ (by simp)
  ·rcases List.mem_append.1 hu with h | h
   ·exact hone u (List.mem_of_mem_take h)
   ·exact hone u (List.mem_of_mem_drop h)
  ·have ht : (vs ++ rest).take (i * n) = vs.take (i * n) := List.take_append_of_le_length (by omega)
   have := setRow_heap w b (vs ++ rest).toArray ((vs ++ rest).toArray.toList.take (i * ti.size) ++ vs.drop (j * n) ++ (vs ++ rest).toArray.toList.drop (i * ti.size + (vs.drop (j * n)).length)).toArray e (0, 0) hb
   rw [this]
   simp only [hs, hdl, ht]
  ·simp only [List.length_append, List.length_take, List.length_drop] at htot ⊢
   omega
end
theorem flat_take {α : Type} {f : α → List AV} {n : Nat} : ∀ {xs : List α}, (∀ x ∈ xs, (f x).length = n) → ∀ (k : Nat), (xs.flatMap f).take (k * n) = (xs.take k).flatMap f ∧ (xs.flatMap f).drop (k * n) = (xs.drop k).flatMap f
 | [], _, k => by simp
 | x :: xs, _, 0 => by simp
 | x :: xs, h, k + 1 => by
  have hx := h x (by simp)
  obtain ⟨h1, h2⟩ := flat_take (xs := xs) (fun y hy => h y (by simp [hy])) k
  rw [List.flatMap_cons, Nat.succ_mul, show k * n + n = (f x).length + k * n by omega, List.take_append, List.drop_append, List.take_of_length_le (by omega), List.drop_of_length_le (l := f x) (by omega), Nat.add_sub_cancel_left, h1, h2]
  simp
section
variable {c : Cx} {rs : List (Nat × AV)} {hs : List HA} {Q : Exit → S → Prop} {ops : Array Oper} {tl : List Oper} {d : Nat} {ty : TypeId} {pos : String} {af : Array Edge}
theorem wl_slice3V {x lo hi mx : Operand} {t e : TypeId} {n : Nat} {ad : Option Addr} {len cap l h m : Nat} (hx : opv rs x = some (.val (.slice ad len cap))) (hT : TyE c.P t e n)
  (hlo : opv rs lo = some (.val (.int .i64 (l : Int)))) (hhi : opv rs hi = some (.val (.int .i64 (h : Int)))) (hmx : opv rs mx = some (.val (.int .i64 (m : Int)))) (h1 : l ≤ h) (h2 : h ≤ m) (h3 : m ≤ cap) (hd : Nat.blt d c.nt = true) (k : WL c ops tl ⟨(d, .any) :: rs, hs⟩ Q) : WL c ops (⟨some d, .slice t x (some lo) (some hi) (some mx), ty, pos, af, none⟩ :: tl) ⟨rs, hs⟩ Q := wl_ex (lt_slice3V hT hx hlo hhi hmx h1 h2 h3) hd k
theorem wl_moveV {x y : Operand} {t e : TypeId} {n : Nat} {b i j m cap cc : Nat} {cs : List AV} {f : HA → List HA} (hx : opv rs x = some (.val (.slice (some ⟨b, 0, none⟩) i cap))) (hy : opv rs y = some (.val (.slice (if cap = j then some ⟨b, 0, none⟩ else some ⟨b, j * n, none⟩) m cc))) (hat : At hs (.cells b e cs (cap * n)) f) (hT : TyE c.P t e n) (hij : i ≤ j) (hcs : cs.length = (j + m) * n) (hcap : j + m ≤ cap) (hd : Nat.blt d c.nt = true)
  (k : WL c ops tl ⟨(d, .val (.slice (some ⟨b, 0, none⟩) (i + m) cap)) :: rs, f (.cells b e (cs.take (i * n) ++ cs.drop (j * n)) (cap * n))⟩ Q) : WL c ops (⟨some d, .call { callee := .builtin .append, args := #[x, y], argTypes := #[t, t] }, ty, pos, af, none⟩ :: tl) ⟨rs, hs⟩ Q :=
 WL_at (o := ⟨some d, .call { callee := .builtin .append, args := #[x, y], argTypes := #[t, t] }, ty, pos, af, none⟩) hd rfl hat (lt_moveV hT hx hy hij hcs hcap) k
end
theorem LT_is {P : Program} {o : Oper} {rs : List (Nat × AV)} {cons prod : List HA} {av : AV} (av' : AV) (h : LT P o rs cons (Is av prod)) (e : av = av') : LT P o rs cons (Is av' prod) := e ▸ h
end Go.Proofs.YtihonljdanjfmaaGreatDoor.Sw
namespace Go.Proofs.YtihonljdanjfmaaGreatDoor.Sw
open Go.RowKit Go
open Go.WideElems (Fit)
open Go.ChangeMaps (setBlock heap_setBlock_same heap_setBlock_other)
section
variable {κ α : Type} [DecidableEq κ]
end
section
variable {κ α : Type} (kv : κ → Value) (g : α → AV)
variable {kv g}
variable (kv g)
variable {kv g}
end
section
variable {P : Program} {κ α : Type} [DecidableEq κ] {t : TypeId} {kv : κ → Value} {ok : κ → Prop} {g : α → AV} {l : List (κ × α)} {G : Nat → Option Obj} {F : List Nat} {w : World} {v : Value}
variable {rs : List (Nat × AV)} {d : Option Nat} {ty : TypeId} {pos : String} {af : Array Edge} {gd : Option (Nat × Bool)}
end
section
variable {c : Cx} {rs : List (Nat × AV)} {hs : List HA} {Q : Exit → S → Prop} {ops : Array Oper} {tl : List Oper} {d : Nat} {ty : TypeId} {pos : String} {af : Array Edge} {κ α : Type} [DecidableEq κ] {t : TypeId} {kv : κ → Value} {ok : κ → Prop} {g : α → AV} {l : List (κ × α)} {v : Value}
end
end Go.Proofs.YtihonljdanjfmaaGreatDoor.Sw
namespace Go.Proofs.YtihonljdanjfmaaGreatDoor.Sw
open Go.RowKit Go
section
variable {P : Program} {rs : List (Nat × AV)} {d : Option Nat} {ty : TypeId} {pos : String} {af : Array Edge} {g : Option (Nat × Bool)}
end
section
variable {c : Cx} {rs : List (Nat × AV)} {hs : List HA} {Q : Exit → S → Prop} {ops : Array Oper} {tl : List Oper} {d : Nat} {ty : TypeId} {pos : String} {af : Array Edge}
end
end Go.Proofs.YtihonljdanjfmaaGreatDoor.Sw
namespace Go.Proofs.YtihonljdanjfmaaGreatDoor.Sw
open Go.RowKit Go Go.Shelf Go.Proofs
theorem quNe (x y : Qu) : (!decide ([x.a, x.b] = [y.a, y.b])) = !decide (x = y) := by
 congr 1
 refine decide_eq_decide.2 ?_
 cases x; cases y; simp
theorem stNe (x y : Stk) : (!decide ([x.fl, x.pt] = [y.fl, y.pt])) = !decide (x = y) := by
 congr 1
 refine decide_eq_decide.2 ?_
 cases x; cases y; simp
theorem take_succ_eq {α : Type} {xs ys : List α} {k : Nat} (h : xs.take k = ys.take k) (h1 : k < xs.length) (h2 : k < ys.length) (e : xs[k] = ys[k]) : xs.take (k + 1) = ys.take (k + 1) := by
 rw [List.take_succ_eq_append_getElem h1, List.take_succ_eq_append_getElem h2, h, e]
theorem take_all_eq {α : Type} {xs ys : List α} {k : Nat} (h : xs.take k = ys.take k) (h1 : xs.length ≤ k) (h2 : ys.length ≤ k) : xs = ys := by
 rwa [List.take_of_length_le h1, List.take_of_length_le h2] at h
theorem same8_con (f g : Flo) (hS : Sml f) (hT : Sml g) : Con Tryz.prog 40 [.agg (flC f), .agg (flC g)] [] (Is (.val (.bool (decide (f = g)))) []) := by
 have hidsl := hS.ids
 have hqsl := hS.qs
 have hbsl := hS.bs
 have hpsl := hS.ps
 have hidsl2 := hT.ids
 have hpsl2 := hT.ps
 refine con_of Tryz.func40 rfl (enters_of Tryz.func40 (by kernel_rfl) rfl) rfl ?_; intro n w0 F0 G0
 refine zS ?_;repeat(refine yA ?_;intro p hp;refine zS ?_)
 rename_i pf hpf
 (first | (apply wl_call (sameInts8_con f.ids g.ids (by omega) (by omega)); exact rfl; exact rfl) | (apply wl_callR (sameInts8_con f.ids g.ids (by omega) (by omega)); exact rfl; exact zM; exact rfl))
 refine zS ?_;repeat(refine yA ?_;intro p hp;refine zS ?_)
 refine wl_part rfl rfl (fun g1 => ?_) (fun g1 => ?_)
 ·have hne : f ≠ g := by intro e; subst e; simp at g1
  refine zS ?_;repeat(refine yA ?_;intro p hp;refine zS ?_)
  (apply res1; exact rfl; exact rfl; exact ⟨(congrArg (fun b => AV.val (Value.bool b)) (by simp [hne])), rfl⟩)
 ·have e1 : f.ids = g.ids := by simpa using g1
  refine zS ?_;repeat(refine yA ?_;intro p hp;refine zS ?_)
  refine wl_part rfl rfl (fun g2 => ?_) (fun g2 => ?_)
  ·have hne : f ≠ g := by intro e; subst e; simp at g2
   refine zS ?_;repeat(refine yA ?_;intro p hp;refine zS ?_)
   (apply res1; exact rfl; exact rfl; exact ⟨(congrArg (fun b => AV.val (Value.bool b)) (by simp [hne])), rfl⟩)
  ·have e2 : f.qs.length = g.qs.length := by simp at g2; omega
   refine zS ?_;repeat(refine yA ?_;intro p hp;refine zS ?_)
   refine wl_part rfl rfl (fun g3 => ?_) (fun g3 => ?_)
   ·have hne : f ≠ g := by intro e; subst e; simp at g3
    refine zS ?_;repeat(refine yA ?_;intro p hp;refine zS ?_)
    (apply res1; exact rfl; exact rfl; exact ⟨(congrArg (fun b => AV.val (Value.bool b)) (by simp [hne])), rfl⟩)
   ·have e3 : f.bs.length = g.bs.length := by simp at g3; omega
    refine zS ?_;repeat(refine yA ?_;intro p hp;refine zS ?_)
    (first | (apply wl_call (samePays_con f.ps g.ps (by omega) (by omega)); exact rfl; exact rfl) | (apply wl_callR (samePays_con f.ps g.ps (by omega) (by omega)); exact rfl; exact zM; exact rfl))
    refine zS ?_;repeat(refine yA ?_;intro p hp;refine zS ?_)
    refine w_cond rfl (fun g4 => ?_) (fun g4 => ?_)
    ·have hne : f ≠ g := by intro e; subst e; simp at g4
     refine zS ?_;repeat(refine yA ?_;intro p hp;refine zS ?_)
     (apply res1; exact rfl; exact rfl; exact ⟨(congrArg (fun b => AV.val (Value.bool b)) (by simp [hne])), rfl⟩)
    ·have e4 : f.ps = g.ps := by simpa using g4
     refine zS ?_;repeat(refine yA ?_;intro p hp;refine zS ?_)
     refine W_loopJ (fun (k : Nat) => ⟨[(2, .val pf), (3, .val p), (5, .val (.int .i64 k))], [.box pf (flC f) 27, .box p (flC g) 27]⟩) (fun k => k ≤ f.qs.length ∧ f.qs.take k = g.qs.take k) (fun k => f.qs.length - k) 0 (fun _ _ st => st_sub2 st zR zP) ?hj0 ?round
     case hj0 => simp
     case round =>
      rintro k ⟨hk, hall⟩
      refine zS ?_;repeat(refine yA ?_;intro p hp;refine zS ?_)
      refine w_cond rfl (fun hlt => ?_) (fun hlt => ?_)
      ·have hlt' : k < f.qs.length := by simpa using hlt
       have hlt2 : k < g.qs.length := by omega
       have hq1 : f.qs[k]? = some f.qs[k] := List.getElem?_eq_getElem hlt'
       have hq2 : g.qs[k]? = some g.qs[k] := List.getElem?_eq_getElem hlt2
       refine zS ?_;repeat(refine yA ?_;intro p hp;refine zS ?_)
       refine W_run 10 [49, 50, 51, 52, 53, 54, 55, 56, 57, 58] [0, 1, 2, 3, 4, 5, 6, 7, 8, 9] Cut.nil rfl goFlt mixedS (by kernel_rfl) rfl ?_
       refine rpv [] [] ?_
       refine rpv [0] [] ?_
       refine rpv [] [] ?_
       refine rpv [1, 2] [] ?_
       refine rpv [3] [] ?_
       refine rpv [] [] ?_
       refine rpv [5] [] ?_
       refine rpv [] [] ?_
       refine rpv [6, 7] [] ?_
       refine rpv [8] [] ?_
       refine ⟨⟨by kernel_rfl, by kernel_rfl⟩, fun vs => ?_⟩
       refine WL_to [(2, .val pf), (3, .val p), (5, .val (.int .i64 k)), (53, .agg (quC f.qs[k])), (58, .agg (quC g.qs[k]))] [.box pf (flC f) 27, .box p (flC g) 27] (by kernel_rfl) (by kernel_rfl) ?_
       refine zS ?_;repeat(refine yA ?_;intro p hp;refine zS ?_)
       rw [quNe]
       refine w_cond rfl (fun hg => ?_) (fun hg => ?_)
       ·have hne : f ≠ g := by intro e; subst e; simp at hg
        refine zS ?_;repeat(refine yA ?_;intro p hp;refine zS ?_)
        (apply res1; exact rfl; exact rfl; exact ⟨(congrArg (fun b => AV.val (Value.bool b)) (by simp [hne])), rfl⟩)
       ·refine zS ?_;repeat(refine yA ?_;intro p hp;refine zS ?_)
        (refine ⟨k + 1, fun _ _ st => st_sub2 st ?_ ?_, ?_, ?_⟩; exact zR; exact zP)
        ·exact ⟨by omega, take_succ_eq hall hlt' hlt2 (by simpa using hg)⟩
        ·omega
      ·have e5 : f.qs = g.qs := take_all_eq hall (by simp at hlt; omega) (by simp at hlt; omega)
       refine zS ?_;repeat(refine yA ?_;intro p hp;refine zS ?_)
       refine W_loopJ (fun (k : Nat) => ⟨[(2, .val pf), (3, .val p), (6, .val (.int .i64 k))], [.box pf (flC f) 27, .box p (flC g) 27]⟩) (fun k => k ≤ f.bs.length ∧ f.bs.take k = g.bs.take k) (fun k => f.bs.length - k) 0 (fun _ _ st => st_sub2 st zR zP) ?hj0 ?round
       case hj0 => simp
       case round =>
        clear hlt hall hk k
        rintro k ⟨hk, hall⟩
        refine zS ?_;repeat(refine yA ?_;intro p hp;refine zS ?_)
        refine w_cond rfl (fun hlt => ?_) (fun hlt => ?_)
        ·have hlt' : k < f.bs.length := by simpa using hlt
         have hlt2 : k < g.bs.length := by omega
         have hq1 : f.bs[k]? = some f.bs[k] := List.getElem?_eq_getElem hlt'
         have hq2 : g.bs[k]? = some g.bs[k] := List.getElem?_eq_getElem hlt2
         have hsl1 := hS.st _ (List.getElem_mem hlt')
         have hsl2 := hT.st _ (List.getElem_mem hlt2)
         refine zS ?_;repeat(refine yA ?_;intro p hp;refine zS ?_)
         refine W_run 13 [67, 68, 69, 70, 71, 72, 73, 74, 75, 76, 7, 8, 1000012] [0, 1, 2, 3, 4, 5, 6, 7, 8, 9, 11, 12] Cut.nil rfl goFlt mixedS (by kernel_rfl) rfl ?_
         refine rpv [] [] ?_
         refine rpv [0] [] ?_
         refine rpv [] [] ?_
         refine rpv [1, 2] [] ?_
         refine rpv [3] [] ?_
         refine rpv [] [] ?_
         refine rpv [5] [] ?_
         refine rpv [] [] ?_
         refine rpv [6, 7] [] ?_
         refine rpv [8] [] ?_
         refine Run.tok [] [] rfl (fun vs => by apply ltr_pk; exact goPk; exact goLtr) goApp ?_
         refine Run.tok [] [] rfl (fun vs => by apply ltr_pk; exact goPk; exact goLtr) goApp ?_
         refine Run.fx [4, 10] [10] 10 (fun q => [.box q (biC f.bs[k]) 49]) rfl (fun vs => by apply ltr_pk; exact goPk; (refine ltr ?_; apply LT.fx; apply lt_store (av := .agg (biC f.bs[k])); (first | exact .inl rfl | exact .inr ⟨rfl, rfl⟩); exact rfl; exact rfl; exact (of_decide_eq_true rfl); exact rfl)) goApp ?_
         refine ⟨⟨by kernel_rfl, by kernel_rfl⟩, fun vs => ?_⟩
         refine WL_to [(2, .val pf), (3, .val p), (6, .val (.int .i64 k)), (7, .val (vs 10)), (8, .val (vs 11)), (76, .agg (biC g.bs[k]))] [.box (vs 11) [.val (.int .i64 0), .val (.int .i64 0), .val (.int .i64 0), .val (.slice none 0 0)] 49, .box (vs 10) (biC f.bs[k]) 49, .box pf (flC f) 27, .box p (flC g) 27] (by kernel_rfl) (by kernel_rfl) ?_
         generalize vs 10 = q1
         generalize vs 11 = q2
         refine zS ?_;repeat(refine yA ?_;intro p hp;refine zS ?_)
         refine zS ?_;repeat(refine yA ?_;intro p hp;refine zS ?_)
         refine wl_part rfl rfl (fun i1 => ?_) (fun i1 => ?_)
         ·have hne : f ≠ g := by intro e; subst e; simp at i1
          refine zS ?_;repeat(refine yA ?_;intro p hp;refine zS ?_)
          (apply res1; exact rfl; exact rfl; exact ⟨(congrArg (fun b => AV.val (Value.bool b)) (by simp [hne])), rfl⟩)
         ·have j1 : f.bs[k].no = g.bs[k].no := by simpa using i1
          refine zS ?_;repeat(refine yA ?_;intro p hp;refine zS ?_)
          refine wl_part rfl rfl (fun i2 => ?_) (fun i2 => ?_)
          ·have hne : f ≠ g := by intro e; subst e; simp at i2
           refine zS ?_;repeat(refine yA ?_;intro p hp;refine zS ?_)
           (apply res1; exact rfl; exact rfl; exact ⟨(congrArg (fun b => AV.val (Value.bool b)) (by simp [hne])), rfl⟩)
          ·have j2 : f.bs[k].py = g.bs[k].py := by simpa using i2
           refine zS ?_;repeat(refine yA ?_;intro p hp;refine zS ?_)
           refine wl_part rfl rfl (fun i3 => ?_) (fun i3 => ?_)
           ·have hne : f ≠ g := by intro e; subst e; simp at i3
            refine zS ?_;repeat(refine yA ?_;intro p hp;refine zS ?_)
            (apply res1; exact rfl; exact rfl; exact ⟨(congrArg (fun b => AV.val (Value.bool b)) (by simp [hne])), rfl⟩)
           ·have j3 : f.bs[k].pe = g.bs[k].pe := by simpa using i3
            refine zS ?_;repeat(refine yA ?_;intro p hp;refine zS ?_)
            refine w_cond rfl (fun i4 => ?_) (fun i4 => ?_)
            ·have hne : f ≠ g := by intro e; subst e; simp at i4
             refine zS ?_;repeat(refine yA ?_;intro p hp;refine zS ?_)
             (apply res1; exact rfl; exact rfl; exact ⟨(congrArg (fun b => AV.val (Value.bool b)) (by simp [hne])), rfl⟩)
            ·have j4 : f.bs[k].st.length = g.bs[k].st.length := by simp at i4; omega
             refine zS ?_;repeat(refine yA ?_;intro p hp;refine zS ?_)
             refine W_loopJ (fun (m : Nat) => ⟨[(2, .val pf), (3, .val p), (6, .val (.int .i64 k)), (7, .val q1), (8, .val q2), (9, .val (.int .i64 m))], [.box q1 (biC f.bs[k]) 49, .box q2 (biC g.bs[k]) 49, .box pf (flC f) 27, .box p (flC g) 27]⟩) (fun m => m ≤ f.bs[k].st.length ∧ f.bs[k].st.take m = g.bs[k].st.take m) (fun m => f.bs[k].st.length - m) 0 (fun _ _ st => st_sub2 st zR zP) ?hj0 ?round
             case hj0 => simp
             case round =>
              rintro m ⟨hm, hal⟩
              refine zS ?_;repeat(refine yA ?_;intro p hp;refine zS ?_)
              refine w_cond rfl (fun hlm => ?_) (fun hlm => ?_)
              ·have hlm' : m < f.bs[k].st.length := by simpa using hlm
               have hlm2 : m < g.bs[k].st.length := by omega
               have hp1 : f.bs[k].st[m]? = some f.bs[k].st[m] := List.getElem?_eq_getElem hlm'
               have hp2 : g.bs[k].st[m]? = some g.bs[k].st[m] := List.getElem?_eq_getElem hlm2
               refine zS ?_;repeat(refine yA ?_;intro p hp;refine zS ?_)
               refine W_run 10 [112, 113, 114, 115, 116, 117, 118, 119, 120, 121] [0, 1, 2, 3, 4, 5, 6, 7, 8, 9] Cut.nil rfl goFlt mixedS (by kernel_rfl) rfl ?_
               refine rpv [] [] ?_
               refine rpv [0] [] ?_
               refine rpv [] [] ?_
               refine rpv [1, 2] [] ?_
               refine rpv [3] [] ?_
               refine rpv [] [] ?_
               refine rpv [5] [] ?_
               refine rpv [] [] ?_
               refine rpv [6, 7] [] ?_
               refine rpv [8] [] ?_
               refine ⟨⟨by kernel_rfl, by kernel_rfl⟩, fun vs => ?_⟩
               refine WL_to [(2, .val pf), (3, .val p), (6, .val (.int .i64 k)), (7, .val q1), (8, .val q2), (9, .val (.int .i64 m)), (116, .agg (stC f.bs[k].st[m])), (121, .agg (stC g.bs[k].st[m]))] [.box q1 (biC f.bs[k]) 49, .box q2 (biC g.bs[k]) 49, .box pf (flC f) 27, .box p (flC g) 27] (by kernel_rfl) (by kernel_rfl) ?_
               refine zS ?_;repeat(refine yA ?_;intro p hp;refine zS ?_)
               rw [stNe]
               refine w_cond rfl (fun hg => ?_) (fun hg => ?_)
               ·have hne : f ≠ g := by intro e; subst e; simp at hg
                refine zS ?_;repeat(refine yA ?_;intro p hp;refine zS ?_)
                (apply res1; exact rfl; exact rfl; exact ⟨(congrArg (fun b => AV.val (Value.bool b)) (by simp [hne])), rfl⟩)
               ·refine zS ?_;repeat(refine yA ?_;intro p hp;refine zS ?_)
                (refine ⟨m + 1, fun _ _ st => st_sub2 st ?_ ?_, ?_, ?_⟩; exact zR; exact zP)
                ·exact ⟨by omega, take_succ_eq hal hlm' hlm2 (by simpa using hg)⟩
                ·omega
              ·have e6 : f.bs[k].st = g.bs[k].st := take_all_eq hal (by simp at hlm; omega) (by simp at hlm; omega)
               refine zS ?_;repeat(refine yA ?_;intro p hp;refine zS ?_)
               (refine ⟨k + 1, fun _ _ st => st_sub2 st ?_ ?_, ?_, ?_⟩; exact zR; exact zP)
               ·refine ⟨by omega, take_succ_eq hall hlt' hlt2 ?_⟩
                revert j1 j2 j3 e6
                generalize f.bs[k] = x
                generalize g.bs[k] = y
                intro j1 j2 j3 e6
                cases x; cases y; simp_all
               ·omega
        ·have e7 : f.bs = g.bs := take_all_eq hall (by simp at hlt; omega) (by simp at hlt; omega)
         have he : f = g := by cases f; cases g; simp_all
         refine zS ?_;repeat(refine yA ?_;intro p hp;refine zS ?_)
         (apply res1; exact rfl; exact rfl; exact ⟨(congrArg (fun b => AV.val (Value.bool b)) (by simp [he])), rfl⟩)
theorem isortQ_con (v : Value) (xs : List Qu) (k : FuncId) (caps : List AV) (cmp : Qu → Qu → Int) (hl : xs.length ≤ 100000) (hc : ∀ x y, Con Tryz.prog k ([.agg (quC x), .agg (quC y)] ++ caps) [] (Is (.val (.int .i64 (cmp x y))) [])) : Con Tryz.prog 151 [.val v, .val (.int .i64 0), .val (.int .i64 xs.length), .clo k caps] [.row v 87 2 quC xs] (Is (.tup []) [.row v 87 2 quC (srt (fun x y => decide (cmp x y < 0)) xs)]) := by
 generalize hlt0 : (fun x y => decide (cmp x y < 0)) = lt
 have hlt : ∀ x y, decide (cmp x y < 0) = lt x y := fun x y => by rw [← hlt0]
 refine con_of Tryz.func151 rfl (enters_of Tryz.func151 (by kernel_rfl) rfl) rfl ?_; intro n w0 F0 G0
 refine zS ?_
 refine W_loopJ (fun (i : Nat) => ⟨[(0, .val v), (1, .val (.int .i64 0)), (2, .val (.int .i64 xs.length)), (3, .clo k caps), (8, .val (.int .i64 i))], [.row v 87 2 quC (srt lt (xs.take i) ++ xs.drop i)]⟩) (fun i => 1 ≤ i ∧ (i ≤ xs.length ∨ i = 1)) (fun i => xs.length - i) 1 (fun _ _ st => st_sub2 st (by exact zR) (by rw [show srt lt (xs.take 1) ++ xs.drop 1 = xs from by cases xs <;> rfl]; exact zP)) ⟨Nat.le_refl _, .inr rfl⟩ ?_
 rintro i ⟨hi1, hi2⟩
 refine zS ?_
 refine w_cond rfl (fun hin => ?_) (fun hin => ?_)
 ·have hin' : i < xs.length := by simp at hin; omega
  have hpl : (srt lt (xs.take i)).length = i := by rw [srt_len, List.length_take]; omega
  have hnx : srt lt (xs.take (i + 1)) = insE lt (srt lt (xs.take i)) xs[i] := by rw [List.take_succ_eq_append_getElem hin', srt_snoc]
  have hdr : xs.drop i = xs[i] :: xs.drop (i + 1) := List.drop_eq_getElem_cons hin'
  have hsl : (xs.drop (i + 1)).length + i + 1 = xs.length := by rw [List.length_drop]; omega
  generalize srt lt (xs.take i) = pre at *
  generalize hsuf : xs.drop (i + 1) = suf at *
  generalize hx : xs[i] = x at *
  rw [hdr]
  refine zS ?_
  refine W_loopJ (fun (j : Nat) => ⟨[(0, .val v), (1, .val (.int .i64 0)), (2, .val (.int .i64 xs.length)), (3, .clo k caps), (8, .val (.int .i64 i)), (9, .val (.int .i64 j))], [.row v 87 2 quC (snk pre suf x j)]⟩) (fun j => j ≤ i ∧ insE lt pre x = insE lt (pre.take j) x ++ pre.drop j) (fun j => j) i (fun _ _ st => st_sub2 st (by exact zR) (by rw [show snk pre suf x i = pre ++ x :: suf from by rw [← hpl]; exact snk_full _ _ _]; exact zP)) ⟨Nat.le_refl _, by rw [← hpl]; simp⟩ ?_
  rintro j ⟨hj, hins⟩
  have hdl : (snk pre suf x j).length = xs.length := by rw [snk_len (by omega)]; omega
  have hq1 : (snk pre suf x j)[j]? = some x := snk_at (by omega)
  refine zS ?_
  cases j with
  | zero =>
   have hend : snk pre suf x 0 = insE lt pre x ++ suf := by rw [hins]; simp [snk, insE_nil]
   refine W_run 14 [18, 19, 20, 21, 22, 23, 24, 25, 26, 27, 28, 29, 30, 31] [0, 1, 2, 3, 4, 5, 6, 7, 8, 9, 10, 11, 12, 13] Cut.nil rfl goFlt mixedS (by kernel_rfl) rfl ?_
   refine rpv [] [] ?_
   refine rpv [] [] ?_
   refine Run.pv [0, 1] [] rfl (fun vs => by apply ltr_pk; exact goPk; (refine ltr ?_; apply LT_bool false; apply lt_gtr; exact rfl; exact rfl; simp)) goApp ?_
   refine rpv [2] [] ?_
   refine rno [3] ?_
   refine rno [3] ?_
   refine rno [3] ?_
   refine rno [3, 5, 6] ?_
   refine rno [3, 7] ?_
   refine rno [3] ?_
   refine rno [3] ?_
   refine rno [3, 10] ?_
   refine rno [3, 9, 11] ?_
   refine rno [3, 12] ?_
   refine ⟨⟨by kernel_rfl, by kernel_rfl⟩, fun vs => ?_⟩
   apply WL_auto [3, 4, 8, 13]
   ·exact goPk
   ·exact goNrm
   ·kernel_rfl
   ·kernel_rfl
   refine zS ?_
   refine ⟨i + 1, fun _ _ st => st_sub2 st ?_ ?_, ?_, ?_⟩
   ·exact zR
   ·rw [hnx, hsuf, ← hend]; exact zP
   ·omega
   ·omega
  | succ j =>
   have hjp : j < pre.length := by omega
   have hq2 : (snk pre suf x (j + 1))[j]? = some pre[j] := snk_before (by omega)
   have htk : pre.take (j + 1) = pre.take j ++ [pre[j]] := List.take_succ_eq_append_getElem hjp
   have hdp : pre.drop j = pre[j] :: pre.drop (j + 1) := List.drop_eq_getElem_cons hjp
   refine W_run 14 [18, 19, 20, 21, 22, 23, 24, 25, 26, 27, 28, 29, 30, 31] [0, 1, 2, 3, 4, 5, 6, 7, 8, 9, 10, 11, 12, 13] Cut.nil rfl goFlt mixedS (by kernel_rfl) rfl ?_
   refine rpv [] [] ?_
   refine rpv [] [] ?_
   refine Run.pv [0, 1] [] rfl (fun vs => by apply ltr_pk; exact goPk; (refine ltr ?_; apply LT_bool true; apply lt_gtr; exact rfl; exact rfl; (first | (simp; done) | (simp; omega)))) goApp ?_
   refine rpv [2] [] ?_
   refine ryv [3] ?_
   refine ryv [3] ?_
   refine ryv [3] ?_
   refine ryv [3, 5, 6] ?_
   refine ryv [3, 7] ?_
   refine ryv [3] ?_
   refine ryv [3] ?_
   refine ryx [3, 10] (fun vs => by apply ltr_pk; exact goPk; (refine ltr ?_; apply LT_int (j : Int); apply lt_sub; exact rfl; exact rfl; omega; omega; omega)) ?_
   refine ryv [3, 9, 11] ?_
   refine ryv [3, 12] ?_
   refine ⟨⟨by kernel_rfl, by kernel_rfl⟩, fun vs => ?_⟩
   apply WL_auto [3, 4, 8, 13]
   ·exact goPk
   ·exact goNrm
   ·kernel_rfl
   ·kernel_rfl
   refine zS ?_
   (apply wl_callV (hc x pre[j]); exact rfl; exact rfl; exact rfl)
   refine zS ?_
   rw [hlt]
   cases hb : lt x pre[j] with
   | false =>
    have hend : snk pre suf x (j + 1) = insE lt pre x ++ suf := by
     rw [hins, htk, insE_no hb, ← htk]; simp [snk]
    refine zS ?_
    refine ⟨i + 1, fun _ _ st => st_sub2 st ?_ ?_, ?_, ?_⟩
    ·exact zR
    ·rw [hnx, hsuf, ← hend]; exact zP
    ·omega
    ·omega
   | true =>
    have hins2 : insE lt pre x = insE lt (pre.take j) x ++ pre.drop j := by
     rw [hins, htk, insE_yes hb, hdp]; simp
    refine zS ?_
    refine W_run 16 [37, 38, 39, 40, 41, 42, 43, 44, 45, 46, 47, 48, 49, 50, 51, 1000015] [0, 1, 2, 3, 4, 5, 6, 7, 8, 9, 10, 11, 12, 13, 14, 15] (Cut.cons (h := HA.row v 87 2 quC (snk pre suf x (j + 1))) zN (Cut.nil)) rfl goFlt mixedS (by kernel_rfl) rfl ?_
    refine rpv [] [] ?_
    refine rpv [] [] ?_
    refine rpv [] [] ?_
    refine rpv [] [] ?_
    refine Run.pv [3] [] rfl (fun vs => by apply ltr_pk; exact goPk; (refine ltr ?_; apply LT_int (j : Int); apply lt_sub; exact rfl; exact rfl; omega; omega; omega)) goApp ?_
    refine rpv [] [] ?_
    refine rpv [] [] ?_
    refine Run.pv [6] [] rfl (fun vs => by apply ltr_pk; exact goPk; (refine ltr ?_; apply LT_int (j : Int); apply lt_sub; exact rfl; exact rfl; omega; omega; omega)) goApp ?_
    refine Run.rd [5, 7] [] [1000] rfl (fun vs => by apply ltr_pk; exact goPk; exact goLtr) goApp ?_
    refine Run.rd [8] [] [1000] rfl (fun vs => by apply ltr_pk; exact goPk; exact goLtr) goApp ?_
    refine rpv [] [] ?_
    refine rpv [] [] ?_
    refine Run.rd [10, 11] [] [1000] rfl (fun vs => by apply ltr_pk; exact goPk; exact goLtr) goApp ?_
    refine Run.rd [12] [] [1000] rfl (fun vs => by apply ltr_pk; exact goPk; exact goLtr) goApp ?_
    refine Run.rd [0, 1] [] [1000] rfl (fun vs => by apply ltr_pk; exact goPk; exact goLtr) goApp ?_
    refine Run.fx [9, 14] [1000] 14 (fun _ => [HA.row v 87 2 quC ((snk pre suf x (j + 1)).set (j + 1) pre[j])]) rfl (fun vs => by apply ltr_pk; exact goPk; (refine ltr ?_; refine LT.fx (lt_storeRN (n := 2) (f := quC) (xs := snk pre suf x (j + 1)) (k := j + 1) (x' := pre[j]) rfl rfl (by omega) rfl) rfl)) goApp ?_
    refine ⟨⟨by kernel_rfl, by kernel_rfl⟩, fun vs => ?_⟩
    apply WL_auto [2, 4, 13]
    ·exact goPk
    ·exact goNrm
    ·kernel_rfl
    ·kernel_rfl
    refine zS ?_
    apply wl_storeRNx x
    ·exact rfl
    ·exact zM
    ·exact rfl
    ·exact inferInstance
    ·exact inferInstance
    ·rw [List.length_set]; omega
    ·rfl
    rw [snk_swap (by omega)]
    refine zS ?_
    rw [show (((j + 1 : Nat) : Int) - 1) = (j : Int) by omega]
    refine ⟨j, fun _ _ st => st_sub2 st ?_ ?_, ?_, ?_⟩
    ·exact zR
    ·exact zP
    ·exact ⟨by omega, hins2⟩
    ·omega
 ·have hkk : xs.length ≤ i := by simp at hin; omega
  rw [List.take_of_length_le hkk, List.drop_of_length_le hkk, List.append_nil]
  refine zS ?_
  (apply resK0; exact rfl; exact ⟨rfl, rfl⟩; exact yC)
end Go.Proofs.YtihonljdanjfmaaGreatDoor.Sw
namespace Go.Proofs.YtihonljdanjfmaaGreatDoor.Sw
open Go.RowKit Go Go.Shelf Go.Proofs
open Go.Proofs.YtihonljdanjfmaaGreatDoor.Gr (payLt)
section
variable {P : Program} {rs : List (Nat × AV)} {d : Option Nat} {ty : TypeId} {pos : String} {af : Array Edge} {g : Option (Nat × Bool)}
end
section
variable {c : Cx} {rs : List (Nat × AV)} {hs : List HA} {Q : Exit → S → Prop} {ops : Array Oper} {tl : List Oper} {d : Nat} {ty : TypeId} {pos : String} {af : Array Edge}
end
end Go.Proofs.YtihonljdanjfmaaGreatDoor.Sw
namespace Go.Proofs.YtihonljdanjfmaaGreatDoor.Sw
open Go.RowKit Go
section
variable {P : Program} {rs : List (Nat × AV)} {d : Option Nat} {ty : TypeId} {pos : String} {af : Array Edge} {g : Option (Nat × Bool)}
end
section
variable {c : Cx} {rs : List (Nat × AV)} {hs r : List HA} {Q : Exit → S → Prop} {ops : Array Oper} {tl : List Oper} {d : Nat} {ty : TypeId} {pos : String} {af : Array Edge}
end
end Go.Proofs.YtihonljdanjfmaaGreatDoor.Sw
namespace Go.Proofs.YtihonljdanjfmaaGreatDoor.Sw
open Go.RowKit Go Go.Shelf Go.Proofs
theorem deleteQ_con (v : Value) (xs : List Qu) (i : Nat) (hi : i < xs.length) (hl : xs.length ≤ 100000) : Con Tryz.prog 94 [.val v, .val (.int .i64 i), .val (.int .i64 ((i : Int) + 1))] [.row v 87 2 quC xs] (Tok 87 2 quC (xs.take i ++ xs.drop (i + 1))) := by
 refine con_of Tryz.func94 rfl (enters_of Tryz.func94 (by kernel_rfl) rfl) rfl ?_; intro n w0 F0 G0
 refine zS ?_
 refine WL_openRow (v := v) (e := 87) (n := 2) (f := quC) (xs := xs) (by intro e; rw [e] at hi; simp at hi) (by exact zN) ?_
 intro b cap hv hnc hcm hlf
 subst hv
 (apply wl_slice3V (l := i) (h := i + 1) (m := xs.length); exact rfl; exact inferInstance; exact rfl; exact rfl; exact rfl; omega; omega; exact hnc; exact rfl)
 refine zS ?_
 refine w_cond rfl (fun g => ?_) (fun g => ?_)
 ·simp at g; omega
 ·refine zS ?_
  refine W_run 6 [20, 21, 22, 23, 24, 25] [0, 1, 2, 3, 4, 5] Cut.nil rfl goFlt mixedS (by kernel_rfl) rfl ?_
  refine rpv [] [] ?_
  refine rpv [] [] ?_
  refine Run.pv [0, 1] [] rfl (fun vs => by apply ltr_pk; exact goPk; (refine ltr ?_; refine LT_is _ (lt_sliceV (n := 2) (e := 87) (l := 0) (h := i) (li := 0) (len := xs.length) (cap := cap) (ad := some ⟨b, 0, none⟩) inferInstance rfl (.inr ⟨rfl, rfl⟩) rfl (.inl rfl) rfl (by omega) (by omega) hnc) toV)) goApp ?_
  refine rpv [] [] ?_
  refine rpv [] [] ?_
  refine Run.pv [3, 4] [] rfl (fun vs => by apply ltr_pk; exact goPk; (refine ltr ?_; refine LT_is _ (lt_sliceV (n := 2) (e := 87) (l := i + 1) (h := xs.length) (hi' := (xs.length : Int)) (len := xs.length) (cap := cap) (ad := some ⟨b, 0, none⟩) inferInstance rfl (.inl rfl) rfl (.inr ⟨rfl, rfl⟩) rfl (by omega) (by omega) hnc) fromV)) goApp ?_
  refine ⟨⟨by kernel_rfl, by kernel_rfl⟩, fun vs => ?_⟩
  apply WL_auto [2, 5]
  ·exact goPk
  ·exact goNrm
  ·kernel_rfl
  ·kernel_rfl
  skip
  (apply wl_moveV (n := 2) (j := i + 1) (m := xs.length - (i + 1)); exact rfl; exact rfl; exact zM; exact inferInstance; omega; (rw [lenL hlf]; congr 1; omega); omega; exact rfl)
  rw [(flat_take hlf i).1, (flat_take hlf (i + 1)).2, ← List.flatMap_append]
  have hxl : (xs.take i ++ xs.drop (i + 1)).length = i + (xs.length - (i + 1)) := by simp; omega
  refine zS ?_
  (apply wl_sliceV (l := i + (xs.length - (i + 1))) (h := xs.length); exact rfl; exact inferInstance; exact .inl rfl; exact rfl; exact .inl rfl; exact rfl; omega; omega; omega; exact rfl)
  rw [fromV]
  refine zS ?_
  (apply wl_clearV (n := 2) (j := i + (xs.length - (i + 1))) (m := xs.length - (i + (xs.length - (i + 1)))); exact rfl; exact zM; exact inferInstance; exact inferInstance; exact rfl; (intro u hu; simp at hu; subst hu; rfl); (rw [lenL (f := quC) (n := 2) (fun x hx => rfl), hxl]); omega)
  apply WL_shutRow (cap := cap) (b := b) (e := 87) (n := 2) (f := quC) (xs.take i ++ xs.drop (i + 1)) (fun x _ => rfl) (by omega) hcm
  ·exact zN
  rw [hxl]
  refine zS ?_
  (apply resK1; exact rfl; exact rfl; exact ⟨_, rfl, rfl⟩; exact yC)
theorem stableQ_con (v : Value) (xs : List Qu) (k : FuncId) (caps : List AV) (cmp : Qu → Qu → Int) (hl : xs.length < 20) (hc : ∀ x y, Con Tryz.prog k ([.agg (quC x), .agg (quC y)] ++ caps) [] (Is (.val (.int .i64 (cmp x y))) [])) : Con Tryz.prog 135 [.val v, .val (.int .i64 xs.length), .clo k caps] [.row v 87 2 quC xs] (Is (.tup []) [.row v 87 2 quC (srt (fun x y => decide (cmp x y < 0)) xs)]) := by
 refine con_of Tryz.func135 rfl (enters_of Tryz.func135 (by kernel_rfl) rfl) rfl ?_; intro n w0 F0 G0
 refine zS ?_
 refine W_rounds 1 (WR_step ?_)
 refine zS ?_
 refine w_cond rfl (fun g => ?_) (fun g => ?_)
 ·simp at g; omega
 ·refine zS ?_
  (apply wl_callP (isortQ_con v xs k caps cmp (by omega) hc); exact rfl; exact yC; exact rfl)
  rintro _ _ ⟨rfl, rfl⟩
  refine zS ?_
  refine W_rounds 1 (WR_step ?_)
  refine zS ?_
  refine w_cond rfl (fun g2 => ?_) (fun g2 => ?_)
  ·simp at g2; omega
  ·refine zS ?_
   (apply resK0; exact rfl; exact ⟨rfl, rfl⟩; exact yC)
theorem sortSQ_con (v : Value) (xs : List Qu) (k : FuncId) (caps : List AV) (cmp : Qu → Qu → Int) (hl : xs.length < 20) (hc : ∀ x y, Con Tryz.prog k ([.agg (quC x), .agg (quC y)] ++ caps) [] (Is (.val (.int .i64 (cmp x y))) [])) : Con Tryz.prog 91 [.val v, .clo k caps] [.row v 87 2 quC xs] (Is (.tup []) [.row v 87 2 quC (srt (fun x y => decide (cmp x y < 0)) xs)]) := by
 refine con_of Tryz.func91 rfl (enters_of Tryz.func91 (by kernel_rfl) rfl) rfl ?_; intro n w0 F0 G0
 refine zS ?_
 (apply wl_callP (stableQ_con v xs k caps cmp hl hc); exact rfl; exact yC; exact rfl)
 rintro _ _ ⟨rfl, rfl⟩
 refine zS ?_
 (apply resK0; exact rfl; exact ⟨rfl, rfl⟩; exact yC)
def qLtC (x y : Qu) : Bool := decide (quCmp x y < 0)
def splitR (f : Flo) (x : Qu) : Flo × Int :=
 if floOk f = true then (if floOk { f with qs := srt qLtC (f.qs ++ [x]) } = true then ({ f with qs := srt qLtC (f.qs ++ [x]) }, 0) else (floE, 83)) else (floE, 80)
theorem split_con (f : Flo) (x : Qu) (hS : Sml f) (hq : floOk f = true → f.qs.length ≤ 18) : Con Tryz.prog 45 [.agg (flC f), .agg (quC x)] [tab8] (FlP (splitR f x)) := by
 have C := check_con f hS
 cases hok : floOk f with
 | false =>
  rw [show errF f = 80 by unfold errF; rw [hok]; rfl] at C
  rw [show splitR f x = (floE, 80) by unfold splitR; rw [hok]; rfl]
  refine con_of Tryz.func45 rfl (enters_of Tryz.func45 (by kernel_rfl) rfl) rfl ?_; intro n w0 F0 G0
  refine zS ?_;repeat(refine yA ?_;intro p hp;refine zS ?_)
  (first | (apply wl_call (C); exact rfl; exact rfl) | (apply wl_callR (C); exact rfl; exact zM; exact rfl))
  refine zS ?_
  (refine Res_add _ floE_own ?_; apply resKN1; exact rfl; exact rfl; exact zM; exact inferInstance; exact rfl; exact rfl; exact flP_nil _; exact yC)
 | true =>
  rw [show errF f = 0 by unfold errF; rw [hok]; rfl] at C
  have hqsl := hq hok
  generalize hf' : ({ f with qs := srt qLtC (f.qs ++ [x]) } : Flo) = f'
  have hS' : Sml f' := by rw [← hf']; exact ⟨hS.ids, by show (srt qLtC (f.qs ++ [x])).length ≤ 1000; rw [srt_len]; simp; omega, hS.bs, hS.ps, hS.st⟩
  have hW : splitR f x = if floOk f' = true then (f', 0) else (floE, 83) := by unfold splitR; rw [if_pos hok, hf']
  rw [hW]
  refine con_of Tryz.func45 rfl (enters_of Tryz.func45 (by kernel_rfl) rfl) rfl ?_; intro n w0 F0 G0
  refine zS ?_;repeat(refine yA ?_;intro p hp;refine zS ?_)
  (first | (apply wl_call (C); exact rfl; exact rfl) | (apply wl_callR (C); exact rfl; exact zM; exact rfl))
  refine zS ?_
  (apply wl_callP (copied_con f hS); exact rfl; exact yC; exact rfl)
  rintro _ _ ⟨vi, vq, vb, vp, ⟨o1, o2, o3, o4⟩, rfl, rfl⟩
  apply WL_exs
  ·exact zN
  intro us
  apply WL_fact
  ·exact zN
  intro hus
  refine zS ?_
  (apply wl_litF quC; exact inferInstance; exact inferInstance; exact inferInstance; exact zE; exact rfl; (first | exact (of_decide_eq_true rfl) | decide | (simp; done) | (simp; omega)); exact rfl)
  (first | (apply wl_append; exact rfl; exact rfl; exact zN; exact inferInstance; exact inferInstance; (first | omega | (simp; omega)); exact rfl) | (apply wl_appendN; exact rfl; exact rfl; exact inferInstance; exact inferInstance; (first | omega | (simp; omega)); exact rfl))
  intro v'
  refine WL_one At.here (fun o5 => ?_)
  refine zS ?_
  (apply wl_callP (sortSQ_con v' (f.qs ++ [x]) 92 [] quCmp (by simp; omega) (fun x y => quarrels_con x y)); exact rfl; exact yC; exact rfl)
  rintro _ _ ⟨rfl, rfl⟩
  apply WL_mkFact hus
  apply WL_mkExs (h := fun us : List Value => [.fact (us.length = f.bs.length), .row vi 3 1 iC f.ids, .row v' 87 2 quC (srt (fun x y => decide (quCmp x y < 0)) (f.qs ++ [x])), .row vb 49 4 mbC (mixL f.bs us), .row vp 42 3 payC f.ps, .pack (stkR f.bs us)]) us
  ·exact yC
  rw [show HA.exs (fun us : List Value => [.fact (us.length = f.bs.length), .row vi 3 1 iC f.ids, .row v' 87 2 quC (srt (fun x y => decide (quCmp x y < 0)) (f.qs ++ [x])), .row vb 49 4 mbC (mixL f.bs us), .row vp 42 3 payC f.ps, .pack (stkR f.bs us)]) = floOwn vi v' vb vp f' from by rw [← hf']; rfl]
  refine zS ?_
  (apply wl_borrow 24 (flo_thaw vi v' vb vp f') (check_con f' hS'); exact rfl; exact rfl; exact yC; exact Pers.glob Pers.nil; exact rfl)
  refine zS ?_
  cases hok2 : floOk f' with
  | false =>
   rw [show errF f' = 80 by unfold errF; rw [hok2]; rfl]
   refine zS ?_
   rw [if_neg (by simp)]
   (refine Res_add _ floE_own ?_; apply resKN1; exact rfl; exact rfl; exact zM; exact inferInstance; exact rfl; exact rfl; exact flP_nil _; exact yC)
  | true =>
   rw [show errF f' = 0 by unfold errF; rw [hok2]; rfl]
   refine zS ?_
   rw [if_pos rfl]
   (apply resKN1; exact rfl; exact rfl; exact zM; exact inferInstance; exact rfl; exact rfl; exact ⟨vi, v', vb, vp, ⟨inferInstance, inferInstance, inferInstance, inferInstance⟩, rfl, rfl⟩; exact yC)
def mendR (f : Flo) (x : Qu) : Flo × Int :=
 if floOk f = true then (if ixQ f.qs x < 0 then (floE, 6) else ({ f with qs := f.qs.take (ixQ f.qs x).toNat ++ f.qs.drop ((ixQ f.qs x).toNat + 1) }, 0)) else (floE, 80)
theorem ixQ_lt {l : List Qu} {x : Qu} (h : ¬ ixQ l x < 0) : (ixQ l x).toNat < l.length := by
 unfold ixQ fiX at *
 split at h
 ·rename_i h2
  rw [if_pos h2]
  have := List.findIdx_lt_length_of_exists (List.any_eq_true.1 h2)
  omega
 ·omega
theorem mend_con (f : Flo) (x : Qu) (hS : Sml f) : Con Tryz.prog 46 [.agg (flC f), .agg (quC x)] [tab8] (FlP (mendR f x)) := by
 have C := check_con f hS
 have hqsl := hS.qs
 cases hok : floOk f with
 | false =>
  rw [show errF f = 80 by unfold errF; rw [hok]; rfl] at C
  rw [show mendR f x = (floE, 80) by unfold mendR; rw [hok]; rfl]
  refine con_of Tryz.func46 rfl (enters_of Tryz.func46 (by kernel_rfl) rfl) rfl ?_; intro n w0 F0 G0
  refine zS ?_;repeat(refine yA ?_;intro p hp;refine zS ?_)
  (first | (apply wl_call (C); exact rfl; exact rfl) | (apply wl_callR (C); exact rfl; exact zM; exact rfl))
  refine zS ?_
  (refine Res_add _ floE_own ?_; apply resKN1; exact rfl; exact rfl; exact zM; exact inferInstance; exact rfl; exact rfl; exact flP_nil _; exact yC)
 | true =>
  rw [show errF f = 0 by unfold errF; rw [hok]; rfl] at C
  refine con_of Tryz.func46 rfl (enters_of Tryz.func46 (by kernel_rfl) rfl) rfl ?_; intro n w0 F0 G0
  refine zS ?_;repeat(refine yA ?_;intro p hp;refine zS ?_)
  (first | (apply wl_call (C); exact rfl; exact rfl) | (apply wl_callR (C); exact rfl; exact zM; exact rfl))
  refine zS ?_
  (first | (apply wl_call (indexQ_con f.qs x (by omega)); exact rfl; exact rfl) | (apply wl_callR (indexQ_con f.qs x (by omega)); exact rfl; exact zM; exact rfl))
  refine zS ?_
  refine w_cond rfl (fun g => ?_) (fun g => ?_)
  ·rw [show mendR f x = (floE, 6) by unfold mendR; rw [if_pos hok, if_pos (by simpa using g)]]
   refine zS ?_
   (refine Res_add _ floE_own ?_; apply resKN1; exact rfl; exact rfl; exact zM; exact inferInstance; exact rfl; exact rfl; exact flP_nil _; exact yC)
  ·have hn : ¬ ixQ f.qs x < 0 := by simpa using g
   have hlt := ixQ_lt hn
   rw [show mendR f x = ({ f with qs := f.qs.take (ixQ f.qs x).toNat ++ f.qs.drop ((ixQ f.qs x).toNat + 1) }, 0) by unfold mendR; rw [if_pos hok, if_neg hn]]
   have hcast : ixQ f.qs x = (((ixQ f.qs x).toNat : Nat) : Int) := by omega
   generalize (ixQ f.qs x).toNat = i at *
   rw [hcast]
   generalize hf' : ({ f with qs := f.qs.take i ++ f.qs.drop (i + 1) } : Flo) = f'
   refine zS ?_
   (apply wl_callP (copied_con f hS); exact rfl; exact yC; exact rfl)
   rintro _ _ ⟨vi, vq, vb, vp, ⟨o1, o2, o3, o4⟩, rfl, rfl⟩
   apply WL_exs
   ·exact zN
   intro us
   apply WL_fact
   ·exact zN
   intro hus
   refine zS ?_
   (apply wl_callP (deleteQ_con vq f.qs i hlt (by omega)); exact rfl; exact yC; exact rfl)
   rintro _ _ ⟨v', rfl, rfl⟩
   refine WL_one At.here (fun o5 => ?_)
   apply WL_mkFact hus
   apply WL_mkExs (h := fun us : List Value => [.fact (us.length = f.bs.length), .row vi 3 1 iC f.ids, .row v' 87 2 quC (f.qs.take i ++ f.qs.drop (i + 1)), .row vb 49 4 mbC (mixL f.bs us), .row vp 42 3 payC f.ps, .pack (stkR f.bs us)]) us
   ·exact yC
   rw [show HA.exs (fun us : List Value => [.fact (us.length = f.bs.length), .row vi 3 1 iC f.ids, .row v' 87 2 quC (f.qs.take i ++ f.qs.drop (i + 1)), .row vb 49 4 mbC (mixL f.bs us), .row vp 42 3 payC f.ps, .pack (stkR f.bs us)]) = floOwn vi v' vb vp f' from by rw [← hf']; rfl]
   refine zS ?_
   (apply resKN1; exact rfl; exact rfl; exact zM; exact inferInstance; exact rfl; exact rfl; exact ⟨vi, v', vb, vp, ⟨inferInstance, inferInstance, inferInstance, inferInstance⟩, rfl, rfl⟩; exact yC)
end Go.Proofs.YtihonljdanjfmaaGreatDoor.Sw
namespace Go.Proofs.YtihonljdanjfmaaGreatDoor.Sw
open Go.RowKit Go
open Go.WideElems (Fit)
open Go.ChangeMaps (setBlock heap_setBlock_same heap_setBlock_other)
section
variable {P : Program} {κ α : Type} [DecidableEq κ] {t : TypeId} {kv : κ → Value} {ok : κ → Prop} {g : α → AV} {l : List (κ × α)} {G : Nat → Option Obj} {F : List Nat} {w : World} {v : Value}
variable {rs : List (Nat × AV)} {d : Option Nat} {ty : TypeId} {pos : String} {af : Array Edge} {gd : Option (Nat × Bool)}
end
section
variable {c : Cx} {rs : List (Nat × AV)} {hs : List HA} {Q : Exit → S → Prop} {ops : Array Oper} {tl : List Oper} {d : Nat} {ty : TypeId} {pos : String} {af : Array Edge} {κ α : Type} [DecidableEq κ] {t : TypeId} {kv : κ → Value} {ok : κ → Prop} {g : α → AV} {l : List (κ × α)} {v : Value}
end
end Go.Proofs.YtihonljdanjfmaaGreatDoor.Sw
namespace Go.Proofs.YtihonljdanjfmaaGreatDoor.Sw
open Go.RowKit Go Go.Shelf Go.Proofs
open Go.Proofs.YtihonljdanjfmaaGreatDoor.Gr (headsR hf mergeH hf_merge Lab lab_all Cl)
end Go.Proofs.YtihonljdanjfmaaGreatDoor.Sw
namespace Go.Proofs.YtihonljdanjfmaaGreatDoor.Sw
open Go.RowKit Go Go.Shelf Go.Proofs
def mend8R (f : Flo) (x : Qu) : Flo × Int :=
 if floOk f = true then (if (f.qs.filter (fun y => !decide (y = x))).length = f.qs.length then (floE, 6) else ({ f with qs := f.qs.filter (fun y => !decide (y = x)) }, 0)) else (floE, 80)
def atQ (l : List Qu) (x : Qu) : Nat := (l.takeWhile (fun y => qLt y x)).length
def insQ (l : List Qu) (x : Qu) : List Qu := l.take (atQ l x) ++ [x] ++ l.drop (atQ l x)
theorem insQ_len (l : List Qu) (x : Qu) : (insQ l x).length = l.length + 1 := by
 unfold insQ; simp only [List.length_append, List.length_take, List.length_drop, List.length_singleton]; omega
def split8R (f : Flo) (x : Qu) : Flo × Int :=
 if floOk f = true then (if floOk { f with qs := insQ f.qs x } = true then ({ f with qs := insQ f.qs x }, 0) else (floE, 83)) else (floE, 80)
end Go.Proofs.YtihonljdanjfmaaGreatDoor.Sw
namespace Go.Proofs.YtihonljdanjfmaaGreatDoor.Sw
open Go.RowKit Go
section
variable {P : Program} {rs : List (Nat × AV)} {d : Option Nat} {ty : TypeId} {pos : String} {af : Array Edge} {g : Option (Nat × Bool)}
theorem lt_rem {x y : Operand} {m n : Int} {t t' : TypeId} (hx : opv rs x = some (.val (.int .i64 m))) (hy : opv rs y = some (.val (.int .i64 n))) (h0 : 0 < n) (h1 : 0 ≤ m) (h2 : m ≤ 9223372036854775807) :
  LT P ⟨d, .binOp .rem t x y t', ty, pos, af, g⟩ rs [] (Is (.val (.int .i64 (m % n))) []) :=
 LT_val (fun _ e => by cases e) fun a w G hR _ => ⟨_, rfl, by
  have e1 : a.eval x = _ := opv_ok hR hx
  have e2 : a.eval y = _ := opv_ok hR hy
  have hq : m.tmod n = m % n := Int.tmod_eq_emod_of_nonneg h1
  have hr1 : 0 ≤ m % n := Int.emod_nonneg m (by omega)
  have hr2 : m % n < n := Int.emod_lt_of_pos m h0
  have hr3 : m % n ≤ m := by
   have e := Int.emod_add_mul_ediv m n
   have p := Int.mul_nonneg (show 0 ≤ n by omega) (Int.ediv_nonneg h1 (show 0 ≤ n by omega))
   generalize n * (m / n) = q at e p
   omega
  have hz : n ≠ 0 := by omega
  simp only [execOp, e1, e2]
  simp [go_sem, hz, hq, IntWalk.i64_in (m % n) (by omega)]⟩
theorem run_conv8 {s t : TypeId} (hs : P.underlying s = some (.int .u8)) (ht : P.underlying t = some (.int .i64)) {n : Int} (h : 0 ≤ n ∧ n ≤ 255) (w : World) : (convert s t (.int .u8 n)).run P w = .ok (.int .i64 n) w := by
 simp [convert, run_underlying hs, run_underlying ht, Conv.intToInt, IntWalk.i64_in n (by omega)]
end
theorem wl_rem {c : Cx} {rs : List (Nat × AV)} {hs : List HA} {Q : Exit → S → Prop} {ops : Array Oper} {tl : List Oper} {d : Nat} {ty : TypeId} {pos : String} {af : Array Edge} {x y : Operand} {m n : Int} {t t' : TypeId} (hx : opv rs x = some (.val (.int .i64 m))) (hy : opv rs y = some (.val (.int .i64 n))) (h0 : 0 < n) (h1 : 0 ≤ m) (h2 : m ≤ 9223372036854775807) (hd : Nat.blt d c.nt = true) (k : WL c ops tl ⟨(d, .val (.int .i64 (m % n))) :: rs, hs⟩ Q) : WL c ops (⟨some d, .binOp .rem t x y t', ty, pos, af, none⟩ :: tl) ⟨rs, hs⟩ Q := wl_ex (lt_rem hx hy h0 h1 h2) hd k
end Go.Proofs.YtihonljdanjfmaaGreatDoor.Sw
namespace Go.Proofs.YtihonljdanjfmaaGreatDoor.Sw
open Go.RowKit Go Go.Shelf Go.Proofs
theorem qLt_iff {x y : Qu} : qLt x y = true ↔ (x.a < y.a ∨ (x.a = y.a ∧ x.b < y.b)) := by simp [qLt]
theorem qLt_ff {x y : Qu} : qLt x y = false ↔ ¬ (x.a < y.a ∨ (x.a = y.a ∧ x.b < y.b)) := by rw [← qLt_iff]; simp
theorem qLtC_eq (x y : Qu) : qLtC x y = qLt x y := by
 have h := quCmp_ge x y
 unfold qLtC
 cases hq : qLt x y with
 | true =>
  rw [hq] at h
  have : ¬ 0 ≤ quCmp x y := of_decide_eq_false h
  exact decide_eq_true (by omega)
 | false =>
  rw [hq] at h
  have : 0 ≤ quCmp x y := of_decide_eq_true h
  exact decide_eq_false (by omega)
theorem qus_sorted {ids : List Int} : ∀ {l : List Qu} {prev : Option Qu}, qusOk ids prev l = true → (∀ p, prev = some p → ∀ q ∈ l, qLt p q = true) ∧ l.Pairwise (fun a b => qLt a b = true) ∧ ∀ q ∈ l, q.a ∈ ids ∧ q.b ∈ ids ∧ q.a < q.b
 | [], prev, _ => ⟨fun _ _ _ h => (by cases h), .nil, fun _ h => (by cases h)⟩
 | q :: t, prev, h => by
  rw [qusOk_cons] at h
  simp only [Bool.and_eq_true, decide_eq_true_eq] at h
  obtain ⟨⟨⟨⟨h1, h2⟩, h3⟩, h4⟩, h5⟩ := h
  obtain ⟨i1, i2, i3⟩ := qus_sorted h5
  refine ⟨fun p hp r hr => ?_, .cons (i1 q rfl) i2, fun r hr => ?_⟩
  ·subst hp
   have h4' : qLt p q = true := h4
   rcases List.mem_cons.1 hr with rfl | hr
   ·exact h4'
   ·have h6 := qLt_iff.1 (i1 q rfl r hr)
    have h7 := qLt_iff.1 h4'
    exact qLt_iff.2 (by omega)
  ·rcases List.mem_cons.1 hr with rfl | hr
   ·exact ⟨h1, h2, h3⟩
   ·exact i3 r hr
theorem flo_qs {f : Flo} (h : floOk f = true) : f.qs.Pairwise (fun a b => qLt a b = true) ∧ ∀ q ∈ f.qs, q.a ∈ f.ids ∧ q.b ∈ f.ids ∧ q.a < q.b := by
 simp only [floOk, Bool.and_eq_true, decide_eq_true_eq] at h
 exact (qus_sorted h.1.1.2).2
theorem qs_nodup {l : List Qu} (h : l.Pairwise (fun a b => qLt a b = true)) : l.Nodup := by
 refine h.imp fun {a b} hab e => ?_
 subst e
 have := qLt_iff.1 hab
 omega
theorem flatMap_len {α β : Type} (n : Nat) (g : α → List β) : ∀ l : List α, (∀ x ∈ l, (g x).length ≤ n) → (l.flatMap g).length ≤ l.length * n
 | [], _ => by simp
 | x :: t, h => by
  have h1 := h x (by simp)
  have h2 := flatMap_len n g t fun y hy => h y (by simp [hy])
  rw [List.flatMap_cons, List.length_append, List.length_cons, Nat.succ_mul]
  omega
theorem qs_le {f : Flo} (h : floOk f = true) : f.qs.length ≤ 18 := by
 obtain ⟨h1, h2⟩ := flo_qs h
 have hn := qs_nodup h1
 have hi := (flo_f h).ids
 have hs : (f.qs ++ f.qs.map (fun q => (⟨q.b, q.a⟩ : Qu))).length ≤ (f.ids.flatMap (fun a => f.ids.map (fun b => (⟨a, b⟩ : Qu)))).length := by
  refine sub_len ?_ ?_
  ·refine List.nodup_append.2 ⟨hn, ?_, ?_⟩
   ·exact List.Pairwise.map _ (fun a b hab e => hab (by cases a; cases b; simp only [Qu.mk.injEq] at e ⊢; exact ⟨e.2, e.1⟩)) hn
   ·intro a ha b hb e
    obtain ⟨c, hc, rfl⟩ := List.mem_map.1 hb
    have i1 := (h2 a ha).2.2
    have i2 := (h2 c hc).2.2
    subst e
    dsimp only at i1
    omega
  ·intro x hx
   rcases List.mem_append.1 hx with hx | hx
   ·have := h2 x hx
    exact List.mem_flatMap.2 ⟨x.a, this.1, List.mem_map.2 ⟨x.b, this.2.1, rfl⟩⟩
   ·obtain ⟨c, hc, rfl⟩ := List.mem_map.1 hx
    have := h2 c hc
    exact List.mem_flatMap.2 ⟨c.b, this.2.1, List.mem_map.2 ⟨c.a, this.1, rfl⟩⟩
 have hf := flatMap_len f.ids.length (fun a => f.ids.map (fun b => (⟨a, b⟩ : Qu))) f.ids (fun x _ => by rw [List.length_map]; exact Nat.le_refl _)
 have h6 : f.ids.length * f.ids.length ≤ 6 * 6 := Nat.mul_le_mul hi hi
 rw [List.length_append, List.length_map] at hs
 omega
theorem insE_end {α : Type} {lt : α → α → Bool} (x : α) (l : List α) (h : ∀ a ∈ l, lt x a = false) : insE lt l x = l ++ [x] := by
 rcases List.eq_nil_or_concat l with rfl | ⟨p, z, rfl⟩
 ·rfl
 ·rw [show p.concat z = p ++ [z] by simp] at *
  exact insE_no (h z (by simp))
theorem insE_over {α : Type} {lt : α → α → Bool} (x : α) (a : List α) : ∀ b : List α, (∀ y ∈ b, lt x y = true) → insE lt (a ++ b) x = insE lt a x ++ b := by
 intro b
 induction hn : b.length generalizing b with
 | zero => intro _; rw [List.length_eq_zero_iff.1 hn]; simp
 | succ n ih =>
  intro hb
  rcases List.eq_nil_or_concat b with rfl | ⟨p, z, rfl⟩
  ·simp at hn
  ·rw [show p.concat z = p ++ [z] by simp] at *
   rw [← List.append_assoc, insE_yes (hb z (by simp)), ih p (by simpa using hn) (fun y hy => hb y (by simp [hy])), List.append_assoc]
theorem srt_sorted {α : Type} {lt : α → α → Bool} : ∀ l : List α, l.Pairwise (fun a b => lt b a = false) → srt lt l = l := by
 intro l
 induction hn : l.length generalizing l with
 | zero => intro _; rw [List.length_eq_zero_iff.1 hn]; rfl
 | succ n ih =>
  intro hl
  rcases List.eq_nil_or_concat l with rfl | ⟨p, z, rfl⟩
  ·rfl
  ·rw [show p.concat z = p ++ [z] by simp] at *
   obtain ⟨h1, _, h3⟩ := List.pairwise_append.1 hl
   rw [srt_snoc, ih p (by simpa using hn) h1, insE_end z p fun a ha => h3 a ha z (by simp)]
theorem srt_ins {l : List Qu} (h : l.Pairwise (fun a b => qLt a b = true)) (x : Qu) : srt qLtC (l ++ [x]) = insQ l x := by
 have hs : srt qLtC l = l := srt_sorted l (h.imp fun {a b} hab => by rw [qLtC_eq]; have := qLt_iff.1 hab; exact qLt_ff.2 (by omega))
 rw [srt_snoc, hs]
 unfold insQ atQ
 have hsp := List.takeWhile_append_dropWhile (p := fun y => qLt y x) (l := l)
 have hA : ∀ a ∈ l.takeWhile (fun y => qLt y x), qLt a x = true := fun a ha => List.all_eq_true.1 List.all_takeWhile a ha
 have hB : ∀ z r, l.dropWhile (fun y => qLt y x) = z :: r → qLt z x = false := fun z r e => by
  have := List.head?_dropWhile_not (fun y => qLt y x) l
  rw [e] at this
  simpa using this
 generalize l.takeWhile (fun y => qLt y x) = A at hsp hA ⊢
 generalize l.dropWhile (fun y => qLt y x) = B at hsp hB
 subst hsp
 rw [List.take_left, List.drop_left]
 have hA2 : ∀ a ∈ A, qLtC x a = false := fun a ha => by rw [qLtC_eq]; have := qLt_iff.1 (hA a ha); exact qLt_ff.2 (by omega)
 obtain ⟨_, h2, _⟩ := List.pairwise_append.1 h
 cases B with
 | nil => rw [List.append_nil, insE_end x A hA2, List.append_nil]
 | cons z r =>
  have hz := hB z r rfl
  obtain ⟨h3, _⟩ := List.pairwise_cons.1 h2
  cases hxz : qLt x z with
  | true =>
   rw [insE_over x A (z :: r) (fun y hy => ?_), insE_end x A hA2]
   rw [qLtC_eq]
   rcases List.mem_cons.1 hy with rfl | hy
   ·exact hxz
   ·have i1 := qLt_iff.1 hxz
    have i2 := qLt_iff.1 (h3 y hy)
    exact qLt_iff.2 (by omega)
  | false =>
   have he : z = x := by
    have i1 := qLt_ff.1 hxz
    have i2 := qLt_ff.1 hz
    cases z; cases x
    simp only at i1 i2
    rw [Qu.mk.injEq]; omega
   subst he
   rw [show A ++ z :: r = (A ++ [z]) ++ r by simp, insE_over z (A ++ [z]) r (fun y hy => by rw [qLtC_eq]; exact h3 y hy), insE_end z (A ++ [z]) (fun a ha => ?_)]
   ·simp
   ·rcases List.mem_append.1 ha with ha | ha
    ·exact hA2 a ha
    ·rw [List.mem_singleton.1 ha, qLtC_eq]; exact hz
theorem split_eq (f : Flo) (x : Qu) : splitR f x = split8R f x := by
 unfold splitR split8R
 cases h : floOk f with
 | false => rfl
 | true => rw [srt_ins (flo_qs h).1]
theorem mend_eq (f : Flo) (x : Qu) : mendR f x = mend8R f x := by
 unfold mendR mend8R
 cases h : floOk f with
 | false => rfl
 | true =>
  rw [if_pos rfl, if_pos rfl]
  have hn := qs_nodup (flo_qs h).1
  unfold ixQ
  cases ha : f.qs.any (fun y => decide (x = y)) with
  | false =>
   rw [fiX_none ha, if_pos (by omega), if_pos]
   rw [List.filter_eq_self.2]
   intro y hy
   have := List.any_eq_false.1 ha y hy
   simp at this
   simp; exact fun e => this e.symm
  | true =>
   have hlt : f.qs.findIdx (fun y => decide (x = y)) < f.qs.length := List.findIdx_lt_length_of_exists (List.any_eq_true.1 ha)
   have hget : decide (x = f.qs[f.qs.findIdx (fun y => decide (x = y))]) = true := List.findIdx_getElem (w := hlt)
   have hfx : fiX (fun y => decide (x = y)) f.qs = (f.qs.findIdx (fun y => decide (x = y)) : Nat) := by unfold fiX; rw [if_pos ha]
   rw [hfx]
   generalize f.qs.findIdx (fun y => decide (x = y)) = i at *
   have hx := of_decide_eq_true hget
   have hsp : f.qs = f.qs.take i ++ x :: f.qs.drop (i + 1) := by
    rw [hx, ← List.drop_eq_getElem_cons hlt, List.take_append_drop]
   have hflt : f.qs.filter (fun y => !decide (y = x)) = f.qs.take i ++ f.qs.drop (i + 1) := by
    rw [hsp] at hn
    obtain ⟨_, n2, n3⟩ := List.nodup_append.1 hn
    obtain ⟨n4, _⟩ := List.nodup_cons.1 n2
    conv => lhs; rw [hsp]
    rw [List.filter_append, List.filter_cons, if_neg (by simp), List.filter_eq_self.2 (fun y hy => ?_), List.filter_eq_self.2 (fun y hy => ?_)]
    ·simp; exact fun e => n4 (e ▸ hy)
    ·simp; exact fun e => n3 y hy x (by simp) e
   rw [if_neg (by omega), if_neg (by rw [hflt]; simp only [List.length_append, List.length_take, List.length_drop]; omega), hflt, Int.toNat_natCast]
theorem flP_frz {P : Program} {k : FuncId} {args : List AV} {pre : List HA} {r : Flo × Int} (hc : Con P k args pre (FlP r)) : Con P k args pre (Is (.tup [.agg (flC r.1), .val (.int .i64 r.2)]) [tab8]) :=
 hc.frz (a := fun i : Value × Value × Value × Value => .tup [.agg [.val i.1, .val i.2.1, .val i.2.2.1, .val i.2.2.2], .val (.int .i64 r.2)]) (h := fun i => floOwn i.1 i.2.1 i.2.2.1 i.2.2.2 r.1)
  (fun x y ⟨vi, vq, vb, vp, _, e1, e2⟩ => ⟨(vi, vq, vb, vp), e1, e2⟩) fun i => thaw_tup (flo_thaw _ _ _ _ _)
theorem u8_ok {n : Int} (h : (Lit.int .u8 n).wf = true) : 0 ≤ n ∧ n ≤ 255 := by
 simp only [Lit.wf, IntKind.min, IntKind.max, IntKind.signed, IntKind.bits, Bool.and_eq_true, decide_eq_true_eq] at h
 simp at h
 omega
end Go.Proofs.YtihonljdanjfmaaGreatDoor.Sw
namespace Go.Proofs.YtihonljdanjfmaaGreatDoor.Sw
open Go.RowKit Go Go.Shelf Go.Proofs
open Go.Proofs.YtihonljdanjfmaaGreatDoor.Gr (treeR pick sub_pick pick_sub)
theorem qus_of {ids : List Int} : ∀ {l : List Qu} {prev : Option Qu}, (∀ q ∈ l, q.a ∈ ids ∧ q.b ∈ ids ∧ q.a < q.b) → l.Pairwise (fun a b => qLt a b = true) → (∀ p, prev = some p → ∀ q ∈ l, qLt p q = true) → qusOk ids prev l = true
 | [], _, _, _, _ => rfl
 | q :: t, prev, h1, h2, h3 => by
  obtain ⟨k1, k2⟩ := List.pairwise_cons.1 h2
  have hq := h1 q (by simp)
  have ih := qus_of (l := t) (prev := some q) (fun r hr => h1 r (by simp [hr])) k2 (fun p hp r hr => by cases hp; exact k1 r hr)
  rw [qusOk_cons, ih]
  have hp : okPrev prev q = true := by
   unfold okPrev
   cases prev with
   | none => rfl
   | some p => exact h3 p rfl q (by simp)
  simp [hq.1, hq.2.1, hq.2.2, hp]
theorem ok_qs {f : Flo} (h : floOk f = true) {l : List Qu} (hq : qusOk f.ids none l = true) : floOk { f with qs := l } = true := by
 rw [floOk_of] at h ⊢
 simp only [Bool.and_eq_true] at h ⊢
 exact ⟨⟨⟨h.1.1.1, hq⟩, h.1.2⟩, h.2⟩
theorem qLt_trans {x y z : Qu} (h : qLt x y = true) (k : qLt y z = true) : qLt x z = true := by
 have := qLt_iff.1 h
 have := qLt_iff.1 k
 exact qLt_iff.2 (by omega)
theorem qLt_not {x y : Qu} (h : qLt x y = false) (hne : x ≠ y) : qLt y x = true := by
 have := qLt_ff.1 h
 refine qLt_iff.2 ?_
 cases x; cases y
 simp only [ne_eq, Qu.mk.injEq] at *
 omega
theorem insQ_new {l : List Qu} (h : l.Pairwise (fun a b => qLt a b = true)) {x : Qu} (hx : x ∉ l) : (insQ l x).Pairwise (fun a b => qLt a b = true) := by
 unfold insQ atQ
 have hsp := List.takeWhile_append_dropWhile (p := fun y => qLt y x) (l := l)
 have hA : ∀ a ∈ l.takeWhile (fun y => qLt y x), qLt a x = true := fun a ha => List.all_eq_true.1 List.all_takeWhile a ha
 have hB : ∀ z r, l.dropWhile (fun y => qLt y x) = z :: r → qLt z x = false := fun z r e => by
  have := List.head?_dropWhile_not (fun y => qLt y x) l
  rw [e] at this
  simpa using this
 generalize l.takeWhile (fun y => qLt y x) = A at hsp hA ⊢
 generalize l.dropWhile (fun y => qLt y x) = B at hsp hB
 subst hsp
 rw [List.take_left, List.drop_left]
 obtain ⟨h1, h2, h3⟩ := List.pairwise_append.1 h
 have hxB : ∀ b ∈ B, qLt x b = true := by
  cases B with
  | nil => intro b hb; cases hb
  | cons z r =>
   have hz := qLt_not (hB z r rfl) (fun e => hx (by rw [← e]; simp))
   intro b hb
   rcases List.mem_cons.1 hb with rfl | hb
   ·exact hz
   ·exact qLt_trans hz ((List.pairwise_cons.1 h2).1 b hb)
 rw [List.append_assoc]
 refine List.pairwise_append.2 ⟨h1, List.pairwise_cons.2 ⟨hxB, h2⟩, fun a ha b hb => ?_⟩
 rcases List.mem_cons.1 hb with rfl | hb
 ·exact hA a ha
 ·exact h3 a ha b hb
theorem insQ_mem {l : List Qu} {x y : Qu} : y ∈ insQ l x ↔ y = x ∨ y ∈ l := by
 have e : l.take (atQ l x) ++ l.drop (atQ l x) = l := List.take_append_drop _ _
 unfold insQ
 conv => rhs; rw [← e]
 simp only [List.mem_append, List.mem_singleton]
 constructor
 ·rintro ((h | h) | h)
  ·exact .inr (.inl h)
  ·exact .inl h
  ·exact .inr (.inr h)
 ·rintro (h | h | h)
  ·exact .inl (.inr h)
  ·exact .inl (.inl h)
  ·exact .inr h
theorem insQ_back {l : List Qu} {x : Qu} (hx : x ∉ l) : (insQ l x).filter (fun y => !decide (y = x)) = l := by
 have hk : ∀ m : List Qu, (∀ y ∈ m, y ∈ l) → m.filter (fun y => !decide (y = x)) = m := fun m hm => List.filter_eq_self.2 fun y hy => by
  have : y ≠ x := fun e => hx (e ▸ hm y hy)
  simp [this]
 unfold insQ
 rw [List.filter_append, List.filter_append, hk _ fun y hy => List.mem_of_mem_take hy, hk _ fun y hy => List.mem_of_mem_drop hy]
 simp
theorem insQ_again {l : List Qu} (h : l.Pairwise (fun a b => qLt a b = true)) {x : Qu} (hx : x ∈ l) : insQ (l.filter (fun y => !decide (y = x))) x = l := by
 obtain ⟨A, B, rfl⟩ := List.append_of_mem hx
 obtain ⟨_, h2, h3⟩ := List.pairwise_append.1 h
 have hA : ∀ a ∈ A, qLt a x = true := fun a ha => h3 a ha x (by simp)
 have hB := (List.pairwise_cons.1 h2).1
 have hne : ∀ y, qLt y y = false := fun y => qLt_ff.2 (by omega)
 have fA : A.filter (fun y => !decide (y = x)) = A := List.filter_eq_self.2 fun y hy => by
  have : y ≠ x := fun e => by have := hA y hy; rw [e, hne] at this; cases this
  simp [this]
 have fB : B.filter (fun y => !decide (y = x)) = B := List.filter_eq_self.2 fun y hy => by
  have : y ≠ x := fun e => by have := hB y hy; rw [e, hne] at this; cases this
  simp [this]
 rw [List.filter_append, List.filter_cons_of_neg (by simp), fA, fB]
 have ht : (A ++ B).takeWhile (fun y => qLt y x) = A := by
  rw [List.takeWhile_append_of_pos hA]
  cases B with
  | nil => simp
  | cons z r =>
   rw [List.takeWhile_cons_of_neg, List.append_nil]
   have := qLt_iff.1 (hB z (by simp))
   have := qLt_ff (x := z) (y := x) |>.2 (by omega)
   simp [this]
 unfold insQ atQ
 rw [ht, List.take_left, List.drop_left]
 simp
theorem speak_in {qs : List Qu} {a b : Int} (h : a < b) : speakR qs a b = !decide ((⟨a, b⟩ : Qu) ∈ qs) := by
 unfold speakR
 have e : qs.any (hits a b) = decide ((⟨a, b⟩ : Qu) ∈ qs) := by
  refine Bool.eq_iff_iff.2 ?_
  rw [List.any_eq_true, decide_eq_true_iff]
  constructor
  ·rintro ⟨q, hq, hh⟩
   unfold hits at hh
   simp only [Bool.and_eq_true, decide_eq_true_eq] at hh
   have : q = ⟨a, b⟩ := by cases q; simp only [Qu.mk.injEq] at *; omega
   exact this ▸ hq
  ·intro hq
   refine ⟨_, hq, ?_⟩
   unfold hits
   simp only [Bool.and_eq_true, decide_eq_true_eq]
   omega
 rw [e, decide_eq_true (show a ≠ b by omega), Bool.and_true]
theorem split_new {f : Flo} (h : floOk f = true) {q : Qu} (hm : q.a ∈ f.ids ∧ q.b ∈ f.ids ∧ q.a < q.b) (hq : q ∉ f.qs) : splitR f q = ({ f with qs := insQ f.qs q }, 0) ∧ floOk { f with qs := insQ f.qs q } = true := by
 obtain ⟨h1, h2⟩ := flo_qs h
 have hok : floOk { f with qs := insQ f.qs q } = true := ok_qs h (qus_of (fun r hr => by
  rcases insQ_mem.1 hr with rfl | hr
  ·exact hm
  ·exact h2 r hr) (insQ_new h1 hq) (fun p hp => by cases hp))
 rw [split_eq]
 unfold split8R
 rw [if_pos h, if_pos hok]
 exact ⟨rfl, hok⟩
theorem mend_back {f : Flo} {q : Qu} (hok : floOk { f with qs := insQ f.qs q } = true) (hq : q ∉ f.qs) : mendR { f with qs := insQ f.qs q } q = (f, 0) := by
 rw [mend_eq]
 unfold mend8R
 rw [if_pos hok]
 dsimp only
 rw [insQ_back hq, if_neg (by rw [insQ_len]; omega)]
theorem split_old {f : Flo} (h : floOk f = true) {q : Qu} (hq : q ∈ f.qs) : splitR f q = (floE, 83) := by
 have hno : floOk { f with qs := insQ f.qs q } = false := by
  cases hk : floOk { f with qs := insQ f.qs q } with
  | false => rfl
  | true =>
   exfalso
   have hn := qs_nodup (flo_qs hk).1
   have hn' : (insQ f.qs q).Nodup := hn
   unfold insQ at hn'
   rw [List.append_assoc] at hn'
   obtain ⟨_, n2, n3⟩ := List.nodup_append.1 hn'
   rw [← List.take_append_drop (atQ f.qs q) f.qs] at hq
   rcases List.mem_append.1 hq with hq | hq
   ·exact n3 q hq q (by simp) rfl
   ·exact (List.nodup_cons.1 n2).1 hq
 rw [split_eq]
 unfold split8R
 rw [if_pos h, if_neg (by rw [hno]; simp)]
theorem mend_old {f : Flo} (h : floOk f = true) {q : Qu} (hq : q ∈ f.qs) : ∃ back, mendR f q = (back, 0) ∧ floOk back = true ∧ back.qs.length ≤ f.qs.length ∧ back.ids = f.ids ∧ back.bs = f.bs ∧ back.ps = f.ps ∧ splitR back q = (f, 0) := by
 obtain ⟨h1, h2⟩ := flo_qs h
 have hsub := List.filter_sublist (p := fun y => !decide (y = q)) (l := f.qs)
 have hok : floOk { f with qs := f.qs.filter (fun y => !decide (y = q)) } = true := ok_qs h (qus_of (fun r hr => h2 r (hsub.subset hr)) (h1.sublist hsub) (fun p hp => by cases hp))
 refine ⟨{ f with qs := f.qs.filter (fun y => !decide (y = q)) }, ?_, hok, hsub.length_le, rfl, rfl, rfl, ?_⟩
 ·rw [mend_eq]
  unfold mend8R
  rw [if_pos h, if_neg]
  intro hl
  have he := hsub.eq_of_length hl
  rw [← he] at hq
  have := (List.mem_filter.1 hq).2
  simp at this
 ·rw [split_eq]
  unfold split8R
  rw [if_pos hok]
  dsimp only
  rw [insQ_again h1 hq, if_pos h]
theorem filter_imp {α : Type} {p q : α → Bool} (h : ∀ x, p x = true → q x = true) : ∀ l : List α, (l.filter p).Sublist (l.filter q)
 | [] => .slnil
 | x :: t => by
  have ih := filter_imp h t
  by_cases hp : p x = true
  ·rw [List.filter_cons_of_pos hp, List.filter_cons_of_pos (h x hp)]; exact ih.cons_cons x
  ·rw [List.filter_cons_of_neg hp]
   by_cases hq : q x = true
   ·rw [List.filter_cons_of_pos hq]; exact ih.cons x
   ·rw [List.filter_cons_of_neg hq]; exact ih
theorem prR_sub {sp sp' : Nat → Nat → Bool} (h : ∀ a b, sp' a b = true → sp a b = true) (n : Nat) : ∀ i, (prR sp' n i).Sublist (prR sp n i)
 | 0 => .slnil
 | i + 1 => by
  rw [prR, prR]
  exact (prR_sub h n i).append ((filter_imp (fun x => h i x) _).map _)
theorem allR_sub {f g : Flo} (hi : g.ids = f.ids) (ho : owed8 g = owed8 f) (hs : ∀ a b, spk g a b = true → spk f a b = true) {k : Nat} {l : List Pay} (h : l ∈ allR g k) : l ∈ allR f k := by
 unfold allR allTo at h ⊢
 rw [hi, ho] at h
 obtain ⟨s, _, hs2⟩ := List.mem_filterMap.1 h
 obtain ⟨t, ht, e⟩ := sub_pick ((pick_sub (prR (spk g) f.ids.length f.ids.length) s).trans (prR_sub hs f.ids.length f.ids.length))
 refine List.mem_filterMap.2 ⟨t, List.mem_range.2 ht, ?_⟩
 rw [e]; exact hs2
theorem few_first {α : Type} {g : Nat → List α} : ∀ {m : Nat}, fewTo g m ≠ [] → ∃ k, k < m ∧ fewTo g m = g k ∧ ∀ j, j < k → g j = []
 | 0, h => absurd rfl h
 | m + 1, h => by
  rw [fewTo] at h ⊢
  by_cases he : (fewTo g m).isEmpty = true
  ·rw [if_pos he] at h ⊢
   refine ⟨m, by omega, rfl, fun j hj => ?_⟩
   cases hg : g j with
   | nil => rfl
   | cons x t =>
    exfalso
    have : ∀ m, j < m → fewTo g m ≠ [] := by
     intro m hm
     induction m with
     | zero => omega
     | succ m ih =>
      rw [fewTo]
      by_cases hj2 : j < m
      ·have := ih hj2
       rw [if_neg (by cases hq : fewTo g m with | nil => exact absurd hq this | cons a b => simp)]
       exact this
      ·have hjm : j = m := by omega
       subst hjm
       split
       ·rw [hg]; simp
       ·rename_i h2; intro e; rw [e] at h2; exact h2 rfl
    exact this m hj (List.isEmpty_iff.1 he)
  ·rw [if_neg he] at h ⊢
   obtain ⟨k, hk, e, h3⟩ := few_first h
   exact ⟨k, by omega, e, h3⟩
theorem few_some {α : Type} {g : Nat → List α} {j : Nat} (hj : g j ≠ []) : ∀ {m : Nat}, j < m → fewTo g m ≠ []
 | m + 1, hm => by
  rw [fewTo]
  by_cases hj2 : j < m
  ·have := few_some hj hj2
   rw [if_neg (by cases hq : fewTo g m with | nil => exact absurd hq this | cons a b => simp)]
   exact this
  ·have hjm : j = m := by omega
   subst hjm
   split
   ·exact hj
   ·rename_i h2; intro e; rw [e] at h2; exact h2 rfl
theorem chS_all : ∀ {xs : List (List Pay)} {c : Int}, (∀ l ∈ xs, 0 ≤ sumPay l) → (xs.foldl chS c = c ∨ ∃ l ∈ xs, xs.foldl chS c = sumPay l) ∧ (0 ≤ c → xs.foldl chS c ≤ c) ∧ (∀ l ∈ xs, xs.foldl chS c ≤ sumPay l) ∧ (0 ≤ c → 0 ≤ xs.foldl chS c)
 | [], c, _ => ⟨.inl rfl, fun _ => Int.le_refl _, fun _ h => (by cases h), fun h => h⟩
 | x :: t, c, h => by
  have hx := h x (by simp)
  have ht : ∀ l ∈ t, 0 ≤ sumPay l := fun l hl => h l (by simp [hl])
  rw [List.foldl_cons]
  have hc : 0 ≤ chS c x ∧ chS c x ≤ sumPay x ∧ (0 ≤ c → chS c x ≤ c) ∧ (chS c x = c ∨ chS c x = sumPay x) := by
   unfold chS
   split
   ·exact ⟨hx, Int.le_refl _, fun _ => by omega, .inr rfl⟩
   ·exact ⟨by omega, by omega, fun _ => Int.le_refl _, .inl rfl⟩
  obtain ⟨k1, k2, k3, k4⟩ := chS_all (c := chS c x) ht
  refine ⟨?_, fun h0 => by have := k2 hc.1; have := hc.2.2.1 h0; omega, fun l hl => ?_, fun _ => k4 hc.1⟩
  ·rcases k1 with k1 | ⟨l, hl, k1⟩
   ·rcases hc.2.2.2 with h1 | h1
    ·exact .inl (k1.trans h1)
    ·exact .inr ⟨x, by simp, k1.trans h1⟩
   ·exact .inr ⟨l, by simp [hl], k1⟩
  ·rcases List.mem_cons.1 hl with rfl | hl
   ·have := k2 hc.1; omega
   ·exact k3 l hl
theorem chTo_min {g : Nat → List (List Pay)} : ∀ {m : Nat}, (∀ j, j < m → ∀ l ∈ g j, 0 ≤ sumPay l) → ((chTo g m = -1 ∧ ∀ j, j < m → g j = []) ∨ (0 ≤ chTo g m ∧ ∃ j, j < m ∧ ∃ l ∈ g j, chTo g m = sumPay l)) ∧ ∀ j, j < m → ∀ l ∈ g j, chTo g m ≤ sumPay l
 | 0, _ => ⟨.inl ⟨rfl, fun j hj => by omega⟩, fun j hj => by omega⟩
 | m + 1, h => by
  obtain ⟨k1, k2⟩ := chTo_min (m := m) fun j hj => h j (by omega)
  have hc : chTo g (m + 1) = (g m).foldl chS (chTo g m) := rfl
  rw [hc]
  obtain ⟨c1, c2, c3, c4⟩ := chS_all (xs := g m) (c := chTo g m) (h m (by omega))
  constructor
  ·rcases k1 with ⟨k1, k3⟩ | ⟨k1, j, hj, l, hl, k3⟩
   ·cases hg : g m with
    | nil =>
     refine .inl ⟨by simpa using k1, fun j hj => ?_⟩
     by_cases e : j = m
     ·rw [e, hg]
     ·exact k3 j (by omega)
    | cons x t =>
     rw [hg] at c1 c3
     refine .inr ?_
     rcases c1 with c1 | ⟨l, hl, c1⟩
     ·exfalso
      have hx : x ∈ g m := by rw [hg]; simp
      have h0 := h m (by omega) x hx
      have : chS (-1) x = sumPay x := by unfold chS; rw [if_pos (by omega)]
      rw [k1, List.foldl_cons, this] at c1
      have := (chS_all (xs := t) (c := sumPay x) fun l hl => h m (by omega) l (by rw [hg]; simp [hl])).2.2.2 h0
      omega
     ·refine ⟨?_, m, by omega, l, by rw [hg]; exact hl, c1⟩
      rw [c1]; exact h m (by omega) l (by rw [hg]; exact hl)
   ·refine .inr ⟨c4 k1, ?_⟩
    rcases c1 with c1 | ⟨l', hl', c1⟩
    ·exact ⟨j, by omega, l, hl, c1.trans k3⟩
    ·exact ⟨m, by omega, l', hl', c1⟩
  ·intro j hj l hl
   by_cases e : j = m
   ·subst e; exact c3 l hl
   ·have h1 := k2 j (by omega) l hl
    rcases k1 with ⟨_, k3⟩ | ⟨k1, _⟩
    ·rw [k3 j (by omega)] at hl; cases hl
    ·have := c2 k1; omega
theorem sumPay_nn1 {l : List Pay} (h : ∀ x ∈ l, 1 ≤ x.p) : 0 ≤ sumPay l := by
 induction l with
 | nil => simp [sumPay]
 | cons x t ih =>
  rw [sumPay_cons]
  have := h x (by simp)
  have := ih fun y hy => h y (by simp [hy])
  omega
theorem less_lists {f g : Flo} (hf : floOk f = true) (hg : floOk g = true) (Sf : Sml f) (Sg : Sml g) (hsub : ∀ k l, l ∈ allR g k → l ∈ allR f k) (h0 : (askR g).2.2 = 0) : (askR f).2.2 = 0 ∧ (fewN8 f).1 ≤ (fewN8 g).1 ∧ (chpN8 f).1 ≤ (chpN8 g).1 := by
 have Tf : ∀ k l, l ∈ allR f k → Told f k l := fun k l h => told (flo_f hf) Sf (rises_of_ok hf) h
 have Tg : ∀ k l, l ∈ allR g k → Told g k l := fun k l h => told (flo_f hg) Sg (rises_of_ok hg) h
 have nf : ∀ j, j < 6 → ∀ l ∈ allR f j, 0 ≤ sumPay l := fun j _ l hl => sumPay_nn1 fun x hx => ((Tf j l hl).ok x hx).2
 have ng : ∀ j, j < 6 → ∀ l ∈ allR g j, 0 ≤ sumPay l := fun j _ l hl => sumPay_nn1 fun x hx => ((Tg j l hl).ok x hx).2
 have hgne : fewTo (allR g) 6 ≠ [] := fun e => by
  unfold askR at h0
  rw [if_pos hg, e] at h0
  simp at h0
 obtain ⟨k, hk, ek, _⟩ := few_first hgne
 have hgk : allR g k ≠ [] := by rw [← ek]; exact hgne
 have hfk : allR f k ≠ [] := by
  obtain ⟨x, t, e⟩ := List.exists_cons_of_ne_nil hgk
  intro e2
  have := hsub k x (by rw [e]; simp)
  rw [e2] at this; cases this
 have hfne := few_some hfk hk
 obtain ⟨j, hj, ej, hjm⟩ := few_first hfne
 have hjk : j ≤ k := by
  rcases Nat.lt_or_ge k j with h | h
  ·exact absurd (hjm k h) hfk
  ·exact h
 have af : askR f = (fewTo (allR f) 6, chTo (allR f) 6, 0) := by
  unfold askR
  rw [if_pos hf, if_neg]
  intro e; exact hfne (List.isEmpty_iff.1 e)
 have ag : askR g = (fewTo (allR g) 6, chTo (allR g) 6, 0) := by
  unfold askR
  rw [if_pos hg, if_neg]
  intro e; exact hgne (List.isEmpty_iff.1 e)
 have lf : ((fewTo (allR f) 6).headD []).length = j := by
  rw [ej] at hfne ⊢
  exact (Tf j _ (head_mem hfne)).len
 have lg : ((fewTo (allR g) 6).headD []).length = k := by
  rw [ek] at hgne ⊢
  exact (Tg k _ (head_mem hgne)).len
 refine ⟨by rw [af], ?_, ?_⟩
 ·unfold fewN8
  rw [af, ag, if_pos rfl, if_pos rfl]
  dsimp only
  rw [lf, lg]
  omega
 ·unfold chpN8
  rw [af, ag, if_pos rfl, if_pos rfl]
  dsimp only
  obtain ⟨cf1, cf2⟩ := chTo_min nf
  obtain ⟨cg1, cg2⟩ := chTo_min ng
  rcases cg1 with ⟨_, h⟩ | ⟨_, i, hi, l, hl, e⟩
  ·exact absurd (h k hk) hgk
  ·rw [e]; exact cf2 i hi l (hsub i l hl)
theorem qs_less {f : Flo} {q : Qu} {k : Nat} {l : List Pay} (h : l ∈ allR { f with qs := insQ f.qs q } k) : l ∈ allR f k := by
 refine allR_sub (g := { f with qs := insQ f.qs q }) (f := f) rfl rfl (fun a b hs => ?_) h
 unfold spk speakR at hs ⊢
 simp only [Bool.and_eq_true, Bool.not_eq_true'] at hs ⊢
 refine ⟨?_, hs.2⟩
 rw [List.any_eq_false]
 intro r hr
 exact List.any_eq_false.1 hs.1 r (insQ_mem.2 (.inr hr))
end Go.Proofs.YtihonljdanjfmaaGreatDoor.Sw
namespace Go.Proofs.YtihonljdanjfmaaGreatDoor.Sw
open Go.RowKit Go Go.Shelf Go.Proofs
theorem fewN8_2 (f : Flo) : (fewN8 f).2 = (askR f).2.2 := by
 unfold fewN8
 split
 ·rename_i h; exact h.symm
 ·rfl
theorem chpN8_2 (f : Flo) : (chpN8 f).2 = (askR f).2.2 := by
 unfold chpN8
 split
 ·rename_i h; exact h.symm
 ·rfl
theorem lsC3 {f : Flo} (hS : Sml f) : errL f = 0 → ∀ m, m ≤ 5 → ∀ l ∈ lstsR f (owed8 f) m, PayB l := fun he m hm l hl => by
 have hok := errL_ok he
 exact (told (flo_f hok) hS (rises_of_ok hok) ((lists_perm (rises_of_ok hok) m).mem_iff.1 hl)).payB (by omega)
theorem floorQuarrel_con (f : Flo) (one other : Int) (h1 : 0 ≤ one ∧ one ≤ 255) (h2 : 0 ≤ other ∧ other ≤ 255) : Con Tryz.prog 11 [.agg (flC f), .val (.int .u8 one), .val (.int .u8 other)] [tab8, HA.tab] (Is (.val (.bool true)) []) := by
 have c1 := fun w => run_conv8 (P := Tryz.prog) Tryz.underlying5 Tryz.underlying3 h1 w
 have c2 := fun w => run_conv8 (P := Tryz.prog) Tryz.underlying5 Tryz.underlying3 h2 w
 refine con_of Tryz.func11 rfl (enters_of Tryz.func11 (by kernel_rfl) rfl) rfl ?_; intro n w0 F0 G0
 refine zS ?_;repeat(refine yA ?_;intro p hp;refine zS ?_)
 (apply wl_callP (alive_con); exact rfl; exact yC; exact rfl)
 rintro _ _ ⟨rfl, rfl⟩
 refine zS ?_;repeat(refine yA ?_;intro p hp;refine zS ?_)
 (first | (apply wl_call (ready_con f); exact rfl; exact rfl) | (apply wl_callR (ready_con f); exact rfl; exact zM; exact rfl))
 refine zS ?_;repeat(refine yA ?_;intro p hp;refine zS ?_)
 cases hR : (!greatF f && floOk f) with
 | false =>
  refine zS ?_;repeat(refine yA ?_;intro p hp;refine zS ?_)
  (apply res1; exact rfl; exact rfl; exact ⟨rfl, rfl⟩)
 | true =>
  obtain ⟨hS, hok⟩ := ready_ok hR
  have hidl := (flo_f hok).ids
  refine zS ?_;repeat(refine yA ?_;intro p hp;refine zS ?_)
  refine wl_part rfl rfl (fun hlt => ?_) (fun hlt => ?_)
  ·refine zS ?_;repeat(refine yA ?_;intro p hp;refine zS ?_)
   (apply res1; exact rfl; exact rfl; exact ⟨rfl, rfl⟩)
  ·have hn2 : 2 ≤ f.ids.length := by simp at hlt; omega
   obtain ⟨i, hi, hin⟩ : ∃ i : Nat, one % (f.ids.length : Int) = i ∧ i < f.ids.length := by
    have a := Int.emod_nonneg one (show (f.ids.length : Int) ≠ 0 by omega)
    have b := Int.emod_lt_of_pos one (show 0 < (f.ids.length : Int) by omega)
    exact ⟨(one % (f.ids.length : Int)).toNat, by omega, by omega⟩
   obtain ⟨j, hj, hjn⟩ : ∃ j : Nat, other % ((f.ids.length : Int) - 1) = j ∧ j < f.ids.length - 1 := by
    have a := Int.emod_nonneg other (show (f.ids.length : Int) - 1 ≠ 0 by omega)
    have b := Int.emod_lt_of_pos other (show 0 < (f.ids.length : Int) - 1 by omega)
    exact ⟨(other % ((f.ids.length : Int) - 1)).toNat, by omega, by omega⟩
   obtain ⟨k, hk, hkn, hne⟩ : ∃ k : Nat, ((i : Int) + 1 + j) % (f.ids.length : Int) = k ∧ k < f.ids.length ∧ i ≠ k := by
    rcases Nat.lt_or_ge (i + 1 + j) f.ids.length with h | h
    ·exact ⟨i + 1 + j, by rw [Int.emod_eq_of_lt (by omega) (by omega)]; omega, h, by omega⟩
    ·refine ⟨i + 1 + j - f.ids.length, ?_, by omega, by omega⟩
     rw [← Int.sub_emod_right, Int.emod_eq_of_lt (by omega) (by omega)]; omega
   obtain ⟨lo, hlo⟩ : ∃ lo, lo = min i k := ⟨_, rfl⟩
   obtain ⟨hi2, hhi⟩ : ∃ hi2, hi2 = max i k := ⟨_, rfl⟩
   have hloI : min (i : Int) k = (lo : Int) := by omega
   have hhiI : max (i : Int) k = (hi2 : Int) := by omega
   have hlon : lo < f.ids.length := by omega
   have hhin : hi2 < f.ids.length := by omega
   have hab := rises_sorted (rises_of_ok hok) lo hi2 hlon hhin (by omega)
   have ma := List.getElem_mem hlon
   have mb := List.getElem_mem hhin
   have q3 : f.ids[lo]? = some f.ids[lo] := List.getElem?_eq_getElem hlon
   have q4 : f.ids[hi2]? = some f.ids[hi2] := List.getElem?_eq_getElem hhin
   have hqsl := hS.qs
   have hq18 := qs_le hok
   refine zS ?_;repeat(refine yA ?_;intro p hp;refine zS ?_)
   (apply wl_convC (.int .i64 one); exact rfl; exact c1; exact rfl)
   refine zS ?_;repeat(refine yA ?_;intro p hp;refine zS ?_)
   (apply wl_rem; exact rfl; exact rfl; omega; omega; omega; exact rfl)
   rw [hi]
   refine zS ?_;repeat(refine yA ?_;intro p hp;refine zS ?_)
   refine W_run 13 [48, 49, 50, 51, 52, 53, 54, 55, 56, 57, 58, 59, 60] [0, 1, 2, 3, 4, 5, 6, 7, 8, 9, 10, 11, 12] Cut.nil rfl goFlt mixedS (by kernel_rfl) rfl ?_
   refine rpv [] [] ?_
   refine rpv [0] [] ?_
   refine rpv [] [] ?_
   refine Run.pv [2] [] rfl (fun vs => by apply ltr_pk; exact goPk; (refine ltr ?_; apply lt_convC (v := .int .i64 other); exact rfl; exact c2)) goApp ?_
   refine rpv [] [] ?_
   refine rpv [4] [] ?_
   refine rpv [5] [] ?_
   refine rpv [6] [] ?_
   refine Run.pv [3, 7] [] rfl (fun vs => by apply ltr_pk; exact goPk; (refine ltr ?_; apply LT_int (j : Int); apply lt_rem; exact rfl; exact rfl; omega; omega; omega; exact hj)) goApp ?_
   refine rpv [1, 8] [] ?_
   refine rpv [] [] ?_
   refine rpv [10] [] ?_
   refine rpv [11] [] ?_
   refine ⟨⟨by kernel_rfl, by kernel_rfl⟩, fun vs => ?_⟩
   apply WL_auto [9, 12]
   ·exact goPk
   ·exact goNrm
   ·kernel_rfl
   ·kernel_rfl
   refine zS ?_;repeat(refine yA ?_;intro p hp;refine zS ?_)
   (apply wl_rem; exact rfl; exact rfl; omega; omega; omega; exact rfl)
   rw [hk]
   refine zS ?_;repeat(refine yA ?_;intro p hp;refine zS ?_)
   refine W_run 16 [62, 63, 64, 65, 66, 67, 68, 69, 70, 71, 72, 73, 74, 75, 76, 10] [0, 1, 2, 3, 4, 5, 6, 7, 8, 9, 10, 11, 12, 13, 14, 15] Cut.nil rfl goFlt mixedS (by kernel_rfl) rfl ?_
   refine rpv [] [] ?_
   refine rpv [0] [] ?_
   refine rpv [] [] ?_
   refine rpv [] [] ?_
   refine Run.pv [2, 3] [] rfl (fun vs => by apply ltr_pk; exact goPk; (refine ltr ?_; apply LT_int (lo : Int); apply lt_min2; exact rfl; exact rfl; exact hloI)) goApp ?_
   refine rpv [1, 4] [] ?_
   refine rpv [5] [] ?_
   refine rpv [] [] ?_
   refine rpv [7] [] ?_
   refine rpv [] [] ?_
   refine rpv [] [] ?_
   refine Run.pv [9, 10] [] rfl (fun vs => by apply ltr_pk; exact goPk; (refine ltr ?_; apply LT_int (hi2 : Int); apply lt_max2; exact rfl; exact rfl; exact hhiI)) goApp ?_
   refine rpv [8, 11] [] ?_
   refine rpv [12] [] ?_
   refine Run.pv [6, 13] [] rfl (fun vs => by apply ltr_pk; exact goPk; (refine ltr ?_; refine lt_call ?_ ((quaL_con f.ids[lo] f.ids[hi2])); exact rfl)) goApp ?_
   refine Run.tok [] [] rfl (fun vs => by apply ltr_pk; exact goPk; exact goLtr) goApp ?_
   refine ⟨⟨by kernel_rfl, by kernel_rfl⟩, fun vs => ?_⟩
   apply WL_auto [14, 15]
   ·exact goPk
   ·exact goNrm
   ·kernel_rfl
   ·kernel_rfl
   refine zS ?_;repeat(refine yA ?_;intro p hp;refine zS ?_)
   generalize f.ids[lo] = a at hab ma q3 ⊢
   generalize f.ids[hi2] = b at hab mb q4 ⊢
   have SP := flP_frz (split_con f ⟨a, b⟩ hS (fun _ => hq18))
   have SK := speak8_con f a b (by omega)
   rw [speak_in hab] at SK
   by_cases hq : (⟨a, b⟩ : Qu) ∈ f.qs
   ·rw [decide_eq_true hq] at SK
    obtain ⟨back, e1, e2, e3, e4, e5, e6, e7⟩ := mend_old hok hq
    have hSb : Sml back := ⟨by rw [e4]; exact hS.ids, by omega, by rw [e5]; exact hS.bs, by rw [e6]; exact hS.ps, by rw [e5]; exact hS.st⟩
    have ME := flP_frz (mend_con f ⟨a, b⟩ hS)
    have SB := flP_frz (split_con back ⟨a, b⟩ hSb (fun _ => by omega))
    rw [split_old hok hq] at SP
    rw [e1] at ME
    rw [e7] at SB
    dsimp only at SP ME SB
    refine zS ?_;repeat(refine yA ?_;intro p hp;refine zS ?_)
    (first | (apply wl_call (SP); exact rfl; exact rfl) | (apply wl_callR (SP); exact rfl; exact zM; exact rfl))
    refine zS ?_;repeat(refine yA ?_;intro p hp;refine zS ?_)
    (first | (apply wl_call (SK); exact rfl; exact rfl) | (apply wl_callR (SK); exact rfl; exact zM; exact rfl))
    refine zS ?_;repeat(refine yA ?_;intro p hp;refine zS ?_)
    (first | (apply wl_call (ME); exact rfl; exact rfl) | (apply wl_callR (ME); exact rfl; exact zM; exact rfl))
    refine zS ?_;repeat(refine yA ?_;intro p hp;refine zS ?_)
    (first | (apply wl_call (SB); exact rfl; exact rfl) | (apply wl_callR (SB); exact rfl; exact zM; exact rfl))
    refine zS ?_;repeat(refine yA ?_;intro p hp;refine zS ?_)
    (first | (apply wl_call (same8_con f f hS hS); exact rfl; exact rfl) | (apply wl_callR (same8_con f f hS hS); exact rfl; exact zM; exact rfl))
    refine zS ?_;repeat(refine yA ?_;intro p hp;refine zS ?_)
    (apply res1; exact rfl; exact rfl; exact ⟨(congrArg (fun b => AV.val (Value.bool b)) (by simp)), rfl⟩)
   ·rw [decide_eq_false hq] at SK
    obtain ⟨s1, s2⟩ := split_new hok (q := ⟨a, b⟩) ⟨ma, mb, hab⟩ hq
    have hml := insQ_len f.qs ⟨a, b⟩
    have hSc : Sml { f with qs := insQ f.qs ⟨a, b⟩ } := ⟨hS.ids, by show (insQ f.qs ⟨a, b⟩).length ≤ 1000; omega, hS.bs, hS.ps, hS.st⟩
    have ME := flP_frz (mend_con { f with qs := insQ f.qs ⟨a, b⟩ } ⟨a, b⟩ hSc)
    have FC := floors_con { f with qs := insQ f.qs ⟨a, b⟩ } hSc
    have SC := speak8_con { f with qs := insQ f.qs ⟨a, b⟩ } a b (by show (insQ f.qs ⟨a, b⟩).length ≤ 1000; omega)
    have F1 := Fewest_con f hS
    have F2 := Fewest_con { f with qs := insQ f.qs ⟨a, b⟩ } hSc
    have K1 := Cheapest_con f hS (lsC3 hS)
    have K2 := Cheapest_con { f with qs := insQ f.qs ⟨a, b⟩ } hSc (lsC3 hSc)
    have hL := fun h0 => less_lists hok s2 hS hSc (fun k l hl => qs_less hl) h0
    rw [s1] at SP
    rw [mend_back s2 hq] at ME
    rw [s2] at FC
    have hsc : speakR (insQ f.qs ⟨a, b⟩) a b = false := by rw [speak_in hab]; simp [insQ_mem]
    dsimp only at SC
    rw [hsc] at SC
    rw [few_eq hS, fewN8_2] at F1
    rw [few_eq hSc, fewN8_2] at F2
    rw [chp_eq hS, chpN8_2] at K1
    rw [chp_eq hSc, chpN8_2] at K2
    dsimp only at SP ME
    generalize (⟨f.ids, insQ f.qs ⟨a, b⟩, f.bs, f.ps⟩ : Flo) = cold at SP ME FC SC F2 K2 hL
    generalize (askR f).2.2 = ef at F1 K1 hL
    generalize (askR cold).2.2 = ec at F2 K2 hL
    generalize (fewN8 f).1 = n1 at F1 hL
    generalize (fewN8 cold).1 = n2 at F2 hL
    generalize (chpN8 f).1 = y1 at K1 hL
    generalize (chpN8 cold).1 = y2 at K2 hL
    have z1 : (!decide (ef = ef)) = false := by simp
    have z2 : (!decide (ec = ec)) = false := by simp
    refine zS ?_;repeat(refine yA ?_;intro p hp;refine zS ?_)
    (first | (apply wl_call (SP); exact rfl; exact rfl) | (apply wl_callR (SP); exact rfl; exact zM; exact rfl))
    refine zS ?_;repeat(refine yA ?_;intro p hp;refine zS ?_)
    (first | (apply wl_call (SK); exact rfl; exact rfl) | (apply wl_callR (SK); exact rfl; exact zM; exact rfl))
    refine zS ?_;repeat(refine yA ?_;intro p hp;refine zS ?_)
    (first | (apply wl_call (ME); exact rfl; exact rfl) | (apply wl_callR (ME); exact rfl; exact zM; exact rfl))
    refine zS ?_;repeat(refine yA ?_;intro p hp;refine zS ?_)
    (first | (apply wl_call (same8_con f f hS hS); exact rfl; exact rfl) | (apply wl_callR (same8_con f f hS hS); exact rfl; exact zM; exact rfl))
    refine zS ?_;repeat(refine yA ?_;intro p hp;refine zS ?_)
    rw [show decide (f = f) = true by simp]
    refine zS ?_;repeat(refine yA ?_;intro p hp;refine zS ?_)
    (first | (apply wl_call (FC); exact rfl; exact rfl) | (apply wl_callR (FC); exact rfl; exact zM; exact rfl))
    refine zS ?_;repeat(refine yA ?_;intro p hp;refine zS ?_)
    (first | (apply wl_call (SC); exact rfl; exact rfl) | (apply wl_callR (SC); exact rfl; exact zM; exact rfl))
    refine zS ?_;repeat(refine yA ?_;intro p hp;refine zS ?_)
    (first | (apply wl_call (F1); exact rfl; exact rfl) | (apply wl_callR (F1); exact rfl; exact zM; exact rfl))
    refine zS ?_;repeat(refine yA ?_;intro p hp;refine zS ?_)
    (first | (apply wl_call (F2); exact rfl; exact rfl) | (apply wl_callR (F2); exact rfl; exact zM; exact rfl))
    refine zS ?_;repeat(refine yA ?_;intro p hp;refine zS ?_)
    (first | (apply wl_call (K1); exact rfl; exact rfl) | (apply wl_callR (K1); exact rfl; exact zM; exact rfl))
    refine zS ?_;repeat(refine yA ?_;intro p hp;refine zS ?_)
    (first | (apply wl_call (K2); exact rfl; exact rfl) | (apply wl_callR (K2); exact rfl; exact zM; exact rfl))
    refine zS ?_;repeat(refine yA ?_;intro p hp;refine zS ?_)
    rw [z1]
    refine zS ?_;repeat(refine yA ?_;intro p hp;refine zS ?_)
    rw [z2]
    refine zS ?_;repeat(refine yA ?_;intro p hp;refine zS ?_)
    by_cases hec : ec = 0
    ·obtain ⟨hef, hn, hy⟩ := hL hec
     subst hec hef
     refine zS ?_;repeat(refine yA ?_;intro p hp;refine zS ?_)
     rw [show decide (n1 ≤ n2) = true from decide_eq_true hn]
     refine zS ?_;repeat(refine yA ?_;intro p hp;refine zS ?_)
     rw [show decide (y1 ≤ y2) = true from decide_eq_true hy]
     refine zS ?_;repeat(refine yA ?_;intro p hp;refine zS ?_)
     (apply res1; exact rfl; exact rfl; exact ⟨rfl, rfl⟩)
    ·have z3 : (!decide (ec = 0)) = true := by simp [hec]
     have z4 : decide (ec = 0) = false := decide_eq_false hec
     by_cases hef : ef = 0
     ·subst hef
      refine zS ?_;repeat(refine yA ?_;intro p hp;refine zS ?_)
      rw [z3]
      refine zS ?_;repeat(refine yA ?_;intro p hp;refine zS ?_)
      (apply res1; exact rfl; exact rfl; exact ⟨rfl, rfl⟩)
     ·rw [show (!decide (ef = 0)) = true by simp [hef]]
      refine zS ?_;repeat(refine yA ?_;intro p hp;refine zS ?_)
      rw [z4]
      refine zS ?_;repeat(refine yA ?_;intro p hp;refine zS ?_)
      rw [z3]
      refine zS ?_;repeat(refine yA ?_;intro p hp;refine zS ?_)
      (apply res1; exact rfl; exact rfl; exact ⟨rfl, rfl⟩)
end Go.Proofs.YtihonljdanjfmaaGreatDoor.Sw
