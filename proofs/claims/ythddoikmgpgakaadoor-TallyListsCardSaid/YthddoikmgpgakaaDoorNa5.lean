/- Proofs for the seat's cards: Owes, Wide, Concat, Table, RefC0, Leaf2, Br, Twins, SwG, SwH, SwI, SwQ, SwL, SwB, SwS, SwM, SwX, Bk, Mats, SwN, SwP. No condition of its own. -/
import Derived.Test.YthddoikmgpgakaaDoorProg
import Derived.Outline
import Derived.RangeFuncNested
import Derived.Shelf.Abstract
import Derived.Deep.QuietTactic
import Derived.BigQuiet
import Derived.Deep.RegionHeld3
import Derived.WalkSmall
import Derived.Laws.EntriesVeiled
import Derived.WalkMore
import Derived.Lib.AppendZerosOnto
import Derived.Lib.Walk
import Derived.Lib.SliceRun
import Derived.Laws.MakeOwn
import Derived.Deep.Cut
import Derived.RangeFuncBound
import Derived.Lib.LazyBuf
import Derived.Deep.AppendSrc
import Derived.Scope
import Derived.DeepKeys4
import Derived.Maps.OwnIn
import Derived.Maps.Views
import Derived.Maps.RangeRun
import Derived.ArgAppend
import Derived.Maps.AppendAt
import Derived.WideKeyEntry
import Derived.Test.YthddoikmgpgakaaDoorNa4
set_option linter.unusedVariables false
set_option linter.unusedSimpArgs false
set_option maxRecDepth 40000
set_option maxHeartbeats 32000000
namespace Go.Proofs.YthddoikmgpgakaaDoor
open Go.RowKit Go.Proofs Go.Shelf
structure Rt where
 skin : Int
 half : Int
 barrel : Int
 paid : Int
def Rt.val (r : Rt) : Value := .agg #[.int .i64 r.skin, .int .i64 r.half, .int .i64 r.barrel, .int .i64 r.paid]
def Rt.ok (r : Rt) : Bool := (decide (0 ≤ r.skin) && decide (r.skin ≤ 1000)) && ((decide (0 ≤ r.half) && decide (r.half ≤ 1000)) && ((decide (0 ≤ r.barrel) && decide (r.barrel ≤ 1000)) && (decide (0 ≤ r.paid) && decide (r.paid ≤ 1000))))
def rateW (r : Rt) (n : Int) : Int := if n = 1 then r.skin else if n = 2 then r.half else if n = 3 then r.barrel else if n = 4 then -r.paid else 0
def kindW (k n : Int) : Int := if n = k then 1 else 0
theorem Rt.ok_iff {r : Rt} (h : r.ok = true) : (0 ≤ r.skin ∧ r.skin ≤ 1000) ∧ (0 ≤ r.half ∧ r.half ≤ 1000) ∧ (0 ≤ r.barrel ∧ r.barrel ≤ 1000) ∧ (0 ≤ r.paid ∧ r.paid ≤ 1000) := by
 unfold Rt.ok at h
 simpa using h
theorem rateW_b {r : Rt} (h : r.ok = true) (n : Int) : -1000 ≤ rateW r n ∧ rateW r n ≤ 1000 := by
 obtain ⟨h1, h2, h3, h4⟩ := Rt.ok_iff h
 unfold rateW
 split
 ·omega
 ·split
  ·omega
  ·split
   ·omega
   ·split <;> omega
theorem kindW_b (k n : Int) : -1000 ≤ kindW k n ∧ kindW k n ≤ 1000 := by unfold kindW; split <;> omega
theorem kinds1_any (n k : Int) (p : Addr) (w : World) (hp : w.cell? p = some (.int .i64 k)) :
  Calls Tryd.prog 92 #[.int .i64 n, .pointer (some p)] w fun e w' => e = .returned (.int .i64 (kindW k n)) ∧ Below w.heap.size w w' := by
 go_enter Tryd.func92, Tryd.ntmps92
 by_cases h : n = k
 ·have t : (n == k) = true := by simp [h]
  have H := hid h; clear h
  go_wp2_with fail
  go_ret
  exact ⟨(congrArg (fun b => Ending.returned (Value.int .i64 b)) (by unfold kindW; rw [if_pos H.out])), goBl⟩
 ·have t : (n == k) = false := by simp [h]
  have H := hid h; clear h
  go_wp2_with fail
  go_ret
  exact ⟨(congrArg (fun b => Ending.returned (Value.int .i64 b)) (by unfold kindW; rw [if_neg H.out])), goBl⟩
theorem kinds_worth (k : Int) (kp : Nat) : Worth (fun w => Box w kp #[.int .i64 k] 3) (.func (.func 92) #[] #[.pointer (some ⟨kp, 0, none⟩)]) (kindW k) :=
 ⟨_, _, _, rfl, enters_of Tryd.func92 (by kernel_rfl) rfl, fun n w _ _ h => kinds1_any n k ⟨kp, 0, none⟩ w (h.cell 0)⟩
theorem valid_any (r : Rt) (w : World) :
  Calls Tryd.prog 95 #[r.val] w fun e w' => e = .returned (.bool r.ok) ∧ Below w.heap.size w w' := by
 unfold Rt.val
 go_enter Tryd.func95, Tryd.ntmps95
 go_wp2_with fail
 refine (in_any 0 1000 _ _ [r.skin, r.half, r.barrel, r.paid] _ (by simp) ?_).mono ?_
 ·intro i hi
  match i, hi with
  | 0, _ => exact ⟨_, _, rfl, by simp [go_sem]⟩
  | 1, _ => exact ⟨_, _, rfl, by simp [go_sem]⟩
  | 2, _ => exact ⟨_, _, rfl, by simp [go_sem]⟩
  | 3, _ => exact ⟨_, _, rfl, by simp [go_sem]⟩
 rintro e w1 ⟨rfl, hb1⟩
 go_wp2_with fail
 go_ret
 exact ⟨(congrArg (fun b => Ending.returned (Value.bool b)) (by simp [Rt.ok])), goBl⟩
theorem idx5_0 (v0 v1 v2 v3 v4 : Int) (w : World) : (Instr.index 120 (.agg #[.int .i64 v0, .int .i64 v1, .int .i64 v2, .int .i64 v3, .int .i64 v4]) (.int .i64 0)).run Tryd.prog w = .ok (.int .i64 v0) w := by kernel_rfl
theorem idx5_1 (v0 v1 v2 v3 v4 : Int) (w : World) : (Instr.index 120 (.agg #[.int .i64 v0, .int .i64 v1, .int .i64 v2, .int .i64 v3, .int .i64 v4]) (.int .i64 1)).run Tryd.prog w = .ok (.int .i64 v1) w := by kernel_rfl
theorem idx5_2 (v0 v1 v2 v3 v4 : Int) (w : World) : (Instr.index 120 (.agg #[.int .i64 v0, .int .i64 v1, .int .i64 v2, .int .i64 v3, .int .i64 v4]) (.int .i64 2)).run Tryd.prog w = .ok (.int .i64 v2) w := by kernel_rfl
theorem idx5_3 (v0 v1 v2 v3 v4 : Int) (w : World) : (Instr.index 120 (.agg #[.int .i64 v0, .int .i64 v1, .int .i64 v2, .int .i64 v3, .int .i64 v4]) (.int .i64 3)).run Tryd.prog w = .ok (.int .i64 v3) w := by kernel_rfl
theorem idx5_4 (v0 v1 v2 v3 v4 : Int) (w : World) : (Instr.index 120 (.agg #[.int .i64 v0, .int .i64 v1, .int .i64 v2, .int .i64 v3, .int .i64 v4]) (.int .i64 4)).run Tryd.prog w = .ok (.int .i64 v4) w := by kernel_rfl
theorem worth_any (r : Rt) (hr : r.ok = true) (n : Int) (w : World) (h0 : 0 ≤ n) (h4 : n ≤ 4) :
  Calls Tryd.prog 96 #[r.val, .int .i64 n] w fun e w' => e = .returned (.int .i64 (rateW r n)) ∧ Below w.heap.size w w' := by
 obtain ⟨r1, r2, r3, r4⟩ := Rt.ok_iff hr
 have hw := wrap_mid (n := -r.paid) (by omega) (by omega)
 unfold Rt.val
 have hn : n = 0 ∨ n = 1 ∨ n = 2 ∨ n = 3 ∨ n = 4 := by omega
 go_enter Tryd.func96, Tryd.ntmps96
 rcases hn with rfl | rfl | rfl | rfl | rfl
 ·have hx := idx5_0
  go_wp2_with fail
  go_ret
  exact ⟨rfl, goBl⟩
 ·have hx := idx5_1
  go_wp2_with fail
  go_ret
  exact ⟨rfl, goBl⟩
 ·have hx := idx5_2
  go_wp2_with fail
  go_ret
  exact ⟨rfl, goBl⟩
 ·have hx := idx5_3
  go_wp2_with fail
  go_ret
  exact ⟨rfl, goBl⟩
 ·have hx := idx5_4
  go_wp2_with fail
  go_ret
  exact ⟨rfl, goBl⟩
theorem rates_worth (r : Rt) (hr : r.ok = true) : Worth (fun _ => True) (.func (.func 96) #[r.val] #[]) (rateW r) :=
 ⟨_, _, _, rfl, enters_of Tryd.func96 (by kernel_rfl) rfl, fun n w h0 h4 _ => worth_any r hr n w h0 h4⟩
theorem okT_okN' {id hs : Int} {st fo : List Int} (h : okT id hs st fo = true) : okN st = true ∧ okN fo = true := by
 unfold okT at h
 simp only [Bool.and_eq_true] at h
 exact ⟨h.1.2, h.2⟩
def KindsR (a : Tl) (k lo hi e : Int) : Prop := if okT a.id a.hs a.st a.fo = true then (if 1 ≤ k ∧ k ≤ 4 then IsSpan (kindW k) (TrueL a.st a.fo) lo hi ∧ e = 0 else lo = 0 ∧ hi = 0 ∧ e = 72) else lo = 0 ∧ hi = 0 ∧ e = 70
theorem KindsR.unique {a : Tl} {k lo hi e lo' hi' e' : Int} (h : KindsR a k lo hi e) (g : KindsR a k lo' hi' e') : lo = lo' ∧ hi = hi' ∧ e = e' := by
 unfold KindsR at *
 split at h
 ·rename_i hk
  rw [if_pos hk] at g
  split at h
  ·rename_i h1
   rw [if_pos h1] at g
   have := h.1.unique g.1
   exact ⟨this.1, this.2, by rw [h.2, g.2]⟩
  ·rename_i h1
   rw [if_neg h1] at g
   omega
 ·rename_i hk
  rw [if_neg hk] at g
  omega
theorem kindsP_any (a : Tl) (k : Int) (sa fa : Option Addr) (sc fc : Nat) (w : World) (ht : Tab w) (hl : a.st.length ≤ 1000) (hl2 : a.fo.length ≤ 1000) (h1 : RdI w sa a.st) (h2 : RdI w fa a.fo) :
  Calls Tryd.prog 42 #[.agg #[.int .i64 a.id, .int .i64 a.hs, .slice sa a.st.length sc, .slice fa a.fo.length fc], .int .i64 k] w
   fun e w' => ∃ lo hi er, e = .returned (.tuple #[.agg #[.int .i64 lo, .int .i64 hi], .int .i64 er]) ∧ KindsR a k lo hi er ∧ Below w.heap.size w w' := by
 have H1 := hid h1; have H2 := hid h2; clear h1 h2
 have HT := hid ht; clear ht
 go_enter Tryd.func42, Tryd.ntmps42
 go_wp2_with fail
 refine (check_any _ _ _ _ _ _ _ _ _ (HT.out.below goBl) (by omega) (by omega) (H1.out.below goBl) (H2.out.below goBl)).mono ?_
 rintro e w1 ⟨rfl, hb1⟩
 have BX := hid ((((Box.new w (#[.int .i64 a.id, .int .i64 a.hs, .slice sa a.st.length sc, .slice fa a.fo.length fc]) 24).alloc (.cells #[.int .i64 k] 3)).alloc (.cells #[.int .i64 0, .int .i64 0] 68)).below hb1 (by simp; omega))
 have BK := hid (((Box.at (w := w.alloc (.cells #[.int .i64 a.id, .int .i64 a.hs, .slice sa a.st.length sc, .slice fa a.fo.length fc] 24)) (n := w.heap.size + 1) #[.int .i64 k] 3 (by simp)).alloc (.cells #[.int .i64 0, .int .i64 0] 68)).below hb1 (by simp))
 have BR := hid ((Box.at (w := (w.alloc (.cells #[.int .i64 a.id, .int .i64 a.hs, .slice sa a.st.length sc, .slice fa a.fo.length fc] 24)).alloc (.cells #[.int .i64 k] 3)) (n := w.heap.size + 1 + 1) #[.int .i64 0, .int .i64 0] 68 (by simp)).below hb1 (by simp))
 have WB := hid (show Below w.heap.size w w1 from goBl)
 clear hb1
 by_cases hok : okT a.id a.hs a.st a.fo = true
 ·have t1 : (errT (okT a.id a.hs a.st a.fo) != 0) = false := by rw [hok]; rfl
  have HK := hid hok; clear hok
  have k0 : w1.cell? ⟨w.heap.size + 1, 0, none⟩ = some (.int .i64 k) := BK.out.cell 0
  go_wp2_with fail
  refine (kinds_any (some ⟨w1.heap.size, 0, none⟩) 1 [k] _ (by simp) ?_).mono ?_
  ·intro i hi
   match i, hi with
   | 0, _ => exact ⟨_, _, rfl, (Box.new w1 #[.int .i64 k] 3).cell 0⟩
  rintro e w2 ⟨rfl, hb2⟩
  have hb := ((Below.refl _ w1).alloc (Nat.le_refl _) (.cells #[.int .i64 k] 3)).trans (hb2.mono (by simp))
  have BX := hid (BX.out.below hb BX.out.lt); have BK := hid (BK.out.below hb BK.out.lt); have BR := hid (BR.out.below hb BR.out.lt); have WB := hid (WB.out.trans (hb.mono WB.out.size))
  clear hb hb2 k0
  obtain ⟨⟨c0, c1, c2, c3⟩, _, lx⟩ := box_quad BX.out
  have r0 := BR.out.cell 0; have r1 := BR.out.cell 1; have r2 := BR.out.frozen 0; have r3 := BR.out.frozen 1; have r4 := BR.out.lt
  simp only [List.getElem?_toArray, List.getElem?_cons_zero, List.getElem?_cons_succ] at r0 r1
  by_cases hkk : 1 ≤ k ∧ k ≤ 4
  ·have hn : okN [k] = true := by simp [okN, hkk.1, hkk.2]
   have HN := hid hkk; clear hkk
   rw [hn]
   clear t1
   go_wp2_with fail
   refine (halves_any a.id a.hs a.st a.fo sa fa sc fc w2 (by omega) (by omega) (H1.out.below WB.out) (H2.out.below WB.out)).mono ?_
   rintro e w3 ⟨pb, eb, qb, M, rfl, hb3, hM, hH⟩
   have s2 := WB.out.size
   have BK := hid (BK.out.below hb3 BK.out.lt); have BR := hid (BR.out.below hb3 BR.out.lt)
   have hz3 := hb3.size
   have WB := hid (WB.out.trans (hb3.mono WB.out.size)); have HH := hid hH
   have lM := hH.map.lt
   clear hb3 hH c0 c1 c2 c3 lx r0 r1 r2 r3 r4 BX
   unfold pairC leftV
   have lk := BK.out.lt; have lr := BR.out.lt
   have sz := WB.out.size
   have kM := map_not_cell HH.out.map BK.out.at_; have rM := map_not_cell HH.out.map BR.out.at_
   go_wp2_with fail
   refine (comes_any pb eb qb M a sa fa sc fc _ (kindW k) _ w3 hl hl2 (okT_okN' HK.out).1 (okT_okN' HK.out).2 (kinds_worth k (w.heap.size + 1)) (by unfold kindW; rw [if_neg (by have := HN.out.1; omega)]) (kindW_b k) (fun w1 w2 h kp => kp.box ⟨by omega, kM⟩ h) BK.out HH.out).mono ?_
   rintro e w4 ⟨lo, hi, rfl, hsp, kp⟩
   have HSP := hid hsp
   have BR := hid (kp.box rM BR.out)
   have hM0 : w.heap.size ≤ M := by have := hM; omega
   have WB := hid (WB.out.trans (kp.below (B := w.heap.size) (fun b hb => show b ≠ M by omega) WB.out.size))
   have r0 := BR.out.cell 0; have r1 := BR.out.cell 1; have r2 := BR.out.frozen 0; have r3 := BR.out.frozen 1; have r4 := BR.out.lt
   simp only [List.getElem?_toArray, List.getElem?_cons_zero, List.getElem?_cons_succ] at r0 r1
   clear hsp kp
   go_wp2_with fail
   refine bodyPost_ret (v := .tuple #[.agg #[.int .i64 lo, .int .i64 hi], .int .i64 0]) (by simp [results, Tryd.results42, go_sem, r0, r1, r2, r3, r4]) rfl ⟨lo, hi, 0, rfl, ?_, (WB.out.setCell (p := ⟨w.heap.size + 1 + 1, 0, none⟩) (show w.heap.size ≤ w.heap.size + 1 + 1 by omega) _).setCell (p := ⟨w.heap.size + 1 + 1, 1, none⟩) (show w.heap.size ≤ w.heap.size + 1 + 1 by omega) _⟩
   unfold KindsR; rw [if_pos HK.out, if_pos HN.out]
   exact ⟨HSP.out, rfl⟩
  ·have hn : okN [k] = false := by
    simp only [okN, List.all_cons, List.all_nil, Bool.and_true, Bool.and_eq_false_iff, decide_eq_false_iff_not]
    omega
   have HN := hid hkk; clear hkk
   rw [hn]
   clear t1
   go_wp2_with fail
   refine bodyPost_ret (v := .tuple #[.agg #[.int .i64 0, .int .i64 0], .int .i64 72]) (by simp [results, Tryd.results42, go_sem, r0, r1, r2, r3, r4]) rfl ⟨0, 0, 72, rfl, ?_, (WB.out.setCell (p := ⟨w.heap.size + 1 + 1, 0, none⟩) (show w.heap.size ≤ w.heap.size + 1 + 1 by omega) _).setCell (p := ⟨w.heap.size + 1 + 1, 1, none⟩) (show w.heap.size ≤ w.heap.size + 1 + 1 by omega) _⟩
   unfold KindsR; rw [if_pos HK.out, if_neg HN.out]
   exact ⟨rfl, rfl, rfl⟩
 ·have t1 : (errT (okT a.id a.hs a.st a.fo) != 0) = true := by rw [Bool.not_eq_true] at hok; rw [hok]; rfl
  have t2 : errT (okT a.id a.hs a.st a.fo) = 70 := by rw [Bool.not_eq_true] at hok; rw [hok]; rfl
  have HK := hid hok; clear hok
  rw [t2] at t1 ⊢
  clear t2
  have r0 := BR.out.cell 0; have r1 := BR.out.cell 1; have r2 := BR.out.frozen 0; have r3 := BR.out.frozen 1; have r4 := BR.out.lt
  simp only [List.getElem?_toArray, List.getElem?_cons_zero, List.getElem?_cons_succ] at r0 r1
  go_wp2_with fail
  refine bodyPost_ret (v := .tuple #[.agg #[.int .i64 0, .int .i64 0], .int .i64 70]) (by simp [results, Tryd.results42, go_sem, r0, r1, r2, r3, r4]) rfl ⟨0, 0, 70, rfl, ?_, (WB.out.setCell (p := ⟨w.heap.size + 1 + 1, 0, none⟩) (show w.heap.size ≤ w.heap.size + 1 + 1 by omega) _).setCell (p := ⟨w.heap.size + 1 + 1, 1, none⟩) (show w.heap.size ≤ w.heap.size + 1 + 1 by omega) _⟩
  unfold KindsR; rw [if_neg HK.out]
  exact ⟨rfl, rfl, rfl⟩
noncomputable def spanF (W : Int → Int) (s f : List Int) : Int × Int := @Classical.epsilon (Int × Int) ⟨(0, 0)⟩ (fun p => IsSpan W (TrueL s f) p.1 p.2)
theorem spanF_eq {W : Int → Int} {s f : List Int} {lo hi : Int} (h : IsSpan W (TrueL s f) lo hi) : spanF W s f = (lo, hi) := by
 have h1 := @Classical.epsilon_spec (Int × Int) (fun p => IsSpan W (TrueL s f) p.1 p.2) ⟨(lo, hi), h⟩
 have h2 := h1.unique h
 exact Prod.ext h2.1 h2.2
noncomputable def owesL (W : Int → Int) (house : Int) (ts : List Tl) : Int × Int := ts.foldl (fun s t => if t.hs = house then (s.1 + (spanF W t.st t.fo).1, s.2 + (spanF W t.st t.fo).2) else s) (0, 0)
noncomputable def owesR (ts : List Tl) (house : Int) (r : Rt) : (Int × Int) × Int := if errAll ts ≠ 0 then ((0, 0), errAll ts) else if r.ok = true then (owesL (rateW r) house ts, 0) else ((0, 0), 71)
theorem owes_any (ts : List Tl) (house : Int) (r : Rt) (la : Option Addr) (lc : Nat) (w : World) (ht : Tab w) (hl : ts.length ≤ 4000) (hs : ∀ t ∈ ts, t.st.length ≤ 1000 ∧ t.fo.length ≤ 1000) (h : RdT w la ts) :
  Calls Tryd.prog 46 #[.slice la ts.length lc, .int .i64 house, r.val] w
   fun e w' => e = .returned (.tuple #[.agg #[.int .i64 (owesR ts house r).1.1, .int .i64 (owesR ts house r).1.2], .int .i64 (owesR ts house r).2]) ∧ Below w.heap.size w w' := by
 have H := hid h; clear h
 have HT := hid ht; clear ht
 have HS := hid hs; clear hs
 unfold Rt.val
 go_enter Tryd.func46, Tryd.ntmps46
 go_wp2_with fail
 refine (all_any la lc ts _ hl (HT.out.below goBl) (fun t h => ⟨by have := (HS.out t h).1; omega, by have := (HS.out t h).2; omega⟩) (H.out.below goBl)).mono ?_
 rintro e w1 ⟨rfl, hb1⟩
 have B5 := hid (((Box.new w #[.int .i64 r.skin, .int .i64 r.half, .int .i64 r.barrel, .int .i64 r.paid] 64).alloc (.cells #[.int .i64 0, .int .i64 0] 68)).below hb1 (by simp; omega))
 have B6 := hid ((Box.at (w := w.alloc (.cells #[.int .i64 r.skin, .int .i64 r.half, .int .i64 r.barrel, .int .i64 r.paid] 64)) (n := w.heap.size + 1) #[.int .i64 0, .int .i64 0] 68 (by simp)).below hb1 (by simp))
 have WB := hid (show Below w.heap.size w w1 from goBl)
 clear hb1
 by_cases he : errAll ts = 0
 ·have t1 : (errAll ts != 0) = false := by rw [he]; rfl
  have HE := hid he; clear he
  obtain ⟨⟨c0, c1, c2, c3⟩, _, lx⟩ := box_quad B5.out
  go_wp2_with fail
  refine (valid_any r w1).mono ?_
  rintro e w2 ⟨rfl, hb2⟩
  have B5 := hid (B5.out.below hb2 B5.out.lt); have B6 := hid (B6.out.below hb2 B6.out.lt); have WB := hid (WB.out.trans (hb2.mono WB.out.size))
  clear hb2 c0 c1 c2 c3 lx
  obtain ⟨⟨c0, c1, c2, c3⟩, _, lx⟩ := box_quad B5.out
  by_cases hr : r.ok = true
  ·rw [hr]
   have HR := hid hr; clear hr
   have hl6 : ts.length ≤ 6 := by
    have h := HE.out
    unfold errAll at h
    split at h
    ·cases h
    ·omega
   have hok : ∀ t ∈ ts, okT t.id t.hs t.st t.fo = true := by
    have h := HE.out
    unfold errAll at h
    split at h
    ·cases h
    ·split at h
     ·rename_i h2; exact fun t ht => List.all_eq_true.1 h2 t ht
     ·cases h
   have HOK := hid hok; clear hok
   go_wp2_with fail
   refine wp_world (fun W => Box W w2.heap.size #[.int .i64 0, .int .i64 0] 68 ∧ Box W (w.heap.size + 1) #[.int .i64 0, .int .i64 0] 68 ∧ Below w.heap.size w W) ⟨Box.new _ _ _, B6.out.alloc _, WB.out.alloc WB.out.size _⟩ ?_
   obtain ⟨P, hP⟩ : ∃ P, P = w2.heap.size := ⟨_, rfl⟩
   have nP : w.heap.size + 1 < P := by have := B6.out.lt; omega
   rw [← hP]
   clear hP c0 c1 c2 c3 lx t1 B5 B6 WB
   rintro W0 ⟨bP, b6, hB⟩
   go_loopw [30] (fun p wr => ∃ k : Nat, k ≤ ts.length ∧ p = .int .i64 k ∧ Box wr P #[.int .i64 (owesL (rateW r) house (ts.take k)).1, .int .i64 (owesL (rateW r) house (ts.take k)).2] 68 ∧ Box wr (w.heap.size + 1) #[.int .i64 0, .int .i64 0] 68 ∧ Below w.heap.size w wr ∧ (-(2000000 * k : Int) ≤ (owesL (rateW r) house (ts.take k)).1 ∧ (owesL (rateW r) house (ts.take k)).1 ≤ 2000000 * k ∧ -(2000000 * k : Int) ≤ (owesL (rateW r) house (ts.take k)).2 ∧ (owesL (rateW r) house (ts.take k)).2 ≤ 2000000 * k)) (fun p _ => ts.length - (intOf p).toNat)
   case atStart => exact ⟨0, by omega, rfl, bP, b6, hB, by simp [owesL]⟩
   case round =>
    obtain ⟨k, hk, rfl, hbP, hb6, hBr, hbd⟩ := hrel
    have BP := hid hbP; have B6 := hid hb6; have WB := hid hBr
    clear bP b6 hB
    by_cases hlt : k < ts.length
    ·obtain ⟨b, o, sa, sc, fa, fc, rfl, g0, g1, g2, g3, g4, g5⟩ := H.out.below hBr k hlt
     have G4 := hid g4; have G5 := hid g5
     have lb := cell_lt g0
     have hsn : owesL (rateW r) house (ts.take (k + 1)) = (if ts[k].hs = house then ((owesL (rateW r) house (ts.take k)).1 + (spanF (rateW r) ts[k].st ts[k].fo).1, (owesL (rateW r) house (ts.take k)).2 + (spanF (rateW r) ts[k].st ts[k].fo).2) else owesL (rateW r) house (ts.take k)) := by
      rw [List.take_succ_eq_append_getElem hlt]
      unfold owesL
      rw [List.foldl_append]
      rfl
     have HSN := hid hsn; clear hsn
     have hts := HOK.out _ (List.getElem_mem hlt)
     have hln := HS.out _ (List.getElem_mem hlt)
     obtain ⟨E, hE⟩ : ∃ E, owesL (rateW r) house (ts.take k) = E := ⟨_, rfl⟩
     rw [hE] at BP HSN hbd
     obtain ⟨e1, e2⟩ := E
     obtain ⟨t, hT⟩ : ∃ t, ts[k] = t := ⟨_, rfl⟩
     rw [hT] at g0 g1 g2 g3 G4 G5 HSN hts hln
     have HTS := hid hts
     clear hE hT hts hbP hb6 hBr g4 g5
     dsimp only at BP HSN hbd
     by_cases hh : t.hs = house
     ·have hq : (t.hs == house) = true := by simp [hh]
      have HH := hid hh; clear hh
      go_wp2_with fail
      refine (halves_any t.id t.hs t.st t.fo sa fa sc fc _ (by omega) (by omega) (G4.out.alloc _) (G5.out.alloc _)).mono ?_
      rintro e w3 ⟨pb, eb, qb, M, rfl, hb3, hM, hH⟩
      have hb := ((Below.refl _ wr).alloc (Nat.le_refl _) (.cells #[.int .i64 t.id, .int .i64 t.hs, .slice sa t.st.length sc, .slice fa t.fo.length fc] 24)).trans (hb3.mono (by simp))
      have hM' : wr.heap.size < M := by simp at hM; omega
      have swr := WB.out.size
      have lP := BP.out.lt; have l6 := B6.out.lt
      have BP := hid (BP.out.below hb lP); have B6 := hid (B6.out.below hb l6); have WB := hid (WB.out.trans (hb.mono swr))
      have HH2 := hid hH
      clear hb hb3 hH hM g0 g1 g2 g3 lb
      unfold pairC leftV
      go_wp2_with fail
      refine (comes_any pb eb qb M t sa fa sc fc _ (rateW r) (fun _ => True) w3 hln.1 hln.2 (okT_okN' HTS.out).1 (okT_okN' HTS.out).2 (rates_worth r HR.out) (by simp [rateW]) (rateW_b HR.out) (fun _ _ _ _ => trivial) trivial HH2.out).mono ?_
      rintro e w4 ⟨lo, hi, rfl, hsp, kp⟩
      have hsf := spanF_eq hsp
      have sb := span_bound (rateW_b HR.out) hln.1 hln.2 hsp
      have BP := hid (kp.box (show P ≠ M by omega) BP.out); have B6 := hid (kp.box (show w.heap.size + 1 ≠ M by omega) B6.out)
      have WB := hid (WB.out.trans (kp.below (B := w.heap.size) (fun b hb => show b ≠ M by omega) WB.out.size))
      have HSF := hid hsf
      have y0 : w4.cell? ⟨P, 0, none⟩ = some (.int .i64 e1) := BP.out.cell 0
      have y1 : w4.cell? ⟨P, 1, none⟩ = some (.int .i64 e2) := BP.out.cell 1
      have y2 := BP.out.frozen 0; have y3 := BP.out.frozen 1; have y4 := BP.out.lt
      have hw1 := wrap_mid (n := e1 + lo) (by omega) (by omega)
      have hw2 := wrap_mid (n := e2 + hi) (by omega) (by omega)
      have hP6 : w.heap.size ≤ P := by omega
      clear hsp kp hsf
      go_wp2_with fail
      have k7 := WB.out.alloc WB.out.size (.cells #[.int .i64 lo, .int .i64 hi] 68)
      refine ⟨⟨k + 1, by omega, by go_num, ?_, ?_, ?_, ?_⟩, by simp [intOf]; omega⟩
      ·rw [HSN.out, if_pos HH.out, HSF.out]
       first | exact (((BP.out.alloc _).set 0 _).set 1 _) | exact (((BP.out.set 0 _).set 1 _).alloc _)
      ·first | exact ((B6.out.alloc _).other _ _ _ (by omega)).other _ _ _ (by omega) | exact (((B6.out.other _ _ _ (by omega)).other _ _ _ (by omega)).alloc _)
      ·first | exact ((k7.setCell (p := ⟨P, 0, none⟩) hP6 _).setCell (p := ⟨P, 1, none⟩) hP6 _) | exact (((WB.out.setCell (p := ⟨P, 0, none⟩) hP6 _).setCell (p := ⟨P, 1, none⟩) hP6 _).alloc (by simp; exact WB.out.size) _)
      ·rw [HSN.out, if_pos HH.out, HSF.out]
       dsimp only
       omega
     ·have hq : (t.hs == house) = false := by simp [hh]
      have HH := hid hh; clear hh
      go_wp2_with fail
      exact ⟨⟨k + 1, by omega, by go_num, by rw [HSN.out, if_neg HH.out]; exact BP.out.alloc _, B6.out.alloc _, WB.out.alloc WB.out.size _, by rw [HSN.out, if_neg HH.out]; dsimp only; omega⟩, by simp [intOf]; omega⟩
    ·have hkk : k = ts.length := by omega
     subst hkk
     rw [List.take_of_length_le (Nat.le_refl _)] at BP
     obtain ⟨E, hE⟩ : ∃ E, owesL (rateW r) house ts = E := ⟨_, rfl⟩
     rw [hE] at BP
     obtain ⟨e1, e2⟩ := E
     have y0 : wr.cell? ⟨P, 0, none⟩ = some (.int .i64 e1) := BP.out.cell 0
     have y1 : wr.cell? ⟨P, 1, none⟩ = some (.int .i64 e2) := BP.out.cell 1
     have r0 := hb6.cell 0; have r1 := hb6.cell 1; have r2 := hb6.frozen 0; have r3 := hb6.frozen 1; have r4 := hb6.lt
     simp only [List.getElem?_toArray, List.getElem?_cons_zero, List.getElem?_cons_succ] at r0 r1
     have HE3 := hid hE
     clear hbP hb6 hBr hE hbd
     go_wp2_with fail
     refine bodyPost_ret (v := .tuple #[.agg #[.int .i64 e1, .int .i64 e2], .int .i64 0]) (by simp [results, Tryd.results46, go_sem, r0, r1, r2, r3, r4]) rfl ⟨?_, (((WB.out).setCell (p := ⟨w.heap.size + 1, 0, none⟩) (show w.heap.size ≤ w.heap.size + 1 by omega) _).setCell (p := ⟨w.heap.size + 1, 1, none⟩) (show w.heap.size ≤ w.heap.size + 1 by omega) _)⟩
     have h1 : owesR ts house r = ((e1, e2), 0) := by unfold owesR; rw [if_neg (by rw [HE.out]; simp), if_pos HR.out, HE3.out]
     rw [h1]
  ·have hr' : r.ok = false := by simpa using hr
   have HR := hid hr; clear hr
   rw [hr']
   have r0 := B6.out.cell 0; have r1 := B6.out.cell 1; have r2 := B6.out.frozen 0; have r3 := B6.out.frozen 1; have r4 := B6.out.lt
   simp only [List.getElem?_toArray, List.getElem?_cons_zero, List.getElem?_cons_succ] at r0 r1
   go_wp2_with fail
   refine bodyPost_ret (v := .tuple #[.agg #[.int .i64 0, .int .i64 0], .int .i64 71]) (by simp [results, Tryd.results46, go_sem, r0, r1, r2, r3, r4]) rfl ⟨?_, (((WB.out).setCell (p := ⟨w.heap.size + 1, 0, none⟩) (show w.heap.size ≤ w.heap.size + 1 by omega) _).setCell (p := ⟨w.heap.size + 1, 1, none⟩) (show w.heap.size ≤ w.heap.size + 1 by omega) _)⟩
   have h1 : owesR ts house r = ((0, 0), 71) := by unfold owesR; rw [if_neg (by rw [HE.out]; simp), if_neg HR.out]
   rw [h1]
 ·have t1 : (errAll ts != 0) = true := by simpa using he
  have HE := hid he; clear he
  have r0 := B6.out.cell 0; have r1 := B6.out.cell 1; have r2 := B6.out.frozen 0; have r3 := B6.out.frozen 1; have r4 := B6.out.lt
  simp only [List.getElem?_toArray, List.getElem?_cons_zero, List.getElem?_cons_succ] at r0 r1
  go_wp2_with fail
  refine bodyPost_ret (v := .tuple #[.agg #[.int .i64 0, .int .i64 0], .int .i64 (errAll ts)]) (by simp [results, Tryd.results46, go_sem, r0, r1, r2, r3, r4]) rfl ⟨?_, (((WB.out).setCell (p := ⟨w.heap.size + 1, 0, none⟩) (show w.heap.size ≤ w.heap.size + 1 by omega) _).setCell (p := ⟨w.heap.size + 1, 1, none⟩) (show w.heap.size ≤ w.heap.size + 1 by omega) _)⟩
  have h1 : owesR ts house r = ((0, 0), errAll ts) := by unfold owesR; rw [if_pos HE.out]
  rw [h1]
noncomputable def owedR (a : Tl) (r : Rt) : (Int × Int) × Int := owesR [a] a.hs r
theorem owed_any (a : Tl) (r : Rt) (sa fa : Option Addr) (sc fc : Nat) (w : World) (ht : Tab w) (hl : a.st.length ≤ 1000) (hl2 : a.fo.length ≤ 1000) (h1 : RdI w sa a.st) (h2 : RdI w fa a.fo) :
  Calls Tryd.prog 44 #[.agg #[.int .i64 a.id, .int .i64 a.hs, .slice sa a.st.length sc, .slice fa a.fo.length fc], r.val] w
   fun e w' => e = .returned (.tuple #[.agg #[.int .i64 (owedR a r).1.1, .int .i64 (owedR a r).1.2], .int .i64 (owedR a r).2]) ∧ Below w.heap.size w w' := by
 have H1 := hid h1; have H2 := hid h2; clear h1 h2
 have HT := hid ht; clear ht
 have hou := fun W hT hR => owes_any [a] a.hs r (some ⟨w.heap.size + 1 + 1 + 1, 0, none⟩) 1 W hT (by simp) (fun t ht => by rw [List.mem_singleton] at ht; subst ht; exact ⟨hl, hl2⟩) hR
 have HO := hid hou; clear hou
 unfold Rt.val at HO ⊢
 go_enter Tryd.func44, Tryd.ntmps44
 go_wp2_with fail
 refine (HO.out _ (HT.out.below goBl) ?_).mono ?_
 ·intro i hi
  match i, hi with
  | 0, _ =>
   have bx := Box.at (w := ((w.alloc (.cells #[.int .i64 a.id, .int .i64 a.hs, .slice sa a.st.length sc, .slice fa a.fo.length fc] 24)).alloc (.cells #[.int .i64 r.skin, .int .i64 r.half, .int .i64 r.barrel, .int .i64 r.paid] 64)).alloc (.cells #[.int .i64 0, .int .i64 0] 68)) (n := w.heap.size + 1 + 1 + 1) (#[.int .i64 a.id, .int .i64 a.hs, .slice sa a.st.length sc, .slice fa a.fo.length fc]) 24 (by simp)
   exact ⟨w.heap.size + 1 + 1 + 1, 0, sa, sc, fa, fc, rfl, bx.cell 0, bx.cell 1, bx.cell 2, bx.cell 3, H1.out.below goBl, H2.out.below goBl⟩
 rintro e w1 ⟨rfl, hb1⟩
 have b4 := hid (((Box.at (w := (w.alloc (.cells #[.int .i64 a.id, .int .i64 a.hs, .slice sa a.st.length sc, .slice fa a.fo.length fc] 24)).alloc (.cells #[.int .i64 r.skin, .int .i64 r.half, .int .i64 r.barrel, .int .i64 r.paid] 64)) (n := w.heap.size + 1 + 1) #[.int .i64 0, .int .i64 0] 68 (by simp)).alloc (.cells #[.int .i64 a.id, .int .i64 a.hs, .slice sa a.st.length sc, .slice fa a.fo.length fc] 24)).below hb1 (by simp))
 have WB : Below w.heap.size w w1 := goBl
 have r0 := b4.out.cell 0; have r1 := b4.out.cell 1; have r2 := b4.out.frozen 0; have r3 := b4.out.frozen 1; have r4 := b4.out.lt
 simp only [List.getElem?_toArray, List.getElem?_cons_zero, List.getElem?_cons_succ] at r0 r1
 obtain ⟨O, hO⟩ : ∃ O, owesR [a] a.hs r = O := ⟨_, rfl⟩
 rw [hO]
 have HOO := hid hO
 clear hO HO
 obtain ⟨⟨o1, o2⟩, o3⟩ := O
 dsimp only
 have WBB := hid WB
 clear WB hb1 b4
 go_wp2_with fail
 refine bodyPost_ret (v := .tuple #[.agg #[.int .i64 o1, .int .i64 o2], .int .i64 o3]) (by simp [results, Tryd.results44, go_sem, r0, r1, r2, r3, r4]) rfl ⟨by unfold owedR; rw [HOO.out], (WBB.out.setCell (p := ⟨w.heap.size + 1 + 1, 0, none⟩) (show w.heap.size ≤ w.heap.size + 1 + 1 by omega) _).setCell (p := ⟨w.heap.size + 1 + 1, 1, none⟩) (show w.heap.size ≤ w.heap.size + 1 + 1 by omega) _⟩
def AccW (W : Int → Int) (P : List Int → Prop) (s : Int × Int) (first : Bool) : Prop := (first = true ∧ s = (0, 0) ∧ ∀ l, ¬ P l) ∨ (first = false ∧ IsSpan W P s.1 s.2)
theorem AccW.iff {W : Int → Int} {P Q : List Int → Prop} {s : Int × Int} {first : Bool} (h : AccW W P s first) (hq : ∀ x, P x ↔ Q x) : AccW W Q s first := by
 rcases h with ⟨h1, h0, h2⟩ | ⟨h1, h2⟩
 ·exact .inl ⟨h1, h0, fun l hl => h2 l ((hq l).2 hl)⟩
 ·exact .inr ⟨h1, h2.iff hq⟩
theorem infoInt : (Tryd.prog.info? 3).map (fun i => (i.zero, i.size, i.bytes)) = some (some (.int .i64 0), 1, 8) := by kernel_rfl
theorem growNil_any (n : Nat) (hn : n ≤ 4000) (w : World) :
  Calls Tryd.prog 103 #[.slice none 0 0, .int .i64 n] w fun e w' => ∃ a c, e = .returned (.slice a 0 c) ∧ Below w.heap.size w w' ∧ w'.ownsRow w.heap.size 3 1 (.slice a 0 c) 0 [] := by
 have k1 : ¬ ((n : Int) < 0) := by omega
 rcases Nat.eq_zero_or_pos n with rfl | hp
 ·go_enter Tryd.func103, Tryd.ntmps103
  go_wp2
  go_ret
  exact ⟨none, 0, rfl, Below.refl _ _, World.ownsRow_nil _ _ _ _⟩
 ·obtain ⟨i0, hi, iz0, iz1, iz2⟩ := info_parts infoInt
  have hold : (Builtin.firstCells i0.size 0 (.slice none 0 0)).run Tryd.prog w.drew = .ok ([] : List Value).toArray w.drew := run_firstCells_none w.drew i0.size 0 0 0
  have hrz : ∀ ty, (Builtin.append_ #[22, 3] ty #[.slice none 0 0, .int .i64 (n : Int)]).run Tryd.prog w =
    .ok (.slice (some ⟨w.heap.size, 0, none⟩) n (grownCap w n 0 3)) (w.drew.alloc (.cells (([] : List Value).toArray ++ Builtin.zeroCells #[.int .i64 0] n ++ Builtin.zeroCells #[.int .i64 0] (grownCap w n 0 3 - n)) 3)) := fun ty => by
   have h := Lib.run_append_grow_zeros w 22 3 ty 3 i0 _ .i64 .i64 Tryd.underlying22 Tryd.underlying3 hi iz0 none 0 0 [] hold n hp (by omega) (by omega) (by omega) (by rw [iz2]; omega) (growslice_fits (by omega) (by rw [iz2]; omega))
   simpa [Value.cells] using h
  have hGn : n ≤ grownCap w n 0 3 := grownCap_ge w _ _ _
  have hGm : grownCap w n 0 3 ≤ maxLen := grownCap_le_maxLen w _ _ _ (by simp only [maxLen]; omega)
  obtain ⟨G, hG⟩ : ∃ G, G = grownCap w n 0 3 := ⟨_, rfl⟩
  rw [← hG] at hrz hGn hGm
  have hG63 : G ≤ 9223372036854775807 := by simp only [maxLen] at hGm; omega
  have HG := hid hGm
  clear hold hG hGm iz0 iz1 iz2 hi
  have own := World.ownsRow_made (e := 3) (size := 1) (base := w.heap.size) w.drew (([] : List Value).toArray ++ Builtin.zeroCells #[.int .i64 0] n ++ Builtin.zeroCells #[.int .i64 0] (G - n)) G (Nat.le_refl _) HG.out (by simp [size_zeroCells]; omega)
  have OW := hid own; clear own
  have h4 : (n : Int) > 0 := by omega
  go_enter Tryd.func103, Tryd.ntmps103
  go_wp2_with (at_builtin; refine Lib.wpList_append_run _ rfl _ _ _ _ rfl _ _ rfl rfl _ _ (hrz _) ?_)
  all_goals (go_ret; exact ⟨_, _, rfl, goBl, by simpa using (show (w.alloc (.cells _ _)).drew.ownsRow _ _ _ _ _ _ from OW.out)⟩)
theorem clone_any (a : Option Addr) (c : Nat) (xs : List Int) (w : World) (hl : xs.length ≤ 4000) (h : RdI w a xs) :
  Calls Tryd.prog 102 #[.slice a xs.length c] w fun e w' => ∃ a' c', e = .returned (.slice a' xs.length c') ∧ Below w.heap.size w w' ∧ w'.ownsRow w.heap.size 3 1 (.slice a' xs.length c') xs.length (xs.map (Value.int .i64)) := by
 have qT : ∀ (w : World) (a : Option Addr) (n c n' c' : Nat), (binOp .eql 22 (.slice a n c) (.slice none n' c')).run Tryd.prog w = .ok (.bool a.isNone) w := fun w a n c n' c' => Lib.run_eql_slice_nil w _ _ a n c n' c' Tryd.underlying22
 have H := hid h; clear h
 cases a with
 | none =>
  have hx : xs = [] := List.length_eq_zero_iff.1 (RdI.none H.out rfl)
  subst hx
  go_enter Tryd.func102, Tryd.ntmps102
  go_wp2_with fail
  go_ret
  exact ⟨none, 0, rfl, Below.refl _ _, World.ownsRow_nil _ _ _ _⟩
 | some ad =>
  obtain ⟨i0, hi, iz0, iz1, iz2⟩ := info_parts infoInt
  go_enter Tryd.func102, Tryd.ntmps102
  go_wp2_with (at_builtin; refine wpList_append_any _ rfl _ _ _ rfl w.heap.size 3 i0 _ 1 8 Tryd.underlying22 hi iz0 iz1 iz2 rfl (by decide) (.slice (some ⟨_, 0, none⟩) 0 0) 0 [] rfl (by repeat (first | (with_reducible assumption) | (with_reducible refine World.ownsRow.drew ?_) | ((with_reducible refine own_lit ?_ ?_ ?_ ?_ ?_) <;> first | rfl | omega | (simp; omega)) | (with_reducible refine World.ownsRow.alloc ?_ _) | (with_reducible refine own_other ?_ yL) | (refine World.ownsRow.kept ?_ (by with_reducible assumption) (.inr (by first | (simp [Value.ownBlock]; done) | (simp [Value.ownBlock]; omega)))))) (some ad) xs.length c (xs.map (Value.int .i64)) rfl (by simp) (RdI.none (H.out.below goBl)) (RdI.news (H.out.below goBl)) (ints_one _) (by omega) (by omega) yL ?_; intro a' c' w1 own1 gr1 pl1)
  go_ret
  exact ⟨a', c', by simp, Below.grown (a := w) goBl gr1 yL (by intro k hk; simp [Value.ownBlock] at hk; omega), by simpa using own1⟩
theorem concat_any (B : Nat) (a b : Option Addr) (c d : Nat) (xs ys : List Int) (w : World) (hl : xs.length ≤ 1000) (hl2 : ys.length ≤ 1000) (h1 : RdI w a xs) (h2 : RdI w b ys)
  (c0 : w.cell? ⟨B, 0, none⟩ = some (.slice a xs.length c)) (c1 : w.cell? ⟨B, 1, none⟩ = some (.slice b ys.length d)) :
  Calls Tryd.prog 80 #[.slice (some ⟨B, 0, none⟩) 2 2] w fun e w' => ∃ a' c', e = .returned (.slice a' (xs.length + ys.length) c') ∧ Below w.heap.size w w' ∧ w'.ownsRow w.heap.size 3 1 (.slice a' (xs.length + ys.length) c') (xs.length + ys.length) ((xs ++ ys).map (Value.int .i64)) := by
 have HX := hid h1; clear h1
 have HY := hid h2; clear h2
 have hB := cell_lt c0
 simp only at hB
 obtain ⟨i0, hi, iz0, iz1, iz2⟩ := info_parts infoInt
 have n1 : ¬ ((xs.length : Int) < 0) := by omega
 have n2 : ¬ ((xs.length : Int) + (ys.length : Int) < 0) := by omega
 go_enter Tryd.func80, Tryd.ntmps80
 go_wp2_with fail
 refine wp_loop_rounds 3 ?_
 rw [rounds_succ]; go_wp2_with fail
 rw [rounds_succ]; go_wp2_with fail
 rw [rounds_succ]; go_wp2_with fail
 refine (growNil_any (xs.length + ys.length) (by omega) w).mono ?_
 rintro e w1 ⟨ga, gc, rfl, hb1, own1⟩
 have hz1 := (hb1).size; (try simp only [World.size_alloc, World.size_setCell, World.size_drew, World.heap_drewN] at hz1); obtain ⟨hc1, hf1⟩ := bcell hb1
 have d0 : w1.cell? ⟨B, 0, none⟩ = some (.slice a xs.length c) := (hc1 B 0 hB).trans c0
 have d1 : w1.cell? ⟨B, 1, none⟩ = some (.slice b ys.length d) := (hc1 B 1 hB).trans c1
 clear hc1 hf1 c0 c1
 go_wp2_with fail
 refine wp_loop_rounds 3 ?_
 rw [rounds_succ]
 go_wp2_with (at_builtin; refine wpList_append_any _ rfl _ _ _ rfl w.heap.size 3 i0 _ 1 8 Tryd.underlying22 hi iz0 iz1 iz2 rfl (by decide) (.slice ga 0 gc) 0 [] rfl own1 a xs.length c (xs.map (Value.int .i64)) rfl (by simp) (RdI.none (HX.out.below goBl)) (RdI.news (HX.out.below goBl)) (ints_one _) (by omega) (by omega) yL ?_; intro a2 c2 w2 own2 gr2 pl2)
 simp only [Nat.zero_add, List.nil_append] at own2 pl2 ⊢
 have hz2' := gr2.size
 have hb2 : Below w.heap.size w w2 := Below.grown (a := w) (hb1.trans (Below.refl _ _)) gr2 yL (fun k hk => (own1.lt k hk).1)
 have ne1 : (Value.slice ga 0 gc).ownBlock ≠ some B := fun h => by have := (own1.lt _ h).1; omega
 have d2 : w2.cell? ⟨B, 1, none⟩ = some (.slice b ys.length d) := (gr2.cell_far _ (by simp; omega) (Ne.symm ne1)).trans d1
 clear d0 d1
 rw [rounds_succ]
 go_wp2_with (at_builtin; refine wpList_append_any _ rfl _ _ _ rfl w.heap.size 3 i0 _ 1 8 Tryd.underlying22 hi iz0 iz1 iz2 rfl (by decide) (.slice a2 xs.length c2) xs.length (xs.map (Value.int .i64)) rfl own2 b ys.length d (ys.map (Value.int .i64)) rfl (by simp) (RdI.none (HY.out.below goBl)) (RdI.news (HY.out.below goBl)) (ints_one _) (by omega) (by omega) yL ?_; intro a3 c3 w3 own3 gr3 pl3)
 have hb3 : Below w.heap.size w w3 := Below.grown (a := w) hb2 gr3 yL (fun k hk => (own2.lt k hk).1)
 rw [rounds_succ]
 go_wp2_with fail
 go_ret
 exact ⟨a3, c3, by simp, hb3, by simpa using own3⟩
def RowAt (W : World) (cs : Array Value) (a b : List Int) (O X : Nat) (r : Nat) : Prop := ∃ R rs, cs[r]? = some (.slice (some ⟨R, 0, none⟩) (b.length + 1) (b.length + 1)) ∧ R < X ∧ R ≠ O ∧ Box W R rs 3 ∧ rs.size = b.length + 1 ∧ ∀ k, k ≤ b.length → rs[k]? = some (.int .i64 (dd a b r k : Int))
theorem RowAt.keep {W W' : World} {cs cs' : Array Value} {a b : List Int} {O X X' r : Nat} (h : RowAt W cs a b O X r) (hc : cs'[r]? = cs[r]?) (hX : X ≤ X') (hk : ∀ k, k < X → k ≠ O → W'.heap[k]? = W.heap[k]?) : RowAt W' cs' a b O X' r := by
 obtain ⟨R, rs, h1, h2, h3, h4, h5, h6⟩ := h
 exact ⟨R, rs, hc.trans h1, by omega, h3, (hk R h2 h3).trans h4, h5, h6⟩
def Same (a b : World) : Prop := b.heap = a.heap ∧ b.os = a.os ∧ b.tape = a.tape ∧ b.output = a.output
theorem Same.box {a b : World} (h : Same a b) {k : Nat} {cs : Array Value} {t : TypeId} (hb : Box a k cs t) : Box b k cs t := by unfold Box at *; rw [h.1]; exact hb
theorem Same.below {w a b : World} {B : Nat} (h : Same a b) (hb : Below B w a) : Below B w b := ⟨h.2.1.trans hb.os, h.2.2.1.trans hb.tape, h.2.2.2.trans hb.output, by rw [h.1]; exact hb.size, fun k hk => by rw [h.1]; exact hb.block k hk⟩
def SRow (sp : Nat → Nat → Int × Int) (W : World) (cs : Array Value) (m O X : Nat) (r : Nat) : Prop := ∃ R rs, cs[r]? = some (.slice (some ⟨R, 0, none⟩) (m + 1) (m + 1)) ∧ R < X ∧ R ≠ O ∧ Box W R rs 68 ∧ rs.size = 2 * (m + 1) ∧ ∀ k, k ≤ m → rs[k * 2]? = some (.int .i64 (sp r k).1) ∧ rs[k * 2 + 1]? = some (.int .i64 (sp r k).2)
theorem SRow.keep {sp : Nat → Nat → Int × Int} {W W' : World} {cs cs' : Array Value} {m O X X' r : Nat} (h : SRow sp W cs m O X r) (hc : cs'[r]? = cs[r]?) (hX : X ≤ X') (hk : ∀ k, k < X → k ≠ O → k < W.heap.size → W'.heap[k]? = W.heap[k]?) : SRow sp W' cs' m O X' r := by
 obtain ⟨R, rs, h1, h2, h3, h4, h5, h6⟩ := h
 exact ⟨R, rs, hc.trans h1, by omega, h3, (hk R h2 h3 h4.lt).trans h4, h5, h6⟩
structure RcI (sp : Nat → Nat → Int × Int) (w1 : World) (n m O X i : Nat) (cs : Array Value) (rs : Array Value) (l : Nat) (V : World) : Prop where
 o : Box V O cs 176
 rows : ∀ r, i + 1 ≤ r → r ≤ n → SRow sp V cs m O X r
 bel : Below w1.heap.size w1 V
 x : Box V X rs 68
 sz : rs.size = 2 * (m + 1)
 got : ∀ k, l ≤ k → k ≤ m → rs[k * 2]? = some (.int .i64 (sp i k).1) ∧ rs[k * 2 + 1]? = some (.int .i64 (sp i k).2)
theorem RcI.keep {sp : Nat → Nat → Int × Int} {w1 V V' : World} {n m O X i l Y : Nat} {cs rs : Array Value} (h : RcI sp w1 n m O X i cs rs l V) (hO : O < Y) (hX : X < Y) (h1 : w1.heap.size ≤ Y) (kp : Keep (· < Y) V V') : RcI sp w1 n m O X i cs rs l V' :=
 ⟨kp.box hO h.o, fun r g1 g2 => (h.rows r g1 g2).keep rfl (Nat.le_refl _) (fun k hk _ hv => kp.block k hv (show k < Y by omega)), h.bel.trans (kp.below (fun b hb => show b < Y by omega) h.bel.size), kp.box hX h.x, h.sz, h.got⟩
theorem RcI.same {sp : Nat → Nat → Int × Int} {w1 V V' : World} {n m O X i l : Nat} {cs rs : Array Value} (h : RcI sp w1 n m O X i cs rs l V) (k : Keep (fun _ => True) V V') : RcI sp w1 n m O X i cs rs l V' :=
 ⟨k.box trivial h.o, fun r g1 g2 => (h.rows r g1 g2).keep rfl (Nat.le_refl _) (fun k' _ _ hv => k.block k' hv trivial), h.bel.trans (k.below (fun b hb => trivial) h.bel.size), k.box trivial h.x, h.sz, h.got⟩
theorem take_succ_eq {α : Type} [DecidableEq α] {xs ys : List α} {k : Nat} (h : xs.take k = ys.take k) (hx : k < xs.length) (hy : k < ys.length) (e : xs[k] = ys[k]) : xs.take (k + 1) = ys.take (k + 1) := by
 rw [List.take_succ_eq_append_getElem hx, List.take_succ_eq_append_getElem hy, h, e]
theorem sameInts_any (a b : Option Addr) (c d : Nat) (xs ys : List Int) (w : World) (hl : xs.length ≤ 4000) (hx : RdI w a xs) (hy : RdI w b ys) :
  Calls Tryd.prog 81 #[.slice a xs.length c, .slice b ys.length d] w fun e w' => e = .returned (.bool (decide (xs = ys))) ∧ Below w.heap.size w w' := by
 by_cases hlen : xs.length = ys.length
 ·have hlb : ((xs.length : Int) != (ys.length : Int)) = false := by simp [hlen]
  have HX := hid hx; clear hx
  have HY := hid hy; clear hy
  have HL := hid hlen; clear hlen
  go_enter Tryd.func81, Tryd.ntmps81
  go_wp2_with fail
  clear hlb
  go_loopw [5] (fun i wr => ∃ k : Nat, k ≤ xs.length ∧ i = .int .i64 k ∧ xs.take k = ys.take k ∧ Below w.heap.size w wr) (fun i _ => (xs.length - (intOf i).toNat))
  case atStart => exact ⟨0, by omega, rfl, by simp, Below.refl _ _⟩
  case round =>
   obtain ⟨k, hk, rfl, hno, hb⟩ := hrel
   have Hno := hid hno; clear hno
   by_cases hlt : k < xs.length
   ·have hlt2 : k < ys.length := by have := HL.out; omega
    obtain ⟨b1, o1, rfl, hc1⟩ := HX.out.below hb k hlt
    obtain ⟨b2, o2, rfl, hc2⟩ := HY.out.below hb k hlt2
    have hi : (k : Int) < (xs.length : Int) := by omega
    have hi2 : (k : Int) < (ys.length : Int) := by omega
    go_wp2_with fail
    go_quiet (fail)
    go_wp2_with fail
    ·rename_i hne
     go_ret
     refine ⟨(congrArg (fun b => Ending.returned (Value.bool b)) ?_), goBl⟩
     have hxy : xs ≠ ys := by
      rintro rfl
      simp at hne
     simp [hxy]
    ·rename_i heq
     go_roundw
     case rel => exact ⟨k + 1, by omega, by go_num, take_succ_eq Hno.out hlt hlt2 (by simpa using heq), goBl⟩
     case measure => simp [intOf]; omega
   ·go_wp2_with fail
    go_ret
    refine ⟨(congrArg (fun b => Ending.returned (Value.bool b)) ?_), hb⟩
    have h1 : k = xs.length := by omega
    subst h1
    have h2 := Hno.out
    rw [List.take_of_length_le (Nat.le_refl _), List.take_of_length_le (by rw [HL.out]; exact Nat.le_refl _)] at h2
    simp [h2]
 ·have hlb : ((xs.length : Int) != (ys.length : Int)) = true := by simp; omega
  go_enter Tryd.func81, Tryd.ntmps81
  go_wp2_with fail
  go_ret
  refine ⟨(congrArg (fun b => Ending.returned (Value.bool b)) ?_), Below.refl _ _⟩
  have hxy : xs ≠ ys := by rintro rfl; exact hlen rfl
  simp [hxy]
def sameT (id hs id' hs' : Int) (st fo st' fo' : List Int) : Bool := id == id' && hs == hs' && decide (st = st') && decide (fo = fo')
theorem same_any (id hs id' hs' : Int) (st fo st' fo' : List Int) (sa fa sa' fa' : Option Addr) (sc fc sc' fc' : Nat) (w : World)
  (hl : st.length ≤ 4000) (hl2 : fo.length ≤ 4000) (h1 : RdI w sa st) (h2 : RdI w fa fo) (h3 : RdI w sa' st') (h4 : RdI w fa' fo') :
  Calls Tryd.prog 24 #[.agg #[.int .i64 id, .int .i64 hs, .slice sa st.length sc, .slice fa fo.length fc], .agg #[.int .i64 id', .int .i64 hs', .slice sa' st'.length sc', .slice fa' fo'.length fc']] w fun e w' => e = .returned (.bool (sameT id hs id' hs' st fo st' fo')) ∧ Below w.heap.size w w' := by
 have HX := hid h1; clear h1
 have HY := hid h2; clear h2
 have HZ := hid h3; clear h3
 have HU := hid h4; clear h4
 have H1 := hid hl; have H2 := hid hl2; clear hl hl2
 by_cases e1 : id = id'
 ·by_cases e2 : hs = hs'
  ·have E : Hid (id = id' ∧ hs = hs') := ⟨e1, e2⟩
   have t1 : (id == id') = true := by simp [e1]
   have t2 : (hs == hs') = true := by simp [e2]
   clear e1 e2
   go_enter Tryd.func24, Tryd.ntmps24
   go_wp2_with fail
   clear t1 t2
   refine (sameInts_any _ _ _ _ _ _ _ H1.out (HX.out.below goBl) (HZ.out.below goBl)).mono ?_
   rintro e w1 ⟨rfl, hb1⟩
   have hz1 := (hb1).size; (try simp only [World.size_alloc, World.size_setCell, World.size_drew, World.heap_drewN] at hz1); obtain ⟨hc1, hf1⟩ := bcell hb1
   by_cases e3 : st = st'
   ·have E3 := hid e3
    have t3 : decide (st = st') = true := by simp [e3]
    clear e3
    go_wp2_with fail
    refine (sameInts_any _ _ _ _ _ _ _ H2.out (HY.out.below goBl) (HU.out.below goBl)).mono ?_
    rintro e w2 ⟨rfl, hb2⟩
    have hz2 := (hb2).size; (try simp only [World.size_alloc, World.size_setCell, World.size_drew, World.heap_drewN] at hz2); obtain ⟨hc2, hf2⟩ := bcell hb2
    go_wp2_with fail
    go_ret
    exact ⟨(congrArg (fun b => Ending.returned (Value.bool b)) (by simp [sameT, E.out.1, E.out.2, E3.out])), goBl⟩
   ·have t3 : decide (st = st') = false := by simp [e3]
    have E3 := hid e3
    clear e3
    go_wp2_with fail
    go_ret
    exact ⟨(congrArg (fun b => Ending.returned (Value.bool b)) (by simp [sameT, E3.out])), goBl⟩
  ·have t1 : (id == id') = true := by simp [e1]
   have t2 : (hs == hs') = false := by simp [e2]
   clear e1
   go_enter Tryd.func24, Tryd.ntmps24
   go_wp2_with fail
   go_ret
   exact ⟨(congrArg (fun b => Ending.returned (Value.bool b)) (by simp [sameT, e2])), goBl⟩
 ·have t1 : (id == id') = false := by simp [e1]
  go_enter Tryd.func24, Tryd.ntmps24
  go_wp2_with fail
  go_ret
  exact ⟨(congrArg (fun b => Ending.returned (Value.bool b)) (by simp [sameT, e1])), goBl⟩
end Go.Proofs.YthddoikmgpgakaaDoor
namespace Go.Proofs.YthddoikmgpgakaaDoor.Sw
open Go.RowKit Go
def tC (t : Tl) : List AV := [.val (.int .i64 t.id), .val (.int .i64 t.hs), .sl 1 iC t.st, .sl 1 iC t.fo]
def rC (r : Rt) : List AV := [.val (.int .i64 r.skin), .val (.int .i64 r.half), .val (.int .i64 r.barrel), .val (.int .i64 r.paid)]
def pC (s : Int × Int) : List AV := [.val (.int .i64 s.1), .val (.int .i64 s.2)]
instance {t : Tl} : OneL (tC t) := inferInstanceAs (OneL [_, _, _, _])
instance : OneF tC := ⟨fun _ => inferInstance⟩
instance : LenF tC 4 := ⟨fun _ => rfl⟩
instance {t : Int × Int} : OneL (pC t) := inferInstanceAs (OneL [_, _])
theorem rdI_of {G : Nat → Option Obj} {w : World} (hG : Gin G w) {a : Option Addr} {xs : List Int} (h : SlP G 1 iC a xs) : RdI w a xs := fun i hi => by
 obtain ⟨b, o, e, h1⟩ := h i hi
 obtain ⟨u, h2, h3⟩ := h1 0 _ rfl
 refine ⟨b, o, e, ?_⟩
 have h3' : u = .int .i64 xs[i] := h3
 have := cellG.cell hG h2
 rw [h3'] at this
 simpa using this
theorem fits_tl {G : Nat → Option Obj} {w : World} (hG : Gin G w) {t : Tl} {v : Value} (h : (AV.agg (tC t)).P G v) : ∃ sa sc fa fc, v = .agg #[.int .i64 t.id, .int .i64 t.hs, .slice sa t.st.length sc, .slice fa t.fo.length fc] ∧ RdI w sa t.st ∧ RdI w fa t.fo := by
 obtain ⟨us, e, hu⟩ := h
 match us, hu with
 | [v0, v1, v2, v3], ⟨h0, h1, ⟨a1, c1, h2, _, h4⟩, ⟨a2, c2, h3, _, h5⟩, _⟩ =>
  have h0' : v0 = _ := h0
  have h1' : v1 = _ := h1
  subst e h0' h1' h2 h3
  exact ⟨a1, c1, a2, c2, rfl, rdI_of hG h4, rdI_of hG h5⟩
theorem fits_tls {G : Nat → Option Obj} {w : World} (hG : Gin G w) {ts : List Tl} {v : Value} (h : (AV.sl 4 tC ts).P G v) : ∃ la lc, v = .slice la ts.length lc ∧ RdT w la ts := by
 obtain ⟨a, c, e, _, hs⟩ := h
 refine ⟨a, c, e, fun i hi => ?_⟩
 obtain ⟨b, o, ea, h1⟩ := hs i hi
 obtain ⟨u0, g0, k0⟩ := h1 0 _ rfl
 obtain ⟨u1, g1, k1⟩ := h1 1 _ rfl
 obtain ⟨u2, g2, ⟨a2, c2, k2, _, q2⟩⟩ := h1 2 _ rfl
 obtain ⟨u3, g3, ⟨a3, c3, k3, _, q3⟩⟩ := h1 3 _ rfl
 have k0' : u0 = _ := k0
 have k1' : u1 = _ := k1
 subst k0' k1' k2 k3
 exact ⟨b, o, a2, c2, a3, c3, ea, by simpa using cellG.cell hG g0, cellG.cell hG g1, cellG.cell hG g2, cellG.cell hG g3, rdI_of hG q2, rdI_of hG q3⟩
theorem fits_rt {G : Nat → Option Obj} {r : Rt} {v : Value} (h : (AV.agg (rC r)).P G v) : v = r.val := by
 obtain ⟨us, e, hu⟩ := h
 match us, hu with
 | [v0, v1, v2, v3], ⟨h0, h1, h2, h3, _⟩ =>
  have h0' : v0 = _ := h0
  have h1' : v1 = _ := h1
  have h2' : v2 = _ := h2
  have h3' : v3 = _ := h3
  subst e h0' h1' h2' h3'
  rfl
def TabG (G : Nat → Option Obj) : Prop := cellG G 0 0 = some (.func (.func 164) #[] #[]) ∧ cellG G 0 1 = some (.func (.func 165) #[] #[]) ∧ cellG G 0 2 = some (.func (.func 166) #[] #[])
def HA.tab : HA := ⟨fun G F _ => F = [] ∧ TabG G, fun h k => ⟨k.1, cellG.le h k.2.1, cellG.le h k.2.2.1, cellG.le h k.2.2.2⟩, fun _ k => k⟩
theorem con_tab {P : Program} {k : FuncId} {args : List AV} {av : AV} (he : ∀ args w, (callFunc k args).run P w = .ok (.enter k args) w)
  (h : ∀ (G : Nat → Option Obj) (vs : List Value) (w : World), Fits G args vs → Gin G w → Tab w → Calls P k vs.toArray w fun e w' => ∃ v, e = .returned v ∧ av.P G v ∧ Below w.heap.size w w') : Con P k args [HA.tab] (Is av [HA.tab]) :=
 ⟨he, fun G Fp vs w hf hi => by
  obtain ⟨F1, F2, ep, ⟨hF1, hT⟩, hF2⟩ := hi.hs
  have hF2' : F2 = [] := hF2
  subst hF1 hF2'
  obtain rfl : Fp = [] := List.Perm.eq_nil (by simpa using ep)
  refine (h G vs w hf hi.gin ⟨cellG.cell hi.gin hT.1, cellG.cell hi.gin hT.2.1, cellG.cell hi.gin hT.2.2⟩).mono fun e w' ⟨v, h1, h2, h3⟩ => ?_
  exact ⟨v, av, [HA.tab], G, [], h1, ⟨rfl, rfl⟩, ⟨h3.os, h3.tape, h3.output, h3.size, fun b hb _ => h3.block b hb, fun _ h => .inl h, Gle.refl _, fun _ _ h => .inl h⟩, ⟨fun b o e => (h3.block b (hi.gin.lt e)).trans (hi.gin b o e), by simp, fun b hb => (by cases hb), [], [], .refl _, ⟨rfl, hT⟩, rfl⟩, h2⟩⟩
theorem great_con (t : Tl) : Con Tryd.prog 18 [.agg (tC t)] [] (Is (.val (.bool (decide ((30 : Int) < t.st.length) || decide ((30 : Int) < t.fo.length)))) []) := by
 refine con_same (enters_of Tryd.func18 (by kernel_rfl) rfl) fun G vs w hf hG => ?_
 match vs, hf with
 | [v], ⟨h, _⟩ =>
  obtain ⟨sa, sc, fa, fc, rfl, h1, h2⟩ := fits_tl hG h
  exact (great_any t.id t.hs sa t.st.length sc fa t.fo.length fc w).mono fun e w' ⟨h, hb⟩ => ⟨_, h, rfl, hb⟩
def sameTl (t u : Tl) : Bool := sameT t.id t.hs u.id u.hs t.st t.fo u.st u.fo
theorem sameTl_self (t : Tl) : sameTl t t = true := by simp [sameTl, sameT]
theorem same_con (t u : Tl) (h1 : t.st.length ≤ 1000) (h2 : t.fo.length ≤ 1000) : Con Tryd.prog 24 [.agg (tC t), .agg (tC u)] [] (Is (.val (.bool (sameTl t u))) []) := by
 refine con_same (enters_of Tryd.func24 (by kernel_rfl) rfl) fun G vs w hf hG => ?_
 match vs, hf with
 | [v, v'], ⟨h, h', _⟩ =>
  obtain ⟨sa, sc, fa, fc, rfl, g1, g2⟩ := fits_tl hG h
  obtain ⟨sa', sc', fa', fc', rfl, g3, g4⟩ := fits_tl hG h'
  exact (same_any _ _ _ _ _ _ _ _ _ _ _ _ _ _ _ _ w (by omega) (by omega) g1 g2 g3 g4).mono fun e w' ⟨h, hb⟩ => ⟨_, h, rfl, hb⟩
theorem tally_con (t : Tl) (h1 : t.st.length ≤ 1000) (h2 : t.fo.length ≤ 1000) : Con Tryd.prog 76 [.agg (tC t)] [] (Is (.val (.bool (okT t.id t.hs t.st t.fo))) []) := by
 refine con_same (enters_of Tryd.func76 (by kernel_rfl) rfl) fun G vs w hf hG => ?_
 match vs, hf with
 | [v], ⟨h, _⟩ =>
  obtain ⟨sa, sc, fa, fc, rfl, g1, g2⟩ := fits_tl hG h
  exact (tally_any t.id t.hs _ _ _ _ _ _ w (by omega) (by omega) g1 g2).mono fun e w' ⟨h, hb⟩ => ⟨_, h, rfl, hb⟩
noncomputable def kindsR (a : Tl) (k : Int) : (Int × Int) × Int := if okT a.id a.hs a.st a.fo = true then (if 1 ≤ k ∧ k ≤ 4 then (spanF (kindW k) a.st a.fo, 0) else ((0, 0), 72)) else ((0, 0), 70)
theorem kindsR_eq {a : Tl} {k lo hi e : Int} (h : KindsR a k lo hi e) : kindsR a k = ((lo, hi), e) := by
 unfold KindsR at h
 unfold kindsR
 split at h
 ·rename_i h1
  rw [if_pos h1]
  split at h
  ·rename_i h2
   rw [if_pos h2, spanF_eq h.1, h.2]
  ·rename_i h2
   obtain ⟨rfl, rfl, rfl⟩ := h
   rw [if_neg h2]
 ·rename_i h1
  obtain ⟨rfl, rfl, rfl⟩ := h
  rw [if_neg h1]
def seA (s : (Int × Int) × Int) : AV := .tup [.agg (pC s.1), .val (.int .i64 s.2)]
theorem seA_ok (s : (Int × Int) × Int) (G : Nat → Option Obj) : (seA s).P G (.tuple #[.agg #[.int .i64 s.1.1, .int .i64 s.1.2], .int .i64 s.2]) := ⟨[_, _], rfl, ⟨[_, _], rfl, rfl, rfl, trivial⟩, rfl, trivial⟩
theorem kinds_con (t : Tl) (k : Int) (h1 : t.st.length ≤ 1000) (h2 : t.fo.length ≤ 1000) : Con Tryd.prog 42 [.agg (tC t), .val (.int .i64 k)] [HA.tab] (Is (seA (kindsR t k)) [HA.tab]) := by
 refine con_tab (enters_of Tryd.func42 (by kernel_rfl) rfl) fun G vs w hf hG hT => ?_
 match vs, hf with
 | [v, v'], ⟨h, h', _⟩ =>
  obtain ⟨sa, sc, fa, fc, rfl, g1, g2⟩ := fits_tl hG h
  have h'' : v' = _ := h'
  subst h''
  exact (kindsP_any t k sa fa sc fc w hT h1 h2 g1 g2).mono fun e w' ⟨lo, hi, er, h, hk, hb⟩ => ⟨_, h, by rw [kindsR_eq hk]; exact seA_ok ((lo, hi), er) G, hb⟩
theorem owed_con (t : Tl) (r : Rt) (h1 : t.st.length ≤ 1000) (h2 : t.fo.length ≤ 1000) : Con Tryd.prog 44 [.agg (tC t), .agg (rC r)] [HA.tab] (Is (seA (owedR t r)) [HA.tab]) := by
 refine con_tab (enters_of Tryd.func44 (by kernel_rfl) rfl) fun G vs w hf hG hT => ?_
 match vs, hf with
 | [v, v'], ⟨h, h', _⟩ =>
  obtain ⟨sa, sc, fa, fc, rfl, g1, g2⟩ := fits_tl hG h
  obtain rfl := fits_rt h'
  exact (owed_any t r sa fa sc fc w hT h1 h2 g1 g2).mono fun e w' ⟨h, hb⟩ => ⟨_, h, seA_ok _ G, hb⟩
theorem owes_con (ts : List Tl) (house : Int) (r : Rt) (hl : ts.length ≤ 4000) (hs : ∀ t ∈ ts, t.st.length ≤ 1000 ∧ t.fo.length ≤ 1000) : Con Tryd.prog 46 [.sl 4 tC ts, .val (.int .i64 house), .agg (rC r)] [HA.tab] (Is (seA (owesR ts house r)) [HA.tab]) := by
 refine con_tab (enters_of Tryd.func46 (by kernel_rfl) rfl) fun G vs w hf hG hT => ?_
 match vs, hf with
 | [v, v', v''], ⟨h, h', h'', _⟩ =>
  obtain ⟨la, lc, rfl, g⟩ := fits_tls hG h
  have hh : v' = _ := h'
  subst hh
  obtain rfl := fits_rt h''
  exact (owes_any ts house r la lc w hT hl hs g).mono fun e w' ⟨h, hb⟩ => ⟨_, h, seA_ok _ G, hb⟩
def greatT (t : Tl) : Bool := decide ((30 : Int) < t.st.length) || decide ((30 : Int) < t.fo.length)
theorem greatAll_con (ts : List Tl) : Con Tryd.prog 40 [.sl 4 tC ts] [] (Is (.val (.bool (decide ((12 : Int) < ts.length) || ts.any greatT))) []) := by
 refine con_of Tryd.func40 rfl (enters_of Tryd.func40 (by kernel_rfl) rfl) rfl ?_; intro n w0 F0 G0
 refine zS ?_;repeat(refine yA ?_;intro p hp;refine zS ?_)
 refine w_cond rfl (fun h => ?_) (fun h => ?_)
 ·refine zS ?_;repeat(refine yA ?_;intro p hp;refine zS ?_)
  (apply res1; exact rfl; exact rfl; exact ⟨(congrArg (fun b => AV.val (Value.bool b)) (by simp [h])), rfl⟩)
 ·have hl : ts.length ≤ 4000 := by simp at h; omega
  refine zS ?_;repeat(refine yA ?_;intro p hp;refine zS ?_)
  refine W_loopJ (fun (k : Nat) => ⟨[(8, .sl 4 tC ts), (9, .val (.int .i64 ts.length)), (10, .val (.int .i64 k))], []⟩) (fun k => k ≤ ts.length ∧ (ts.take k).any greatT = false) (fun k => ts.length - k) 0 (fun _ _ st => st_sub2 st zR zP) ?hj0 ?round
  case hj0 => simp
  case round =>
   rintro k ⟨hk, hno⟩
   refine zS ?_;repeat(refine yA ?_;intro p hp;refine zS ?_)
   refine w_cond rfl (fun hlt => ?_) (fun hge => ?_)
   ·have hlt' : k < ts.length := by simpa using hlt
    refine zS ?_;repeat(refine yA ?_;intro p hp;refine zS ?_)
    (first | (apply wl_call (great_con _); exact rfl; exact rfl) | (apply wl_callR (great_con _); exact rfl; exact zM; exact rfl))
    refine zS ?_;repeat(refine yA ?_;intro p hp;refine zS ?_)
    have htk : ts.take (k + 1) = ts.take k ++ [ts[k]] := List.take_succ_eq_append_getElem hlt'
    refine w_cond rfl (fun hg => ?_) (fun hg => ?_)
    ·refine zS ?_;repeat(refine yA ?_;intro p hp;refine zS ?_)
     have : ts.any greatT = true := List.any_eq_true.2 ⟨_, List.getElem_mem hlt', hg⟩
     (apply res1; exact rfl; exact rfl; exact ⟨(congrArg (fun b => AV.val (Value.bool b)) (by simp [this])), rfl⟩)
    ·refine zS ?_;repeat(refine yA ?_;intro p hp;refine zS ?_)
     (refine ⟨k + 1, fun _ _ st => st_sub2 st ?_ ?_, ?_, ?_⟩; exact zR; exact zP)
     ·exact ⟨by omega, by rw [htk, List.any_append, hno]; simp [greatT, hg]⟩
     ·omega
   ·refine zS ?_;repeat(refine yA ?_;intro p hp;refine zS ?_)
    have hkk : k = ts.length := by simp at hge; omega
    subst hkk
    rw [List.take_length] at hno
    (apply res1; exact rfl; exact rfl; exact ⟨(congrArg (fun b => AV.val (Value.bool b)) (by simp [h, hno])), rfl⟩)
def HA.pack (l : List HA) : HA := ⟨fun G F w => hsP l G F w, fun h k => hsP.mono h k, fun h k => hsP.loc h k⟩
def HA.exs {σ : Type} (h : σ → List HA) : HA := ⟨fun G F w => ∃ s, hsP (h s) G F w, fun h ⟨s, k⟩ => ⟨s, hsP.mono h k⟩, fun h ⟨s, k⟩ => ⟨s, hsP.loc h k⟩⟩
theorem hsP.pack {G : Nat → Option Obj} {w : World} {l hs : List HA} {F : List Nat} : hsP (.pack l :: hs) G F w ↔ hsP (l ++ hs) G F w :=
 ⟨fun ⟨_, _, e, h1, h2⟩ => (hsP.append (show hsP l G _ w from h1) h2).perm e, fun h => let ⟨F1, F2, e, h1, h2⟩ := hsP.split h; ⟨F1, F2, e, h1, h2⟩⟩
structure Yield (P : Program) (v : Value) (args : List AV) (pre : List HA) (post : AV → List HA → Prop) : Prop where
 go : ∀ (G : Nat → Option Obj) (Fp : List Nat) (us : List Value) (w : World), Fits G args us → Inv G Fp pre w → ∃ l, v = .func (.yield l) #[] #[] ∧ ∀ (F : Fence) (n : Nat), Wd F →
  YieldAt F n P l us.toArray w fun e w' => ∃ v av prod G' F', e = .returned v ∧ post av prod ∧ Fr w w' Fp F' G G' ∧ Inv G' F' prod w' ∧ av.P G' v
theorem lt_yield {P : Program} {rs : List (Nat × AV)} {d : Option Nat} {ty : TypeId} {pos : String} {af : Array Edge} {g : Option (Nat × Bool)} {x : Operand} {y : Value} {xs : List Operand} {ts : Array TypeId} {avs : List AV} {pre : List HA} {post : AV → List HA → Prop} (hf : opv rs x = some (.val y)) (hx : opvs rs xs = some avs) (hc : Yield P y avs pre post) :
  LT P ⟨d, .call { callee := .value x, args := xs.toArray, argTypes := ts }, ty, pos, af, g⟩ rs pre post := by
 refine ⟨?_⟩
 intro F n hF a w G Fp K Q hR hI hk
 have e1 : a.eval x = y := opv_ok hR hf
 have hv := opvs_ok hR hx
 obtain ⟨l, rfl, hy⟩ := hc.go G Fp (xs.map a.eval) w hv hI
 obtain ⟨fn, tmps, assign, body, hr1, hr2⟩ := hy F (n - 1) hF
 unfold Oper.wpIn
 refine ⟨fun f _ => hF.fn f, ?_⟩
 rw [Oper.semAt_eq _ _ _ (fun _ e => by cases e)]
 have hr : (execOp a.eval ⟨d, .call { callee := .value x, args := xs.toArray, argTypes := ts }, ty, pos, af, g⟩).run P w = .ok (.round l fn tmps assign body) w := by
  simp [execOp, resolve, e1, Deferred.ofValue, invoke, hr1, Result.andThen]
 rw [hr]
 refine ⟨fun h => (by rw [hF.depth] at h; cases h), hr2.mono ?_⟩
 rintro e w' ⟨v, av, prod, G', F', rfl, hp, hfr, hi, hv⟩
 exact hk v av prod G' F' w' hp hfr hi hv
structure Iter {α τ : Type} (P : Program) (g : FuncId) (caps : List AV) (own : List HA) (f : α → τ → List AV) (t : α → τ → List HA) (xs : List α) : Prop where
 con : ∀ (yv : Value) (β βx : Type) (H : β → List HA) (Hx : βx → List HA) (I : Nat → β → Prop) (Ix : Nat → βx → Prop), One (.val yv) →
  (∀ k (hk : k < xs.length) b (u : τ), I k b → Yield P yv (f xs[k] u) ((own ++ t xs[k] u) ++ [.pack (H b)]) fun av prod => (av = .val (.bool true) ∧ ∃ b', I (k + 1) b' ∧ prod = own ++ [.pack (H b')]) ∨ (av = .val (.bool false) ∧ ∃ b', Ix (k + 1) b' ∧ prod = own ++ [.pack (Hx b')])) →
  ∀ b0, I 0 b0 → Con P g (.val yv :: caps) (own ++ [.pack (H b0)]) fun _ prod => (∃ b, I xs.length b ∧ prod = own ++ [.pack (H b)]) ∨ ∃ k b, 0 < k ∧ k ≤ xs.length ∧ Ix k b ∧ prod = own ++ [.pack (Hx b)]
def Rec (l : Nat) (w : World) (F : List Nat) (G : Nat → Option Obj) : Prop := l ∉ F ∧ G l = none ∧ ∃ r, w.heap[l]? = some (.loop r)
def codeOf : Exit → Code
 | .ret => .ret
 | .exit id => .exit id
 | _ => .skip
def roundQ {β : Type} (c : Cx) (own : List HA) (H : β → List HA) (Hx : Exit → β → List HA) (N : β → Prop) (X : Exit → β → Prop) : Exit → S → Prop
 | .normal, s => ∃ b', N b' ∧ ∀ a w, St c s a w → St c ⟨[], own ++ H b'⟩ a w
 | .ret, s => ∃ b', X .ret b' ∧ ∀ a w, St c s a w → St c ⟨[], own ++ Hx .ret b'⟩ a w
 | .exit id, s => ∃ b', X (.exit id) b' ∧ ∀ a w, St c s a w → St c ⟨[], own ++ Hx (.exit id) b'⟩ a w
 | _, _ => False
def zipR : List Nat → List AV → List (Nat × AV) → List (Nat × AV)
 | p :: ps, x :: xs, rs => zipR ps xs ((p, x) :: rs)
 | _, _, rs => rs
theorem zip_ok {G : Nat → Option Obj} : ∀ {ps : List Nat} {avs : List AV} {us : List Value} {tm : Array Value} {rs : List (Nat × AV)} {ds : List Deferred}, Fits G avs us → ps.length = avs.length → (∀ p ∈ ps, p < tm.size) → RegOK rs G ⟨tm, ds⟩ →
  RegOK (zipR ps avs rs) G ⟨(ps.zip us).foldl (fun t (p, v) => t.setIfInBounds p v) tm, ds⟩ ∧ ((ps.zip us).foldl (fun t (p, v) => t.setIfInBounds p v) tm).size = tm.size
 | [], _, _, _, _, _, _, _, _, h => by simp [zipR]; exact h
 | p :: ps, [], _, _, _, _, _, e, _, _ => by cases e
 | p :: ps, av :: avs, [], _, _, _, hf, _, _, _ => hf.elim
 | p :: ps, av :: avs, u :: us, tm, rs, ds, hf, e, hp, h => by
  have h1 : RegOK ((p, av) :: rs) G ⟨tm.setIfInBounds p u, ds⟩ :=
   RegOK.put (a := ⟨tm, ds⟩) h (d := some p) rfl (by simp only [okD, Nat.blt_eq]; exact hp p (by simp)) hf.1
  obtain ⟨h2, h3⟩ := zip_ok (ps := ps) hf.2 (by simpa using e) (fun q hq => by simpa using hp q (by simp [hq])) h1
  exact ⟨h2, by rw [List.zip_cons_cons, List.foldl_cons, h3]; simp⟩
def HA.lrec (l : Nat) (r : Loop) : HA := ⟨fun _ F w => F = [l] ∧ w.heap[l]? = some (.loop r), fun _ h => h, fun h k => ⟨k.1, (h l (by rw [k.1]; simp)).trans k.2⟩⟩
def HA.regs (rs : List (Nat × AV)) (a : Act) : HA := ⟨fun G F _ => F = [] ∧ RegOK rs G a, fun h k => ⟨k.1, k.2.mono h⟩, fun _ k => k⟩
theorem Fr.put {w w' : World} {F F' : List Nat} {G G' : Nat → Option Obj} (h : Fr w w' F F' G G') {l : Nat} (o : Obj) (hl : l ∈ F ∨ w.heap.size ≤ l) : Fr w (w'.putObj l o) F F' G G' :=
 ⟨h.os, h.tape, h.output, by rw [World.putObj_size]; exact h.size, fun b hb hn => (World.putObj_heap_other (fun (e : b = l) => by subst e; rcases hl with hl | hl; exact hn hl; omega)).trans (h.same b hb hn), h.newF, h.gle, h.newG⟩
theorem Inv.put {w : World} {F : List Nat} {G : Nat → Option Obj} {hs : List HA} (h : Inv G F hs w) {l : Nat} (o : Obj) (hl : l ∉ F) (hg : G l = none) : Inv G F hs (w.putObj l o) :=
 ⟨fun b o' e => (World.putObj_heap_other (fun (e' : b = l) => by subst e'; rw [hg] at e; cases e)).trans (h.gin b o' e), h.nd, fun b hb => by rw [World.putObj_size]; exact h.own b hb, h.hs.loc fun b hb => World.putObj_heap_other fun e => hl (e ▸ hb)⟩
theorem Inv.drop {w : World} {F : List Nat} {G : Nat → Option Obj} {kept rest : List HA} (h : Inv G F (kept ++ rest) w) : ∃ F1 F2, F.Perm (F1 ++ F2) ∧ Inv G F1 kept w ∧ hsP rest G F2 w ∧ ∀ b ∈ F2, b ∉ F1 ∧ b ∈ F := by
 obtain ⟨F1, F2, e, h1, h2⟩ := hsP.split h.hs
 have nd := (e.nodup_iff).1 h.nd
 exact ⟨F1, F2, e, ⟨h.gin, (List.nodup_append.1 nd).1, fun b hb => h.own b (e.mem_iff.2 (by simp [hb])), h1⟩, h2, fun b hb => ⟨fun h1 => (List.nodup_append.1 nd).2.2 b h1 b hb rfl, e.mem_iff.2 (by simp [hb])⟩⟩
theorem inv_rec {G : Nat → Option Obj} {F : List Nat} {w : World} {own H : List HA} {l : Nat} {r : Loop} {rs : List (Nat × AV)} {a : Act} :
  Inv G F (own ++ [.pack (.lrec l r :: .regs rs a :: H)]) w ↔ ∃ F1, F.Perm (l :: F1) ∧ Inv G F1 (own ++ H) w ∧ l ∉ F1 ∧ G l = none ∧ w.heap[l]? = some (.loop r) ∧ RegOK rs G a := by
 constructor
 ·intro h
  have hp : hsP (own ++ [HA.pack (.lrec l r :: .regs rs a :: H)]) G F w := h.hs
  obtain ⟨A, B, e, h1, h2⟩ := hsP.split hp
  rw [hsP.pack, List.append_nil] at h2
  obtain ⟨B1, B2, e2, ⟨hB1, hr⟩, ⟨B3, B4, e3, ⟨hB3, hg⟩, h3⟩⟩ := h2
  subst hB1; subst hB3
  have e4 : F.Perm (l :: (A ++ B4)) := e.trans (((e2.trans (e3.append_left [l])).append_left A).trans (by simp))
  have nd := e4.nodup_iff.1 h.nd
  have nd' := List.nodup_cons.1 nd
  refine ⟨A ++ B4, e4, ⟨h.gin, nd'.2, fun b hb => h.own b (e4.mem_iff.2 (List.mem_cons_of_mem _ hb)), hsP.append h1 h3⟩, nd'.1, (h.own l (e4.mem_iff.2 (by simp))).2, hr, hg⟩
 ·rintro ⟨F1, e, h, hl, hg, hr, hR⟩
  refine ⟨h.gin, e.nodup_iff.2 (List.nodup_cons.2 ⟨hl, h.nd⟩), fun b hb => ?_, ?_⟩
  ·rcases List.mem_cons.1 (e.mem_iff.1 hb) with rfl | hb
   ·exact ⟨(Array.getElem?_eq_some_iff.1 hr).1, hg⟩
   ·exact h.own b hb
  ·obtain ⟨A, B, e2, h1, h2⟩ := hsP.split h.hs
   have h3 : hsP [HA.pack (.lrec l r :: .regs rs a :: H)] G (l :: B) w := hsP.pack.2 (by
    rw [List.append_nil]
    exact ⟨[l], B, .refl _, ⟨rfl, hr⟩, [], B, .refl _, ⟨rfl, hR⟩, h2⟩)
   exact (hsP.append h1 h3).perm (e.trans ((e2.cons l).trans List.perm_middle.symm))
section
variable {c : Cx} {rs : List (Nat × AV)} {hs : List HA} {Q : Exit → S → Prop} {g : Operand} {ps : Array Tmp} {assign body : Code} {gf : FuncId} {caps : List AV} {own r : List HA} {α β τ : Type} {f : α → τ → List AV} {t : α → τ → List HA} {xs : List α}
def Rounds (P : Program) (nt : Nat) (ps : List Nat) (assign body : Code) (rs : List (Nat × AV)) (own : List HA) (f : α → τ → List AV) (t : α → τ → List HA) (xs : List α) (I : Nat → β → Prop) (H : β → List HA) (Ix : Exit → β → Prop) (Hx : Exit → β → List HA) : Prop :=
 ∀ l n w1 F1 G1, Rec l w1 F1 G1 → ∀ k (hk : k < xs.length) b (u : τ), I k b →
  W (Cx.mk (Fence.wide.inRound l) n P w1 F1 G1 nt (.inr ⟨l, rfl⟩)) assign ⟨zipR ps (f xs[k] u) rs, (own ++ t xs[k] u) ++ H b⟩ (thenQ (fun s => ∀ w2 F2 G2, Rec l w2 F2 G2 → W (Cx.mk (Fence.wide.inRound l) n P w2 F2 G2 nt (.inr ⟨l, rfl⟩)) body s (roundQ (Cx.mk (Fence.wide.inRound l) n P w2 F2 G2 nt (.inr ⟨l, rfl⟩)) own H Hx (I (k + 1)) Ix)) (fun _ _ => False))
theorem round_yield {P : Program} {nt l : Nat} {rc : Loop} {a : Act} (hps : ∀ x ∈ xs, ∀ u, (f x u).length = ps.toList.length) (hpt : ∀ p ∈ ps.toList, p < nt) (hsz : a.tmps.size = nt) (hrt : rc.tmps = a.tmps) (hrp : rc.params = ps) (hra : rc.assign = assign) (hrb : rc.body = body)
  (I : Nat → β → Prop) (H : β → List HA) (Ix : Exit → β → Prop) (Hx : Exit → β → List HA) (hbody : Rounds P nt ps.toList assign body rs own f t xs I H Ix Hx)
  {k : Nat} (hk : k < xs.length) {b : β} (u : τ) (hI : I k b) :
  Yield P (.func (.yield l) #[] #[]) (f xs[k] u) ((own ++ t xs[k] u) ++ [.pack (.lrec l { rc with state := .ready, pending := none } :: .regs rs a :: H b)]) fun av prod =>
   (av = .val (.bool true) ∧ ∃ b', I (k + 1) b' ∧ prod = own ++ [.pack (.lrec l { rc with state := .ready, pending := none } :: .regs rs a :: H b')]) ∨
   (av = .val (.bool false) ∧ ∃ b' : Exit × β, ((b'.1 = .ret ∨ ∃ id, b'.1 = .exit id) ∧ Ix b'.1 b'.2) ∧ prod = own ++ [.pack (.lrec l { rc with state := .done, pending := some (codeOf b'.1) } :: .regs rs a :: Hx b'.1 b'.2)]) := by
 subst hrp; subst hra; subst hrb
 refine ⟨fun G Fp us w hfit hInv => ⟨l, rfl, fun F n hF => ?_⟩⟩
 obtain ⟨F1, ep, hI1, hl1, hg1, hr1, hR1⟩ := inv_rec.1 hInv
 have hlen := hfit.length
 have hsz1 : us.toArray.size = rc.params.size := by simp; rw [hlen, hps _ (List.getElem_mem hk) u]; simp
 have hy := run_yield (P := P) hr1 hsz1
 refine ⟨rc.fn, _, rc.assign, rc.body, hy, ?_⟩
 have hlw : l < w.heap.size := (Array.getElem?_eq_some_iff.1 hr1).1
 have hlp : l ∈ Fp := ep.mem_iff.2 (by simp)
 have key : ∀ R, RoundIn Fence.wide n P l rc.fn ((rc.params.zip us.toArray).foldl (fun t (p, v) => t.setIfInBounds p v) rc.tmps) rc.assign rc.body w R → RoundIn F n P l rc.fn ((rc.params.zip us.toArray).foldl (fun t (p, v) => t.setIfInBounds p v) rc.tmps) rc.assign rc.body w R := fun R h => by
  rcases hF with rfl | ⟨l', rfl⟩ <;> exact h
 refine key _ (roundIn_of_wpIn trivial ?_)
 rw [hrt]
 have hzip := zip_ok (ps := rc.params.toList) (tm := a.tmps) (rs := rs) (ds := []) hfit (by rw [hps _ (List.getElem_mem hk) u]) (fun p hp => by rw [hsz]; exact hpt p hp) hR1
 have hfold : (rc.params.zip us.toArray).foldl (fun t (p, v) => t.setIfInBounds p v) a.tmps = (rc.params.toList.zip us).foldl (fun t (p, v) => t.setIfInBounds p v) a.tmps := by
  rw [← Array.foldl_toList]; simp
 rw [hfold]
 refine Go.wpIn_mono ((hbody l n w F1 G ⟨hl1, hg1, _, hr1⟩ k hk b u hI).out ⟨_, []⟩ w ⟨G, F1, hI1, Fr.refl _ _ _, hzip.1, by rw [← hsz]; exact hzip.2, Mk.nil _ _ _ _⟩) ?_
 rintro e a1 wa ⟨s1, ⟨Ga, Fa, hIa, hFa, hRa, hna, hda⟩, q⟩
 cases e with
 | normal =>
  have hFa' : Fr w wa F1 Fa G Ga := hFa
  have hla : l ∉ Fa := fun h => by
   rcases hFa'.newF l h with h | h
   ·exact hl1 h
   ·omega
  have hga : Ga l = none := by
   cases hg : Ga l with
   | none => rfl
   | some o =>
    rcases hFa'.newG l o hg with h | h | h
    ·rw [hg1] at h; cases h
    ·exact absurd h hl1
    ·omega
  have hra : wa.heap[l]? = some (.loop { rc with state := .ready, pending := none }) := (hFa'.same l hlw hl1).trans hr1
  refine ⟨_, run_beginRound hra rfl, ?_⟩
  have hlwa : l < wa.heap.size := (Array.getElem?_eq_some_iff.1 hra).1
  have hr2 : (wa.putObj l (.loop { rc with state := .busy, pending := none })).heap[l]? = some (.loop { rc with state := .busy, pending := none }) := World.putObj_heap_same hlwa
  have hda' : Mk (Cx.mk (Fence.wide.inRound l) n P (wa.putObj l (.loop { rc with state := .busy, pending := none })) Fa Ga nt (.inr ⟨l, rfl⟩)) Ga Fa (wa.putObj l (.loop { rc with state := .busy, pending := none })) a1.defers := by
   obtain ⟨Ds, e, nd, hD, hz⟩ := hda
   rw [e, hz (by simp)]
   exact Mk.nil _ _ _ _
  refine Go.wpIn_mono ((q _ Fa Ga ⟨hla, hga, _, hr2⟩).out a1 _ ⟨Ga, Fa, hIa.put _ hla hga, Fr.refl _ _ _, hRa, hna, hda'⟩) ?_
  have fin : ∀ (jump : Option Code) (s : LoopState) (_ : (if jump.isNone then .ready else .done) = s) (w3 : World) (s2 : S) (a2 : Act) (H' : List HA), St (Cx.mk (Fence.wide.inRound l) n P (wa.putObj l (.loop { rc with state := .busy, pending := none })) Fa Ga nt (.inr ⟨l, rfl⟩)) ⟨[], own ++ H'⟩ a2 w3 →
    ∃ v w', (Instr.endRound l jump).run P w3 = .ok v w' ∧ v = .bool jump.isNone ∧ ∃ G' F', Fr w w' Fp F' G G' ∧ Inv G' F' (own ++ [.pack (.lrec l { rc with state := s, pending := jump } :: .regs rs a :: H')]) w' := fun jump s hsj w3 s2 a2 H' st => by
   subst hsj
   obtain ⟨G3, F3, hI3, hF3, _⟩ := st
   have hF3' : Fr (wa.putObj l (.loop { rc with state := .busy, pending := none })) w3 Fa F3 Ga G3 := hF3
   have hs2 : (wa.putObj l (.loop { rc with state := .busy, pending := none })).heap.size = wa.heap.size := World.putObj_size
   have hl3 : l ∉ F3 := fun h => by
    rcases hF3'.newF l h with h | h
    ·exact hla h
    ·omega
   have hg3 : G3 l = none := by
    cases hg : G3 l with
    | none => rfl
    | some o =>
     rcases hF3'.newG l o hg with h | h | h
     ·rw [hga] at h; cases h
     ·exact absurd h hla
     ·omega
   have hr3 := (hF3'.same l (by omega) hla).trans hr2
   have hlw3 : l < w3.heap.size := (Array.getElem?_eq_some_iff.1 hr3).1
   refine ⟨_, _, run_endRound jump hr3, rfl, G3, l :: F3, ⟨?_, ?_, ?_, ?_, fun b hb hn => ?_, fun b hb => ?_, ?_, fun b o hb => ?_⟩, inv_rec.2 ⟨F3, .refl _, hI3.put _ hl3 hg3, hl3, hg3, World.putObj_heap_same hlw3, hR1.mono (hFa'.gle.trans hF3'.gle)⟩⟩
   ·exact hF3'.os.trans hFa'.os
   ·exact hF3'.tape.trans hFa'.tape
   ·exact hF3'.output.trans hFa'.output
   ·rw [World.putObj_size]; exact Nat.le_trans hFa'.size (hs2 ▸ hF3'.size)
   ·have hbl : b ≠ l := fun e => hn (e ▸ hlp)
    have hb1 : b ∉ F1 := fun h => hn (ep.mem_iff.2 (by simp [h]))
    have hba : b ∉ Fa := fun h => by
     rcases hFa'.newF b h with h | h
     ·exact hb1 h
     ·omega
    rw [World.putObj_heap_other hbl, hF3'.same b (by have := hFa'.size; omega) hba, World.putObj_heap_other hbl, hFa'.same b hb hb1]
   ·rcases List.mem_cons.1 hb with rfl | hb
    ·exact .inl hlp
    ·rcases hF3'.newF b hb with h | h
     ·rcases hFa'.newF b h with h | h
      ·exact .inl (ep.mem_iff.2 (by simp [h]))
      ·exact .inr h
     ·exact .inr (by have := hFa'.size; omega)
   ·exact hFa'.gle.trans hF3'.gle
   ·rcases hF3'.newG b o hb with h | h | h
    ·rcases hFa'.newG b o h with h | h | h
     ·exact .inl h
     ·exact .inr (.inl (ep.mem_iff.2 (by simp [h])))
     ·exact .inr (.inr h)
    ·rcases hFa'.newF b h with h | h
     ·exact .inr (.inl (ep.mem_iff.2 (by simp [h])))
     ·exact .inr (.inr h)
    ·exact .inr (.inr (by have := hFa'.size; omega))
  rintro e a3 w3 ⟨s2, st2, q2⟩
  cases e with
  | normal =>
   obtain ⟨b', hb', hst⟩ := q2
   obtain ⟨v, w', h1, h2, G', F', h3, h4⟩ := fin none _ rfl w3 s2 a3 _ (hst _ _ st2)
   rw [hrt] at h4
   exact ⟨v, w', h1, v, .val v, _, G', F', rfl, .inl ⟨by rw [h2]; rfl, b', hb', rfl⟩, h3, h4, rfl⟩
  | ret =>
   obtain ⟨b', hb', hst⟩ := q2
   obtain ⟨v, w', h1, h2, G', F', h3, h4⟩ := fin (some .ret) _ rfl w3 s2 a3 _ (hst _ _ st2)
   rw [hrt] at h4
   exact ⟨v, w', h1, v, .val v, _, G', F', rfl, .inr ⟨by rw [h2]; rfl, (.ret, b'), ⟨.inl rfl, hb'⟩, rfl⟩, h3, h4, rfl⟩
  | exit id =>
   obtain ⟨b', hb', hst⟩ := q2
   obtain ⟨v, w', h1, h2, G', F', h3, h4⟩ := fin (some (.exit id)) _ rfl w3 s2 a3 _ (hst _ _ st2)
   rw [hrt] at h4
   exact ⟨v, w', h1, v, .val v, _, G', F', rfl, .inr ⟨by rw [h2]; rfl, (.exit id, b'), ⟨.inr ⟨id, rfl⟩, hb'⟩, rfl⟩, h3, h4, rfl⟩
  | _ => exact q2.elim
 | _ => exact q.elim
instance one_yield {l : Nat} : One (.val (.func (.yield l) #[] #[])) := ⟨fun _ _ h => by subst h; rfl⟩
theorem range_core {a : Act} {w : World} (hst : St c ⟨rs, hs⟩ a w) (hg : opv rs g = some (.clo gf caps)) (it : Iter c.P gf caps own f t xs) (hcut : Cut hs own r)
  (I : Nat → β → Prop) (H : β → List HA) (Ix : Exit → β → Prop) (Hx : Exit → β → List HA) (b0 : β) (hi0 : I 0 b0) (hH0 : ∀ {G F w}, hsP r G F w → ∃ F1 F2, F.Perm (F1 ++ F2) ∧ hsP (H b0) G F1 w)
  (hps : ∀ x ∈ xs, ∀ u, (f x u).length = ps.toList.length) (hpt : ∀ p ∈ ps.toList, p < c.nt) (hbody : Rounds c.P c.nt ps.toList assign body rs own f t xs I H Ix Hx)
  (hdone : ∀ b, I xs.length b → Q .normal ⟨rs, own ++ H b⟩) (hjump : ∀ e b, e = .ret ∨ (∃ id, e = .exit id) → Ix e b → Q e ⟨rs, own ++ Hx e b⟩)
  (henter : ∀ fn, ∃ l mk w1 D, (Instr.enterLoop fn a.tmps ps assign body c.F.round).run c.P w = .ok (l, mk) w1 ∧ w.heap.size ≤ l ∧ w1.heap[l]? = some (.loop { state := .ready, pending := none, fn, tmps := a.tmps, params := ps, assign, body, defers := D }) ∧ Below w.heap.size w w1 ∧
   (mk = [] ∨ ∃ z, mk = [mark z] ∧ w.heap.size ≤ z ∧ z ≠ l ∧ w1.heap[z]? = some (.deferred (some [])) ∧ c.F.round = none)) :
  (Code.rangeFunc g ps assign body).wpIn c.F c.n c.P (Post c Q) a w := by
 refine wpIn_rangeFunc fun fn hfn => ?_
 obtain ⟨l, mk, w1, D, hen, hlw, hlr, hbel, hmk⟩ := henter fn
 obtain ⟨G, F, hI, hF, hR, hn, hd⟩ := hst
 obtain ⟨us, e1, hus⟩ : (AV.clo gf caps).P G (a.eval g) := opv_ok hR hg
 -- what is kept
 obtain ⟨A, B, eAB, hA, hB⟩ := hsP.split (hcut.sel hI.hs)
 obtain ⟨B1, B2, eB, hB1⟩ := hH0 hB
 have nd := (eAB.trans (eB.append_left A)).nodup_iff.1 hI.nd
 have hsub : ∀ b ∈ A ++ B1, b ∈ F := fun b hb => (eAB.trans (eB.append_left A)).mem_iff.2 (by rcases List.mem_append.1 hb with h | h <;> simp [h])
 have hlt : ∀ b ∈ A ++ B1, b < w.heap.size := fun b hb => (hI.own b (hsub b hb)).1
 have hl1 : l ∉ A ++ B1 := fun h => by have := hlt l h; omega
 have hgl : ∀ b, w.heap.size ≤ b → G b = none := fun b hb => by
  cases hg : G b with
  | none => rfl
  | some o => have := hI.gin.lt hg; omega
 have h1 : Inv G (A ++ B1) (own ++ H b0) w1 := ⟨fun b o e => (hbel.block b (hI.gin.lt e)).trans (hI.gin b o e), (List.nodup_append.1 (by rw [← List.append_assoc] at nd; exact nd)).1, fun b hb => ⟨Nat.lt_of_lt_of_le (hlt b hb) hbel.size, (hI.own b (hsub b hb)).2⟩,
  (hsP.append hA hB1).loc fun b hb => hbel.block b (hlt b hb)⟩
 let rc : Loop := { state := .ready, pending := none, fn, tmps := a.tmps, params := ps, assign, body, defers := D }
 have h2 : Inv G (l :: (A ++ B1)) (own ++ [.pack (.lrec l { rc with state := .ready, pending := none } :: .regs rs a :: H b0)]) w1 := inv_rec.2 ⟨_, .refl _, h1, hl1, hgl l hlw, hlr, hR⟩
 have hcon := it.con (.func (.yield l) #[] #[]) β (Exit × β) (fun b => .lrec l { rc with state := .ready, pending := none } :: .regs rs a :: H b) (fun b => .lrec l { rc with state := .done, pending := some (codeOf b.1) } :: .regs rs a :: Hx b.1 b.2) I (fun _ b => (b.1 = .ret ∨ ∃ id, b.1 = .exit id) ∧ Ix b.1 b.2) inferInstance
  (fun k hk b u hb => round_yield (rc := rc) hps hpt hn rfl rfl rfl rfl I H Ix Hx hbody hk u hb) b0 hi0
 have hcalls := hcon.calls G _ (.func (.yield l) #[] #[] :: us) w1 ⟨rfl, hus⟩ h2
 refine ⟨l, mk, w1, { target := .fn (.func gf) us.toArray, args := #[.func (.yield l) #[] #[]] }, w1, gf, #[.func (.yield l) #[] #[]] ++ us.toArray, w1, hen, ?_, ?_, ?_, ?_, ?_⟩
 ·simp only [resolve, e1]; simp [go_sem]
 ·exact fun f' _ => c.wd.fn f'
 ·simp [invoke, go_sem, hcon.enters]
 ·exact fun h => by rw [c.wd.depth] at h; cases h
 have hargs : #[Value.func (.yield l) #[] #[]] ++ us.toArray = (Value.func (.yield l) #[] #[] :: us).toArray := by simp
 rw [hargs]
 refine c.wd.calls (hcalls.mono ?_)
 rintro e w2 ⟨v, av, prod, G', F', rfl, hp, hfr, hi, hv⟩
 have hsz1 := hbel.size
 have fin : ∀ (s : LoopState) (p : Option Code) (H' : List HA), s ≠ .busy → Inv G' F' (own ++ [.pack (.lrec l { rc with state := s, pending := p } :: .regs rs a :: H')]) w2 →
   ∃ w3, (Instr.endLoop l).run c.P w2 = .ok p w3 ∧ St c ⟨rs, own ++ H'⟩ { a with defers := mk ++ a.defers } w3 := fun s p H' hs hi => by
  obtain ⟨F3, e3, h3, hl3, hg3, hr3, hR3⟩ := inv_rec.1 hi
  refine ⟨_, run_endLoop hr3 hs, G', F3, h3.put _ hl3 hg3, ?_, hR3, hn, ?_⟩
  ·refine hF.trans ⟨?_, ?_, ?_, ?_, fun b hb hnF => ?_, fun b hb => ?_, hfr.gle, fun b o hb => ?_⟩
   ·exact hfr.os.trans hbel.os
   ·exact hfr.tape.trans hbel.tape
   ·exact hfr.output.trans hbel.output
   ·rw [World.putObj_size]; exact Nat.le_trans hsz1 hfr.size
   ·have hbl : b ≠ l := fun e => by omega
    rw [World.putObj_heap_other hbl, hfr.same b (by omega) (by rw [List.mem_cons, not_or]; exact ⟨hbl, fun h => hnF (hsub b h)⟩), hbel.block b hb]
   ·rcases hfr.newF b (e3.mem_iff.2 (List.mem_cons_of_mem _ hb)) with h | h
    ·rcases List.mem_cons.1 h with rfl | h
     ·exact absurd hb hl3
     ·exact .inl (hsub b h)
    ·exact .inr (by omega)
   ·rcases hfr.newG b o hb with h | h | h
    ·exact .inl h
    ·rcases List.mem_cons.1 h with rfl | h
     ·rw [hg3] at hb; cases hb
     ·exact .inr (.inl (hsub b h))
    ·exact .inr (.inr (by omega))
  ·-- the marks
   have step : ∀ D, w.heap.size ≤ D ∨ D ∉ F → D ≠ l → D < w1.heap.size → G D = none → w1.heap[D]? = some (.deferred (some [])) → D ∉ F3 ∧ G' D = none ∧ (w2.putObj l (.loop { rc with state := .exhausted, pending := p })).heap[D]? = some (.deferred (some [])) := fun D hD hDl hD1 hDG hDh => by
    have hn1 : D ∉ l :: (A ++ B1) := by
     rw [List.mem_cons, not_or]
     exact ⟨hDl, fun h => by rcases hD with hD | hD; (have := hlt D h; omega); exact hD (hsub D h)⟩
    refine ⟨fun h => ?_, ?_, ?_⟩
    ·rcases hfr.newF D (e3.mem_iff.2 (List.mem_cons_of_mem _ h)) with h | h
     ·exact hn1 h
     ·omega
    ·cases hg : G' D with
     | none => rfl
     | some o =>
      rcases hfr.newG D o hg with h | h | h
      ·rw [hDG] at h; cases h
      ·exact absurd h hn1
      ·omega
    ·rw [World.putObj_heap_other hDl, hfr.same D hD1 hn1]; exact hDh
   obtain ⟨Ds, ed, nd, hD, hz⟩ := hd
   have hold : ∀ D ∈ Ds, c.w0.heap.size ≤ D ∧ D ∉ F3 ∧ G' D = none ∧ (w2.putObj l (.loop { rc with state := .exhausted, pending := p })).heap[D]? = some (.deferred (some [])) := fun D hDm => by
    obtain ⟨k1, k2, k3, k4⟩ := hD D hDm
    have hlt := (Array.getElem?_eq_some_iff.1 k4).1
    exact ⟨k1, step D (.inr k2) (by omega) (by omega) k3 ((hbel.block D hlt).trans k4)⟩
   rcases hmk with rfl | ⟨z, rfl, hz1, hz2, hz3, hz4⟩
   ·exact ⟨Ds, by simpa using ed, nd, hold, hz⟩
   ·refine ⟨z :: Ds, by rw [List.map_cons, ← ed]; rfl, List.nodup_cons.2 ⟨fun h => ?_, nd⟩, fun D hDm => ?_, fun h => absurd hz4 h⟩
    ·have := (Array.getElem?_eq_some_iff.1 (hD z h).2.2.2).1; omega
    ·rcases List.mem_cons.1 hDm with rfl | hDm
     ·exact ⟨Nat.le_trans hF.size hz1, step D (.inl hz1) hz2 (Array.getElem?_eq_some_iff.1 hz3).1 (hgl D hz1) hz3⟩
     ·exact hold D hDm
 rcases hp with ⟨b, hb, rfl⟩ | ⟨k, b, _, _, ⟨he, hb⟩, rfl⟩
 ·obtain ⟨w3, h1, h2⟩ := fin _ _ _ (fun h => by cases h) hi
  exact ⟨none, w3, h1, _, h2, hdone b hb⟩
 ·obtain ⟨w3, h1, h2⟩ := fin _ _ _ (fun h => by cases h) hi
  refine ⟨_, w3, h1, ?_⟩
  obtain ⟨e, b⟩ := b
  have hj := hjump e b he hb
  rcases he with rfl | ⟨id, rfl⟩
  ·exact wpIn_ret ⟨_, h2, hj⟩
  ·exact wpIn_exit ⟨_, h2, hj⟩
end
theorem W_range {n : Nat} {P : Program} {w0 : World} {F0 : List Nat} {G0 : Nat → Option Obj} {nt : Nat} {wd : Wd Fence.wide} {rs : List (Nat × AV)} {hs : List HA} {Q : Exit → S → Prop} {g : Operand} {ps : Array Tmp} {assign body : Code} {gf : FuncId} {caps : List AV} {own r : List HA} {α β τ : Type} {f : α → τ → List AV} {t : α → τ → List HA} {xs : List α}
  (hg : opv rs g = some (.clo gf caps)) (it : Iter P gf caps own f t xs) (hcut : Cut hs own r) (I : Nat → β → Prop) (H : β → List HA) (Ix : Exit → β → Prop) (Hx : Exit → β → List HA) (b0 : β) (hi0 : I 0 b0) (hH0 : SubP (H b0) r)
  (hps : ∀ x ∈ xs, ∀ u, (f x u).length = ps.toList.length) (hpt : ps.toList.all (fun p => Nat.blt p nt) = true) (hbody : Rounds P nt ps.toList assign body rs own f t xs I H Ix Hx)
  (hdone : ∀ b, I xs.length b → Q .normal ⟨rs, own ++ H b⟩) (hjump : ∀ e b, e = .ret ∨ (∃ id, e = .exit id) → Ix e b → Q e ⟨rs, own ++ Hx e b⟩) :
  W (Cx.mk Fence.wide n P w0 F0 G0 nt wd) (.rangeFunc g ps assign body) ⟨rs, hs⟩ Q := ⟨fun a w st =>
 range_core st hg it hcut I H Ix Hx b0 hi0 (fun h => hH0.ok h) hps (fun p hp => by have := List.all_eq_true.1 hpt p hp; simpa only [Nat.blt_eq] using this) hbody hdone hjump fun fn =>
  ⟨w.heap.size + 1, _, _, w.heap.size, run_enterLoop_outer fn a.tmps ps assign body, by omega, by have h := World.alloc_heap_new (w.alloc (.deferred (some []))) (.loop { state := .ready, pending := none, fn, tmps := a.tmps, params := ps, assign, body, defers := w.heap.size }); rw [World.size_alloc] at h; exact h,
   ((Below.refl w.heap.size w).alloc (Nat.le_refl _) _).alloc (by simp) _, .inr ⟨w.heap.size, rfl, Nat.le_refl _, by omega, (Below.heap_alloc _ _ _ (by simp)).trans (World.alloc_heap_new w _), rfl⟩⟩⟩
section
variable {P : Program} {rs : List (Nat × AV)} {hsR : List HA} {d : Option Nat} {ty : TypeId} {pos : String} {af : Array Edge} {g : Option (Nat × Bool)}
theorem Fits.cut {G : Nat → Option Obj} : ∀ {cs : List AV} {vs : List Value} (k : Nat), Fits G cs vs → Fits G (cs.drop k) (vs.drop k) ∧ Fits G (cs.take k) (vs.take k)
 | [], [], k, _ => by simp [Fits]
 | [], _ :: _, _, h => h.elim
 | _ :: _, [], _, h => h.elim
 | c :: cs, v :: vs, 0, h => ⟨h, trivial⟩
 | c :: cs, v :: vs, k + 1, h => ⟨(Fits.cut k h.2).1, h.1, (Fits.cut k h.2).2⟩
end
section
variable {c : Cx} {rs : List (Nat × AV)} {hs : List HA} {Q : Exit → S → Prop} {ops : Array Oper} {tl : List Oper} {d : Nat} {ty : TypeId} {pos : String} {af : Array Edge}
end
theorem resK1 {P : Program} {fn : Func} {t : Tmp} {post : AV → List HA → Prop} {rs : List (Nat × AV)} {hs kept r : List HA} {av : AV} (hr : fn.results = #[.tmp t]) (hl : look rs t = some av) (hp : post av kept) (hcut : Cut hs kept r) : Res P fn post ⟨rs, hs⟩ := resK hr hl hcut hp
theorem resK0 {P : Program} {fn : Func} {post : AV → List HA → Prop} {rs : List (Nat × AV)} {hs kept r : List HA} (hr : fn.results = #[]) (hp : post (.tup []) kept) (hcut : Cut hs kept r) : Res P fn post ⟨rs, hs⟩ :=
 ⟨_, kept, hp, fun a w G F hR hI => by
  obtain ⟨F1, h1, h2⟩ := inv_keep (rest := r) ⟨hI.gin, hI.nd, hI.own, hcut.sel hI.hs⟩
  exact ⟨.tuple #[], G, F1, by simp [results, hr, go_sem], h2, h1, ⟨[], rfl, trivial⟩⟩⟩
theorem resK2 {P : Program} {fn : Func} {t u : Tmp} {post : AV → List HA → Prop} {rs : List (Nat × AV)} {hs kept r : List HA} {av bv : AV} (hr : fn.results = #[.tmp t, .tmp u]) (hl : look rs t = some av) (hl2 : look rs u = some bv) (hp : post (.tup [av, bv]) kept) (hcut : Cut hs kept r) : Res P fn post ⟨rs, hs⟩ :=
 ⟨_, kept, hp, fun a w G F hR hI => by
  obtain ⟨F1, h1, h2⟩ := inv_keep (rest := r) ⟨hI.gin, hI.nd, hI.own, hcut.sel hI.hs⟩
  exact ⟨_, G, F1, results_tmp2 hr _ _ _, h2, h1, ⟨[_, _], rfl, hR _ _ hl, hR _ _ hl2, trivial⟩⟩⟩
theorem resK3 {P : Program} {fn : Func} {t u x : Tmp} {post : AV → List HA → Prop} {rs : List (Nat × AV)} {hs kept r : List HA} {av bv cv : AV} (hr : fn.results = #[.tmp t, .tmp u, .tmp x]) (hl : look rs t = some av) (hl2 : look rs u = some bv) (hl3 : look rs x = some cv) (hp : post (.tup [av, bv, cv]) kept) (hcut : Cut hs kept r) : Res P fn post ⟨rs, hs⟩ :=
 ⟨_, kept, hp, fun a w G F hR hI => by
  obtain ⟨F1, h1, h2⟩ := inv_keep (rest := r) ⟨hI.gin, hI.nd, hI.own, hcut.sel hI.hs⟩
  exact ⟨_, G, F1, results_tmp3 hr _ _, h2, h1, ⟨[_, _, _], rfl, hR _ _ hl, hR _ _ hl2, hR _ _ hl3, trivial⟩⟩⟩
theorem wl_callP {c : Cx} {rs : List (Nat × AV)} {hs pre r : List HA} {Q : Exit → S → Prop} {ops : Array Oper} {tl : List Oper} {d : Nat} {ty : TypeId} {pos : String} {af : Array Edge} {k : FuncId} {xs : List Operand} {ts : Array TypeId} {avs : List AV} {post : AV → List HA → Prop} (hc : Con c.P k avs pre post) (hx : opvs rs xs = some avs) (hcut : Cut hs pre r) (hd : Nat.blt d c.nt = true) (kk : ∀ av prod, post av prod → WL c ops tl ⟨(d, av) :: rs, prod ++ r⟩ Q) : WL c ops (⟨some d, .call { callee := .value (.func k), args := xs.toArray, argTypes := ts }, ty, pos, af, none⟩ :: tl) ⟨rs, hs⟩ Q := wl_callC hc hx hcut hd kk
theorem Res_frz {α : Type} {P : Program} {fn : Func} {post : AV → List HA → Prop} {rs : List (Nat × AV)} {hs r : List HA} {e : TypeId} {n : Nat} {f : α → List AV} {xs : List α} {v : Value} (i : Nat) (hl : look rs i = some (.val v)) (hr : Rm hs (.row v e n f xs) r) (k : Res P fn post ⟨(i, .sl n f xs) :: rs, r⟩) : Res P fn post ⟨rs, hs⟩ := by
 obtain ⟨av, prod, hp, h⟩ := k
 refine ⟨av, prod, hp, fun a w G F hR hI => ?_⟩
 obtain ⟨G', F', h1, h2, h3⟩ := row_freeze (rest := r) ⟨hI.gin, hI.nd, hI.own, hr.sel hI.hs⟩
 obtain ⟨u, G2, F2, k1, k2, k3, k4⟩ := h a w G' F' (fun j av ek => by
  simp only [look] at ek
  cases hb : Nat.beq i j with
  | true =>
   rw [hb] at ek
   obtain rfl := Nat.eq_of_beq_eq_true hb
   simp only [cond_true, Option.some.injEq] at ek
   subst ek
   have : a.tmps.getD i undef = v := hR _ _ hl
   rw [this]; exact h3
  | false => rw [hb] at ek; exact av.mono h2.gle (hR j av (by simpa using ek))) h1
 exact ⟨u, G2, F2, k1, h2.trans k2, k3, k4⟩
section
variable {P : Program} {rs : List (Nat × AV)} {hsR : List HA} {d : Option Nat} {ty : TypeId} {pos : String} {af : Array Edge} {g : Option (Nat × Bool)}
end
section
variable {c : Cx} {rs : List (Nat × AV)} {hs : List HA} {Q : Exit → S → Prop} {ops : Array Oper} {tl : List Oper} {d : Nat} {ty : TypeId} {pos : String} {af : Array Edge}
end
def gall (G : Nat → Option Obj) (F : List Nat) (w : World) : Nat → Option Obj := fun b => if b ∈ F then w.heap[b]? else G b
theorem gall_le {G : Nat → Option Obj} {F : List Nat} {w : World} (h : ∀ b ∈ F, G b = none) : Gle G (gall G F w) := fun b o e => by
 unfold gall
 rw [if_neg (fun hb => by rw [h b hb] at e; cases e)]; exact e
theorem gall_in {G : Nat → Option Obj} {F : List Nat} {w : World} (h : Gin G w) : Gin (gall G F w) w := fun b o e => by
 unfold gall at e
 split at e
 ·exact e
 ·exact h b o e
theorem row_view {α β : Type} {G : Nat → Option Obj} {F F1 : List Nat} {w : World} {v : Value} {e : TypeId} {n : Nat} {f : α → List AV} {f' : β → List AV} {xs : List α} {ys : List β} (h : (HA.row v e n f xs).P G F1 w) (hsub : ∀ b ∈ F1, b ∈ F) (hlen : ys.length = xs.length)
  (hv : ∀ i (h1 : i < xs.length) (h2 : i < ys.length) (j : Nat) (av' : AV), (f' ys[i])[j]? = some av' → ∃ av : AV, (f xs[i])[j]? = some av ∧ ∀ u, av.P G u → av'.P (gall G F w) u) : (AV.sl n f' ys).P (gall G F w) v := by
 rcases row_val h with ⟨rfl, rfl⟩ | ⟨b, cap, cur, vs, rfl, hnc, hF1, hb, hcs, hl, hf, htake, _⟩
 ·exact ⟨none, 0, by rw [hlen]; rfl, by rw [hlen]; exact Nat.le_refl _, fun i hi => by rw [hlen] at hi; exact absurd hi (Nat.not_lt_zero _)⟩
 ·refine ⟨some ⟨b, 0, none⟩, cap, by rw [hlen], by rw [hlen]; exact hnc, fun i hi => ⟨b, 0, rfl, fun j av' ej => ?_⟩⟩
  have hi' : i < xs.length := by omega
  obtain ⟨av, e1, e2⟩ := hv i hi' hi j av' ej
  have hjn : j < n := by
   have := (List.getElem?_eq_some_iff.1 e1).1
   rwa [hl _ (List.getElem_mem hi')] at this
  obtain ⟨u, hu, hp⟩ := hf.get (i := i * n + j) (av := av) (by rw [flat_get hl i hi' j hjn]; exact e1)
  refine ⟨u, ?_, e2 u hp⟩
  have hlt : i * n + j < xs.length * n := by
   calc i * n + j < i * n + n := by omega
    _ = (i + 1) * n := (Nat.succ_mul i n).symm
    _ ≤ xs.length * n := Nat.mul_le_mul_right n hi'
  have hbF : b ∈ F := hsub b (by rw [hF1]; simp)
  unfold cellG gall
  rw [if_pos hbF, hb]
  simp only [Nat.zero_add]
  rw [← htake, List.getElem?_take, if_pos hlt] at hu
  simpa using hu
theorem row_view1 {α : Type} {G : Nat → Option Obj} {F F1 : List Nat} {w : World} {v : Value} {e : TypeId} {n : Nat} {f : α → List AV} {xs : List α} (h : (HA.row v e n f xs).P G F1 w) (hsub : ∀ b ∈ F1, b ∈ F) (hle : Gle G (gall G F w)) : (AV.sl n f xs).P (gall G F w) v :=
 row_view h hsub rfl fun i h1 h2 j av' ej => ⟨av', ej, fun u hu => av'.mono hle hu⟩
structure Thaw (h : HA) (av av' : AV) : Prop where
 out : ∀ (G : Nat → Option Obj) (F : List Nat) (w : World), h.P G F w → Gle G (gall G F w) → ∀ v, av.P G v → av'.P (gall G F w) v
structure Pers (hs : List HA) : Prop where
 out : ∀ G F w, hsP hs G F w → F = []
theorem Pers.nil : Pers [] := ⟨fun _ _ _ h => h⟩
theorem Pers.cons {h : HA} {t : List HA} (h1 : ∀ G F w, h.P G F w → F = []) (k : Pers t) : Pers (h :: t) := ⟨fun G F w ⟨F1, F2, e, a, b⟩ => by
 have := h1 _ _ _ a; have := k.out _ _ _ b; subst_vars; simpa using e⟩
def HA.fact (p : Prop) : HA := ⟨fun _ F _ => F = [] ∧ p, fun _ h => h, fun _ h => h⟩
theorem hsP.fact {p : Prop} {t : List HA} {G : Nat → Option Obj} {F : List Nat} {w : World} : hsP (.fact p :: t) G F w ↔ p ∧ hsP t G F w :=
 ⟨fun ⟨_, _, e, ⟨e1, h⟩, k⟩ => by subst e1; exact ⟨h, k.perm (by simpa using e)⟩, fun ⟨h, k⟩ => ⟨[], F, .refl _, ⟨rfl, h⟩, k⟩⟩
theorem W_exs {c : Cx} {rs : List (Nat × AV)} {hs r : List HA} {Q : Exit → S → Prop} {x : Code} {σ : Type} {h : σ → List HA} (hr : Rm hs (.exs h) r) (k : ∀ s, W c x ⟨rs, h s ++ r⟩ Q) : W c x ⟨rs, hs⟩ Q := ⟨fun a w st => by
 obtain ⟨G, F, hI, rr⟩ := st
 obtain ⟨F1, F2, e, ⟨s, h1⟩, h2⟩ := hr.sel hI.hs
 exact (k s).out a w ⟨G, F, ⟨hI.gin, hI.nd, hI.own, (hsP.append h1 h2).perm e⟩, rr⟩⟩
theorem W_fact {c : Cx} {rs : List (Nat × AV)} {hs r : List HA} {Q : Exit → S → Prop} {x : Code} {p : Prop} (hr : Rm hs (.fact p) r) (k : p → W c x ⟨rs, r⟩ Q) : W c x ⟨rs, hs⟩ Q := ⟨fun a w st => by
 obtain ⟨G, F, hI, rr⟩ := st
 have := hsP.fact.1 (hr.sel hI.hs)
 exact (k this.1).out a w ⟨G, F, ⟨hI.gin, hI.nd, hI.own, this.2⟩, rr⟩⟩
section
variable {P : Program} {rs : List (Nat × AV)} {d : Option Nat} {ty : TypeId} {pos : String} {af : Array Edge} {g : Option (Nat × Bool)}
theorem lt_eqlNil {α : Type} {x : Operand} {t t' e : TypeId} {n m : Nat} (hT : TyS P t e m) {f : α → List AV} {xs : List α} (hx : opv rs x = some (.sl n f xs)) : LT P ⟨d, .binOp .eql t x (.const (.slice none 0 0)) t', ty, pos, af, g⟩ rs [] (fun av y => ∃ b : Bool, av = .val (.bool b) ∧ y = [] ∧ (b = true → xs = [])) :=
 LT_eff (fun _ e => by cases e) fun a w G F hR hI => by
  obtain ⟨p, cap, e1, hc, hs⟩ : (AV.sl n f xs).P G (a.eval x) := opv_ok hR hx
  refine ⟨.value (.bool p.isNone), w, .bool p.isNone, _, [], G, F, ?_, .inl rfl, ⟨p.isNone, rfl, rfl, fun hb => ?_⟩, Fr.refl _ _ _, hI, rfl⟩
  ·simp only [execOp, e1]
   have h1 : (eqGuard .eql t x (.const (.slice none 0 0)) (.slice p xs.length cap) (a.eval (.const (.slice none 0 0)))).run P w = .ok () w := by simp [eqGuard, Act.eval, go_sem]
   have h2 : (binOp .eql t (.slice p xs.length cap) (a.eval (.const (.slice none 0 0)))).run P w = .ok (.bool p.isNone) w := run_eql_slice_nil w t e p _ _ hT.und
   simp only [Sem.run_bind, h1, h2, Result.andThen_ok]
   rfl
  ·cases xs with
   | nil => rfl
   | cons y ys =>
    obtain ⟨b, o, e2, _⟩ := hs 0 (by simp)
    rw [e2] at hb; cases hb
end
section
variable {c : Cx} {rs : List (Nat × AV)} {hs : List HA} {Q : Exit → S → Prop} {ops : Array Oper} {tl : List Oper} {d : Nat} {ty : TypeId} {pos : String} {af : Array Edge}
theorem wl_eqlNil {α : Type} {x : Operand} {t t' e : TypeId} {n m : Nat} {f : α → List AV} {xs : List α} (hx : opv rs x = some (.sl n f xs)) (hT : TyS c.P t e m) (hd : Nat.blt d c.nt = true) (k : ∀ b : Bool, (b = true → xs = []) → WL c ops tl ⟨(d, .val (.bool b)) :: rs, hs⟩ Q) : WL c ops (⟨some d, .binOp .eql t x (.const (.slice none 0 0)) t', ty, pos, af, none⟩ :: tl) ⟨rs, hs⟩ Q :=
 WL_lt (cons := []) (rest := hs) hd rfl (fun _ _ _ h => h) (lt_eqlNil hT hx) fun av pr ⟨b, e1, e2, hb⟩ => by subst e1; subst e2; exact k b hb
end
theorem resKN {P : Program} {fn : Func} {x : Tmp} {t tb : TypeId} {n : Nat} {post : AV → List HA → Prop} {rs : List (Nat × AV)} {hs kept r : List HA} {p : Value} {cs : List AV} {f : HA → List HA} (hr : fn.results = #[.cell x t]) (hx : look rs x = some (.val p)) (hat : At hs (.box p cs tb) f) (hT : TyN P t n) (hn : cs.length = n) (hp : post (.agg cs) kept) (hcut : Cut hs kept r) : Res P fn post ⟨rs, hs⟩ := by
 refine ⟨_, kept, hp, fun a w G F hR hI => ?_⟩
 obtain ⟨rest, hs'⟩ := hat.sel
 obtain ⟨F1, F2, e, ⟨b, vs, hpb, hF1, hf, hb⟩, h2⟩ := (hs' _ _ _ _).1 (by rw [hat.self]; exact hI.hs)
 obtain ⟨F3, h1, h2⟩ := inv_keep (rest := r) ⟨hI.gin, hI.nd, hI.own, hcut.sel hI.hs⟩
 refine ⟨.agg vs.toArray, G, F3, ?_, h2, h1, ⟨vs, rfl, hf⟩⟩
 have hxv : a.tmps.getD x undef = p := hR _ _ hx
 rw [Array.getD_eq_getD_getElem?] at hxv
 have h1 := run_loadN (P := P) (t := t) (n := n) (w := w) (b := b) (j := 0) (vs := vs) (by rw [hf.length, hn]) (fun k u e => by rw [cell_of_row w b _ _ _ _ hb]; simpa using e)
 simp only [Instr.loadAt, Instr.sureAddr, Sem.run_bind, Sem.run_pure, Result.andThen_ok] at h1
 simp [results, hr, hxv, hpb, asAddr, h1]
theorem Res_row0 {α : Type} {P : Program} {fn : Func} {post : AV → List HA → Prop} {rs : List (Nat × AV)} {hs : List HA} (e : TypeId) (n : Nat) (f : α → List AV) (k : Res P fn post ⟨rs, .row (.slice none 0 0) e n f [] :: hs⟩) : Res P fn post ⟨rs, hs⟩ := by
 obtain ⟨av, prod, hp, h⟩ := k
 exact ⟨av, prod, hp, fun a w G F hR hI => h a w G F hR ⟨hI.gin, hI.nd, hI.own, [], F, .refl _, ⟨[], rfl, fun _ h => (by cases h), trivial, fun _ h => (by cases h), ⟨by simp, .inl ⟨rfl, rfl⟩⟩⟩, hI.hs⟩⟩
theorem st_snoc {c : Cx} {rs : List (Nat × AV)} {hs r r' l : List HA} {h : HA} {a : Act} {w : World} (hr : Rm hs (.pack l) r) (hr2 : Rm r h r') (st : St c ⟨rs, hs⟩ a w) : St c ⟨rs, .pack (l ++ [h]) :: r'⟩ a w := by
 obtain ⟨G, F, hI, rr⟩ := st
 refine ⟨G, F, ⟨hI.gin, hI.nd, hI.own, ?_⟩, rr⟩
 obtain ⟨A, B, e, hA, hB⟩ := hr.sel hI.hs
 obtain ⟨C, D, e2, hC, hD⟩ := hr2.sel hB
 exact ⟨A ++ C, D, e.trans ((e2.append_left A).trans (by rw [List.append_assoc])), hsP.append hA (show hsP [h] G C w from ⟨C, [], by simp, hC, rfl⟩), hD⟩
theorem WL_snoc {c : Cx} {rs : List (Nat × AV)} {hs r r' l : List HA} {h : HA} {Q : Exit → S → Prop} {ops : Array Oper} {tl : List Oper} (hr : Rm hs (.pack l) r) (hr2 : Rm r h r') (k : WL c ops tl ⟨rs, .pack (l ++ [h]) :: r'⟩ Q) : WL c ops tl ⟨rs, hs⟩ Q := ⟨fun a w st => k.out a w (st_snoc hr hr2 st)⟩
theorem st_exs {c : Cx} {rs : List (Nat × AV)} {hs r : List HA} {σ : Type} {h : σ → List HA} (s : σ) {a : Act} {w : World} (hc : Cut hs (h s) r) (st : St c ⟨rs, hs⟩ a w) : St c ⟨rs, .exs h :: r⟩ a w := by
 obtain ⟨G, F, hI, rr⟩ := st
 refine ⟨G, F, ⟨hI.gin, hI.nd, hI.own, ?_⟩, rr⟩
 obtain ⟨A, B, e, hA, hB⟩ := hsP.split (hc.sel hI.hs)
 exact ⟨A, B, e, ⟨s, hA⟩, hB⟩
theorem WL_mkExs {c : Cx} {rs : List (Nat × AV)} {hs r : List HA} {Q : Exit → S → Prop} {ops : Array Oper} {tl : List Oper} {σ : Type} {h : σ → List HA} (s : σ) (hc : Cut hs (h s) r) (k : WL c ops tl ⟨rs, .exs h :: r⟩ Q) : WL c ops tl ⟨rs, hs⟩ Q := ⟨fun a w st => k.out a w (st_exs s hc st)⟩
theorem st_fact {c : Cx} {rs : List (Nat × AV)} {hs : List HA} {p : Prop} (hp : p) {a : Act} {w : World} (st : St c ⟨rs, hs⟩ a w) : St c ⟨rs, .fact p :: hs⟩ a w := by
 obtain ⟨G, F, hI, rr⟩ := st
 exact ⟨G, F, ⟨hI.gin, hI.nd, hI.own, hsP.fact.2 ⟨hp, hI.hs⟩⟩, rr⟩
theorem WL_mkFact {c : Cx} {rs : List (Nat × AV)} {hs : List HA} {Q : Exit → S → Prop} {ops : Array Oper} {tl : List Oper} {p : Prop} (hp : p) (k : WL c ops tl ⟨rs, .fact p :: hs⟩ Q) : WL c ops tl ⟨rs, hs⟩ Q := ⟨fun a w st => k.out a w (st_fact hp st)⟩
theorem thaw_freeze {G : Nat → Option Obj} {F : List Nat} {w : World} {h : HA} {rest : List HA} {av av' : AV} {v : Value} (ht : Thaw h av av') (hI : Inv G F (h :: rest) w) (hv : av.P G v) : ∃ G' F', Inv G' F' rest w ∧ Fr w w F F' G G' ∧ av'.P G' v := by
 obtain ⟨F1, F2, ep, h1, h2⟩ := hI.hs
 have nd := ep.nodup_iff.1 hI.nd
 have hm1 : ∀ b, b ∈ F1 → b ∈ F := fun b hb => ep.mem_iff.2 (by simp [hb])
 have hm2 : ∀ b, b ∈ F2 → b ∈ F := fun b hb => ep.mem_iff.2 (by simp [hb])
 have hle : Gle G (gall G F1 w) := gall_le fun b hb => (hI.own b (hm1 b hb)).2
 refine ⟨gall G F1 w, F2, ⟨gall_in hI.gin, (List.nodup_append.1 nd).2.1, fun b hb => ⟨(hI.own b (hm2 b hb)).1, ?_⟩, hsP.mono hle h2⟩, ⟨rfl, rfl, rfl, Nat.le_refl _, fun _ _ _ => rfl, fun b hb => .inl (hm2 b hb), hle, fun b o eb => ?_⟩, ht.out G F1 w h1 hle v hv⟩
 ·unfold gall
  rw [if_neg fun hin => (List.nodup_append.1 nd).2.2 b hin b hb rfl]
  exact (hI.own b (hm2 b hb)).2
 ·unfold gall at eb
  split at eb
  ·rename_i hb; exact .inr (.inl (hm1 b hb))
  ·exact .inl eb
theorem thaw_tup {h : HA} {av av' x : AV} (k : Thaw h av av') : Thaw h (.tup [av, x]) (.tup [av', x]) := ⟨fun G F w hh hle v hv => by
 obtain ⟨us, e, hf⟩ := hv
 match us, hf with
 | [a, b], ⟨ha, hb, _⟩ => exact ⟨[a, b], e, k.out G F w hh hle a ha, x.mono hle hb, trivial⟩⟩
theorem Con.frz {α : Type} {P : Program} {k : FuncId} {args : List AV} {pre rest : List HA} {post : AV → List HA → Prop} {a : α → AV} {h : α → HA} {av' : AV} (hc : Con P k args pre post) (hp : ∀ x y, post x y → ∃ i, x = a i ∧ y = h i :: rest) (ht : ∀ i, Thaw (h i) (a i) av') : Con P k args pre (Is av' rest) :=
 ⟨hc.enters, fun G Fp vs w hf hI => (hc.calls G Fp vs w hf hI).mono fun e w' ⟨v, av, prod, G', F', he, hq, hfr, hi, hv⟩ => by
  obtain ⟨i, rfl, rfl⟩ := hp _ _ hq
  obtain ⟨G2, F2, h1, h2, h3⟩ := thaw_freeze (ht i) hi hv
  exact ⟨v, av', rest, G2, F2, he, ⟨rfl, rfl⟩, hfr.trans h2, h1, h3⟩⟩
section
variable {P : Program} {rs : List (Nat × AV)} {d : Option Nat} {ty : TypeId} {pos : String} {af : Array Edge} {g : Option (Nat × Bool)}
end
def HA.cells (b : Nat) (e : TypeId) (cs : List AV) (tot : Nat) : HA :=
 ⟨fun G F w => ∃ vs rest : List Value, F = [b] ∧ Fits G cs vs ∧ (∀ u ∈ vs, u.oneCell' = true) ∧ w.heap[b]? = some (.cells (vs ++ rest).toArray e (0, 0)) ∧ (vs ++ rest).length = tot,
  fun h ⟨vs, rest, e1, e2, e3⟩ => ⟨vs, rest, e1, e2.mono h, e3⟩,
  fun h ⟨vs, rest, e1, e2, e3, e4, e5⟩ => ⟨vs, rest, e1, e2, e3, (h b (by rw [e1]; simp)).trans e4, e5⟩⟩
theorem row_open {α : Type} {v : Value} {e : TypeId} {n : Nat} {f : α → List AV} {xs : List α} (hx : xs ≠ []) {G : Nat → Option Obj} {F : List Nat} {w : World} (h : (HA.row v e n f xs).P G F w) : ∃ b cap, v = .slice (some ⟨b, 0, none⟩) xs.length cap ∧ xs.length ≤ cap ∧ cap ≤ maxLen ∧ (∀ x ∈ xs, (f x).length = n) ∧ (HA.cells b e (xs.flatMap f) (cap * n)).P G F w := by
 rcases row_val h with ⟨_, rfl⟩ | ⟨b, cap, cur, vs, rfl, hnc, hF1, hb, hcs, hl, hf, htake, hone, hcm⟩
 ·exact absurd rfl hx
 ·refine ⟨b, cap, rfl, hnc, hcm, hl, vs, cur.toList.drop (xs.length * n), hF1, hf, hone, ?_, ?_⟩
  ·rw [← htake, List.take_append_drop]; simpa using hb
  ·rw [← htake, List.take_append_drop]; simpa using hcs
theorem row_shut {α : Type} {e : TypeId} {n : Nat} {f : α → List AV} {xs : List α} {b cap : Nat} (hl : ∀ x ∈ xs, (f x).length = n) (hnc : xs.length ≤ cap) (hcm : cap ≤ maxLen) {G : Nat → Option Obj} {F : List Nat} {w : World} (h : (HA.cells b e (xs.flatMap f) (cap * n)).P G F w) : (HA.row (.slice (some ⟨b, 0, none⟩) xs.length cap) e n f xs).P G F w := by
 obtain ⟨vs, rest, hF, hf, hone, hb, hs⟩ := h
 have hvl : vs.length = xs.length * n := by rw [hf.length, lenL hl]
 exact ⟨vs, by rw [hF]; rfl, hl, hf, hone, hvl, .inr ⟨b, cap, _, rfl, Nat.zero_le _, hb, hnc, hcm, by simpa using hs, by simp [← hvl]⟩⟩
theorem WL_openRow {α : Type} {c : Cx} {rs : List (Nat × AV)} {hs r : List HA} {Q : Exit → S → Prop} {ops : Array Oper} {l : List Oper} {v : Value} {e : TypeId} {n : Nat} {f : α → List AV} {xs : List α} (hx : xs ≠ []) (hr : Rm hs (.row v e n f xs) r)
  (k : ∀ b cap, v = .slice (some ⟨b, 0, none⟩) xs.length cap → xs.length ≤ cap → cap ≤ maxLen → (∀ x ∈ xs, (f x).length = n) → WL c ops l ⟨rs, .cells b e (xs.flatMap f) (cap * n) :: r⟩ Q) : WL c ops l ⟨rs, hs⟩ Q := ⟨fun a w st => by
 obtain ⟨G, F, hI, rr⟩ := st
 obtain ⟨F1, F2, ep, h1, h2⟩ := hr.sel hI.hs
 obtain ⟨b, cap, e1, e2, e3, e4, e5⟩ := row_open hx h1
 exact (k b cap e1 e2 e3 e4).out a w ⟨G, F, ⟨hI.gin, hI.nd, hI.own, F1, F2, ep, e5, h2⟩, rr⟩⟩
theorem WL_shutRow {α : Type} {c : Cx} {rs : List (Nat × AV)} {hs r : List HA} {Q : Exit → S → Prop} {ops : Array Oper} {l : List Oper} {b cap : Nat} {e : TypeId} {n : Nat} {f : α → List AV} (xs : List α) (hl : ∀ x ∈ xs, (f x).length = n) (hnc : xs.length ≤ cap) (hcm : cap ≤ maxLen) (hr : Rm hs (.cells b e (xs.flatMap f) (cap * n)) r) (k : WL c ops l ⟨rs, .row (.slice (some ⟨b, 0, none⟩) xs.length cap) e n f xs :: r⟩ Q) : WL c ops l ⟨rs, hs⟩ Q := ⟨fun a w st => by
 obtain ⟨G, F, hI, rr⟩ := st
 obtain ⟨F1, F2, ep, h1, h2⟩ := hr.sel hI.hs
 exact k.out a w ⟨G, F, ⟨hI.gin, hI.nd, hI.own, F1, F2, ep, row_shut hl hnc hcm h1, h2⟩, rr⟩⟩
section
variable {P : Program} {rs : List (Nat × AV)} {d : Option Nat} {ty : TypeId} {pos : String} {af : Array Edge} {g : Option (Nat × Bool)}
theorem lt_lenV {x : Operand} {t e : TypeId} {n : Nat} [hT : TyS P t e n] {a : Option Addr} {len cap : Nat} (hx : opv rs x = some (.val (.slice a len cap))) : LT P ⟨d, .call { callee := .builtin .len, args := #[x], argTypes := #[t] }, ty, pos, af, g⟩ rs [] (Is (.val (.int .i64 len)) []) :=
 LT_val (fun _ e => by cases e) fun a w G hR hG => by
  have e1 : a.eval x = _ := opv_ok hR hx
  exact ⟨_, rfl, by simp [execOp, resolve, e1, invoke, builtin, Builtin.len_, run_underlying hT.und, goInt]⟩
theorem lt_sliceV {x : Operand} {lo hi : Option Operand} {t e : TypeId} {n : Nat} (hT : TyE P t e n) {ad : Option Addr} {len cap l h : Nat} {li hi' : Int} (hx : opv rs x = some (.val (.slice ad len cap)))
  (hlo : lo.map (opv rs) = some (some (.val (.int .i64 li))) ∨ (lo = none ∧ li = 0)) (hl : li = (l : Int))
  (hhi : hi.map (opv rs) = some (some (.val (.int .i64 hi'))) ∨ (hi = none ∧ hi' = (len : Int))) (hh : hi' = (h : Int)) (h1 : l ≤ h) (h2 : h ≤ cap) (h3 : len ≤ cap) :
  LT P ⟨d, .slice t x lo hi none, ty, pos, af, g⟩ rs [] (Is (.val (.slice (if cap = l then ad else ad.map (·.add (l * n))) (h - l) (cap - l))) []) :=
 LT_val (fun _ e => by cases e) fun a w G hR hG => by
  have e1 : a.eval x = _ := opv_ok hR hx
  have hlo' : lo.map a.eval = some (.int .i64 (l : Int)) ∨ (lo.map a.eval = none ∧ l = 0) := by
   rcases hlo with h | ⟨rfl, rfl⟩
   ·cases lo with
    | none => simp at h
    | some y =>
     simp only [Option.map_some, Option.some.injEq] at h
     have : a.eval y = _ := opv_ok hR h
     left; rw [Option.map_some, this, hl]
   ·right; exact ⟨rfl, by omega⟩
  have hhi' : hi.map a.eval = some (.int .i64 (h : Int)) ∨ (hi.map a.eval = none ∧ h = len) := by
   rcases hhi with h' | ⟨rfl, h'⟩
   ·cases hi with
    | none => simp at h'
    | some y =>
     simp only [Option.map_some, Option.some.injEq] at h'
     have : a.eval y = _ := opv_ok hR h'
     left; rw [Option.map_some, this, hh]
   ·right; exact ⟨rfl, by omega⟩
  have hr := run_sliceAt (P := P) (t := t) (w := w) (ad := ad) hlo' hhi' h1 h2 h3
  refine ⟨_, rfl, ?_⟩
  simp only [execOp, e1, Option.map_none, Sem.run_bind, hr]
  rfl
theorem lt_clearV {x : Operand} {t e : TypeId} {n : Nat} (hT : TyE P t e n) {zs : List Value} (hZ : TyZ P e zs) (hzl : zs.length = n) (hz1 : ∀ u ∈ zs, u.oneCell' = true) {b j m cap c : Nat} {cs : List AV} (hx : opv rs x = some (.val (.slice (if cap = j then some ⟨b, 0, none⟩ else some ⟨b, j * n, none⟩) m c))) (hcs : cs.length = j * n) (hcap : j + m ≤ cap) :
  LT P ⟨d, .call { callee := .builtin .clear, args := #[x], argTypes := #[t] }, ty, pos, af, g⟩ rs [.cells b e cs (cap * n)] (Is (.tup []) [.cells b e cs (cap * n)]) :=
 LT_eff (fun _ e => by cases e) fun a w G F hR hI => by
  obtain ⟨F1, F2, ep, ⟨vs, rest, hF1, hf, hone, hb, htot⟩, h2⟩ := hI.hs
  have h2' : F2 = [] := h2
  subst h2' hF1
  have hF : F = [b] := List.perm_singleton.1 (by simpa using ep)
  subst hF
  have e1 : a.eval x = _ := opv_ok hR hx
  have hvl : vs.length = j * n := by rw [hf.length, hcs]
  have hle : (j + m) * n ≤ cap * n := Nat.mul_le_mul_right n hcap
  have hjm : (j + m) * n = j * n + m * n := Nat.add_mul _ _ _
  cases m with
  | zero =>
   refine ⟨_, w, _, _, _, G, [b], ?_, .inl rfl, ⟨rfl, rfl⟩, Fr.refl _ _ _, hI, ⟨[], rfl, trivial⟩⟩
   by_cases hcj : cap = j <;> simp [execOp, resolve, e1, invoke, builtin, Builtin.clear_, run_underlying hT.und, hcj]
  | succ m =>
   have hcj : cap ≠ j := by omega
   rw [if_neg hcj] at e1
   obtain ⟨z, hz, hzc⟩ := hZ.run w
   obtain ⟨news, hnews⟩ : ∃ news, news = (Builtin.zeroCells z.cells (m + 1)).toList := ⟨_, rfl⟩
   have hnl : news.length = (m + 1) * n := by rw [hnews, hzc]; simp [Builtin.zeroCells, hzl]
   have hn1 : ∀ u ∈ news, u.oneCell' = true := fun u hu => by
    rw [hnews, hzc] at hu
    simp only [Builtin.zeroCells, Array.toList_map, List.mem_map, Array.toList_range, List.mem_range, List.size_toArray] at hu
    obtain ⟨q, _, rfl⟩ := hu
    have hlt : q % zs.length < zs.length := Nat.mod_lt _ (by have := hT.pos; omega)
    rw [getElem!_pos zs.toArray _ (by simpa using hlt)]
    exact hz1 _ (by simp)
   have hst := run_storeCells_at P b (j * n) e news 0 _ w hb (by simp only [List.size_toArray, Nat.add_zero]; omega) hn1
   simp only [Nat.add_zero] at hst
   obtain ⟨f1, f2⟩ := fr_setRow hI.gin (hI.own b (by simp)).2 ((vs ++ rest).toArray.toList.take (j * n) ++ news ++ (vs ++ rest).toArray.toList.drop (j * n + news.length)).toArray
   refine ⟨_, _, _, _, _, G, [b], ?_, .inl rfl, ⟨rfl, rfl⟩, f1, ⟨f2, by simp, fun q hq => ?_, [b], [], by simp, ⟨vs, news ++ (vs ++ rest).drop (j * n + news.length), rfl, hf, hone, ?_, ?_⟩, rfl⟩, ⟨[], rfl, trivial⟩⟩
   ·have h3 := hz
    simp [execOp, resolve, e1, invoke, builtin, Builtin.clear_, run_underlying hT.und, hz, ← hnews, hst]
   ·rw [List.mem_singleton] at hq; subst hq; simp only [setRow_size]; exact hI.own _ (by simp)
   ·have ht : (vs ++ rest).take (j * n) = vs := by rw [List.take_append_of_le_length (by omega), List.take_of_length_le (by omega)]
    have := setRow_heap w b (vs ++ rest).toArray ((vs ++ rest).toArray.toList.take (j * n) ++ news ++ (vs ++ rest).toArray.toList.drop (j * n + news.length)).toArray e (0, 0) hb
    rw [this]
    simp only [ht, List.append_assoc]
   ·simp only [List.length_append, List.length_drop] at htot ⊢
    omega
end
section
variable {c : Cx} {rs : List (Nat × AV)} {hs : List HA} {Q : Exit → S → Prop} {ops : Array Oper} {tl : List Oper} {d : Nat} {ty : TypeId} {pos : String} {af : Array Edge}
theorem wl_lenV {x : Operand} {t e : TypeId} {n : Nat} [TyS c.P t e n] {a : Option Addr} {len cap : Nat} (hx : opv rs x = some (.val (.slice a len cap))) (hd : Nat.blt d c.nt = true) (k : WL c ops tl ⟨(d, .val (.int .i64 len)) :: rs, hs⟩ Q) : WL c ops (⟨some d, .call { callee := .builtin .len, args := #[x], argTypes := #[t] }, ty, pos, af, none⟩ :: tl) ⟨rs, hs⟩ Q := wl_ex (lt_lenV hx) hd k
theorem wl_sliceV {x : Operand} {lo hi : Option Operand} {t e : TypeId} {n : Nat} {ad : Option Addr} {len cap l h : Nat} {li hi' : Int} (hx : opv rs x = some (.val (.slice ad len cap))) (hT : TyE c.P t e n)
  (hlo : lo.map (opv rs) = some (some (.val (.int .i64 li))) ∨ (lo = none ∧ li = 0)) (hl : li = (l : Int)) (hhi : hi.map (opv rs) = some (some (.val (.int .i64 hi'))) ∨ (hi = none ∧ hi' = (len : Int))) (hh : hi' = (h : Int)) (h1 : l ≤ h) (h2 : h ≤ cap) (h3 : len ≤ cap) (hd : Nat.blt d c.nt = true)
  (k : WL c ops tl ⟨(d, .val (.slice (if cap = l then ad else ad.map (·.add (l * n))) (h - l) (cap - l))) :: rs, hs⟩ Q) : WL c ops (⟨some d, .slice t x lo hi none, ty, pos, af, none⟩ :: tl) ⟨rs, hs⟩ Q := wl_ex (lt_sliceV hT hx hlo hl hhi hh h1 h2 h3) hd k
theorem wl_clearV {x : Operand} {t e : TypeId} {n : Nat} {zs : List Value} {b j m cap cc : Nat} {cs : List AV} {f : HA → List HA} (hx : opv rs x = some (.val (.slice (if cap = j then some ⟨b, 0, none⟩ else some ⟨b, j * n, none⟩) m cc))) (hat : At hs (.cells b e cs (cap * n)) f) (hT : TyE c.P t e n) (hZ : TyZ c.P e zs) (hzl : zs.length = n) (hz1 : ∀ u ∈ zs, u.oneCell' = true) (hcs : cs.length = j * n) (hcap : j + m ≤ cap)
  (k : WL c ops tl ⟨rs, hs⟩ Q) : WL c ops (⟨none, .call { callee := .builtin .clear, args := #[x], argTypes := #[t] }, ty, pos, af, none⟩ :: tl) ⟨rs, hs⟩ Q :=
 WL_at (o := ⟨none, .call { callee := .builtin .clear, args := #[x], argTypes := #[t] }, ty, pos, af, none⟩) rfl rfl hat (lt_clearV hT hZ hzl hz1 hx hcs hcap) (by rw [hat.self]; exact k)
end
theorem toV {b cap i n : Nat} : (AV.val (.slice (if cap = 0 then some (⟨b, 0, none⟩ : Addr) else (some (⟨b, 0, none⟩ : Addr)).map (·.add (0 * n))) (i - 0) (cap - 0))) = AV.val (.slice (some ⟨b, 0, none⟩) i cap) := by
 congr 2
 split <;> simp [add_plain]
theorem fromV {b cap j n h : Nat} : (AV.val (.slice (if cap = j then some (⟨b, 0, none⟩ : Addr) else (some (⟨b, 0, none⟩ : Addr)).map (·.add (j * n))) (h - j) (cap - j))) = AV.val (.slice (if cap = j then some ⟨b, 0, none⟩ else some ⟨b, j * n, none⟩) (h - j) (cap - j)) := by
 congr 2
 split <;> simp [add_plain]
theorem WL_fact {c : Cx} {rs : List (Nat × AV)} {hs r : List HA} {Q : Exit → S → Prop} {ops : Array Oper} {l : List Oper} {p : Prop} (hr : Rm hs (.fact p) r) (k : p → WL c ops l ⟨rs, r⟩ Q) : WL c ops l ⟨rs, hs⟩ Q := ⟨fun a w st => by
 obtain ⟨G, F, hI, rr⟩ := st
 have := hsP.fact.1 (hr.sel hI.hs)
 exact (k this.1).out a w ⟨G, F, ⟨hI.gin, hI.nd, hI.own, this.2⟩, rr⟩⟩
theorem Res_add {P : Program} {fn : Func} {post : AV → List HA → Prop} {rs : List (Nat × AV)} {hs : List HA} (h : HA) (hP : ∀ G w, h.P G [] w) (k : Res P fn post ⟨rs, h :: hs⟩) : Res P fn post ⟨rs, hs⟩ := by
 obtain ⟨av, prod, hp, k⟩ := k
 exact ⟨av, prod, hp, fun a w G F hR hI => k a w G F hR ⟨hI.gin, hI.nd, hI.own, [], F, .refl _, hP G w, hI.hs⟩⟩
section
variable {P : Program} {rs : List (Nat × AV)} {d : Option Nat} {ty : TypeId} {pos : String} {af : Array Edge} {g : Option (Nat × Bool)}
end
section
variable {c : Cx} {rs : List (Nat × AV)} {hs : List HA} {Q : Exit → S → Prop} {ops : Array Oper} {tl : List Oper} {d : Nat} {ty : TypeId} {pos : String} {af : Array Edge}
end
theorem st_frzX {α : Type} {c : Cx} {rs : List (Nat × AV)} {hs r : List HA} {e t : TypeId} {n j : Nat} {f : α → List AV} {xs : List α} {p v : Value} {cs : List AV} {g : HA → List HA} {a : Act} {w : World} (hr : Rm hs (.row v e n f xs) r) (hat : At r (.box p cs t) g) (hj : cs[j]? = some (.val v)) (st : St c ⟨rs, hs⟩ a w) : St c ⟨rs, g (.box p (cs.set j (.sl n f xs)) t)⟩ a w := by
 obtain ⟨G, F, hI, hF, hR, rr⟩ := st
 obtain ⟨G', F', h1, h2, h3⟩ := row_freeze (rest := r) ⟨hI.gin, hI.nd, hI.own, hr.sel hI.hs⟩
 obtain ⟨rest, hsel⟩ := hat.sel
 obtain ⟨F1, F2, ep, ⟨b, vs, e1, e2, e3, e4⟩, k2⟩ := (hsel _ _ _ _).1 (by rw [hat.self]; exact h1.hs)
 refine ⟨G', F', ⟨h1.gin, h1.nd, h1.own, (hsel _ _ _ _).2 ⟨F1, F2, ep, ⟨b, vs, e1, e2, ?_, e4⟩, k2⟩⟩, hF.trans h2, hR.mono h2.gle, rr.1, rr.2.step h2⟩
 obtain ⟨u, hu, hu2⟩ := e3.get hj
 have hu3 : u = v := hu2
 subst hu3
 have := e3.set j h3
 rwa [show vs.set j u = vs from by
  obtain ⟨hlt, rfl⟩ := List.getElem?_eq_some_iff.1 hu
  exact List.set_getElem_self hlt] at this
theorem W_frzX {α : Type} {c : Cx} {rs : List (Nat × AV)} {hs r : List HA} {Q : Exit → S → Prop} {x : Code} {e t : TypeId} {n : Nat} {f : α → List AV} {xs : List α} {p v : Value} {cs : List AV} {g : HA → List HA} (p0 : Value) (j : Nat) (hr : Rm hs (.row v e n f xs) r) (hp : p = p0) (hat : At r (.box p cs t) g) (hj : cs[j]? = some (.val v)) (k : W c x ⟨rs, g (.box p (cs.set j (.sl n f xs)) t)⟩ Q) : W c x ⟨rs, hs⟩ Q := ⟨fun a w st => k.out a w (st_frzX hr hat hj st)⟩
section
variable {P : Program} {rs : List (Nat × AV)} {d : Option Nat} {ty : TypeId} {pos : String} {af : Array Edge} {g : Option (Nat × Bool)}
end
section
variable {c : Cx} {rs : List (Nat × AV)} {hs r : List HA} {Q : Exit → S → Prop} {ops : Array Oper} {tl : List Oper} {d : Nat} {ty : TypeId} {pos : String} {af : Array Edge}
theorem wl_callVP {x : Operand} {k : FuncId} {caps : List AV} {xs : List Operand} {ts : Array TypeId} {avs : List AV} {pre : List HA} {post : AV → List HA → Prop} (hc : Con c.P k (avs ++ caps) pre post) (hf : opv rs x = some (.clo k caps)) (hx : opvs rs xs = some avs) (hcut : Cut hs pre r) (hd : Nat.blt d c.nt = true) (kk : ∀ av prod, post av prod → WL c ops tl ⟨(d, av) :: rs, prod ++ r⟩ Q) : WL c ops (⟨some d, .call { callee := .value x, args := xs.toArray, argTypes := ts }, ty, pos, af, none⟩ :: tl) ⟨rs, hs⟩ Q :=
 WL_lt (cons := pre) (rest := r) hd rfl (fun _ _ _ h => hcut.sel h) (lt_callV hf hx hc) kk
theorem wl_yield {x : Operand} {y : Value} {xs : List Operand} {ts : Array TypeId} {avs : List AV} {pre : List HA} {post : AV → List HA → Prop} (hc : Yield c.P y avs pre post) (hf : opv rs x = some (.val y)) (hx : opvs rs xs = some avs) (hcut : Cut hs pre r) (hd : Nat.blt d c.nt = true) (kk : ∀ av prod, post av prod → WL c ops tl ⟨(d, av) :: rs, prod ++ r⟩ Q) : WL c ops (⟨some d, .call { callee := .value x, args := xs.toArray, argTypes := ts }, ty, pos, af, none⟩ :: tl) ⟨rs, hs⟩ Q :=
 WL_lt (cons := pre) (rest := r) hd rfl (fun _ _ _ h => hcut.sel h) (lt_yield hf hx hc) kk
end
end Go.Proofs.YthddoikmgpgakaaDoor.Sw
namespace Go.Proofs.YthddoikmgpgakaaDoor.Sw
open Go.RowKit Go
open Go.WideElems (Fit)
open Go.ChangeMaps (setBlock heap_setBlock_same heap_setBlock_other)
abbrev anyM : Value → Option (DataW Nat × List MemPlace) := fun _ => some (.nil, [])
structure KeyT (P : Program) (t : TypeId) {κ : Type} (kv : κ → Value) (ok : κ → Prop) : Prop where
 keyed : Go.Maps.Keyed P t
 key : ∀ k, ok k → ∃ l, keyOf P t (kv k) = some l
 inj : ∀ k k', kv k = kv k' → k = k'
def getM {κ α : Type} [DecidableEq κ] : List (κ × α) → κ → Option α
 | [], _ => none
 | p :: t, k => if p.1 = k then some p.2 else getM t k
def delM {κ α : Type} [DecidableEq κ] (l : List (κ × α)) (k : κ) : List (κ × α) := l.filter fun p => !decide (p.1 = k)
def putM {κ α : Type} [DecidableEq κ] (l : List (κ × α)) (k : κ) (a : α) : List (κ × α) := (k, a) :: delM l k
section
variable {κ α : Type} [DecidableEq κ]
theorem getM_iff {k : κ} {a : α} : ∀ {l : List (κ × α)}, l.Pairwise (fun p q => p.1 ≠ q.1) → (getM l k = some a ↔ (k, a) ∈ l)
 | [], _ => by simp [getM]
 | p :: t, h => by
  obtain ⟨h1, h2⟩ := List.pairwise_cons.1 h
  have ih := getM_iff (k := k) (a := a) h2
  unfold getM
  split
  ·rename_i e
   subst e
   constructor
   ·intro e; cases e; simp
   ·intro e
    rcases List.mem_cons.1 e with e | e
    ·rw [← e]
    ·exact absurd rfl (h1 (p.1, a) e)
  ·rename_i e
   rw [ih]
   constructor
   ·intro e; exact List.mem_cons_of_mem _ e
   ·intro e'
    rcases List.mem_cons.1 e' with e' | e'
    ·exact absurd (by rw [← e']) e
    ·exact e'
theorem getM_none {k : κ} : ∀ {l : List (κ × α)}, getM l k = none ↔ ∀ p ∈ l, p.1 ≠ k
 | [] => by simp [getM]
 | p :: t => by
  unfold getM
  split
  ·rename_i e; simp [e]
  ·rename_i e; rw [getM_none]; simp [e]
theorem getM_del {l : List (κ × α)} {k k' : κ} : getM (delM l k) k' = if k' = k then none else getM l k' := by
 unfold delM
 induction l with
 | nil => simp [getM]
 | cons p t ih =>
  by_cases h : p.1 = k
  ·rw [List.filter_cons_of_neg (by simp [h]), ih]
   subst h
   split
   ·rfl
   ·rename_i h2; rw [getM, if_neg (fun e => h2 e.symm)]
  ·rw [List.filter_cons_of_pos (by simp [h])]
   by_cases h2 : p.1 = k'
   ·subst h2; rw [if_neg h]; simp [getM]
   ·rw [getM, if_neg h2, ih]
    split
    ·rfl
    ·rw [getM, if_neg h2]
theorem getM_put {l : List (κ × α)} {k k' : κ} {a : α} : getM (putM l k a) k' = if k' = k then some a else getM l k' := by
 unfold putM
 rw [getM]
 by_cases h : k' = k
 ·subst h; simp
 ·rw [if_neg (fun e => h e.symm), if_neg h, getM_del, if_neg h]
end
section
variable {κ α : Type} (kv : κ → Value) (g : α → AV)
def MpL (G : Nat → Option Obj) : List (κ × α) → List MapEntry → Prop
 | [], [] => True
 | p :: l, x :: xs => (x.key = kv p.1 ∧ (g p.2).P G x.val) ∧ MpL G l xs
 | _, _ => False
variable {kv g}
theorem MpL.mono {G G' : Nat → Option Obj} (h : Gle G G') : ∀ {l : List (κ × α)} {xs : List MapEntry}, MpL kv g G l xs → MpL kv g G' l xs
 | [], [], _ => trivial
 | _ :: _, _ :: _, k => ⟨⟨k.1.1, (g _).mono h k.1.2⟩, MpL.mono h k.2⟩
 | [], _ :: _, k => k.elim
 | _ :: _, [], k => k.elim
theorem MpL.perm {G : Nat → Option Obj} {xs ys : List MapEntry} (hp : xs.Perm ys) : ∀ {l : List (κ × α)}, MpL kv g G l xs → ∃ l', l.Perm l' ∧ MpL kv g G l' ys := by
 induction hp with
 | nil => exact fun {l} h => ⟨l, .refl _, h⟩
 | cons x hp ih =>
  intro l h
  match l, h with
  | p :: l, ⟨h1, h2⟩ =>
   obtain ⟨l', e, h3⟩ := ih h2
   exact ⟨p :: l', e.cons p, h1, h3⟩
  | [], h => exact h.elim
 | swap x y t =>
  intro l h
  match l, h with
  | p :: q :: l, ⟨h1, h2, h3⟩ => exact ⟨q :: p :: l, List.Perm.swap _ _ _, h2, h1, h3⟩
  | [_], h => exact h.2.elim
  | [], h => exact h.elim
 | trans _ _ ih1 ih2 =>
  intro l h
  obtain ⟨l1, e1, h1⟩ := ih1 h
  obtain ⟨l2, e2, h2⟩ := ih2 h1
  exact ⟨l2, e1.trans e2, h2⟩
theorem MpL.keys {G : Nat → Option Obj} : ∀ {l : List (κ × α)} {xs : List MapEntry}, MpL kv g G l xs → xs.map (·.key) = l.map fun p => kv p.1
 | [], [], _ => rfl
 | _ :: _, _ :: _, k => by simp only [List.map_cons]; rw [k.1.1, MpL.keys k.2]
 | [], _ :: _, k => k.elim
 | _ :: _, [], k => k.elim
variable (kv g)
def MpP (G : Nat → Option Obj) (l : List (κ × α)) (xs : List MapEntry) : Prop := ∃ l', l.Perm l' ∧ MpL kv g G l' xs
variable {kv g}
theorem MpP.perm {G : Nat → Option Obj} {l : List (κ × α)} {xs ys : List MapEntry} (h : MpP kv g G l xs) (hp : xs.Perm ys) : MpP kv g G l ys := by
 obtain ⟨l1, e1, h1⟩ := h
 obtain ⟨l2, e2, h2⟩ := h1.perm hp
 exact ⟨l2, e1.trans e2, h2⟩
theorem MpP.permL {G : Nat → Option Obj} {l k : List (κ × α)} {xs : List MapEntry} (h : MpP kv g G l xs) (hp : k.Perm l) : MpP kv g G k xs := by
 obtain ⟨l1, e1, h1⟩ := h
 exact ⟨l1, hp.trans e1, h1⟩
theorem MpP.cons {G : Nat → Option Obj} {l : List (κ × α)} {xs : List MapEntry} (h : MpP kv g G l xs) {p : κ × α} {x : MapEntry} (h1 : x.key = kv p.1) (h2 : (g p.2).P G x.val) : MpP kv g G (p :: l) (x :: xs) := by
 obtain ⟨l1, e1, h3⟩ := h
 exact ⟨p :: l1, e1.cons p, ⟨h1, h2⟩, h3⟩
theorem MpP.uncons {G : Nat → Option Obj} {l : List (κ × α)} {x : MapEntry} {xs : List MapEntry} (h : MpP kv g G l (x :: xs)) : ∃ p l3, l.Perm (p :: l3) ∧ x.key = kv p.1 ∧ (g p.2).P G x.val ∧ MpP kv g G l3 xs := by
 obtain ⟨l1, e1, h1⟩ := h
 match l1, h1 with
 | p :: l3, ⟨⟨h2, h3⟩, h4⟩ => exact ⟨p, l3, e1, h2, h3, l3, .refl _, h4⟩
 | [], h1 => exact h1.elim
theorem MpP.len {G : Nat → Option Obj} {l : List (κ × α)} {xs : List MapEntry} (h : MpP kv g G l xs) : l.length = xs.length := by
 obtain ⟨l1, e1, h1⟩ := h
 have := congrArg List.length h1.keys
 simp only [List.length_map] at this
 rw [e1.length_eq, this]
theorem MpP.nodup {G : Nat → Option Obj} {l : List (κ × α)} {xs : List MapEntry} (h : MpP kv g G l xs) (hn : (xs.map (·.key)).Nodup) : l.Pairwise (fun p q => p.1 ≠ q.1) := by
 obtain ⟨l1, e1, h1⟩ := h
 rw [h1.keys] at hn
 have hn2 : (l.map fun p => kv p.1).Nodup := (e1.map _).nodup_iff.2 hn
 have := List.pairwise_map.1 hn2
 exact this.imp fun h e => h (by rw [e])
end
def HA.mp {κ α : Type} (P : Program) (v : Value) (t : TypeId) (kv : κ → Value) (g : α → AV) (l : List (κ × α)) : HA :=
 ⟨fun G F w => ∃ b es clock, v = .map (some b) ∧ F = [b] ∧ w.heap[b]? = some (.map es clock) ∧ Fit P t anyM es clock ∧ MpP kv g G l es.toList,
  fun h ⟨b, es, clock, e1, e2, e3, e4, l', e5, e6⟩ => ⟨b, es, clock, e1, e2, e3, e4, l', e5, e6.mono h⟩,
  fun h ⟨b, es, clock, e1, e2, e3, e4⟩ => ⟨b, es, clock, e1, e2, (h b (by rw [e2]; simp)).trans e3, e4⟩⟩
section
variable {P : Program} {κ α : Type} [DecidableEq κ] {t : TypeId} {kv : κ → Value} {ok : κ → Prop} {g : α → AV} {l : List (κ × α)} {G : Nat → Option Obj} {F : List Nat} {w : World} {v : Value}
def lkA (g : α → AV) (z : Value) : Option α → AV
 | some a => g a
 | none => .val z
theorem mp_look (K : KeyT P t kv ok) {tm e : TypeId} (ht : P.underlying tm = some (.map t e)) {z : Value} (hz : ∀ w, (zeroValue e).run P w = .ok z w) (c : Bool) {k : κ} (hk : ok k) (h : (HA.mp P v t kv g l).P G F w) :
  ∃ u, (lkA g z (getM l k)).P G u ∧ (Instr.lookup tm v (kv k) c).run P w = .ok (if c then .tuple #[u, .bool (getM l k).isSome] else u) w := by
 obtain ⟨b, es, clock, rfl, _, hb, hF, hm⟩ := h
 obtain ⟨kl, hkey⟩ := K.key k hk
 have hn := hm.nodup hF.stamped.2.2
 rcases Go.Maps.fit_look c K.keyed ht (hz w) hb hF hkey with ⟨hr, hno, _⟩ | ⟨e0, y, hm0, hk0, hr, _⟩
 ·have : getM l k = none := getM_none.2 fun p hp e => by
   obtain ⟨l', e1, h1⟩ := hm
   have h2 : kv p.1 ∈ es.toList.map (·.key) := by rw [h1.keys]; exact List.mem_map.2 ⟨p, e1.mem_iff.1 hp, rfl⟩
   obtain ⟨x, hx, ex⟩ := List.mem_map.1 h2
   exact hno x hx (by rw [ex, e])
  rw [this]
  exact ⟨z, rfl, hr⟩
 ·obtain ⟨s, r, es2⟩ := List.append_of_mem hm0
  obtain ⟨p, l3, h1, h2, h3, _⟩ := (hm.perm (by rw [es2]; exact List.perm_middle)).uncons
  have : p.1 = k := K.inj _ _ (h2.symm.trans hk0)
  have hg : getM l k = some p.2 := (getM_iff hn).2 (h1.mem_iff.2 (by rw [← this]; simp))
  rw [hg]
  exact ⟨e0.val, h3, hr⟩
theorem MpP.del {xs r : List MapEntry} {e0 : MapEntry} (hinj : ∀ k k' : κ, kv k = kv k' → k = k') (h : MpP kv g G l xs) (hn : l.Pairwise (fun p q => p.1 ≠ q.1)) (hp : xs.Perm (e0 :: r)) {k : κ} (hk : e0.key = kv k) : MpP kv g G (delM l k) r := by
 obtain ⟨p, l3, h1, h2, h3, h4⟩ := (h.perm hp).uncons
 have hpk : p.1 = k := hinj _ _ (h2.symm.trans hk)
 have hn2 : (p :: l3).Pairwise (fun p q => p.1 ≠ q.1) := h1.pairwise hn (fun h e => h e.symm)
 refine h4.permL ?_
 have h5 := h1.filter (fun q : κ × α => !decide (q.1 = k))
 rw [List.filter_cons_of_neg (by simp [hpk])] at h5
 refine h5.trans (.of_eq (List.filter_eq_self.2 fun q hq => ?_))
 have := (List.pairwise_cons.1 hn2).1 q hq
 rw [hpk] at this
 simpa using fun e : q.1 = k => this e.symm
theorem MpP.del0 {xs : List MapEntry} (h : MpP kv g G l xs) {k : κ} (hno : ∀ x ∈ xs, x.key ≠ kv k) : delM l k = l := List.filter_eq_self.2 fun q hq => by
 obtain ⟨l', e1, h1⟩ := h
 have h2 : kv q.1 ∈ xs.map (·.key) := by rw [h1.keys]; exact List.mem_map.2 ⟨q, e1.mem_iff.1 hq, rfl⟩
 obtain ⟨x, hx, ex⟩ := List.mem_map.1 h2
 simpa using fun e : q.1 = k => hno x hx (by rw [ex, e])
theorem set_permM {x : MapEntry} : ∀ {xs : List MapEntry} {j : Nat} {e0 : MapEntry}, xs[j]? = some e0 → ∃ r, xs.Perm (e0 :: r) ∧ (xs.set j x).Perm (x :: r) ∧ xs.eraseIdx j = r
 | y :: ys, 0, e0, h => by simp at h; subst h; exact ⟨ys, .refl _, .refl _, rfl⟩
 | y :: ys, j + 1, e0, h => by
  obtain ⟨r, h1, h2, h3⟩ := set_permM (x := x) (xs := ys) (j := j) (by simpa using h)
  exact ⟨y :: r, (h1.cons y).trans (List.Perm.swap _ _ _), (h2.cons y).trans (List.Perm.swap _ _ _), by simp [h3]⟩
 | [], _, _, h => by simp at h
theorem mp_store (K : KeyT P t kv ok) {tm e : TypeId} (ht : P.underlying tm = some (.map t e)) {k : κ} (hk : ok k) (hl : l.length ≤ 1000000) {a : α} {u : Value} (hu : (g a).P G u) (h : (HA.mp P v t kv g l).P G F w) :
  ∃ b o o0, v = .map (some b) ∧ F = [b] ∧ w.heap[b]? = some o0 ∧ (∃ es cl, o0 = .map es cl) ∧ (Instr.mapUpdate tm v (kv k) u).run P w = .ok () (setBlock w b o) ∧ (HA.mp P v t kv g (putM l k a)).P G F (setBlock w b o) := by
 obtain ⟨b, es, clock, rfl, rfl, hb, hF, hm⟩ := h
 obtain ⟨kl, hkey⟩ := K.key k hk
 have hn := hm.nodup hF.stamped.2.2
 have hlen := hm.len
 have hmax : maxLen = 9223372036854775807 := rfl
 have hsz : es.size < maxLen := by rw [hmax]; simp at hlen; omega
 obtain ⟨es', clock', hr, hF', _⟩ := Go.Maps.fit_store (R' := anyM) (val := u) K.keyed ht hb hF hsz (fun _ _ _ z hz => hz) hkey (yv := (.nil, [])) rfl
 refine ⟨b, .map es' clock', _, rfl, rfl, hb, ⟨_, _, rfl⟩, hr, b, es', clock', rfl, rfl, heap_setBlock_same hb _, hF', ?_⟩
 have same : ∀ {o o' : Obj}, (Result.ok () (setBlock w b o) : Result Unit) = .ok () (setBlock w b o') → o = o' := fun {o o'} e => by
  injection e with _ e
  have h1 := heap_setBlock_same hb o
  rw [e, heap_setBlock_same hb o'] at h1
  exact (Option.some.inj h1).symm
 rcases K.keyed.find w hkey es.toList hF.keys with ⟨h1, h2⟩ | ⟨j, e0, h1, h2, h3⟩
 ·have hr2 : (Instr.mapUpdate tm (.map (some b)) (kv k) u).run P w = .ok () (setBlock w b (.map (es.push ⟨kv k, u, clock⟩) (clock + 1))) := by
   simp [Instr.mapUpdate, run_underlying ht, MapKept.run_getObj_map hb, K.keyed.check w false hkey, h1, MapKept.run_setObj_map _ hb, Result.andThen, setBlock]
  have e1 := same (hr.symm.trans hr2)
  injection e1 with e1 e2
  subst e1
  unfold putM
  rw [hm.del0 h2, Array.toList_push]
  exact (hm.cons (p := (k, a)) (x := ⟨kv k, u, clock⟩) rfl hu).perm (List.perm_append_singleton _ _).symm
 ·have hj : es[j]? = some e0 := by simpa using h2
  have hr2 : (Instr.mapUpdate tm (.map (some b)) (kv k) u).run P w = .ok () (setBlock w b (.map (es.modify j (fun e' => { e' with key := kv k, val := u })) clock)) := by
   simp [Instr.mapUpdate, run_underlying ht, MapKept.run_getObj_map hb, K.keyed.check w false hkey, h1, hj, h3, K.keyed.stays w hkey, MapKept.run_setObj_map _ hb, Result.andThen, setBlock]
  have e1 := same (hr.symm.trans hr2)
  injection e1 with e1 e2
  subst e1
  rw [Array.toList_modify, Go.ChangeMaps.modify_eq_set _ _ _ _ h2]
  obtain ⟨r, p1, p2, _⟩ := set_permM (x := { e0 with key := kv k, val := u }) h2
  exact ((hm.del K.inj hn p1 h3).cons (p := (k, a)) (x := { e0 with key := kv k, val := u }) rfl hu).perm p2.symm
theorem mp_drop (K : KeyT P t kv ok) {tm e ty : TypeId} (ht : P.underlying tm = some (.map t e)) {k : κ} (hk : ok k) (h : (HA.mp P v t kv g l).P G F w) :
  ∃ b o o0, v = .map (some b) ∧ F = [b] ∧ w.heap[b]? = some o0 ∧ (∃ es cl, o0 = .map es cl) ∧ (Builtin.delete_ #[tm, t] ty #[v, kv k]).run P w = .ok (.tuple #[]) (setBlock w b o) ∧ (HA.mp P v t kv g (delM l k)).P G F (setBlock w b o) := by
 obtain ⟨b, es, clock, rfl, rfl, hb, hF, hm⟩ := h
 obtain ⟨kl, hkey⟩ := K.key k hk
 have hn := hm.nodup hF.stamped.2.2
 obtain ⟨es', hr, hF', _⟩ := Go.Maps.fit_drop (ty := ty) K.keyed ht hb hF hkey
 refine ⟨b, .map es' clock, _, rfl, rfl, hb, ⟨_, _, rfl⟩, hr, b, es', clock, rfl, rfl, heap_setBlock_same hb _, hF', ?_⟩
 have same : ∀ {o o' : Obj}, (Result.ok (Value.tuple #[]) (setBlock w b o) : Result Value) = .ok (.tuple #[]) (setBlock w b o') → o = o' := fun {o o'} e => by
  injection e with _ e
  have h1 := heap_setBlock_same hb o
  rw [e, heap_setBlock_same hb o'] at h1
  exact (Option.some.inj h1).symm
 rcases K.keyed.find w hkey es.toList hF.keys with ⟨h1, h2⟩ | ⟨j, e0, h1, h2, h3⟩
 ·have hr2 : (Builtin.delete_ #[tm, t] ty #[.map (some b), kv k]).run P w = .ok (.tuple #[]) (setBlock w b (.map es clock)) := by
   simp [Builtin.delete_, run_underlying ht, MapKept.run_getObj_map hb, K.keyed.check w _ hkey, h1, MapKept.run_setObj_map _ hb, Result.andThen, setBlock]
  have e1 := same (hr.symm.trans hr2)
  injection e1 with e1 e2
  subst e1
  rw [hm.del0 h2]
  exact hm
 ·have hjs : j < es.size := by have := (List.getElem?_eq_some_iff.1 h2).1; simpa using this
  have hr2 : (Builtin.delete_ #[tm, t] ty #[.map (some b), kv k]).run P w = .ok (.tuple #[]) (setBlock w b (.map (es.eraseIdxIfInBounds j) clock)) := by
   simp [Builtin.delete_, run_underlying ht, MapKept.run_getObj_map hb, K.keyed.check w _ hkey, h1, MapKept.run_setObj_map _ hb, Result.andThen, setBlock]
  have e1 := same (hr.symm.trans hr2)
  injection e1 with e1 e2
  subst e1
  have hsub : (es.eraseIdxIfInBounds j).toList = es.toList.eraseIdx j := by
   unfold Array.eraseIdxIfInBounds
   rw [dif_pos hjs]
   simp
  rw [hsub]
  obtain ⟨r, p1, _, p3⟩ := set_permM (x := e0) h2
  rw [p3]
  exact hm.del K.inj hn p1 h3
theorem inv_setB {b : Nat} {o o0 : Obj} {h : HA} (hI : Inv G [b] [h] w) (hb : w.heap[b]? = some o0) (ho : ∃ es cl, o0 = .map es cl) {h' : HA} (hh : h'.P G [b] (setBlock w b o)) : Fr w (setBlock w b o) [b] [b] G G ∧ Inv G [b] [h'] (setBlock w b o) := by
 have hg := (hI.own b (by simp)).2
 obtain ⟨es, cl, rfl⟩ := ho
 refine ⟨⟨rfl, rfl, rfl, by simp [setBlock], fun j _ hj => heap_setBlock_other hb _ (fun e => hj (by rw [e]; simp)), fun _ h => .inl h, Gle.refl _, fun _ _ h => .inl h⟩, ⟨fun b' o' e => ?_, by simp, fun b' hb' => ?_, [b], [], by simp, hh, rfl⟩⟩
 ·have hne : b' ≠ b := fun e' => by subst e'; rw [hg] at e; cases e
  exact (heap_setBlock_other hb _ hne).trans (hI.gin b' o' e)
 ·have := hI.own b' hb'
  exact ⟨by simpa [setBlock] using this.1, this.2⟩
variable {rs : List (Nat × AV)} {d : Option Nat} {ty : TypeId} {pos : String} {af : Array Edge} {gd : Option (Nat × Bool)}
structure KeyV (av : AV) (u : Value) : Prop where
 out : ∀ G v, av.P G v → v = u
omit [DecidableEq κ] in
theorem KeyV.val {u : Value} : KeyV (.val u) u := ⟨fun _ _ h => h⟩
omit [DecidableEq κ] in
theorem KeyV.ints {cs : List AV} {xs : List Int} (h : Ints cs xs) : KeyV (.agg cs) (.agg (xs.map (Value.int .i64)).toArray) := ⟨fun _ _ ⟨_, e, hf⟩ => by rw [e, h.fits hf]⟩
theorem lt_look2 (K : KeyT P t kv ok) {tm e : TypeId} (ht : P.underlying tm = some (.map t e)) {z : Value} (hz : ∀ w, (zeroValue e).run P w = .ok z w) {x y : Operand} {av : AV} (k : κ) (hx : opv rs x = some (.val v)) (hy : opv rs y = some av) (hv : KeyV av (kv k)) (hk : ok k) :
  LT P ⟨d, .lookup tm x y true, ty, pos, af, gd⟩ rs [.mp P v t kv g l] (Is (.tup [lkA g z (getM l k), .val (.bool (getM l k).isSome)]) [.mp P v t kv g l]) :=
 LT_read (fun _ e => by cases e) fun a w G F hR _ hh => by
  have e1 : a.eval x = v := opv_ok hR hx
  have e2 := hv.out G _ (opv_ok hR hy)
  obtain ⟨u, h1, h2⟩ := mp_look K ht hz true hk hh
  rw [if_pos rfl] at h2
  exact ⟨_, ⟨[_, _], rfl, h1, rfl, trivial⟩, by simp [execOp, e1, e2, h2, Result.andThen]⟩
theorem lt_look1 (K : KeyT P t kv ok) {tm e : TypeId} (ht : P.underlying tm = some (.map t e)) {z : Value} (hz : ∀ w, (zeroValue e).run P w = .ok z w) {x y : Operand} {av : AV} (k : κ) (hx : opv rs x = some (.val v)) (hy : opv rs y = some av) (hv : KeyV av (kv k)) (hk : ok k) :
  LT P ⟨d, .lookup tm x y false, ty, pos, af, gd⟩ rs [.mp P v t kv g l] (Is (lkA g z (getM l k)) [.mp P v t kv g l]) :=
 LT_read (fun _ e => by cases e) fun a w G F hR _ hh => by
  have e1 : a.eval x = v := opv_ok hR hx
  have e2 := hv.out G _ (opv_ok hR hy)
  obtain ⟨u, h1, h2⟩ := mp_look K ht hz false hk hh
  rw [if_neg (by simp)] at h2
  exact ⟨u, h1, by simp [execOp, e1, e2, h2, Result.andThen]⟩
theorem lt_mput (K : KeyT P t kv ok) {tm e : TypeId} (ht : P.underlying tm = some (.map t e)) {x y z : Operand} {av : AV} (k : κ) (a : α) (hx : opv rs x = some (.val v)) (hy : opv rs y = some av) (hv : KeyV av (kv k)) (hk : ok k) (hz : opv rs z = some (g a)) (hl : l.length ≤ 1000000) :
  LT P ⟨d, .mapUpdate tm x y z, ty, pos, af, gd⟩ rs [.mp P v t kv g l] (Is (.val undef) [.mp P v t kv g (putM l k a)]) :=
 LT_eff (fun _ e => by cases e) fun ac w G F hR hI => by
  obtain ⟨F1, F2, e, hm, h2⟩ := hI.hs
  have h2' : F2 = [] := h2
  subst h2'
  have e1 : ac.eval x = v := opv_ok hR hx
  have e2 := hv.out G _ (opv_ok hR hy)
  obtain ⟨b, o, o0, hvb, hF1, hb, ho, hr, hm'⟩ := mp_store K ht hk hl (opv_ok hR hz) hm
  subst hF1
  have hF : F = [b] := List.perm_singleton.1 (by simpa using e)
  subst hF
  obtain ⟨f1, f2⟩ := inv_setB hI hb ho hm'
  exact ⟨_, setBlock w b o, undef, _, _, G, [b], by simp [execOp, e1, e2, hr, Result.andThen], .inr ⟨rfl, rfl⟩, ⟨rfl, rfl⟩, f1, f2, rfl⟩
theorem lt_mdel (K : KeyT P t kv ok) {tm e : TypeId} (ht : P.underlying tm = some (.map t e)) {x y : Operand} {av : AV} (k : κ) (hx : opv rs x = some (.val v)) (hy : opv rs y = some av) (hv : KeyV av (kv k)) (hk : ok k) :
  LT P ⟨d, .call { callee := .builtin .delete, args := #[x, y], argTypes := #[tm, t] }, ty, pos, af, gd⟩ rs [.mp P v t kv g l] (Is (.tup []) [.mp P v t kv g (delM l k)]) :=
 LT_eff (fun _ e => by cases e) fun ac w G F hR hI => by
  obtain ⟨F1, F2, e, hm, h2⟩ := hI.hs
  have h2' : F2 = [] := h2
  subst h2'
  have e1 : ac.eval x = v := opv_ok hR hx
  have e2 := hv.out G _ (opv_ok hR hy)
  obtain ⟨b, o, o0, hvb, hF1, hb, ho, hr, hm'⟩ := mp_drop (ty := ty) K ht hk hm
  subst hF1
  have hF : F = [b] := List.perm_singleton.1 (by simpa using e)
  subst hF
  obtain ⟨f1, f2⟩ := inv_setB hI hb ho hm'
  exact ⟨_, setBlock w b o, .tuple #[], _, _, G, [b], by simp [execOp, resolve, invoke, builtin, e1, e2, hr, Result.andThen], .inl rfl, ⟨rfl, rfl⟩, f1, f2, [], rfl, trivial⟩
omit [DecidableEq κ] in
theorem lt_mmake (K : KeyT P t kv ok) {tm : TypeId} : LT P ⟨d, .makeMap tm none, ty, pos, af, gd⟩ rs [] (fun x y => ∃ u, One (.val u) ∧ x = .val u ∧ y = [.mp P u t kv g []]) :=
 LT_eff (fun _ e => by cases e) fun a w G F hR hI => by
  obtain rfl := inv_nil hI
  obtain ⟨es, clock, h1, h2, h3, _⟩ := World.ownsMap_made w P t anyM
  have hes : es.toList = [] := by cases es with | mk l => simp at h3; simpa using h3
  refine ⟨_, w.alloc (.map #[] 0), .map (some w.heap.size), _, _, G, [w.heap.size], ?_, .inl rfl, ⟨_, ⟨fun _ _ h => by subst h; rfl⟩, rfl, rfl⟩, fr_alloc _ _ _, ⟨gin_alloc hI.gin _, by simp, fun b hb => ?_, [w.heap.size], [], by simp, ⟨_, es, clock, rfl, rfl, h1, h2, [], .refl _, by rw [hes]; trivial⟩, rfl⟩, rfl⟩
  ·simp [execOp, Instr.makeMap, newObj, Result.andThen]; rfl
  ·rw [List.mem_singleton] at hb
   subst hb
   refine ⟨by simp, ?_⟩
   cases hg : G w.heap.size with
   | none => rfl
   | some o => exact absurd (hI.gin.lt hg) (Nat.lt_irrefl _)
end
section
variable {c : Cx} {rs : List (Nat × AV)} {hs : List HA} {Q : Exit → S → Prop} {ops : Array Oper} {tl : List Oper} {d : Nat} {ty : TypeId} {pos : String} {af : Array Edge} {κ α : Type} [DecidableEq κ] {t : TypeId} {kv : κ → Value} {ok : κ → Prop} {g : α → AV} {l : List (κ × α)} {v : Value}
theorem wl_look2 {tm e : TypeId} {z : Value} {x y : Operand} {av : AV} {h : HA → List HA} (K : KeyT c.P t kv ok) (k : κ) (ht : c.P.underlying tm = some (.map t e)) (hz : ∀ w, (zeroValue e).run c.P w = .ok z w) (hx : opv rs x = some (.val v)) (hat : At hs (.mp c.P v t kv g l) h) (hy : opv rs y = some av) (hv : KeyV av (kv k)) (hk : ok k) (hd : Nat.blt d c.nt = true)
  (kk : WL c ops tl ⟨(d, .tup [lkA g z (getM l k), .val (.bool (getM l k).isSome)]) :: rs, hs⟩ Q) : WL c ops (⟨some d, .lookup tm x y true, ty, pos, af, none⟩ :: tl) ⟨rs, hs⟩ Q := wl_rd (lt_look2 K ht hz k hx hy hv hk) hat hd kk
theorem wl_look1 {tm e : TypeId} {z : Value} {x y : Operand} {av : AV} {h : HA → List HA} (K : KeyT c.P t kv ok) (k : κ) (ht : c.P.underlying tm = some (.map t e)) (hz : ∀ w, (zeroValue e).run c.P w = .ok z w) (hx : opv rs x = some (.val v)) (hat : At hs (.mp c.P v t kv g l) h) (hy : opv rs y = some av) (hv : KeyV av (kv k)) (hk : ok k) (hd : Nat.blt d c.nt = true)
  (kk : WL c ops tl ⟨(d, lkA g z (getM l k)) :: rs, hs⟩ Q) : WL c ops (⟨some d, .lookup tm x y false, ty, pos, af, none⟩ :: tl) ⟨rs, hs⟩ Q := wl_rd (lt_look1 K ht hz k hx hy hv hk) hat hd kk
theorem wl_mput {tm e : TypeId} {x y z : Operand} {av : AV} {h : HA → List HA} (K : KeyT c.P t kv ok) (k : κ) (a : α) (ht : c.P.underlying tm = some (.map t e)) (hx : opv rs x = some (.val v)) (hat : At hs (.mp c.P v t kv g l) h) (hy : opv rs y = some av) (hv : KeyV av (kv k)) (hk : ok k) (hz : opv rs z = some (g a)) (hl : l.length ≤ 1000000)
  (kk : WL c ops tl ⟨rs, h (.mp c.P v t kv g (putM l k a))⟩ Q) : WL c ops (⟨none, .mapUpdate tm x y z, ty, pos, af, none⟩ :: tl) ⟨rs, hs⟩ Q := WL_at rfl rfl hat (lt_mput K ht k a hx hy hv hk hz hl) kk
theorem wl_mdel {tm e : TypeId} {x y : Operand} {av : AV} {h : HA → List HA} {dd : Option Nat} (K : KeyT c.P t kv ok) (k : κ) (ht : c.P.underlying tm = some (.map t e)) (hx : opv rs x = some (.val v)) (hat : At hs (.mp c.P v t kv g l) h) (hy : opv rs y = some av) (hv : KeyV av (kv k)) (hk : ok k) (hd : okD dd c.nt = true)
  (kk : WL c ops tl ⟨putR dd (.tup []) rs, h (.mp c.P v t kv g (delM l k))⟩ Q) : WL c ops (⟨dd, .call { callee := .builtin .delete, args := #[x, y], argTypes := #[tm, t] }, ty, pos, af, none⟩ :: tl) ⟨rs, hs⟩ Q := WL_at hd rfl hat (lt_mdel K ht k hx hy hv hk) kk
omit [DecidableEq κ] in
theorem wl_mmake {tm : TypeId} (K : KeyT c.P t kv ok) (g : α → AV) (hd : Nat.blt d c.nt = true) (kk : ∀ v, One (.val v) → WL c ops tl ⟨(d, .val v) :: rs, .mp c.P v t kv g [] :: hs⟩ Q) : WL c ops (⟨some d, .makeMap tm none, ty, pos, af, none⟩ :: tl) ⟨rs, hs⟩ Q :=
 WL_new hd rfl (lt_mmake (g := g) K) fun av pr ⟨u, h1, e1, e2⟩ => by subst e1; subst e2; exact kk u h1
end
theorem keyT_int {P : Program} {t : TypeId} (h : P.underlying t = some (.int .i64)) : KeyT P t (fun n : Int => Value.int .i64 n) (fun n => -9223372036854775808 ≤ n ∧ n ≤ 9223372036854775807) :=
 ⟨Go.Maps.int_keyed h, fun n hn => ⟨_, Go.Maps.keyOf_int_mk h (by simp only [Lit.wf, IntKind.min, IntKind.max, IntKind.signed, IntKind.bits, Bool.and_eq_true, decide_eq_true_eq, if_true]; omega)⟩, fun a b e => by injection e⟩
def CurP {κ α : Type} (kv : κ → Value) (g : α → AV) (G : Nat → Option Obj) (es : Array MapEntry) (seen : Array Nat) (c0 clock : Nat) : Option (κ × α) → Prop
 | none => True
 | some p => c0 = clock ∧ ∃ (e : MapEntry) (seen0 : Array Nat), seen = seen0.push e.born ∧ e ∈ es.toList ∧ e.key = kv p.1 ∧ (g p.2).P G e.val
theorem CurP.mono {κ α : Type} {kv : κ → Value} {g : α → AV} {G G' : Nat → Option Obj} {es : Array MapEntry} {seen : Array Nat} {c0 clock : Nat} (h : Gle G G') : ∀ {cur : Option (κ × α)}, CurP kv g G es seen c0 clock cur → CurP kv g G' es seen c0 clock cur
 | none, _ => trivial
 | some p, ⟨h0, e, s, h1, h2, h3, h4⟩ => ⟨h0, e, s, h1, h2, h3, (g p.2).mono h h4⟩
section
variable {P : Program} {rs : List (Nat × AV)} {d : Option Nat} {ty : TypeId} {pos : String} {af : Array Edge} {gd : Option (Nat × Bool)} {κ α : Type} {t : TypeId} {kv : κ → Value} {g : α → AV} {l rest : List (κ × α)} {v it : Value}
end
section
variable {c : Cx} {rs : List (Nat × AV)} {hs r : List HA} {Q : Exit → S → Prop} {ops : Array Oper} {tl : List Oper} {d : Nat} {ty : TypeId} {pos : String} {af : Array Edge} {κ α : Type} {t : TypeId} {kv : κ → Value} {g : α → AV} {l rest : List (κ × α)} {v it : Value}
end
end Go.Proofs.YthddoikmgpgakaaDoor.Sw
namespace Go.Proofs.YthddoikmgpgakaaDoor.Sw
open Go.RowKit Go
def HA.bk {α : Type} (v u : Value) (e : TypeId) (n : Nat) (f : α → List AV) (xs : List α) : HA :=
 ⟨fun G F w => (F = [] ∧ ((∃ g m cap, v = .slice (some ⟨g, 0, none⟩) xs.length cap ∧ u = .slice (some ⟨g, 0, none⟩) m cap ∧ xs.length ≤ m) ∨ (v = .slice none 0 0 ∧ xs = []))) ∨ (HA.row v e n f xs).P G F w,
  fun h k => k.imp id (HA.mono _ h), fun h k => k.imp id (HA.loc _ h)⟩
section
variable {P : Program} {w : World}
theorem run_append_back (base : Nat) (t ty e : TypeId) (i : TypeInfo) (z : Value) (size bytes : Nat) (ht : P.underlying t = some (.slice e)) (hi : P.info? e = some i) (hz : i.zero = some z)
  (hsize : i.size = size) (hby : i.bytes = bytes) (hzs : z.cells.size = size) (hsz : 0 < size) (v : Value) (n : Nat) (xs : List Value) (hown : w.ownsRow base e size v n xs)
  (ad : Addr) (m c : Nat) (news : List Value) (hl : news.length = m * size) (hnews : ∀ j u, news[j]? = some u → w.cell? (ad.add j) = some u) (h1 : ∀ u ∈ news, u.oneCell' = true)
  (h63 : n + m ≤ 1000000) (hb : bytes ≤ 1000) (hbase : base ≤ w.heap.size) :
  ∃ u w', (Builtin.append_ #[t, t] ty #[v, .slice (some ad) m c]).run P w = .ok u w' ∧ w'.ownsRow base e size u (n + m) (xs ++ news) ∧
   (((∃ g cap, v = .slice (some ⟨g, 0, none⟩) n cap ∧ u = .slice (some ⟨g, 0, none⟩) (n + m) cap) ∧ w.grownBy w' v.ownBlock) ∨ ((∀ g, u.ownBlock = some g → w.heap.size ≤ g) ∧ w.grownBy w' none)) := by
 have hb1 : (n + m) * bytes ≤ 1000000 * 1000 := Nat.mul_le_mul h63 hb
 have hm1 : n + m ≤ maxLen := by simp only [maxLen]; omega
 have own := run_append_own_at (P := P) w base t ty e i z size bytes ht hi hz hsize hby hzs hsz v n xs hown ad m c news hl hnews h1 hm1 (by omega) hbase
 rcases hown.2 with ⟨rfl, rfl⟩ | ⟨g, cap, cur, rfl, hbg, hg, hnc, hcm, hcs, htake⟩
 ·obtain ⟨u, w', hr, h2, h3, _, h5⟩ := own
  refine ⟨u, w', hr, h2, .inr ⟨fun g hg => ?_, h3⟩⟩
  rcases h5 with h5 | h5
  ·rw [h5] at hg; cases hg
  ·rw [h5] at hg; cases hg; exact Nat.le_refl _
 ·by_cases hroom : n + m ≤ cap
  ·obtain ⟨u, w', hr, h2, h3, _, _⟩ := own
   have hfit : n * i.size + news.length ≤ cur.size := by rw [hl, hcs, hsize, ← Nat.add_mul]; exact Nat.mul_le_mul_right _ hroom
   have hr2 := run_append_room (P := P) w t ty e i ht hi g n cap cur hg ad m c news (by rw [hsize]; exact hl) hnews h1 hroom hfit
   rw [hr] at hr2
   injection hr2 with e1 e2
   exact ⟨u, w', hr, h2, .inl ⟨⟨g, cap, rfl, e1⟩, h3⟩⟩
  ·have holds : ∀ j u, xs[j]? = some u → w.cell? ((⟨g, 0, none⟩ : Addr).add j) = some u := hown.cells (g := g) rfl
   obtain ⟨u, w', hr, h2, h3⟩ := run_append_arg_grows (P := P) w t ty e i z size bytes ht hi hz hsize hby hzs hsz ⟨g, 0, none⟩ n cap xs hown.1 holds ad m c news hl hnews (by omega) hm1 (by omega)
   exact ⟨u, w', hr, own_base h2 hbase, .inr ⟨fun g hg => (h2.lt g hg).1, h3⟩⟩
end
section
variable {P : Program} {rs : List (Nat × AV)} {d : Option Nat} {ty : TypeId} {pos : String} {af : Array Edge} {g : Option (Nat × Bool)}
theorem lt_appendB {α : Type} {x y : Operand} {t e : TypeId} {n : Nat} [hT : TyE P t e n] {v : Value} {f : α → List AV} [hO : OneF f] [hL : LenF f n] {xs ys : List α} (hx : opv rs x = some (.val v)) (hy : opv rs y = some (.sl n f ys)) (hys : 0 < ys.length) (hlen : xs.length + ys.length ≤ 1000000) :
  LT P ⟨d, .call { callee := .builtin .append, args := #[x, y], argTypes := #[t, t] }, ty, pos, af, g⟩ rs [.row v e n f xs] (fun x y => ∃ u, x = .val u ∧ y = [.row u e n f (xs ++ ys), .bk v u e n f xs]) :=
 LT_eff (fun _ e => by cases e) fun a w G F hR hI => by
  obtain ⟨F1, F2, hp, hrow, h2⟩ := hI.hs
  have hrow0 := hrow
  obtain ⟨vs, hF1, hlf, hfv, hone, hown⟩ := hrow
  have h2' : F2 = [] := h2
  subst h2'
  obtain ⟨i, z, hi, hz, hs, hb, hzs⟩ := hT.info
  have e1 : a.eval x = v := opv_ok hR hx
  obtain ⟨ad, c, e2, hc, hsl⟩ : (AV.sl n f ys).P G (a.eval y) := opv_ok hR hy
  obtain ⟨b0, o0, e3, _⟩ := hsl 0 hys
  subst e3
  obtain ⟨news, hn1, hn2⟩ := slP_fits (fun x _ => hL.out x) hsl
  have hnl : news.length = ys.length * n := by rw [hn1.length, lenL fun x _ => hL.out x]
  obtain ⟨u, w', hr, ho', hcase⟩ := run_append_back (P := P) (w := w) 0 t ty e i z n i.bytes hT.und hi hz hs rfl hzs hT.pos v xs.length vs hown ⟨b0, o0, none⟩ ys.length c news hnl (fun j u hu => by rw [add_plain]; exact cellG.cell hI.gin (hn2 j u hu)) (fits_one (onesF ys) hn1) hlen hb (Nat.zero_le _)
  have hF : F.Perm v.ownBlock.toList := by rw [← hF1]; simpa using hp
  have hmem : ∀ b, b ∈ F ↔ v.ownBlock = some b := fun b => by rw [hF.mem_iff]; simp
  have hfits : Fits G ((xs ++ ys).flatMap f) (vs ++ news) := by rw [List.flatMap_append]; exact hfv.append hn1
  have hone2 : ∀ u ∈ vs ++ news, u.oneCell' = true := fun u hu => by
   rcases List.mem_append.1 hu with h | h
   ·exact hone u h
   ·exact fits_one (onesF ys) hn1 u h
  have hrowu : (HA.row u e n f (xs ++ ys)).P G u.ownBlock.toList w' := ⟨vs ++ news, rfl, fun x _ => hL.out x, hfits, hone2, by rw [List.length_append]; exact ho'⟩
  rcases hcase with ⟨⟨gb, cap, hv, hu⟩, hgr⟩ | ⟨hnew, hgr⟩
  ·have hub : u.ownBlock.toList = v.ownBlock.toList := by rw [hu, hv]; rfl
   have hfr : Fr w w' F u.ownBlock.toList G G := ⟨hgr.os, hgr.tape, hgr.output, hgr.size, fun b h1 h2 => hgr.block b h1 fun h => h2 ((hmem b).2 h.symm), fun b h => .inl (hF.mem_iff.2 (hub ▸ h)), Gle.refl _, fun _ _ h => .inl h⟩
   refine ⟨_, w', u, _, _, G, u.ownBlock.toList, by simp [execOp, resolve, e1, e2, invoke, builtin, hr], .inl rfl, ⟨_, rfl, rfl⟩, hfr, ⟨fun b o h => ?_, ?_, fun b hb => ?_, u.ownBlock.toList, [], by simp, hrowu, [], [], .refl _, .inl ⟨rfl, .inl ⟨gb, _, cap, hv, hu, by omega⟩⟩, rfl⟩, rfl⟩
   ·by_cases hbF : b ∈ F
    ·have := (hI.own b hbF).2; rw [h] at this; cases this
    ·exact (hfr.same b (hI.gin.lt h) hbF).trans (hI.gin b o h)
   ·cases u.ownBlock <;> simp
   ·have hbF : b ∈ F := hF.mem_iff.2 (hub ▸ hb)
    exact ⟨Nat.lt_of_lt_of_le (hI.own b hbF).1 hgr.size, (hI.own b hbF).2⟩
  ·have hsame : ∀ b, b < w.heap.size → w'.heap[b]? = w.heap[b]? := fun b hb => hgr.block b hb fun h => by cases h
   have hul : ∀ b, b ∈ u.ownBlock.toList → w.heap.size ≤ b ∧ b < w'.heap.size := fun b hb => ⟨hnew b (by simpa using hb), (ho'.lt b (by simpa using hb)).2⟩
   refine ⟨_, w', u, _, _, G, u.ownBlock.toList ++ F, by simp [execOp, resolve, e1, e2, invoke, builtin, hr], .inl rfl, ⟨_, rfl, rfl⟩, ⟨hgr.os, hgr.tape, hgr.output, hgr.size, fun b h1 _ => hsame b h1, fun b h => ?_, Gle.refl _, fun _ _ h => .inl h⟩, ⟨fun b o h => (hsame b (hI.gin.lt h)).trans (hI.gin b o h), ?_, fun b hb => ?_, u.ownBlock.toList, F, .refl _, hrowu, F1, [], hp, .inr (HA.loc _ (fun b hb => hsame b (hI.own b (hp.mem_iff.2 (by simp [hb]))).1) hrow0), rfl⟩, rfl⟩
   ·rcases List.mem_append.1 h with h | h
    ·exact .inr (hul b h).1
    ·exact .inl h
   ·refine List.nodup_append.2 ⟨by cases u.ownBlock <;> simp, hI.nd, fun x hx y hy e => ?_⟩
    have := (hul x hx).1
    have := (hI.own y hy).1
    omega
   ·rcases List.mem_append.1 hb with h | h
    ·refine ⟨(hul b h).2, ?_⟩
     cases hg : G b with
     | none => rfl
     | some o => have := hI.gin.lt hg; have := (hul b h).1; omega
    ·exact ⟨Nat.lt_of_lt_of_le (hI.own b h).1 hgr.size, (hI.own b h).2⟩
end
theorem bk_back {α : Type} {G : Nat → Option Obj} {w : World} {u v : Value} {e : TypeId} {n : Nat} {f : α → List AV} {xs ys : List α} {F : List Nat} (h : hsP [.row u e n f (xs ++ ys), .bk v u e n f xs] G F w) : ∃ F1 F2, F.Perm (F1 ++ F2) ∧ (HA.row v e n f xs).P G F1 w := by
 obtain ⟨A, B, ep, ⟨vs, hA, hlf, hfv, hone, hown⟩, C, D, ep2, hbk, hD⟩ := h
 have hD' : D = [] := hD
 subst hD'
 rw [List.append_nil] at ep2
 rcases hbk with ⟨hC, ⟨g, m, cap, hv, hu, hm⟩ | ⟨hv, hx⟩⟩ | hrow
 ·rcases hown.2 with ⟨h1, _⟩ | ⟨g', cap', cur, h1, hbg, hg, hnc, hcm, hcs, htake⟩
  ·rw [hu] at h1; cases h1
  ·rw [hu] at h1
   injection h1 with a1 a2 a3
   injection a1 with a1
   injection a1 with a1
   subst a1 a3
   have hl : (xs.flatMap f).length = xs.length * n := lenL fun x hx => hlf x (by simp [hx])
   have hvl : vs.length = (xs ++ ys).length * n := hown.1
   refine ⟨A, B, ep, vs.take (xs.length * n), ?_, fun x hx => hlf x (by simp [hx]), ?_, fun u hu => hone u (List.mem_of_mem_take hu), ?_, ?_⟩
   ·rw [hA, hu, hv]; rfl
   ·rw [List.flatMap_append] at hfv
    have := hfv.take (xs.length * n)
    have e : ((xs.flatMap f) ++ (ys.flatMap f)).take (xs.length * n) = xs.flatMap f := by rw [← hl]; exact List.take_left
    rwa [e] at this
   ·rw [List.length_take, hvl, List.length_append, Nat.add_mul]; omega
   ·refine .inr ⟨g, cap, cur, hv, Nat.zero_le _, hg, ?_, hcm, hcs, ?_⟩
    ·rw [List.length_append] at hnc; omega
    ·rw [← htake, List.take_take, Nat.min_eq_left]
     rw [List.length_append, Nat.add_mul]; omega
 ·subst hv hx
  exact ⟨[], F, by simp, [], rfl, fun _ h => absurd h List.not_mem_nil, trivial, fun _ h => absurd h List.not_mem_nil, World.ownsRow_nil _ _ _ _⟩
 ·exact ⟨C, A, ep.trans ((ep2.append_left A).trans List.perm_append_comm), hrow⟩
theorem st_back {α : Type} {c : Cx} {rs : List (Nat × AV)} {hs r r' : List HA} {u v : Value} {e : TypeId} {n : Nat} {f : α → List AV} {xs ys : List α} {a : Act} {w : World} (hr : Rm hs (.row u e n f (xs ++ ys)) r) (hr2 : Rm r (.bk v u e n f xs) r') (st : St c ⟨rs, hs⟩ a w) : St c ⟨rs, .row v e n f xs :: r'⟩ a w := by
 obtain ⟨G, F, hI, hF, hR, rr⟩ := st
 obtain ⟨A, B, ep, h1, h2⟩ := hr.sel hI.hs
 obtain ⟨C, D, ep2, h3, h4⟩ := hr2.sel h2
 obtain ⟨F1, F2, ep3, h5⟩ := bk_back (xs := xs) (ys := ys) (F := A ++ C) ⟨A, C, .refl _, h1, C, [], by simp, h3, rfl⟩
 have hp : F.Perm ((F1 ++ D) ++ F2) := by
  refine ep.trans ((ep2.append_left A).trans ?_)
  rw [← List.append_assoc]
  refine (ep3.append_right D).trans ?_
  rw [List.append_assoc, List.append_assoc]
  exact List.perm_append_comm.append_left F1
 exact ⟨G, F1 ++ D, ⟨hI.gin, (List.nodup_append.1 (hp.nodup_iff.1 hI.nd)).1, fun b hb => hI.own b (hp.mem_iff.2 (List.mem_append.2 (.inl hb))), F1, D, .refl _, h5, h4⟩,
  ⟨hF.os, hF.tape, hF.output, hF.size, hF.same, fun b hb => hF.newF b (hp.mem_iff.2 (List.mem_append.2 (.inl hb))), hF.gle, hF.newG⟩, hR, rr.1, rr.2.sub fun b hb => hp.mem_iff.2 (List.mem_append.2 (.inl hb))⟩
theorem WL_back {α : Type} {c : Cx} {rs : List (Nat × AV)} {hs r r' : List HA} {Q : Exit → S → Prop} {ops : Array Oper} {tl : List Oper} {u v : Value} {e : TypeId} {n : Nat} {f : α → List AV} {xs ys : List α} (hr : Rm hs (.row u e n f (xs ++ ys)) r) (hr2 : Rm r (.bk v u e n f xs) r') (k : WL c ops tl ⟨rs, .row v e n f xs :: r'⟩ Q) : WL c ops tl ⟨rs, hs⟩ Q := ⟨fun a w st => k.out a w (st_back hr hr2 st)⟩
end Go.Proofs.YthddoikmgpgakaaDoor.Sw
namespace Go.Proofs.YthddoikmgpgakaaDoor.Ma
def mats (N : Nat) (cost : Nat → Nat → Int) : Nat → List Nat → Int → List (List Nat × Int)
 | 0, s, n => [(s, n)]
 | m + 1, s, n => (List.range N).flatMap fun k => if k ∈ s then [] else mats N cost m (s ++ [k]) (n + cost s.length k)
def stepB (b p : List Nat × Int) : List Nat × Int := if b.2 < 0 ∨ p.2 < b.2 then p else b
def bst (l : List (List Nat × Int)) : List Nat × Int := l.foldl stepB ([], -1)
def ints (l : List Nat) : List Int := l.map fun (k : Nat) => (k : Int)
def msk (a : List Int) (m : List Nat) : List Int := List.zipWith (fun x (k : Nat) => if x = (k : Int) then x else -1) a m
def sure (l : List (List Nat × Int)) : List Int := (l.filter fun p => decide (p.2 ≤ (bst l).2)).foldl (fun a p => msk a p.1) (ints (bst l).1)
def stepR (b : List Nat × List Int × Int) (p : List Nat × Int) : List Nat × List Int × Int :=
 if b.2.2 < 0 ∨ p.2 < b.2.2 then (p.1, ints p.1, p.2) else if p.2 = b.2.2 then (b.1, msk b.2.1 p.1, b.2.2) else b
def bstR (l : List (List Nat × Int)) : List Nat × List Int × Int := l.foldl stepR ([], [], -1)
theorem msk_self : ∀ l : List Nat, msk (ints l) l = ints l
 | [] => rfl
 | k :: l => by
  have := msk_self l
  simp only [msk, ints, List.map_cons, List.zipWith_cons_cons, if_true] at this ⊢
  rw [this]
theorem bst_snoc (l : List (List Nat × Int)) (p : List Nat × Int) : bst (l ++ [p]) = stepB (bst l) p := by simp [bst]
theorem bstR_snoc (l : List (List Nat × Int)) (p : List Nat × Int) : bstR (l ++ [p]) = stepR (bstR l) p := by simp [bstR]
structure Bi (l : List (List Nat × Int)) : Prop where
 le : ∀ q ∈ l, (bst l).2 ≤ q.2
 neg : (bst l).2 < 0 → l = []
 mem : l ≠ [] → bst l ∈ l
 R : bstR l = ((bst l).1, sure l, (bst l).2)
theorem bi_nil : Bi [] := ⟨fun _ h => (by cases h), fun _ => rfl, fun h => absurd rfl h, rfl⟩
theorem Bi.snoc {l : List (List Nat × Int)} {p : List Nat × Int} (h : Bi l) (hp : 0 ≤ p.2) : Bi (l ++ [p]) := by
 by_cases hc : (bst l).2 < 0 ∨ p.2 < (bst l).2
 ·have e : bst (l ++ [p]) = p := by rw [bst_snoc, stepB, if_pos hc]
  have hall : ∀ q ∈ l, p.2 < q.2 := fun q hq => by
   rcases hc with hc | hc
   ·rw [h.neg hc] at hq; cases hq
   ·have := h.le q hq; omega
  refine ⟨fun q hq => ?_, fun hn => by rw [e] at hn; omega, fun _ => by rw [e]; simp, ?_⟩
  ·rw [e]
   rcases List.mem_append.1 hq with hq | hq
   ·have := hall q hq; omega
   ·have : q = p := by simpa using hq
    rw [this]; exact Int.le_refl _
  ·rw [bstR_snoc, h.R, stepR, if_pos hc, sure, e, List.filter_append, List.filter_eq_nil_iff.2 (fun q hq => by have := hall q hq; simp; omega)]
   simp [msk_self]
 ·have e : bst (l ++ [p]) = bst l := by rw [bst_snoc, stepB, if_neg hc]
  have h1 : ¬ (bst l).2 < 0 := fun h1 => hc (.inl h1)
  have h2 : ¬ p.2 < (bst l).2 := fun h2 => hc (.inr h2)
  refine ⟨fun q hq => ?_, fun hn => by rw [e] at hn; exact absurd hn h1, fun _ => ?_, ?_⟩
  ·rw [e]
   rcases List.mem_append.1 hq with hq | hq
   ·exact h.le q hq
   ·have : q = p := by simpa using hq
    rw [this]; omega
  ·rw [e]
   exact List.mem_append.2 (.inl (h.mem fun hn => h1 (by rw [hn]; decide)))
  ·have hs : sure (l ++ [p]) = if p.2 = (bst l).2 then msk (sure l) p.1 else sure l := by
    unfold sure
    rw [e, List.filter_append, List.foldl_append]
    by_cases h3 : p.2 = (bst l).2
    ·rw [if_pos h3, List.filter_cons_of_pos (by simp; omega)]; rfl
    ·rw [if_neg h3, List.filter_cons_of_neg (by simp; omega)]; rfl
   rw [bstR_snoc, h.R, stepR, if_neg hc, e, hs]
   dsimp only
   split <;> rfl
theorem bi_of : ∀ (s l : List (List Nat × Int)), Bi l → (∀ q ∈ s, 0 ≤ q.2) → Bi (l ++ s)
 | [], l, h, _ => by rw [List.append_nil]; exact h
 | p :: s, l, h, hs => by
  have := bi_of s (l ++ [p]) (h.snoc (hs p (by simp))) (fun q hq => hs q (by simp [hq]))
  rwa [List.append_assoc] at this
theorem bi (l : List (List Nat × Int)) (h : ∀ q ∈ l, 0 ≤ q.2) : Bi l := by simpa using bi_of l [] bi_nil h
theorem mats_succ (N : Nat) (cost : Nat → Nat → Int) (m : Nat) (s : List Nat) (n : Int) : mats N cost (m + 1) s n = (List.range N).flatMap fun k => if k ∈ s then [] else mats N cost m (s ++ [k]) (n + cost s.length k) := rfl
def costOf (cost : Nat → Nat → Int) : Nat → List Nat → Int
 | _, [] => 0
 | i, k :: l => cost i k + costOf cost (i + 1) l
theorem mats_mem {N : Nat} {cost : Nat → Nat → Int} : ∀ {m : Nat} {s : List Nat} {n : Int} {p : List Nat × Int}, p ∈ mats N cost m s n ↔
  ∃ r, p.1 = s ++ r ∧ r.length = m ∧ (∀ k ∈ r, k < N ∧ k ∉ s) ∧ r.Nodup ∧ p.2 = n + costOf cost s.length r
 | 0, s, n, p => by
  simp only [mats, List.mem_singleton]
  constructor
  ·rintro rfl; exact ⟨[], by simp, rfl, fun _ h => (by cases h), List.nodup_nil, by simp [costOf]⟩
  ·rintro ⟨r, h1, h2, _, _, h5⟩
   have : r = [] := List.eq_nil_of_length_eq_zero h2
   subst this
   obtain ⟨a, b⟩ := p
   simp [costOf] at h1 h5
   rw [h1, h5]
 | m + 1, s, n, p => by
  rw [mats_succ, List.mem_flatMap]
  constructor
  ·rintro ⟨k, hk, hp⟩
   have hkN := List.mem_range.1 hk
   split at hp
   ·cases hp
   ·rename_i hks
    obtain ⟨r, h1, h2, h3, h4, h5⟩ := mats_mem.1 hp
    refine ⟨k :: r, by rw [h1]; simp, by simp [h2], fun j hj => ?_, List.nodup_cons.2 ⟨fun h => (h3 k h).2 (by simp), h4⟩, ?_⟩
    ·rcases List.mem_cons.1 hj with rfl | hj
     ·exact ⟨hkN, hks⟩
     ·exact ⟨(h3 j hj).1, fun h => (h3 j hj).2 (by simp [h])⟩
    ·rw [h5, costOf, List.length_append]; simp only [List.length_singleton]; omega
  ·rintro ⟨r, h1, h2, h3, h4, h5⟩
   match r, h2 with
   | k :: r, h2 =>
    refine ⟨k, List.mem_range.2 (h3 k (by simp)).1, ?_⟩
    rw [if_neg (h3 k (by simp)).2]
    obtain ⟨h6, h7⟩ := List.nodup_cons.1 h4
    refine mats_mem.2 ⟨r, by rw [h1]; simp, by simpa using h2, fun j hj => ⟨(h3 j (by simp [hj])).1, fun h => ?_⟩, h7, ?_⟩
    ·rcases List.mem_append.1 h with h | h
     ·exact (h3 j (by simp [hj])).2 h
     ·have : j = k := by simpa using h
      subst this; exact h6 hj
    ·rw [h5, costOf, List.length_append]; simp only [List.length_singleton]; omega
theorem costOf_nonneg {cost : Nat → Nat → Int} (h : ∀ i k, 0 ≤ cost i k) : ∀ (l : List Nat) (i : Nat), 0 ≤ costOf cost i l
 | [], _ => Int.le_refl _
 | k :: l, i => by have := costOf_nonneg h l (i + 1); have := h i k; simp only [costOf]; omega
theorem mats_nonneg {N m : Nat} {cost : Nat → Nat → Int} (h : ∀ i k, 0 ≤ cost i k) {s : List Nat} {n : Int} (hn : 0 ≤ n) : ∀ q ∈ mats N cost m s n, 0 ≤ q.2 := fun q hq => by
 obtain ⟨r, _, _, _, _, e⟩ := mats_mem.1 hq
 have := costOf_nonneg h r s.length
 omega
theorem mats_len {N m : Nat} {cost : Nat → Nat → Int} {s : List Nat} {n : Int} : ∀ q ∈ mats N cost m s n, q.1.length = s.length + m := fun q hq => by
 obtain ⟨r, e, e2, _⟩ := mats_mem.1 hq
 rw [e, List.length_append, e2]
end Go.Proofs.YthddoikmgpgakaaDoor.Ma
namespace Go.Proofs.YthddoikmgpgakaaDoor.Sw
open Go.RowKit Go
open Go.WideElems (Fit)
open Go.ChangeMaps (setBlock heap_setBlock_same heap_setBlock_other)
structure WA (c : Cx) (ops : Array Oper) (j : Nat) (D : Array Bool) (s : S) (Q : Exit → S → Prop) : Prop where
 out : ∀ a w, St c s a w → wpAnyIn c.F c.n c.P .any ops (Post c Q) j D a w
def Each (p : Nat → Prop) : List Nat → Prop
 | [] => True
 | i :: t => p i ∧ Each p t
theorem Each.mem {p : Nat → Prop} : ∀ {l : List Nat}, Each p l → ∀ i ∈ l, p i
 | _ :: _, h, i, hi => by
  rcases List.mem_cons.1 hi with rfl | hi
  ·exact h.1
  ·exact Each.mem h.2 i hi
section
variable {P : Program} {κ α : Type} [DecidableEq κ] {t : TypeId} {kv : κ → Value} {ok : κ → Prop} {g : α → AV} {l : List (κ × α)} {G : Nat → Option Obj} {F : List Nat} {w : World} {v : Value}
variable {rs : List (Nat × AV)} {d : Option Nat} {ty : TypeId} {pos : String} {af : Array Edge} {gd : Option (Nat × Bool)}
end
section
variable {c : Cx} {rs : List (Nat × AV)} {hs : List HA} {Q : Exit → S → Prop} {ops : Array Oper} {tl : List Oper} {d : Nat} {ty : TypeId} {pos : String} {af : Array Edge} {κ α : Type} [DecidableEq κ] {t : TypeId} {kv : κ → Value} {ok : κ → Prop} {g : α → AV} {l : List (κ × α)} {v : Value}
end
def k3 (x : Int × Int × Int) : Value := .agg #[.int .i64 x.1, .int .i64 x.2.1, .int .i64 x.2.2]
end Go.Proofs.YthddoikmgpgakaaDoor.Sw
namespace Go.Proofs.YthddoikmgpgakaaDoor.Sw
open Go.RowKit Go
abbrev OV : Type := { v : Value // v.oneCell' = true }
instance {v : OV} : One (.val v.1) := ⟨fun _ u h => by have h' : u = v.1 := h; rw [h']; exact v.2⟩
def slC {α : Type} (n : Nat) (f : α → List AV) (g : List α) : List AV := [.sl n f g]
theorem W_meetE {β : Type} {c : Cx} {s : S} {x y : Code} {Q Q' : Exit → S → Prop} (I : β → S) (J : β → Prop) (h : W c x s (fun e s' => e = .normal ∧ ∃ b, (∀ a w, St c s' a w → St c (I b) a w) ∧ J b)) (k : ∀ b, J b → W c y (I b) Q') : W c x s (thenQ (fun s' => W c y s' Q') Q) :=
 W_mono h fun e s' ⟨he, b, hs, hJ⟩ => by subst he; exact W_weak (I b) hs (k b hJ)
theorem st_imp {c : Cx} {rs : List (Nat × AV)} {hs : List HA} {h h' : HA} {g : HA → List HA} {a : Act} {w : World} (hat : At hs h g) (k : ∀ G F w, h.P G F w → h'.P G F w) (st : St c ⟨rs, hs⟩ a w) : St c ⟨rs, g h'⟩ a w := by
 obtain ⟨G, F, hI, rr⟩ := st
 obtain ⟨rest, hsel⟩ := hat.sel
 obtain ⟨F1, F2, ep, h1, h2⟩ := (hsel _ _ _ _).1 (by rw [hat.self]; exact hI.hs)
 exact ⟨G, F, ⟨hI.gin, hI.nd, hI.own, (hsel _ _ _ _).2 ⟨F1, F2, ep, k _ _ _ h1, h2⟩⟩, rr⟩
theorem WL_imp {c : Cx} {rs : List (Nat × AV)} {hs : List HA} {h h' : HA} {g : HA → List HA} {Q : Exit → S → Prop} {ops : Array Oper} {tl : List Oper} (hat : At hs h g) (k : ∀ G F w, h.P G F w → h'.P G F w) (kk : WL c ops tl ⟨rs, g h'⟩ Q) : WL c ops tl ⟨rs, hs⟩ Q := ⟨fun a w st => kk.out a w (st_imp hat k st)⟩
end Go.Proofs.YthddoikmgpgakaaDoor.Sw
