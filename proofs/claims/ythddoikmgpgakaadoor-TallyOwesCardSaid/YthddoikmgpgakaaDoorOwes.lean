/- The program's 'Kinds', 'Owed', 'Owes'. -/
import Derived.Test.YthddoikmgpgakaaDoorProg
import Derived.Test.YthddoikmgpgakaaDoorBase
import Derived.Outline
import Derived.RangeFuncNested
import Derived.Shelf.Abstract
import Derived.Deep.QuietTactic
import Derived.BigQuiet
import Derived.Deep.RegionHeld3
import Derived.WalkSmall
import Derived.Laws.EntriesVeiled
import Derived.WalkMore
import Derived.Test.YthddoikmgpgakaaDoorComes
import Derived.Test.YthddoikmgpgakaaDoorAll
namespace Go.Proofs.YthddoikmgpgakaaDoor
open Go.RowKit Go.Proofs Go.Shelf

/-- Rates. -/
structure Rt where
  skin : Int
  half : Int
  barrel : Int
  paid : Int
def Rt.val (r : Rt) : Value := .agg #[.int .i64 r.skin, .int .i64 r.half, .int .i64 r.barrel, .int .i64 r.paid]
def Rt.ok (r : Rt) : Bool := (decide (0 ≤ r.skin) && decide (r.skin ≤ 1000)) && ((decide (0 ≤ r.half) && decide (r.half ≤ 1000)) && ((decide (0 ≤ r.barrel) && decide (r.barrel ≤ 1000)) && (decide (0 ≤ r.paid) && decide (r.paid ≤ 1000))))
/-- What notches are worth, by rates, and by a kind. -/
def rateW (r : Rt) (n : Int) : Int := if n = 1 then r.skin else if n = 2 then r.half else if n = 3 then r.barrel else if n = 4 then -r.paid else 0
def kindW (k n : Int) : Int := if n = k then 1 else 0
theorem Rt.ok_iff {r : Rt} (h : r.ok = true) : (0 ≤ r.skin ∧ r.skin ≤ 1000) ∧ (0 ≤ r.half ∧ r.half ≤ 1000) ∧ (0 ≤ r.barrel ∧ r.barrel ≤ 1000) ∧ (0 ≤ r.paid ∧ r.paid ≤ 1000) := by
  unfold Rt.ok at h
  simpa using h
theorem rateW_b {r : Rt} (h : r.ok = true) (n : Int) : -1000 ≤ rateW r n ∧ rateW r n ≤ 1000 := by
  obtain ⟨h1, h2, h3, h4⟩ := Rt.ok_iff h
  unfold rateW
  split
  · omega
  · split
    · omega
    · split
      · omega
      · split <;> omega
theorem kindW_b (k n : Int) : -1000 ≤ kindW k n ∧ kindW k n ≤ 1000 := by unfold kindW; split <;> omega

theorem kinds1_any (n k : Int) (p : Addr) (w : World) (hp : w.cell? p = some (.int .i64 k)) :
    Calls Tryd.prog 92 #[.int .i64 n, .pointer (some p)] w fun e w' => e = .returned (.int .i64 (kindW k n)) ∧ Below w.heap.size w w' := by
  go_enter Tryd.func92, Tryd.ntmps92
  by_cases h : n = k
  · have t : (n == k) = true := by simp [h]
    have H := hid h; clear h
    go_wp2_with fail
    go_ret
    exact ⟨(congrArg (fun b => Ending.returned (Value.int .i64 b)) (by unfold kindW; rw [if_pos H.out])), (by repeat (first | (with_reducible exact Below.refl _ _) | (with_reducible assumption) | (with_reducible refine Below.drew ?_) | (with_reducible refine below_drewN ?_ _) | (with_reducible refine Below.alloc ?_ (by first | omega | (simp; done) | (simp; omega)) _) | (with_reducible refine Below.setCell ?_ (by first | omega | (simp; done) | (simp; omega)) _) | (with_reducible refine Below.trans ?_ (Below.mono (by assumption) (by first | omega | (simp; done) | (simp; omega))))))⟩
  · have t : (n == k) = false := by simp [h]
    have H := hid h; clear h
    go_wp2_with fail
    go_ret
    exact ⟨(congrArg (fun b => Ending.returned (Value.int .i64 b)) (by unfold kindW; rw [if_neg H.out])), (by repeat (first | (with_reducible exact Below.refl _ _) | (with_reducible assumption) | (with_reducible refine Below.drew ?_) | (with_reducible refine below_drewN ?_ _) | (with_reducible refine Below.alloc ?_ (by first | omega | (simp; done) | (simp; omega)) _) | (with_reducible refine Below.setCell ?_ (by first | omega | (simp; done) | (simp; omega)) _) | (with_reducible refine Below.trans ?_ (Below.mono (by assumption) (by first | omega | (simp; done) | (simp; omega))))))⟩
theorem kinds_worth (k : Int) (kp : Nat) : Worth (fun w => Box w kp #[.int .i64 k] 3) (.func (.func 92) #[] #[.pointer (some ⟨kp, 0, none⟩)]) (kindW k) :=
  ⟨_, _, _, rfl, enters_of Tryd.func92 (by kernel_rfl) rfl, fun n w _ _ h => kinds1_any n k ⟨kp, 0, none⟩ w (h.cell 0)⟩

set_option maxRecDepth 20000 in
theorem valid_any (r : Rt) (w : World) :
    Calls Tryd.prog 95 #[r.val] w fun e w' => e = .returned (.bool r.ok) ∧ Below w.heap.size w w' := by
  unfold Rt.val
  go_enter Tryd.func95, Tryd.ntmps95
  go_wp2_with fail
  refine (in_any 0 1000 _ _ [r.skin, r.half, r.barrel, r.paid] _ (by simp) ?_).mono ?_
  · intro i hi
    match i, hi with
    | 0, _ => exact ⟨_, _, rfl, by simp [go_sem]⟩
    | 1, _ => exact ⟨_, _, rfl, by simp [go_sem]⟩
    | 2, _ => exact ⟨_, _, rfl, by simp [go_sem]⟩
    | 3, _ => exact ⟨_, _, rfl, by simp [go_sem]⟩
  rintro e w1 ⟨rfl, hb1⟩
  go_wp2_with fail
  go_ret
  exact ⟨(congrArg (fun b => Ending.returned (Value.bool b)) (by simp [Rt.ok])), (by repeat (first | (with_reducible exact Below.refl _ _) | (with_reducible assumption) | (with_reducible refine Below.drew ?_) | (with_reducible refine below_drewN ?_ _) | (with_reducible refine Below.alloc ?_ (by first | omega | (simp; done) | (simp; omega)) _) | (with_reducible refine Below.setCell ?_ (by first | omega | (simp; done) | (simp; omega)) _) | (with_reducible refine Below.trans ?_ (Below.mono (by assumption) (by first | omega | (simp; done) | (simp; omega))))))⟩

theorem idx5_0 (v0 v1 v2 v3 v4 : Int) (w : World) : (Instr.index 120 (.agg #[.int .i64 v0, .int .i64 v1, .int .i64 v2, .int .i64 v3, .int .i64 v4]) (.int .i64 0)).run Tryd.prog w = .ok (.int .i64 v0) w := by kernel_rfl
theorem idx5_1 (v0 v1 v2 v3 v4 : Int) (w : World) : (Instr.index 120 (.agg #[.int .i64 v0, .int .i64 v1, .int .i64 v2, .int .i64 v3, .int .i64 v4]) (.int .i64 1)).run Tryd.prog w = .ok (.int .i64 v1) w := by kernel_rfl
theorem idx5_2 (v0 v1 v2 v3 v4 : Int) (w : World) : (Instr.index 120 (.agg #[.int .i64 v0, .int .i64 v1, .int .i64 v2, .int .i64 v3, .int .i64 v4]) (.int .i64 2)).run Tryd.prog w = .ok (.int .i64 v2) w := by kernel_rfl
theorem idx5_3 (v0 v1 v2 v3 v4 : Int) (w : World) : (Instr.index 120 (.agg #[.int .i64 v0, .int .i64 v1, .int .i64 v2, .int .i64 v3, .int .i64 v4]) (.int .i64 3)).run Tryd.prog w = .ok (.int .i64 v3) w := by kernel_rfl
theorem idx5_4 (v0 v1 v2 v3 v4 : Int) (w : World) : (Instr.index 120 (.agg #[.int .i64 v0, .int .i64 v1, .int .i64 v2, .int .i64 v3, .int .i64 v4]) (.int .i64 4)).run Tryd.prog w = .ok (.int .i64 v4) w := by kernel_rfl

set_option maxRecDepth 20000 in
theorem worth_any (r : Rt) (hr : r.ok = true) (n : Int) (w : World) (h0 : 0 ≤ n) (h4 : n ≤ 4) :
    Calls Tryd.prog 96 #[r.val, .int .i64 n] w fun e w' => e = .returned (.int .i64 (rateW r n)) ∧ Below w.heap.size w w' := by
  obtain ⟨r1, r2, r3, r4⟩ := Rt.ok_iff hr
  have hw := wrap_mid (n := -r.paid) (by omega) (by omega)
  unfold Rt.val
  have hn : n = 0 ∨ n = 1 ∨ n = 2 ∨ n = 3 ∨ n = 4 := by omega
  go_enter Tryd.func96, Tryd.ntmps96
  rcases hn with rfl | rfl | rfl | rfl | rfl
  · have hx := idx5_0
    go_wp2_with fail
    go_ret
    exact ⟨rfl, (by repeat (first | (with_reducible exact Below.refl _ _) | (with_reducible assumption) | (with_reducible refine Below.drew ?_) | (with_reducible refine below_drewN ?_ _) | (with_reducible refine Below.alloc ?_ (by first | omega | (simp; done) | (simp; omega)) _) | (with_reducible refine Below.setCell ?_ (by first | omega | (simp; done) | (simp; omega)) _) | (with_reducible refine Below.trans ?_ (Below.mono (by assumption) (by first | omega | (simp; done) | (simp; omega))))))⟩
  · have hx := idx5_1
    go_wp2_with fail
    go_ret
    exact ⟨rfl, (by repeat (first | (with_reducible exact Below.refl _ _) | (with_reducible assumption) | (with_reducible refine Below.drew ?_) | (with_reducible refine below_drewN ?_ _) | (with_reducible refine Below.alloc ?_ (by first | omega | (simp; done) | (simp; omega)) _) | (with_reducible refine Below.setCell ?_ (by first | omega | (simp; done) | (simp; omega)) _) | (with_reducible refine Below.trans ?_ (Below.mono (by assumption) (by first | omega | (simp; done) | (simp; omega))))))⟩
  · have hx := idx5_2
    go_wp2_with fail
    go_ret
    exact ⟨rfl, (by repeat (first | (with_reducible exact Below.refl _ _) | (with_reducible assumption) | (with_reducible refine Below.drew ?_) | (with_reducible refine below_drewN ?_ _) | (with_reducible refine Below.alloc ?_ (by first | omega | (simp; done) | (simp; omega)) _) | (with_reducible refine Below.setCell ?_ (by first | omega | (simp; done) | (simp; omega)) _) | (with_reducible refine Below.trans ?_ (Below.mono (by assumption) (by first | omega | (simp; done) | (simp; omega))))))⟩
  · have hx := idx5_3
    go_wp2_with fail
    go_ret
    exact ⟨rfl, (by repeat (first | (with_reducible exact Below.refl _ _) | (with_reducible assumption) | (with_reducible refine Below.drew ?_) | (with_reducible refine below_drewN ?_ _) | (with_reducible refine Below.alloc ?_ (by first | omega | (simp; done) | (simp; omega)) _) | (with_reducible refine Below.setCell ?_ (by first | omega | (simp; done) | (simp; omega)) _) | (with_reducible refine Below.trans ?_ (Below.mono (by assumption) (by first | omega | (simp; done) | (simp; omega))))))⟩
  · have hx := idx5_4
    go_wp2_with fail
    go_ret
    exact ⟨rfl, (by repeat (first | (with_reducible exact Below.refl _ _) | (with_reducible assumption) | (with_reducible refine Below.drew ?_) | (with_reducible refine below_drewN ?_ _) | (with_reducible refine Below.alloc ?_ (by first | omega | (simp; done) | (simp; omega)) _) | (with_reducible refine Below.setCell ?_ (by first | omega | (simp; done) | (simp; omega)) _) | (with_reducible refine Below.trans ?_ (Below.mono (by assumption) (by first | omega | (simp; done) | (simp; omega))))))⟩
theorem rates_worth (r : Rt) (hr : r.ok = true) : Worth (fun _ => True) (.func (.func 96) #[r.val] #[]) (rateW r) :=
  ⟨_, _, _, rfl, enters_of Tryd.func96 (by kernel_rfl) rfl, fun n w h0 h4 _ => worth_any r hr n w h0 h4⟩

theorem okT_okN' {id hs : Int} {st fo : List Int} (h : okT id hs st fo = true) : okN st = true ∧ okN fo = true := by
  unfold okT at h
  simp only [Bool.and_eq_true] at h
  exact ⟨h.1.2, h.2⟩
/-- What is told of a kind. -/
def KindsR (a : Tl) (k lo hi e : Int) : Prop := if okT a.id a.hs a.st a.fo = true then (if 1 ≤ k ∧ k ≤ 4 then IsSpan (kindW k) (TrueL a.st a.fo) lo hi ∧ e = 0 else lo = 0 ∧ hi = 0 ∧ e = 72) else lo = 0 ∧ hi = 0 ∧ e = 70
theorem KindsR.unique {a : Tl} {k lo hi e lo' hi' e' : Int} (h : KindsR a k lo hi e) (g : KindsR a k lo' hi' e') : lo = lo' ∧ hi = hi' ∧ e = e' := by
  unfold KindsR at *
  split at h
  · rename_i hk
    rw [if_pos hk] at g
    split at h
    · rename_i h1
      rw [if_pos h1] at g
      have := h.1.unique g.1
      exact ⟨this.1, this.2, by rw [h.2, g.2]⟩
    · rename_i h1
      rw [if_neg h1] at g
      omega
  · rename_i hk
    rw [if_neg hk] at g
    omega

set_option maxRecDepth 20000 in
theorem kindsP_any (a : Tl) (k : Int) (sa fa : Option Addr) (sc fc : Nat) (w : World) (ht : Tab w) (hl : a.st.length ≤ 1000) (hl2 : a.fo.length ≤ 1000) (h1 : RdI w sa a.st) (h2 : RdI w fa a.fo) :
    Calls Tryd.prog 42 #[.agg #[.int .i64 a.id, .int .i64 a.hs, .slice sa a.st.length sc, .slice fa a.fo.length fc], .int .i64 k] w
      fun e w' => ∃ lo hi er, e = .returned (.tuple #[.agg #[.int .i64 lo, .int .i64 hi], .int .i64 er]) ∧ KindsR a k lo hi er ∧ Below w.heap.size w w' := by
  have H1 := hid h1; have H2 := hid h2; clear h1 h2
  have HT := hid ht; clear ht
  go_enter Tryd.func42, Tryd.ntmps42
  go_wp2_with fail
  refine (check_any _ _ _ _ _ _ _ _ _ (HT.out.below (by repeat (first | (with_reducible exact Below.refl _ _) | (with_reducible assumption) | (with_reducible refine Below.drew ?_) | (with_reducible refine below_drewN ?_ _) | (with_reducible refine Below.alloc ?_ (by first | omega | (simp; done) | (simp; omega)) _) | (with_reducible refine Below.setCell ?_ (by first | omega | (simp; done) | (simp; omega)) _) | (with_reducible refine Below.trans ?_ (Below.mono (by assumption) (by first | omega | (simp; done) | (simp; omega))))))) (by omega) (by omega) (H1.out.below (by repeat (first | (with_reducible exact Below.refl _ _) | (with_reducible assumption) | (with_reducible refine Below.drew ?_) | (with_reducible refine below_drewN ?_ _) | (with_reducible refine Below.alloc ?_ (by first | omega | (simp; done) | (simp; omega)) _) | (with_reducible refine Below.setCell ?_ (by first | omega | (simp; done) | (simp; omega)) _) | (with_reducible refine Below.trans ?_ (Below.mono (by assumption) (by first | omega | (simp; done) | (simp; omega))))))) (H2.out.below (by repeat (first | (with_reducible exact Below.refl _ _) | (with_reducible assumption) | (with_reducible refine Below.drew ?_) | (with_reducible refine below_drewN ?_ _) | (with_reducible refine Below.alloc ?_ (by first | omega | (simp; done) | (simp; omega)) _) | (with_reducible refine Below.setCell ?_ (by first | omega | (simp; done) | (simp; omega)) _) | (with_reducible refine Below.trans ?_ (Below.mono (by assumption) (by first | omega | (simp; done) | (simp; omega)))))))).mono ?_
  rintro e w1 ⟨rfl, hb1⟩
  have BX := hid ((((Box.new w (#[.int .i64 a.id, .int .i64 a.hs, .slice sa a.st.length sc, .slice fa a.fo.length fc]) 24).alloc (.cells #[.int .i64 k] 3)).alloc (.cells #[.int .i64 0, .int .i64 0] 68)).below hb1 (by simp; omega))
  have BK := hid (((Box.at (w := w.alloc (.cells #[.int .i64 a.id, .int .i64 a.hs, .slice sa a.st.length sc, .slice fa a.fo.length fc] 24)) (n := w.heap.size + 1) #[.int .i64 k] 3 (by simp)).alloc (.cells #[.int .i64 0, .int .i64 0] 68)).below hb1 (by simp))
  have BR := hid ((Box.at (w := (w.alloc (.cells #[.int .i64 a.id, .int .i64 a.hs, .slice sa a.st.length sc, .slice fa a.fo.length fc] 24)).alloc (.cells #[.int .i64 k] 3)) (n := w.heap.size + 1 + 1) #[.int .i64 0, .int .i64 0] 68 (by simp)).below hb1 (by simp))
  have WB := hid (show Below w.heap.size w w1 from (by repeat (first | (with_reducible exact Below.refl _ _) | (with_reducible assumption) | (with_reducible refine Below.drew ?_) | (with_reducible refine below_drewN ?_ _) | (with_reducible refine Below.alloc ?_ (by first | omega | (simp; done) | (simp; omega)) _) | (with_reducible refine Below.setCell ?_ (by first | omega | (simp; done) | (simp; omega)) _) | (with_reducible refine Below.trans ?_ (Below.mono (by assumption) (by first | omega | (simp; done) | (simp; omega)))))))
  clear hb1
  by_cases hok : okT a.id a.hs a.st a.fo = true
  · have t1 : (errT (okT a.id a.hs a.st a.fo) != 0) = false := by rw [hok]; rfl
    have HK := hid hok; clear hok
    have k0 : w1.cell? ⟨w.heap.size + 1, 0, none⟩ = some (.int .i64 k) := BK.out.cell 0
    go_wp2_with fail
    refine (kinds_any (some ⟨w1.heap.size, 0, none⟩) 1 [k] _ (by simp) ?_).mono ?_
    · intro i hi
      match i, hi with
      | 0, _ => exact ⟨_, _, rfl, (Box.new w1 #[.int .i64 k] 3).cell 0⟩
    rintro e w2 ⟨rfl, hb2⟩
    have hb := ((Below.refl _ w1).alloc (Nat.le_refl _) (.cells #[.int .i64 k] 3)).trans (hb2.mono (by simp))
    have BX := hid (BX.out.below hb BX.out.lt); have BK := hid (BK.out.below hb BK.out.lt); have BR := hid (BR.out.below hb BR.out.lt); have WB := hid (WB.out.trans (hb.mono WB.out.size))
    clear hb hb2 k0
    obtain ⟨⟨c0, c1, c2, c3⟩, _, lx⟩ := box_quad BX.out
    have r0 := BR.out.cell 0; have r1 := BR.out.cell 1; have r2 := BR.out.frozen 0; have r3 := BR.out.frozen 1; have r4 := BR.out.lt
    simp only [List.getElem?_toArray, List.getElem?_cons_zero, List.getElem?_cons_succ] at r0 r1
    by_cases hkk : 1 ≤ k ∧ k ≤ 4
    · have hn : okN [k] = true := by simp [okN, hkk.1, hkk.2]
      have HN := hid hkk; clear hkk
      rw [hn]
      clear t1
      go_wp2_with fail
      refine (halves_any a.id a.hs a.st a.fo sa fa sc fc w2 (by omega) (by omega) (H1.out.below WB.out) (H2.out.below WB.out)).mono ?_
      rintro e w3 ⟨pb, eb, qb, M, rfl, hb3, hM, hH⟩
      have s2 := WB.out.size
      have BK := hid (BK.out.below hb3 BK.out.lt); have BR := hid (BR.out.below hb3 BR.out.lt)
      have hz3 := hb3.size
      have WB := hid (WB.out.trans (hb3.mono WB.out.size)); have HH := hid hH
      have lM := hH.map.lt
      clear hb3 hH c0 c1 c2 c3 lx r0 r1 r2 r3 r4 BX
      unfold pairC leftV
      have lk := BK.out.lt; have lr := BR.out.lt
      have sz := WB.out.size
      have kM := map_not_cell HH.out.map BK.out.at_; have rM := map_not_cell HH.out.map BR.out.at_
      go_wp2_with fail
      refine (comes_any pb eb qb M a sa fa sc fc _ (kindW k) _ w3 hl hl2 (okT_okN' HK.out).1 (okT_okN' HK.out).2 (kinds_worth k (w.heap.size + 1)) (by unfold kindW; rw [if_neg (by have := HN.out.1; omega)]) (kindW_b k) (fun w1 w2 h kp => kp.box ⟨by omega, kM⟩ h) BK.out HH.out).mono ?_
      rintro e w4 ⟨lo, hi, rfl, hsp, kp⟩
      have HSP := hid hsp
      have BR := hid (kp.box rM BR.out)
      have hM0 : w.heap.size ≤ M := by have := hM; omega
      have WB := hid (WB.out.trans (kp.below (B := w.heap.size) (fun b hb => show b ≠ M by omega) WB.out.size))
      have r0 := BR.out.cell 0; have r1 := BR.out.cell 1; have r2 := BR.out.frozen 0; have r3 := BR.out.frozen 1; have r4 := BR.out.lt
      simp only [List.getElem?_toArray, List.getElem?_cons_zero, List.getElem?_cons_succ] at r0 r1
      clear hsp kp
      go_wp2_with fail
      refine bodyPost_ret (v := .tuple #[.agg #[.int .i64 lo, .int .i64 hi], .int .i64 0]) (by simp [results, Tryd.results42, go_sem, r0, r1, r2, r3, r4]) rfl ⟨lo, hi, 0, rfl, ?_, (WB.out.setCell (p := ⟨w.heap.size + 1 + 1, 0, none⟩) (show w.heap.size ≤ w.heap.size + 1 + 1 by omega) _).setCell (p := ⟨w.heap.size + 1 + 1, 1, none⟩) (show w.heap.size ≤ w.heap.size + 1 + 1 by omega) _⟩
      unfold KindsR; rw [if_pos HK.out, if_pos HN.out]
      exact ⟨HSP.out, rfl⟩
    · have hn : okN [k] = false := by
        simp only [okN, List.all_cons, List.all_nil, Bool.and_true, Bool.and_eq_false_iff, decide_eq_false_iff_not]
        omega
      have HN := hid hkk; clear hkk
      rw [hn]
      clear t1
      go_wp2_with fail
      refine bodyPost_ret (v := .tuple #[.agg #[.int .i64 0, .int .i64 0], .int .i64 72]) (by simp [results, Tryd.results42, go_sem, r0, r1, r2, r3, r4]) rfl ⟨0, 0, 72, rfl, ?_, (WB.out.setCell (p := ⟨w.heap.size + 1 + 1, 0, none⟩) (show w.heap.size ≤ w.heap.size + 1 + 1 by omega) _).setCell (p := ⟨w.heap.size + 1 + 1, 1, none⟩) (show w.heap.size ≤ w.heap.size + 1 + 1 by omega) _⟩
      unfold KindsR; rw [if_pos HK.out, if_neg HN.out]
      exact ⟨rfl, rfl, rfl⟩
  · have t1 : (errT (okT a.id a.hs a.st a.fo) != 0) = true := by rw [Bool.not_eq_true] at hok; rw [hok]; rfl
    have t2 : errT (okT a.id a.hs a.st a.fo) = 70 := by rw [Bool.not_eq_true] at hok; rw [hok]; rfl
    have HK := hid hok; clear hok
    rw [t2] at t1 ⊢
    clear t2
    have r0 := BR.out.cell 0; have r1 := BR.out.cell 1; have r2 := BR.out.frozen 0; have r3 := BR.out.frozen 1; have r4 := BR.out.lt
    simp only [List.getElem?_toArray, List.getElem?_cons_zero, List.getElem?_cons_succ] at r0 r1
    go_wp2_with fail
    refine bodyPost_ret (v := .tuple #[.agg #[.int .i64 0, .int .i64 0], .int .i64 70]) (by simp [results, Tryd.results42, go_sem, r0, r1, r2, r3, r4]) rfl ⟨0, 0, 70, rfl, ?_, (WB.out.setCell (p := ⟨w.heap.size + 1 + 1, 0, none⟩) (show w.heap.size ≤ w.heap.size + 1 + 1 by omega) _).setCell (p := ⟨w.heap.size + 1 + 1, 1, none⟩) (show w.heap.size ≤ w.heap.size + 1 + 1 by omega) _⟩
    unfold KindsR; rw [if_neg HK.out]
    exact ⟨rfl, rfl, rfl⟩

/-- The span of what true lists come to. -/
noncomputable def spanF (W : Int → Int) (s f : List Int) : Int × Int := @Classical.epsilon (Int × Int) ⟨(0, 0)⟩ (fun p => IsSpan W (TrueL s f) p.1 p.2)
theorem spanF_eq {W : Int → Int} {s f : List Int} {lo hi : Int} (h : IsSpan W (TrueL s f) lo hi) : spanF W s f = (lo, hi) := by
  have h1 := @Classical.epsilon_spec (Int × Int) (fun p => IsSpan W (TrueL s f) p.1 p.2) ⟨(lo, hi), h⟩
  have h2 := h1.unique h
  exact Prod.ext h2.1 h2.2
/-- What the tallies of a house come to. -/
noncomputable def owesL (W : Int → Int) (house : Int) (ts : List Tl) : Int × Int := ts.foldl (fun s t => if t.hs = house then (s.1 + (spanF W t.st t.fo).1, s.2 + (spanF W t.st t.fo).2) else s) (0, 0)
/-- What 'Owes' tells. -/
noncomputable def owesR (ts : List Tl) (house : Int) (r : Rt) : (Int × Int) × Int := if errAll ts ≠ 0 then ((0, 0), errAll ts) else if r.ok = true then (owesL (rateW r) house ts, 0) else ((0, 0), 71)

set_option maxRecDepth 20000 in
set_option maxHeartbeats 4000000 in
theorem owes_any (ts : List Tl) (house : Int) (r : Rt) (la : Option Addr) (lc : Nat) (w : World) (ht : Tab w) (hl : ts.length ≤ 4000) (hs : ∀ t ∈ ts, t.st.length ≤ 1000 ∧ t.fo.length ≤ 1000) (h : RdT w la ts) :
    Calls Tryd.prog 46 #[.slice la ts.length lc, .int .i64 house, r.val] w
      fun e w' => e = .returned (.tuple #[.agg #[.int .i64 (owesR ts house r).1.1, .int .i64 (owesR ts house r).1.2], .int .i64 (owesR ts house r).2]) ∧ Below w.heap.size w w' := by
  have H := hid h; clear h
  have HT := hid ht; clear ht
  have HS := hid hs; clear hs
  unfold Rt.val
  go_enter Tryd.func46, Tryd.ntmps46
  go_wp2_with fail
  refine (all_any la lc ts _ hl (HT.out.below (by repeat (first | (with_reducible exact Below.refl _ _) | (with_reducible assumption) | (with_reducible refine Below.drew ?_) | (with_reducible refine below_drewN ?_ _) | (with_reducible refine Below.alloc ?_ (by first | omega | (simp; done) | (simp; omega)) _) | (with_reducible refine Below.setCell ?_ (by first | omega | (simp; done) | (simp; omega)) _) | (with_reducible refine Below.trans ?_ (Below.mono (by assumption) (by first | omega | (simp; done) | (simp; omega))))))) (fun t h => ⟨by have := (HS.out t h).1; omega, by have := (HS.out t h).2; omega⟩) (H.out.below (by repeat (first | (with_reducible exact Below.refl _ _) | (with_reducible assumption) | (with_reducible refine Below.drew ?_) | (with_reducible refine below_drewN ?_ _) | (with_reducible refine Below.alloc ?_ (by first | omega | (simp; done) | (simp; omega)) _) | (with_reducible refine Below.setCell ?_ (by first | omega | (simp; done) | (simp; omega)) _) | (with_reducible refine Below.trans ?_ (Below.mono (by assumption) (by first | omega | (simp; done) | (simp; omega)))))))).mono ?_
  rintro e w1 ⟨rfl, hb1⟩
  have B5 := hid (((Box.new w #[.int .i64 r.skin, .int .i64 r.half, .int .i64 r.barrel, .int .i64 r.paid] 64).alloc (.cells #[.int .i64 0, .int .i64 0] 68)).below hb1 (by simp; omega))
  have B6 := hid ((Box.at (w := w.alloc (.cells #[.int .i64 r.skin, .int .i64 r.half, .int .i64 r.barrel, .int .i64 r.paid] 64)) (n := w.heap.size + 1) #[.int .i64 0, .int .i64 0] 68 (by simp)).below hb1 (by simp))
  have WB := hid (show Below w.heap.size w w1 from (by repeat (first | (with_reducible exact Below.refl _ _) | (with_reducible assumption) | (with_reducible refine Below.drew ?_) | (with_reducible refine below_drewN ?_ _) | (with_reducible refine Below.alloc ?_ (by first | omega | (simp; done) | (simp; omega)) _) | (with_reducible refine Below.setCell ?_ (by first | omega | (simp; done) | (simp; omega)) _) | (with_reducible refine Below.trans ?_ (Below.mono (by assumption) (by first | omega | (simp; done) | (simp; omega)))))))
  clear hb1
  by_cases he : errAll ts = 0
  · have t1 : (errAll ts != 0) = false := by rw [he]; rfl
    have HE := hid he; clear he
    obtain ⟨⟨c0, c1, c2, c3⟩, _, lx⟩ := box_quad B5.out
    go_wp2_with fail
    refine (valid_any r w1).mono ?_
    rintro e w2 ⟨rfl, hb2⟩
    have B5 := hid (B5.out.below hb2 B5.out.lt); have B6 := hid (B6.out.below hb2 B6.out.lt); have WB := hid (WB.out.trans (hb2.mono WB.out.size))
    clear hb2 c0 c1 c2 c3 lx
    obtain ⟨⟨c0, c1, c2, c3⟩, _, lx⟩ := box_quad B5.out
    by_cases hr : r.ok = true
    · rw [hr]
      have HR := hid hr; clear hr
      have hl6 : ts.length ≤ 6 := by
        have h := HE.out
        unfold errAll at h
        split at h
        · cases h
        · omega
      have hok : ∀ t ∈ ts, okT t.id t.hs t.st t.fo = true := by
        have h := HE.out
        unfold errAll at h
        split at h
        · cases h
        · split at h
          · rename_i h2; exact fun t ht => List.all_eq_true.1 h2 t ht
          · cases h
      have HOK := hid hok; clear hok
      go_wp2_with fail
      refine wp_world (fun W => Box W w2.heap.size #[.int .i64 0, .int .i64 0] 68 ∧ Box W (w.heap.size + 1) #[.int .i64 0, .int .i64 0] 68 ∧ Below w.heap.size w W) ⟨Box.new _ _ _, B6.out.alloc _, WB.out.alloc WB.out.size _⟩ ?_
      obtain ⟨P, hP⟩ : ∃ P, P = w2.heap.size := ⟨_, rfl⟩
      have nP : w.heap.size + 1 < P := by have := B6.out.lt; omega
      rw [← hP]
      clear hP c0 c1 c2 c3 lx t1 B5 B6 WB
      rintro W0 ⟨bP, b6, hB⟩
      go_loopw [30] (fun p wr => ∃ k : Nat, k ≤ ts.length ∧ p = .int .i64 k ∧ Box wr P #[.int .i64 (owesL (rateW r) house (ts.take k)).1, .int .i64 (owesL (rateW r) house (ts.take k)).2] 68 ∧ Box wr (w.heap.size + 1) #[.int .i64 0, .int .i64 0] 68 ∧ Below w.heap.size w wr ∧ (-(2000000 * k : Int) ≤ (owesL (rateW r) house (ts.take k)).1 ∧ (owesL (rateW r) house (ts.take k)).1 ≤ 2000000 * k ∧ -(2000000 * k : Int) ≤ (owesL (rateW r) house (ts.take k)).2 ∧ (owesL (rateW r) house (ts.take k)).2 ≤ 2000000 * k)) (fun p _ => ts.length - (intOf p).toNat)
      case atStart => exact ⟨0, by omega, rfl, bP, b6, hB, by simp [owesL]⟩
      case round =>
        obtain ⟨k, hk, rfl, hbP, hb6, hBr, hbd⟩ := hrel
        have BP := hid hbP; have B6 := hid hb6; have WB := hid hBr
        clear bP b6 hB
        by_cases hlt : k < ts.length
        · obtain ⟨b, o, sa, sc, fa, fc, rfl, g0, g1, g2, g3, g4, g5⟩ := H.out.below hBr k hlt
          have G4 := hid g4; have G5 := hid g5
          have lb := cell_lt g0
          have hsn : owesL (rateW r) house (ts.take (k + 1)) = (if ts[k].hs = house then ((owesL (rateW r) house (ts.take k)).1 + (spanF (rateW r) ts[k].st ts[k].fo).1, (owesL (rateW r) house (ts.take k)).2 + (spanF (rateW r) ts[k].st ts[k].fo).2) else owesL (rateW r) house (ts.take k)) := by
            rw [List.take_succ_eq_append_getElem hlt]
            unfold owesL
            rw [List.foldl_append]
            rfl
          have HSN := hid hsn; clear hsn
          have hts := HOK.out _ (List.getElem_mem hlt)
          have hln := HS.out _ (List.getElem_mem hlt)
          obtain ⟨E, hE⟩ : ∃ E, owesL (rateW r) house (ts.take k) = E := ⟨_, rfl⟩
          rw [hE] at BP HSN hbd
          obtain ⟨e1, e2⟩ := E
          obtain ⟨t, hT⟩ : ∃ t, ts[k] = t := ⟨_, rfl⟩
          rw [hT] at g0 g1 g2 g3 G4 G5 HSN hts hln
          have HTS := hid hts
          clear hE hT hts hbP hb6 hBr g4 g5
          dsimp only at BP HSN hbd
          by_cases hh : t.hs = house
          · have hq : (t.hs == house) = true := by simp [hh]
            have HH := hid hh; clear hh
            go_wp2_with fail
            refine (halves_any t.id t.hs t.st t.fo sa fa sc fc _ (by omega) (by omega) (G4.out.alloc _) (G5.out.alloc _)).mono ?_
            rintro e w3 ⟨pb, eb, qb, M, rfl, hb3, hM, hH⟩
            have hb := ((Below.refl _ wr).alloc (Nat.le_refl _) (.cells #[.int .i64 t.id, .int .i64 t.hs, .slice sa t.st.length sc, .slice fa t.fo.length fc] 24)).trans (hb3.mono (by simp))
            have hM' : wr.heap.size < M := by simp at hM; omega
            have swr := WB.out.size
            have lP := BP.out.lt; have l6 := B6.out.lt
            have BP := hid (BP.out.below hb lP); have B6 := hid (B6.out.below hb l6); have WB := hid (WB.out.trans (hb.mono swr))
            have HH2 := hid hH
            clear hb hb3 hH hM g0 g1 g2 g3 lb
            unfold pairC leftV
            go_wp2_with fail
            refine (comes_any pb eb qb M t sa fa sc fc _ (rateW r) (fun _ => True) w3 hln.1 hln.2 (okT_okN' HTS.out).1 (okT_okN' HTS.out).2 (rates_worth r HR.out) (by simp [rateW]) (rateW_b HR.out) (fun _ _ _ _ => trivial) trivial HH2.out).mono ?_
            rintro e w4 ⟨lo, hi, rfl, hsp, kp⟩
            have hsf := spanF_eq hsp
            have sb := span_bound (rateW_b HR.out) hln.1 hln.2 hsp
            have BP := hid (kp.box (show P ≠ M by omega) BP.out); have B6 := hid (kp.box (show w.heap.size + 1 ≠ M by omega) B6.out)
            have WB := hid (WB.out.trans (kp.below (B := w.heap.size) (fun b hb => show b ≠ M by omega) WB.out.size))
            have HSF := hid hsf
            have y0 : w4.cell? ⟨P, 0, none⟩ = some (.int .i64 e1) := BP.out.cell 0
            have y1 : w4.cell? ⟨P, 1, none⟩ = some (.int .i64 e2) := BP.out.cell 1
            have y2 := BP.out.frozen 0; have y3 := BP.out.frozen 1; have y4 := BP.out.lt
            have hw1 := wrap_mid (n := e1 + lo) (by omega) (by omega)
            have hw2 := wrap_mid (n := e2 + hi) (by omega) (by omega)
            have hP6 : w.heap.size ≤ P := by omega
            clear hsp kp hsf
            go_wp2_with fail
            have k7 := WB.out.alloc WB.out.size (.cells #[.int .i64 lo, .int .i64 hi] 68)
            refine ⟨⟨k + 1, by omega, by go_num, ?_, ?_, ?_, ?_⟩, by simp [intOf]; omega⟩
            · rw [HSN.out, if_pos HH.out, HSF.out]
              first | exact (((BP.out.alloc _).set 0 _).set 1 _) | exact (((BP.out.set 0 _).set 1 _).alloc _)
            · first | exact ((B6.out.alloc _).other _ _ _ (by omega)).other _ _ _ (by omega) | exact (((B6.out.other _ _ _ (by omega)).other _ _ _ (by omega)).alloc _)
            · first | exact ((k7.setCell (p := ⟨P, 0, none⟩) hP6 _).setCell (p := ⟨P, 1, none⟩) hP6 _) | exact (((WB.out.setCell (p := ⟨P, 0, none⟩) hP6 _).setCell (p := ⟨P, 1, none⟩) hP6 _).alloc (by simp; exact WB.out.size) _)
            · rw [HSN.out, if_pos HH.out, HSF.out]
              dsimp only
              omega
          · have hq : (t.hs == house) = false := by simp [hh]
            have HH := hid hh; clear hh
            go_wp2_with fail
            exact ⟨⟨k + 1, by omega, by go_num, by rw [HSN.out, if_neg HH.out]; exact BP.out.alloc _, B6.out.alloc _, WB.out.alloc WB.out.size _, by rw [HSN.out, if_neg HH.out]; dsimp only; omega⟩, by simp [intOf]; omega⟩
        · have hkk : k = ts.length := by omega
          subst hkk
          rw [List.take_of_length_le (Nat.le_refl _)] at BP
          obtain ⟨E, hE⟩ : ∃ E, owesL (rateW r) house ts = E := ⟨_, rfl⟩
          rw [hE] at BP
          obtain ⟨e1, e2⟩ := E
          have y0 : wr.cell? ⟨P, 0, none⟩ = some (.int .i64 e1) := BP.out.cell 0
          have y1 : wr.cell? ⟨P, 1, none⟩ = some (.int .i64 e2) := BP.out.cell 1
          have r0 := hb6.cell 0; have r1 := hb6.cell 1; have r2 := hb6.frozen 0; have r3 := hb6.frozen 1; have r4 := hb6.lt
          simp only [List.getElem?_toArray, List.getElem?_cons_zero, List.getElem?_cons_succ] at r0 r1
          have HE3 := hid hE
          clear hbP hb6 hBr hE hbd
          go_wp2_with fail
          refine bodyPost_ret (v := .tuple #[.agg #[.int .i64 e1, .int .i64 e2], .int .i64 0]) (by simp [results, Tryd.results46, go_sem, r0, r1, r2, r3, r4]) rfl ⟨?_, (((WB.out).setCell (p := ⟨w.heap.size + 1, 0, none⟩) (show w.heap.size ≤ w.heap.size + 1 by omega) _).setCell (p := ⟨w.heap.size + 1, 1, none⟩) (show w.heap.size ≤ w.heap.size + 1 by omega) _)⟩
          have h1 : owesR ts house r = ((e1, e2), 0) := by unfold owesR; rw [if_neg (by rw [HE.out]; simp), if_pos HR.out, HE3.out]
          rw [h1]
    · have hr' : r.ok = false := by simpa using hr
      have HR := hid hr; clear hr
      rw [hr']
      have r0 := B6.out.cell 0; have r1 := B6.out.cell 1; have r2 := B6.out.frozen 0; have r3 := B6.out.frozen 1; have r4 := B6.out.lt
      simp only [List.getElem?_toArray, List.getElem?_cons_zero, List.getElem?_cons_succ] at r0 r1
      go_wp2_with fail
      refine bodyPost_ret (v := .tuple #[.agg #[.int .i64 0, .int .i64 0], .int .i64 71]) (by simp [results, Tryd.results46, go_sem, r0, r1, r2, r3, r4]) rfl ⟨?_, (((WB.out).setCell (p := ⟨w.heap.size + 1, 0, none⟩) (show w.heap.size ≤ w.heap.size + 1 by omega) _).setCell (p := ⟨w.heap.size + 1, 1, none⟩) (show w.heap.size ≤ w.heap.size + 1 by omega) _)⟩
      have h1 : owesR ts house r = ((0, 0), 71) := by unfold owesR; rw [if_neg (by rw [HE.out]; simp), if_neg HR.out]
      rw [h1]
  · have t1 : (errAll ts != 0) = true := by simpa using he
    have HE := hid he; clear he
    have r0 := B6.out.cell 0; have r1 := B6.out.cell 1; have r2 := B6.out.frozen 0; have r3 := B6.out.frozen 1; have r4 := B6.out.lt
    simp only [List.getElem?_toArray, List.getElem?_cons_zero, List.getElem?_cons_succ] at r0 r1
    go_wp2_with fail
    refine bodyPost_ret (v := .tuple #[.agg #[.int .i64 0, .int .i64 0], .int .i64 (errAll ts)]) (by simp [results, Tryd.results46, go_sem, r0, r1, r2, r3, r4]) rfl ⟨?_, (((WB.out).setCell (p := ⟨w.heap.size + 1, 0, none⟩) (show w.heap.size ≤ w.heap.size + 1 by omega) _).setCell (p := ⟨w.heap.size + 1, 1, none⟩) (show w.heap.size ≤ w.heap.size + 1 by omega) _)⟩
    have h1 : owesR ts house r = ((0, 0), errAll ts) := by unfold owesR; rw [if_pos HE.out]
    rw [h1]

/-- What 'Owed' tells. -/
noncomputable def owedR (a : Tl) (r : Rt) : (Int × Int) × Int := owesR [a] a.hs r

set_option maxRecDepth 20000 in
theorem owed_any (a : Tl) (r : Rt) (sa fa : Option Addr) (sc fc : Nat) (w : World) (ht : Tab w) (hl : a.st.length ≤ 1000) (hl2 : a.fo.length ≤ 1000) (h1 : RdI w sa a.st) (h2 : RdI w fa a.fo) :
    Calls Tryd.prog 44 #[.agg #[.int .i64 a.id, .int .i64 a.hs, .slice sa a.st.length sc, .slice fa a.fo.length fc], r.val] w
      fun e w' => e = .returned (.tuple #[.agg #[.int .i64 (owedR a r).1.1, .int .i64 (owedR a r).1.2], .int .i64 (owedR a r).2]) ∧ Below w.heap.size w w' := by
  have H1 := hid h1; have H2 := hid h2; clear h1 h2
  have HT := hid ht; clear ht
  have hou := fun W hT hR => owes_any [a] a.hs r (some ⟨w.heap.size + 1 + 1 + 1, 0, none⟩) 1 W hT (by simp) (fun t ht => by rw [List.mem_singleton] at ht; subst ht; exact ⟨hl, hl2⟩) hR
  have HO := hid hou; clear hou
  unfold Rt.val at HO ⊢
  go_enter Tryd.func44, Tryd.ntmps44
  go_wp2_with fail
  refine (HO.out _ (HT.out.below (by repeat (first | (with_reducible exact Below.refl _ _) | (with_reducible assumption) | (with_reducible refine Below.drew ?_) | (with_reducible refine below_drewN ?_ _) | (with_reducible refine Below.alloc ?_ (by first | omega | (simp; done) | (simp; omega)) _) | (with_reducible refine Below.setCell ?_ (by first | omega | (simp; done) | (simp; omega)) _) | (with_reducible refine Below.trans ?_ (Below.mono (by assumption) (by first | omega | (simp; done) | (simp; omega))))))) ?_).mono ?_
  · intro i hi
    match i, hi with
    | 0, _ =>
      have bx := Box.at (w := ((w.alloc (.cells #[.int .i64 a.id, .int .i64 a.hs, .slice sa a.st.length sc, .slice fa a.fo.length fc] 24)).alloc (.cells #[.int .i64 r.skin, .int .i64 r.half, .int .i64 r.barrel, .int .i64 r.paid] 64)).alloc (.cells #[.int .i64 0, .int .i64 0] 68)) (n := w.heap.size + 1 + 1 + 1) (#[.int .i64 a.id, .int .i64 a.hs, .slice sa a.st.length sc, .slice fa a.fo.length fc]) 24 (by simp)
      exact ⟨w.heap.size + 1 + 1 + 1, 0, sa, sc, fa, fc, rfl, bx.cell 0, bx.cell 1, bx.cell 2, bx.cell 3, H1.out.below (by repeat (first | (with_reducible exact Below.refl _ _) | (with_reducible assumption) | (with_reducible refine Below.drew ?_) | (with_reducible refine below_drewN ?_ _) | (with_reducible refine Below.alloc ?_ (by first | omega | (simp; done) | (simp; omega)) _) | (with_reducible refine Below.setCell ?_ (by first | omega | (simp; done) | (simp; omega)) _) | (with_reducible refine Below.trans ?_ (Below.mono (by assumption) (by first | omega | (simp; done) | (simp; omega)))))), H2.out.below (by repeat (first | (with_reducible exact Below.refl _ _) | (with_reducible assumption) | (with_reducible refine Below.drew ?_) | (with_reducible refine below_drewN ?_ _) | (with_reducible refine Below.alloc ?_ (by first | omega | (simp; done) | (simp; omega)) _) | (with_reducible refine Below.setCell ?_ (by first | omega | (simp; done) | (simp; omega)) _) | (with_reducible refine Below.trans ?_ (Below.mono (by assumption) (by first | omega | (simp; done) | (simp; omega))))))⟩
  rintro e w1 ⟨rfl, hb1⟩
  have b4 := hid (((Box.at (w := (w.alloc (.cells #[.int .i64 a.id, .int .i64 a.hs, .slice sa a.st.length sc, .slice fa a.fo.length fc] 24)).alloc (.cells #[.int .i64 r.skin, .int .i64 r.half, .int .i64 r.barrel, .int .i64 r.paid] 64)) (n := w.heap.size + 1 + 1) #[.int .i64 0, .int .i64 0] 68 (by simp)).alloc (.cells #[.int .i64 a.id, .int .i64 a.hs, .slice sa a.st.length sc, .slice fa a.fo.length fc] 24)).below hb1 (by simp))
  have WB : Below w.heap.size w w1 := (by repeat (first | (with_reducible exact Below.refl _ _) | (with_reducible assumption) | (with_reducible refine Below.drew ?_) | (with_reducible refine below_drewN ?_ _) | (with_reducible refine Below.alloc ?_ (by first | omega | (simp; done) | (simp; omega)) _) | (with_reducible refine Below.setCell ?_ (by first | omega | (simp; done) | (simp; omega)) _) | (with_reducible refine Below.trans ?_ (Below.mono (by assumption) (by first | omega | (simp; done) | (simp; omega))))))
  have r0 := b4.out.cell 0; have r1 := b4.out.cell 1; have r2 := b4.out.frozen 0; have r3 := b4.out.frozen 1; have r4 := b4.out.lt
  simp only [List.getElem?_toArray, List.getElem?_cons_zero, List.getElem?_cons_succ] at r0 r1
  obtain ⟨O, hO⟩ : ∃ O, owesR [a] a.hs r = O := ⟨_, rfl⟩
  rw [hO]
  have HOO := hid hO
  clear hO HO
  obtain ⟨⟨o1, o2⟩, o3⟩ := O
  dsimp only
  have WBB := hid WB
  clear WB hb1 b4
  go_wp2_with fail
  refine bodyPost_ret (v := .tuple #[.agg #[.int .i64 o1, .int .i64 o2], .int .i64 o3]) (by simp [results, Tryd.results44, go_sem, r0, r1, r2, r3, r4]) rfl ⟨by unfold owedR; rw [HOO.out], (WBB.out.setCell (p := ⟨w.heap.size + 1 + 1, 0, none⟩) (show w.heap.size ≤ w.heap.size + 1 + 1 by omega) _).setCell (p := ⟨w.heap.size + 1 + 1, 1, none⟩) (show w.heap.size ≤ w.heap.size + 1 + 1 by omega) _⟩
end Go.Proofs.YthddoikmgpgakaaDoor
