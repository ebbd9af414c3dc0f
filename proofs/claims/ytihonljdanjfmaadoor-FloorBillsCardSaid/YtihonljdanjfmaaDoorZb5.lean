/- Proofs for one card: Owes, Wide, Concat, Table, RefC0, RefC1, RefC2, RefC3, RefC4, RefC5, RefComes, RefOwed, Leaf2, Br8. No condition of its own. -/
import Derived.Test.YtihonljdanjfmaaDoorProg
import Derived.Outline
import Derived.RangeFuncNested
import Derived.Shelf.Abstract
import Derived.Deep.QuietTactic
import Derived.BigQuiet
import Derived.Deep.RegionHeld3
import Derived.WalkSmall
import Derived.Laws.EntriesVeiled
import Derived.WalkMore
import Derived.Lib.AppendZerosOnto
import Derived.Lib.Walk
import Derived.Lib.SliceRun
import Derived.Laws.MakeOwn
import Derived.Deep.Cut
import Derived.Test.YtihonljdanjfmaaDoorZb4
namespace Go.Proofs.YtihonljdanjfmaaDoor
open Go.RowKit Go.Proofs Go.Shelf
/-- Rates. -/
structure Rt where
  skin : Int
  half : Int
  barrel : Int
  paid : Int
def Rt.val (r : Rt) : Value := .agg #[.int .i64 r.skin, .int .i64 r.half, .int .i64 r.barrel, .int .i64 r.paid]
def Rt.ok (r : Rt) : Bool := (decide (0 ≤ r.skin) && decide (r.skin ≤ 1000)) && ((decide (0 ≤ r.half) && decide (r.half ≤ 1000)) && ((decide (0 ≤ r.barrel) && decide (r.barrel ≤ 1000)) && (decide (0 ≤ r.paid) && decide (r.paid ≤ 1000))))
/-- What notches are worth, by rates, and by a kind. -/
def rateW (r : Rt) (n : Int) : Int := if n = 1 then r.skin else if n = 2 then r.half else if n = 3 then r.barrel else if n = 4 then -r.paid else 0
theorem Rt.ok_iff {r : Rt} (h : r.ok = true) : (0 ≤ r.skin ∧ r.skin ≤ 1000) ∧ (0 ≤ r.half ∧ r.half ≤ 1000) ∧ (0 ≤ r.barrel ∧ r.barrel ≤ 1000) ∧ (0 ≤ r.paid ∧ r.paid ≤ 1000) := by
  unfold Rt.ok at h
  simpa using h
theorem rateW_b {r : Rt} (h : r.ok = true) (n : Int) : -1000 ≤ rateW r n ∧ rateW r n ≤ 1000 := by
  obtain ⟨h1, h2, h3, h4⟩ := Rt.ok_iff h
  unfold rateW
  split
  · omega
  · split
    · omega
    · split
      · omega
      · split <;> omega
set_option maxRecDepth 20000 in
theorem valid_any (r : Rt) (w : World) :
    Calls Tryd.prog 148 #[r.val] w fun e w' => e = .returned (.bool r.ok) ∧ Below w.heap.size w w' := by
  unfold Rt.val
  go_enter Tryd.func148, Tryd.ntmps148
  go_wp2_with fail
  refine (in_any 0 1000 _ _ [r.skin, r.half, r.barrel, r.paid] _ (by simp) ?_).mono ?_
  · intro i hi
    match i, hi with
    | 0, _ => exact ⟨_, _, rfl, by simp [go_sem]⟩
    | 1, _ => exact ⟨_, _, rfl, by simp [go_sem]⟩
    | 2, _ => exact ⟨_, _, rfl, by simp [go_sem]⟩
    | 3, _ => exact ⟨_, _, rfl, by simp [go_sem]⟩
  rintro e w1 ⟨rfl, hb1⟩
  go_wp2_with fail
  go_ret
  exact ⟨(congrArg (fun b => Ending.returned (Value.bool b)) (by simp [Rt.ok])), (by repeat (first | (with_reducible exact Below.refl _ _) | (with_reducible assumption) | (with_reducible refine Below.drew ?_) | (with_reducible refine below_drewN ?_ _) | (with_reducible refine Below.alloc ?_ (by first | omega | (simp; done) | (simp; omega)) _) | (with_reducible refine Below.setCell ?_ (by first | omega | (simp; done) | (simp; omega)) _) | (with_reducible refine Below.trans ?_ (Below.mono (by assumption) (by first | omega | (simp; done) | (simp; omega))))))⟩
theorem idx5_0 (v0 v1 v2 v3 v4 : Int) (w : World) : (Instr.index 220 (.agg #[.int .i64 v0, .int .i64 v1, .int .i64 v2, .int .i64 v3, .int .i64 v4]) (.int .i64 0)).run Tryd.prog w = .ok (.int .i64 v0) w := by kernel_rfl
theorem idx5_1 (v0 v1 v2 v3 v4 : Int) (w : World) : (Instr.index 220 (.agg #[.int .i64 v0, .int .i64 v1, .int .i64 v2, .int .i64 v3, .int .i64 v4]) (.int .i64 1)).run Tryd.prog w = .ok (.int .i64 v1) w := by kernel_rfl
theorem idx5_2 (v0 v1 v2 v3 v4 : Int) (w : World) : (Instr.index 220 (.agg #[.int .i64 v0, .int .i64 v1, .int .i64 v2, .int .i64 v3, .int .i64 v4]) (.int .i64 2)).run Tryd.prog w = .ok (.int .i64 v2) w := by kernel_rfl
theorem idx5_3 (v0 v1 v2 v3 v4 : Int) (w : World) : (Instr.index 220 (.agg #[.int .i64 v0, .int .i64 v1, .int .i64 v2, .int .i64 v3, .int .i64 v4]) (.int .i64 3)).run Tryd.prog w = .ok (.int .i64 v3) w := by kernel_rfl
theorem idx5_4 (v0 v1 v2 v3 v4 : Int) (w : World) : (Instr.index 220 (.agg #[.int .i64 v0, .int .i64 v1, .int .i64 v2, .int .i64 v3, .int .i64 v4]) (.int .i64 4)).run Tryd.prog w = .ok (.int .i64 v4) w := by kernel_rfl
set_option maxRecDepth 20000 in
theorem worth_any (r : Rt) (hr : r.ok = true) (n : Int) (w : World) (h0 : 0 ≤ n) (h4 : n ≤ 4) :
    Calls Tryd.prog 149 #[r.val, .int .i64 n] w fun e w' => e = .returned (.int .i64 (rateW r n)) ∧ Below w.heap.size w w' := by
  obtain ⟨r1, r2, r3, r4⟩ := Rt.ok_iff hr
  have hw := wrap_mid (n := -r.paid) (by omega) (by omega)
  unfold Rt.val
  have hn : n = 0 ∨ n = 1 ∨ n = 2 ∨ n = 3 ∨ n = 4 := by omega
  go_enter Tryd.func149, Tryd.ntmps149
  rcases hn with rfl | rfl | rfl | rfl | rfl
  · have hx := idx5_0
    go_wp2_with fail
    go_ret
    exact ⟨rfl, (by repeat (first | (with_reducible exact Below.refl _ _) | (with_reducible assumption) | (with_reducible refine Below.drew ?_) | (with_reducible refine below_drewN ?_ _) | (with_reducible refine Below.alloc ?_ (by first | omega | (simp; done) | (simp; omega)) _) | (with_reducible refine Below.setCell ?_ (by first | omega | (simp; done) | (simp; omega)) _) | (with_reducible refine Below.trans ?_ (Below.mono (by assumption) (by first | omega | (simp; done) | (simp; omega))))))⟩
  · have hx := idx5_1
    go_wp2_with fail
    go_ret
    exact ⟨rfl, (by repeat (first | (with_reducible exact Below.refl _ _) | (with_reducible assumption) | (with_reducible refine Below.drew ?_) | (with_reducible refine below_drewN ?_ _) | (with_reducible refine Below.alloc ?_ (by first | omega | (simp; done) | (simp; omega)) _) | (with_reducible refine Below.setCell ?_ (by first | omega | (simp; done) | (simp; omega)) _) | (with_reducible refine Below.trans ?_ (Below.mono (by assumption) (by first | omega | (simp; done) | (simp; omega))))))⟩
  · have hx := idx5_2
    go_wp2_with fail
    go_ret
    exact ⟨rfl, (by repeat (first | (with_reducible exact Below.refl _ _) | (with_reducible assumption) | (with_reducible refine Below.drew ?_) | (with_reducible refine below_drewN ?_ _) | (with_reducible refine Below.alloc ?_ (by first | omega | (simp; done) | (simp; omega)) _) | (with_reducible refine Below.setCell ?_ (by first | omega | (simp; done) | (simp; omega)) _) | (with_reducible refine Below.trans ?_ (Below.mono (by assumption) (by first | omega | (simp; done) | (simp; omega))))))⟩
  · have hx := idx5_3
    go_wp2_with fail
    go_ret
    exact ⟨rfl, (by repeat (first | (with_reducible exact Below.refl _ _) | (with_reducible assumption) | (with_reducible refine Below.drew ?_) | (with_reducible refine below_drewN ?_ _) | (with_reducible refine Below.alloc ?_ (by first | omega | (simp; done) | (simp; omega)) _) | (with_reducible refine Below.setCell ?_ (by first | omega | (simp; done) | (simp; omega)) _) | (with_reducible refine Below.trans ?_ (Below.mono (by assumption) (by first | omega | (simp; done) | (simp; omega))))))⟩
  · have hx := idx5_4
    go_wp2_with fail
    go_ret
    exact ⟨rfl, (by repeat (first | (with_reducible exact Below.refl _ _) | (with_reducible assumption) | (with_reducible refine Below.drew ?_) | (with_reducible refine below_drewN ?_ _) | (with_reducible refine Below.alloc ?_ (by first | omega | (simp; done) | (simp; omega)) _) | (with_reducible refine Below.setCell ?_ (by first | omega | (simp; done) | (simp; omega)) _) | (with_reducible refine Below.trans ?_ (Below.mono (by assumption) (by first | omega | (simp; done) | (simp; omega))))))⟩
theorem rates_worth (r : Rt) (hr : r.ok = true) : Worth (fun _ => True) (.func (.func 149) #[r.val] #[]) (rateW r) :=
  ⟨_, _, _, rfl, enters_of Tryd.func149 (by kernel_rfl) rfl, fun n w h0 h4 _ => worth_any r hr n w h0 h4⟩
theorem okT_okN' {id hs : Int} {st fo : List Int} (h : okT id hs st fo = true) : okN st = true ∧ okN fo = true := by
  unfold okT at h
  simp only [Bool.and_eq_true] at h
  exact ⟨h.1.2, h.2⟩
/-- The span of what true lists come to. -/
noncomputable def spanF (W : Int → Int) (s f : List Int) : Int × Int := @Classical.epsilon (Int × Int) ⟨(0, 0)⟩ (fun p => IsSpan W (TrueL s f) p.1 p.2)
theorem spanF_eq {W : Int → Int} {s f : List Int} {lo hi : Int} (h : IsSpan W (TrueL s f) lo hi) : spanF W s f = (lo, hi) := by
  have h1 := @Classical.epsilon_spec (Int × Int) (fun p => IsSpan W (TrueL s f) p.1 p.2) ⟨(lo, hi), h⟩
  have h2 := h1.unique h
  exact Prod.ext h2.1 h2.2
/-- What the tallies of a house come to. -/
noncomputable def owesL (W : Int → Int) (house : Int) (ts : List Tl) : Int × Int := ts.foldl (fun s t => if t.hs = house then (s.1 + (spanF W t.st t.fo).1, s.2 + (spanF W t.st t.fo).2) else s) (0, 0)
/-- What 'Owes' tells. -/
noncomputable def owesR (ts : List Tl) (house : Int) (r : Rt) : (Int × Int) × Int := if errAll ts ≠ 0 then ((0, 0), errAll ts) else if r.ok = true then (owesL (rateW r) house ts, 0) else ((0, 0), 71)
set_option maxRecDepth 20000 in
set_option maxHeartbeats 4000000 in
theorem owes_any (ts : List Tl) (house : Int) (r : Rt) (la : Option Addr) (lc : Nat) (w : World) (ht : Tab w) (hl : ts.length ≤ 4000) (hs : ∀ t ∈ ts, t.st.length ≤ 1000 ∧ t.fo.length ≤ 1000) (h : RdT w la ts) :
    Calls Tryd.prog 124 #[.slice la ts.length lc, .int .i64 house, r.val] w
      fun e w' => e = .returned (.tuple #[.agg #[.int .i64 (owesR ts house r).1.1, .int .i64 (owesR ts house r).1.2], .int .i64 (owesR ts house r).2]) ∧ Below w.heap.size w w' := by
  have H := hid h; clear h
  have HT := hid ht; clear ht
  have HS := hid hs; clear hs
  unfold Rt.val
  go_enter Tryd.func124, Tryd.ntmps124
  go_wp2_with fail
  refine (all_any la lc ts _ hl (HT.out.below (by repeat (first | (with_reducible exact Below.refl _ _) | (with_reducible assumption) | (with_reducible refine Below.drew ?_) | (with_reducible refine below_drewN ?_ _) | (with_reducible refine Below.alloc ?_ (by first | omega | (simp; done) | (simp; omega)) _) | (with_reducible refine Below.setCell ?_ (by first | omega | (simp; done) | (simp; omega)) _) | (with_reducible refine Below.trans ?_ (Below.mono (by assumption) (by first | omega | (simp; done) | (simp; omega))))))) (fun t h => ⟨by have := (HS.out t h).1; omega, by have := (HS.out t h).2; omega⟩) (H.out.below (by repeat (first | (with_reducible exact Below.refl _ _) | (with_reducible assumption) | (with_reducible refine Below.drew ?_) | (with_reducible refine below_drewN ?_ _) | (with_reducible refine Below.alloc ?_ (by first | omega | (simp; done) | (simp; omega)) _) | (with_reducible refine Below.setCell ?_ (by first | omega | (simp; done) | (simp; omega)) _) | (with_reducible refine Below.trans ?_ (Below.mono (by assumption) (by first | omega | (simp; done) | (simp; omega)))))))).mono ?_
  rintro e w1 ⟨rfl, hb1⟩
  have B5 := hid (((Box.new w #[.int .i64 r.skin, .int .i64 r.half, .int .i64 r.barrel, .int .i64 r.paid] 70).alloc (.cells #[.int .i64 0, .int .i64 0] 134)).below hb1 (by simp; omega))
  have B6 := hid ((Box.at (w := w.alloc (.cells #[.int .i64 r.skin, .int .i64 r.half, .int .i64 r.barrel, .int .i64 r.paid] 70)) (n := w.heap.size + 1) #[.int .i64 0, .int .i64 0] 134 (by simp)).below hb1 (by simp))
  have WB := hid (show Below w.heap.size w w1 from (by repeat (first | (with_reducible exact Below.refl _ _) | (with_reducible assumption) | (with_reducible refine Below.drew ?_) | (with_reducible refine below_drewN ?_ _) | (with_reducible refine Below.alloc ?_ (by first | omega | (simp; done) | (simp; omega)) _) | (with_reducible refine Below.setCell ?_ (by first | omega | (simp; done) | (simp; omega)) _) | (with_reducible refine Below.trans ?_ (Below.mono (by assumption) (by first | omega | (simp; done) | (simp; omega)))))))
  clear hb1
  by_cases he : errAll ts = 0
  · have t1 : (errAll ts != 0) = false := by rw [he]; rfl
    have HE := hid he; clear he
    obtain ⟨⟨c0, c1, c2, c3⟩, _, lx⟩ := box_quad B5.out
    go_wp2_with fail
    refine (valid_any r w1).mono ?_
    rintro e w2 ⟨rfl, hb2⟩
    have B5 := hid (B5.out.below hb2 B5.out.lt); have B6 := hid (B6.out.below hb2 B6.out.lt); have WB := hid (WB.out.trans (hb2.mono WB.out.size))
    clear hb2 c0 c1 c2 c3 lx
    obtain ⟨⟨c0, c1, c2, c3⟩, _, lx⟩ := box_quad B5.out
    by_cases hr : r.ok = true
    · rw [hr]
      have HR := hid hr; clear hr
      have hl6 : ts.length ≤ 6 := by
        have h := HE.out
        unfold errAll at h
        split at h
        · cases h
        · omega
      have hok : ∀ t ∈ ts, okT t.id t.hs t.st t.fo = true := by
        have h := HE.out
        unfold errAll at h
        split at h
        · cases h
        · split at h
          · rename_i h2; exact fun t ht => List.all_eq_true.1 h2 t ht
          · cases h
      have HOK := hid hok; clear hok
      go_wp2_with fail
      refine wp_world (fun W => Box W w2.heap.size #[.int .i64 0, .int .i64 0] 134 ∧ Box W (w.heap.size + 1) #[.int .i64 0, .int .i64 0] 134 ∧ Below w.heap.size w W) ⟨Box.new _ _ _, B6.out.alloc _, WB.out.alloc WB.out.size _⟩ ?_
      obtain ⟨P, hP⟩ : ∃ P, P = w2.heap.size := ⟨_, rfl⟩
      have nP : w.heap.size + 1 < P := by have := B6.out.lt; omega
      rw [← hP]
      clear hP c0 c1 c2 c3 lx t1 B5 B6 WB
      rintro W0 ⟨bP, b6, hB⟩
      go_loopw [30] (fun p wr => ∃ k : Nat, k ≤ ts.length ∧ p = .int .i64 k ∧ Box wr P #[.int .i64 (owesL (rateW r) house (ts.take k)).1, .int .i64 (owesL (rateW r) house (ts.take k)).2] 134 ∧ Box wr (w.heap.size + 1) #[.int .i64 0, .int .i64 0] 134 ∧ Below w.heap.size w wr ∧ (-(2000000 * k : Int) ≤ (owesL (rateW r) house (ts.take k)).1 ∧ (owesL (rateW r) house (ts.take k)).1 ≤ 2000000 * k ∧ -(2000000 * k : Int) ≤ (owesL (rateW r) house (ts.take k)).2 ∧ (owesL (rateW r) house (ts.take k)).2 ≤ 2000000 * k)) (fun p _ => ts.length - (intOf p).toNat)
      case atStart => exact ⟨0, by omega, rfl, bP, b6, hB, by simp [owesL]⟩
      case round =>
        obtain ⟨k, hk, rfl, hbP, hb6, hBr, hbd⟩ := hrel
        have BP := hid hbP; have B6 := hid hb6; have WB := hid hBr
        clear bP b6 hB
        by_cases hlt : k < ts.length
        · obtain ⟨b, o, sa, sc, fa, fc, rfl, g0, g1, g2, g3, g4, g5⟩ := H.out.below hBr k hlt
          have G4 := hid g4; have G5 := hid g5
          have lb := cell_lt g0
          have hsn : owesL (rateW r) house (ts.take (k + 1)) = (if ts[k].hs = house then ((owesL (rateW r) house (ts.take k)).1 + (spanF (rateW r) ts[k].st ts[k].fo).1, (owesL (rateW r) house (ts.take k)).2 + (spanF (rateW r) ts[k].st ts[k].fo).2) else owesL (rateW r) house (ts.take k)) := by
            rw [List.take_succ_eq_append_getElem hlt]
            unfold owesL
            rw [List.foldl_append]
            rfl
          have HSN := hid hsn; clear hsn
          have hts := HOK.out _ (List.getElem_mem hlt)
          have hln := HS.out _ (List.getElem_mem hlt)
          obtain ⟨E, hE⟩ : ∃ E, owesL (rateW r) house (ts.take k) = E := ⟨_, rfl⟩
          rw [hE] at BP HSN hbd
          obtain ⟨e1, e2⟩ := E
          obtain ⟨t, hT⟩ : ∃ t, ts[k] = t := ⟨_, rfl⟩
          rw [hT] at g0 g1 g2 g3 G4 G5 HSN hts hln
          have HTS := hid hts
          clear hE hT hts hbP hb6 hBr g4 g5
          dsimp only at BP HSN hbd
          by_cases hh : t.hs = house
          · have hq : (t.hs == house) = true := by simp [hh]
            have HH := hid hh; clear hh
            go_wp2_with fail
            refine (halves_any t.id t.hs t.st t.fo sa fa sc fc _ (by omega) (by omega) (G4.out.alloc _) (G5.out.alloc _)).mono ?_
            rintro e w3 ⟨pb, eb, qb, M, rfl, hb3, hM, hH⟩
            have hb := ((Below.refl _ wr).alloc (Nat.le_refl _) (.cells #[.int .i64 t.id, .int .i64 t.hs, .slice sa t.st.length sc, .slice fa t.fo.length fc] 68)).trans (hb3.mono (by simp))
            have hM' : wr.heap.size < M := by simp at hM; omega
            have swr := WB.out.size
            have lP := BP.out.lt; have l6 := B6.out.lt
            have BP := hid (BP.out.below hb lP); have B6 := hid (B6.out.below hb l6); have WB := hid (WB.out.trans (hb.mono swr))
            have HH2 := hid hH
            clear hb hb3 hH hM g0 g1 g2 g3 lb
            unfold pairC leftV
            go_wp2_with fail
            refine (comes_any pb eb qb M t sa fa sc fc _ (rateW r) (fun _ => True) w3 hln.1 hln.2 (okT_okN' HTS.out).1 (okT_okN' HTS.out).2 (rates_worth r HR.out) (by simp [rateW]) (rateW_b HR.out) (fun _ _ _ _ => trivial) trivial HH2.out).mono ?_
            rintro e w4 ⟨lo, hi, rfl, hsp, kp⟩
            have hsf := spanF_eq hsp
            have sb := span_bound (rateW_b HR.out) hln.1 hln.2 hsp
            have BP := hid (kp.box (show P ≠ M by omega) BP.out); have B6 := hid (kp.box (show w.heap.size + 1 ≠ M by omega) B6.out)
            have WB := hid (WB.out.trans (kp.below (B := w.heap.size) (fun b hb => show b ≠ M by omega) WB.out.size))
            have HSF := hid hsf
            have y0 : w4.cell? ⟨P, 0, none⟩ = some (.int .i64 e1) := BP.out.cell 0
            have y1 : w4.cell? ⟨P, 1, none⟩ = some (.int .i64 e2) := BP.out.cell 1
            have y2 := BP.out.frozen 0; have y3 := BP.out.frozen 1; have y4 := BP.out.lt
            have hw1 := wrap_mid (n := e1 + lo) (by omega) (by omega)
            have hw2 := wrap_mid (n := e2 + hi) (by omega) (by omega)
            have hP6 : w.heap.size ≤ P := by omega
            clear hsp kp hsf
            go_wp2_with fail
            have k7 := WB.out.alloc WB.out.size (.cells #[.int .i64 lo, .int .i64 hi] 134)
            refine ⟨⟨k + 1, by omega, by go_num, ?_, ?_, ?_, ?_⟩, by simp [intOf]; omega⟩
            · rw [HSN.out, if_pos HH.out, HSF.out]
              first | exact (((BP.out.alloc _).set 0 _).set 1 _) | exact (((BP.out.set 0 _).set 1 _).alloc _)
            · first | exact ((B6.out.alloc _).other _ _ _ (by omega)).other _ _ _ (by omega) | exact (((B6.out.other _ _ _ (by omega)).other _ _ _ (by omega)).alloc _)
            · first | exact ((k7.setCell (p := ⟨P, 0, none⟩) hP6 _).setCell (p := ⟨P, 1, none⟩) hP6 _) | exact (((WB.out.setCell (p := ⟨P, 0, none⟩) hP6 _).setCell (p := ⟨P, 1, none⟩) hP6 _).alloc (by simp; exact WB.out.size) _)
            · rw [HSN.out, if_pos HH.out, HSF.out]
              dsimp only
              omega
          · have hq : (t.hs == house) = false := by simp [hh]
            have HH := hid hh; clear hh
            go_wp2_with fail
            exact ⟨⟨k + 1, by omega, by go_num, by rw [HSN.out, if_neg HH.out]; exact BP.out.alloc _, B6.out.alloc _, WB.out.alloc WB.out.size _, by rw [HSN.out, if_neg HH.out]; dsimp only; omega⟩, by simp [intOf]; omega⟩
        · have hkk : k = ts.length := by omega
          subst hkk
          rw [List.take_of_length_le (Nat.le_refl _)] at BP
          obtain ⟨E, hE⟩ : ∃ E, owesL (rateW r) house ts = E := ⟨_, rfl⟩
          rw [hE] at BP
          obtain ⟨e1, e2⟩ := E
          have y0 : wr.cell? ⟨P, 0, none⟩ = some (.int .i64 e1) := BP.out.cell 0
          have y1 : wr.cell? ⟨P, 1, none⟩ = some (.int .i64 e2) := BP.out.cell 1
          have r0 := hb6.cell 0; have r1 := hb6.cell 1; have r2 := hb6.frozen 0; have r3 := hb6.frozen 1; have r4 := hb6.lt
          simp only [List.getElem?_toArray, List.getElem?_cons_zero, List.getElem?_cons_succ] at r0 r1
          have HE3 := hid hE
          clear hbP hb6 hBr hE hbd
          go_wp2_with fail
          refine bodyPost_ret (v := .tuple #[.agg #[.int .i64 e1, .int .i64 e2], .int .i64 0]) (by simp [results, Tryd.results124, go_sem, r0, r1, r2, r3, r4]) rfl ⟨?_, (((WB.out).setCell (p := ⟨w.heap.size + 1, 0, none⟩) (show w.heap.size ≤ w.heap.size + 1 by omega) _).setCell (p := ⟨w.heap.size + 1, 1, none⟩) (show w.heap.size ≤ w.heap.size + 1 by omega) _)⟩
          have h1 : owesR ts house r = ((e1, e2), 0) := by unfold owesR; rw [if_neg (by rw [HE.out]; simp), if_pos HR.out, HE3.out]
          rw [h1]
    · have hr' : r.ok = false := by simpa using hr
      have HR := hid hr; clear hr
      rw [hr']
      have r0 := B6.out.cell 0; have r1 := B6.out.cell 1; have r2 := B6.out.frozen 0; have r3 := B6.out.frozen 1; have r4 := B6.out.lt
      simp only [List.getElem?_toArray, List.getElem?_cons_zero, List.getElem?_cons_succ] at r0 r1
      go_wp2_with fail
      refine bodyPost_ret (v := .tuple #[.agg #[.int .i64 0, .int .i64 0], .int .i64 71]) (by simp [results, Tryd.results124, go_sem, r0, r1, r2, r3, r4]) rfl ⟨?_, (((WB.out).setCell (p := ⟨w.heap.size + 1, 0, none⟩) (show w.heap.size ≤ w.heap.size + 1 by omega) _).setCell (p := ⟨w.heap.size + 1, 1, none⟩) (show w.heap.size ≤ w.heap.size + 1 by omega) _)⟩
      have h1 : owesR ts house r = ((0, 0), 71) := by unfold owesR; rw [if_neg (by rw [HE.out]; simp), if_neg HR.out]
      rw [h1]
  · have t1 : (errAll ts != 0) = true := by simpa using he
    have HE := hid he; clear he
    have r0 := B6.out.cell 0; have r1 := B6.out.cell 1; have r2 := B6.out.frozen 0; have r3 := B6.out.frozen 1; have r4 := B6.out.lt
    simp only [List.getElem?_toArray, List.getElem?_cons_zero, List.getElem?_cons_succ] at r0 r1
    go_wp2_with fail
    refine bodyPost_ret (v := .tuple #[.agg #[.int .i64 0, .int .i64 0], .int .i64 (errAll ts)]) (by simp [results, Tryd.results124, go_sem, r0, r1, r2, r3, r4]) rfl ⟨?_, (((WB.out).setCell (p := ⟨w.heap.size + 1, 0, none⟩) (show w.heap.size ≤ w.heap.size + 1 by omega) _).setCell (p := ⟨w.heap.size + 1, 1, none⟩) (show w.heap.size ≤ w.heap.size + 1 by omega) _)⟩
    have h1 : owesR ts house r = ((0, 0), errAll ts) := by unfold owesR; rw [if_pos HE.out]
    rw [h1]
/-- What 'Owed' tells. -/
noncomputable def owedR (a : Tl) (r : Rt) : (Int × Int) × Int := owesR [a] a.hs r
set_option maxRecDepth 20000 in
theorem owed_any (a : Tl) (r : Rt) (sa fa : Option Addr) (sc fc : Nat) (w : World) (ht : Tab w) (hl : a.st.length ≤ 1000) (hl2 : a.fo.length ≤ 1000) (h1 : RdI w sa a.st) (h2 : RdI w fa a.fo) :
    Calls Tryd.prog 82 #[.agg #[.int .i64 a.id, .int .i64 a.hs, .slice sa a.st.length sc, .slice fa a.fo.length fc], r.val] w
      fun e w' => e = .returned (.tuple #[.agg #[.int .i64 (owedR a r).1.1, .int .i64 (owedR a r).1.2], .int .i64 (owedR a r).2]) ∧ Below w.heap.size w w' := by
  have H1 := hid h1; have H2 := hid h2; clear h1 h2
  have HT := hid ht; clear ht
  have hou := fun W hT hR => owes_any [a] a.hs r (some ⟨w.heap.size + 1 + 1 + 1, 0, none⟩) 1 W hT (by simp) (fun t ht => by rw [List.mem_singleton] at ht; subst ht; exact ⟨hl, hl2⟩) hR
  have HO := hid hou; clear hou
  unfold Rt.val at HO ⊢
  go_enter Tryd.func82, Tryd.ntmps82
  go_wp2_with fail
  refine (HO.out _ (HT.out.below (by repeat (first | (with_reducible exact Below.refl _ _) | (with_reducible assumption) | (with_reducible refine Below.drew ?_) | (with_reducible refine below_drewN ?_ _) | (with_reducible refine Below.alloc ?_ (by first | omega | (simp; done) | (simp; omega)) _) | (with_reducible refine Below.setCell ?_ (by first | omega | (simp; done) | (simp; omega)) _) | (with_reducible refine Below.trans ?_ (Below.mono (by assumption) (by first | omega | (simp; done) | (simp; omega))))))) ?_).mono ?_
  · intro i hi
    match i, hi with
    | 0, _ =>
      have bx := Box.at (w := ((w.alloc (.cells #[.int .i64 a.id, .int .i64 a.hs, .slice sa a.st.length sc, .slice fa a.fo.length fc] 68)).alloc (.cells #[.int .i64 r.skin, .int .i64 r.half, .int .i64 r.barrel, .int .i64 r.paid] 70)).alloc (.cells #[.int .i64 0, .int .i64 0] 134)) (n := w.heap.size + 1 + 1 + 1) (#[.int .i64 a.id, .int .i64 a.hs, .slice sa a.st.length sc, .slice fa a.fo.length fc]) 68 (by simp)
      exact ⟨w.heap.size + 1 + 1 + 1, 0, sa, sc, fa, fc, rfl, bx.cell 0, bx.cell 1, bx.cell 2, bx.cell 3, H1.out.below (by repeat (first | (with_reducible exact Below.refl _ _) | (with_reducible assumption) | (with_reducible refine Below.drew ?_) | (with_reducible refine below_drewN ?_ _) | (with_reducible refine Below.alloc ?_ (by first | omega | (simp; done) | (simp; omega)) _) | (with_reducible refine Below.setCell ?_ (by first | omega | (simp; done) | (simp; omega)) _) | (with_reducible refine Below.trans ?_ (Below.mono (by assumption) (by first | omega | (simp; done) | (simp; omega)))))), H2.out.below (by repeat (first | (with_reducible exact Below.refl _ _) | (with_reducible assumption) | (with_reducible refine Below.drew ?_) | (with_reducible refine below_drewN ?_ _) | (with_reducible refine Below.alloc ?_ (by first | omega | (simp; done) | (simp; omega)) _) | (with_reducible refine Below.setCell ?_ (by first | omega | (simp; done) | (simp; omega)) _) | (with_reducible refine Below.trans ?_ (Below.mono (by assumption) (by first | omega | (simp; done) | (simp; omega))))))⟩
  rintro e w1 ⟨rfl, hb1⟩
  have b4 := hid (((Box.at (w := (w.alloc (.cells #[.int .i64 a.id, .int .i64 a.hs, .slice sa a.st.length sc, .slice fa a.fo.length fc] 68)).alloc (.cells #[.int .i64 r.skin, .int .i64 r.half, .int .i64 r.barrel, .int .i64 r.paid] 70)) (n := w.heap.size + 1 + 1) #[.int .i64 0, .int .i64 0] 134 (by simp)).alloc (.cells #[.int .i64 a.id, .int .i64 a.hs, .slice sa a.st.length sc, .slice fa a.fo.length fc] 68)).below hb1 (by simp))
  have WB : Below w.heap.size w w1 := (by repeat (first | (with_reducible exact Below.refl _ _) | (with_reducible assumption) | (with_reducible refine Below.drew ?_) | (with_reducible refine below_drewN ?_ _) | (with_reducible refine Below.alloc ?_ (by first | omega | (simp; done) | (simp; omega)) _) | (with_reducible refine Below.setCell ?_ (by first | omega | (simp; done) | (simp; omega)) _) | (with_reducible refine Below.trans ?_ (Below.mono (by assumption) (by first | omega | (simp; done) | (simp; omega))))))
  have r0 := b4.out.cell 0; have r1 := b4.out.cell 1; have r2 := b4.out.frozen 0; have r3 := b4.out.frozen 1; have r4 := b4.out.lt
  simp only [List.getElem?_toArray, List.getElem?_cons_zero, List.getElem?_cons_succ] at r0 r1
  obtain ⟨O, hO⟩ : ∃ O, owesR [a] a.hs r = O := ⟨_, rfl⟩
  rw [hO]
  have HOO := hid hO
  clear hO HO
  obtain ⟨⟨o1, o2⟩, o3⟩ := O
  dsimp only
  have WBB := hid WB
  clear WB hb1 b4
  go_wp2_with fail
  refine bodyPost_ret (v := .tuple #[.agg #[.int .i64 o1, .int .i64 o2], .int .i64 o3]) (by simp [results, Tryd.results82, go_sem, r0, r1, r2, r3, r4]) rfl ⟨by unfold owedR; rw [HOO.out], (WBB.out.setCell (p := ⟨w.heap.size + 1 + 1, 0, none⟩) (show w.heap.size ≤ w.heap.size + 1 + 1 by omega) _).setCell (p := ⟨w.heap.size + 1 + 1, 1, none⟩) (show w.heap.size ≤ w.heap.size + 1 + 1 by omega) _⟩
end Go.Proofs.YtihonljdanjfmaaDoor
namespace Go.Proofs.YtihonljdanjfmaaDoor
open Go.RowKit Go.Proofs Go.Shelf
/-- What 'wide' returns. -/
def wideF (s t : Int × Int) (a b : Int) (first : Bool) : Int × Int := if first then (t.1 + min a b, t.2 + max a b) else endF s (t.1 + min a b, t.2 + max a b)
set_option maxRecDepth 20000 in
theorem wide_any (s t : Int × Int) (a b : Int) (first : Bool) (w : World) (h1 : -10000000 ≤ t.1 ∧ t.1 ≤ 10000000) (h2 : -10000000 ≤ t.2 ∧ t.2 ≤ 10000000) (h3 : -10000 ≤ a ∧ a ≤ 10000) (h4 : -10000 ≤ b ∧ b ≤ 10000) :
    Calls Tryd.prog 172 #[.agg #[.int .i64 s.1, .int .i64 s.2], .agg #[.int .i64 t.1, .int .i64 t.2], .int .i64 a, .int .i64 b, .bool first] w
      fun e w' => e = .returned (.agg #[.int .i64 (wideF s t a b first).1, .int .i64 (wideF s t a b first).2]) ∧ Below w.heap.size w w' := by
  have m1 : (if b < a then b else a) = min a b := by split <;> omega
  have m2 : (if a < b then b else a) = max a b := by split <;> omega
  have hw1 := wrap_mid (n := t.1 + min a b) (by omega) (by omega)
  have hw2 := wrap_mid (n := t.2 + max a b) (by omega) (by omega)
  obtain ⟨s1, s2⟩ := s
  obtain ⟨t1, t2⟩ := t
  dsimp only at *
  cases first with
  | true =>
    go_enter Tryd.func172, Tryd.ntmps172
    go_wp2_with fail
    refine bodyPost_ret (v := .agg #[.int .i64 (t1 + min a b), .int .i64 (t2 + max a b)]) (by simp [results, Tryd.results172, go_sem]) rfl ⟨rfl, (by repeat (first | (with_reducible exact Below.refl _ _) | (with_reducible assumption) | (with_reducible refine Below.drew ?_) | (with_reducible refine below_drewN ?_ _) | (with_reducible refine Below.alloc ?_ (by first | omega | (simp; done) | (simp; omega)) _) | (with_reducible refine Below.setCell ?_ (by first | omega | (simp; done) | (simp; omega)) _) | (with_reducible refine Below.trans ?_ (Below.mono (by assumption) (by first | omega | (simp; done) | (simp; omega))))))⟩
  | false =>
    have m3 : (if t1 + min a b < s1 then t1 + min a b else s1) = min s1 (t1 + min a b) := by split <;> omega
    have m4 : (if s2 < t2 + max a b then t2 + max a b else s2) = max s2 (t2 + max a b) := by split <;> omega
    obtain ⟨q1, hq1⟩ : ∃ q, t1 + min a b = q := ⟨_, rfl⟩
    obtain ⟨q2, hq2⟩ : ∃ q, t2 + max a b = q := ⟨_, rfl⟩
    have HQ1 := hid hq1; have HQ2 := hid hq2
    rw [hq1] at m3; rw [hq2] at m4
    go_enter Tryd.func172, Tryd.ntmps172
    go_wp2_with fail
    all_goals
      refine bodyPost_ret (v := .agg #[.int .i64 (min s1 q1), .int .i64 (max s2 q2)]) (by simp_all [results, Tryd.results172, go_sem] <;> omega) rfl ⟨by unfold wideF endF; simp only [Bool.false_eq_true, if_false]; rw [HQ1.out, HQ2.out], (by repeat (first | (with_reducible exact Below.refl _ _) | (with_reducible assumption) | (with_reducible refine Below.drew ?_) | (with_reducible refine below_drewN ?_ _) | (with_reducible refine Below.alloc ?_ (by first | omega | (simp; done) | (simp; omega)) _) | (with_reducible refine Below.setCell ?_ (by first | omega | (simp; done) | (simp; omega)) _) | (with_reducible refine Below.trans ?_ (Below.mono (by assumption) (by first | omega | (simp; done) | (simp; omega))))))⟩
set_option maxRecDepth 20000 in
set_option maxHeartbeats 2000000 in
theorem refRates_any (r : Rt) (w : World) :
    Calls Tryd.prog 128 #[r.val] w fun e w' => e = .returned (.bool r.ok) ∧ Below w.heap.size w w' := by
  have hok : r.ok = ((decide (0 ≤ r.skin) && decide (r.skin ≤ 1000)) && ((decide (0 ≤ r.half) && decide (r.half ≤ 1000)) && ((decide (0 ≤ r.barrel) && decide (r.barrel ≤ 1000)) && (decide (0 ≤ r.paid) && decide (r.paid ≤ 1000))))) := rfl
  have HOK := hid hok; clear hok
  obtain ⟨q1, hq1⟩ : ∃ q, (decide (0 ≤ r.skin) && decide (r.skin ≤ 1000)) = q := ⟨_, rfl⟩
  obtain ⟨q2, hq2⟩ : ∃ q, (decide (0 ≤ r.half) && decide (r.half ≤ 1000)) = q := ⟨_, rfl⟩
  obtain ⟨q3, hq3⟩ : ∃ q, (decide (0 ≤ r.barrel) && decide (r.barrel ≤ 1000)) = q := ⟨_, rfl⟩
  obtain ⟨q4, hq4⟩ : ∃ q, (decide (0 ≤ r.paid) && decide (r.paid ≤ 1000)) = q := ⟨_, rfl⟩
  rw [hq1, hq2, hq3, hq4] at HOK
  unfold Rt.val
  cases q1 with
  | false => (go_enter Tryd.func128, Tryd.ntmps128; go_wp2_with (refine (within_any _ _ _ _).mono ?_; rintro e w' ⟨rfl, rfl⟩); go_ret; exact ⟨(congrArg (fun b => Ending.returned (Value.bool b)) (by rw [HOK.out]; first | rfl | simp [*])), (by repeat (first | (with_reducible exact Below.refl _ _) | (with_reducible assumption) | (with_reducible refine Below.drew ?_) | (with_reducible refine below_drewN ?_ _) | (with_reducible refine Below.alloc ?_ (by first | omega | (simp; done) | (simp; omega)) _) | (with_reducible refine Below.setCell ?_ (by first | omega | (simp; done) | (simp; omega)) _) | (with_reducible refine Below.trans ?_ (Below.mono (by assumption) (by first | omega | (simp; done) | (simp; omega))))))⟩)
  | true =>
    cases q2 with
    | false => (go_enter Tryd.func128, Tryd.ntmps128; go_wp2_with (refine (within_any _ _ _ _).mono ?_; rintro e w' ⟨rfl, rfl⟩); go_ret; exact ⟨(congrArg (fun b => Ending.returned (Value.bool b)) (by rw [HOK.out]; first | rfl | simp [*])), (by repeat (first | (with_reducible exact Below.refl _ _) | (with_reducible assumption) | (with_reducible refine Below.drew ?_) | (with_reducible refine below_drewN ?_ _) | (with_reducible refine Below.alloc ?_ (by first | omega | (simp; done) | (simp; omega)) _) | (with_reducible refine Below.setCell ?_ (by first | omega | (simp; done) | (simp; omega)) _) | (with_reducible refine Below.trans ?_ (Below.mono (by assumption) (by first | omega | (simp; done) | (simp; omega))))))⟩)
    | true =>
      cases q3 with
      | false => (go_enter Tryd.func128, Tryd.ntmps128; go_wp2_with (refine (within_any _ _ _ _).mono ?_; rintro e w' ⟨rfl, rfl⟩); go_ret; exact ⟨(congrArg (fun b => Ending.returned (Value.bool b)) (by rw [HOK.out]; first | rfl | simp [*])), (by repeat (first | (with_reducible exact Below.refl _ _) | (with_reducible assumption) | (with_reducible refine Below.drew ?_) | (with_reducible refine below_drewN ?_ _) | (with_reducible refine Below.alloc ?_ (by first | omega | (simp; done) | (simp; omega)) _) | (with_reducible refine Below.setCell ?_ (by first | omega | (simp; done) | (simp; omega)) _) | (with_reducible refine Below.trans ?_ (Below.mono (by assumption) (by first | omega | (simp; done) | (simp; omega))))))⟩)
      | true =>
        cases q4 with
        | false => (go_enter Tryd.func128, Tryd.ntmps128; go_wp2_with (refine (within_any _ _ _ _).mono ?_; rintro e w' ⟨rfl, rfl⟩); go_ret; exact ⟨(congrArg (fun b => Ending.returned (Value.bool b)) (by rw [HOK.out]; first | rfl | simp [*])), (by repeat (first | (with_reducible exact Below.refl _ _) | (with_reducible assumption) | (with_reducible refine Below.drew ?_) | (with_reducible refine below_drewN ?_ _) | (with_reducible refine Below.alloc ?_ (by first | omega | (simp; done) | (simp; omega)) _) | (with_reducible refine Below.setCell ?_ (by first | omega | (simp; done) | (simp; omega)) _) | (with_reducible refine Below.trans ?_ (Below.mono (by assumption) (by first | omega | (simp; done) | (simp; omega))))))⟩)
        | true => (go_enter Tryd.func128, Tryd.ntmps128; go_wp2_with (refine (within_any _ _ _ _).mono ?_; rintro e w' ⟨rfl, rfl⟩); go_ret; exact ⟨(congrArg (fun b => Ending.returned (Value.bool b)) (by rw [HOK.out]; first | rfl | simp [*])), (by repeat (first | (with_reducible exact Below.refl _ _) | (with_reducible assumption) | (with_reducible refine Below.drew ?_) | (with_reducible refine below_drewN ?_ _) | (with_reducible refine Below.alloc ?_ (by first | omega | (simp; done) | (simp; omega)) _) | (with_reducible refine Below.setCell ?_ (by first | omega | (simp; done) | (simp; omega)) _) | (with_reducible refine Below.trans ?_ (Below.mono (by assumption) (by first | omega | (simp; done) | (simp; omega))))))⟩)
/-- What has come so far: nothing, and the first is still to come; or a span. -/
def AccW (W : Int → Int) (P : List Int → Prop) (s : Int × Int) (first : Bool) : Prop := (first = true ∧ s = (0, 0) ∧ ∀ l, ¬ P l) ∨ (first = false ∧ IsSpan W P s.1 s.2)
theorem AccW.iff {W : Int → Int} {P Q : List Int → Prop} {s : Int × Int} {first : Bool} (h : AccW W P s first) (hq : ∀ x, P x ↔ Q x) : AccW W Q s first := by
  rcases h with ⟨h1, h0, h2⟩ | ⟨h1, h2⟩
  · exact .inl ⟨h1, h0, fun l hl => h2 l ((hq l).2 hl)⟩
  · exact .inr ⟨h1, h2.iff hq⟩
theorem byN_span {W : Int → Int} (h0 : W 0 = 0) {a : Tl} {x : St} (hn : ∀ n ∈ notchesL x, 0 ≤ n) {lo hi : Int} (h : IsSpan W (TrueL (a.st.drop x.i) (a.fo.drop x.k)) lo hi) : IsSpan W (ByN a x (notchesL x)) (lo + min (W x.s) (W x.f)) (hi + max (W x.s) (W x.f)) := by
  have hs : 0 ≤ x.s := hn _ (by unfold notchesL; split <;> simp)
  have hf : 0 ≤ x.f := hn _ (by unfold notchesL; split <;> simp_all)
  have g1 := h.pre h0 hs
  have g2 := h.pre h0 hf
  have g := (g1.or g2).iff (Q := ByN a x (notchesL x)) (fun l => by
    unfold ByN notchesL
    by_cases e : x.s = x.f
    · rw [if_pos e]
      simp only [List.mem_singleton, exists_eq_left]
      rw [e]
      exact ⟨fun h => h.elim id id, .inl⟩
    · rw [if_neg e]
      simp only [List.mem_cons, List.not_mem_nil, or_false]
      constructor
      · rintro (h | h)
        · exact ⟨_, .inl rfl, h⟩
        · exact ⟨_, .inr rfl, h⟩
      · rintro ⟨n, rfl | rfl, h⟩
        · exact .inl h
        · exact .inr h)
  have e1 : min (W x.s + lo) (W x.f + lo) = lo + min (W x.s) (W x.f) := by omega
  have e2 : max (W x.s + hi) (W x.f + hi) = hi + max (W x.s) (W x.f) := by omega
  rw [e1, e2] at g
  exact g
theorem AccW.snoc {W : Int → Int} (h0 : W 0 = 0) {a : Tl} {xs : List St} {x : St} {s : Int × Int} {first : Bool} (h : AccW W (ByS a xs) s first) (hn : ∀ n ∈ notchesL x, 0 ≤ n) {t : Int × Int} (k : IsSpan W (TrueL (a.st.drop x.i) (a.fo.drop x.k)) t.1 t.2) : AccW W (ByS a (xs ++ [x])) (wideF s t (W x.s) (W x.f) first) false := by
  have hb := byN_span h0 hn k
  refine .inr ⟨rfl, ?_⟩
  rcases h with ⟨rfl, -, hnone⟩ | ⟨rfl, hs⟩
  · exact hb.iff (fun l => ⟨fun g => (byS_snoc a xs x l).2 (.inr g), fun g => ((byS_snoc a xs x l).1 g).resolve_left (hnone l)⟩)
  · exact (hs.or hb).iff (fun l => (byS_snoc a xs x l).symm)
/-- There is a span at every place. -/
theorem span_ex {W : Int → Int} (h0 : W 0 = 0) {a : Tl} (o1 : okN a.st = true) (o2 : okN a.fo = true) : ∀ (m i k : Nat), (a.st.length - i) + (a.fo.length - k) < m → i ≤ a.st.length → k ≤ a.fo.length → ∃ p : Int × Int, IsSpan W (TrueL (a.st.drop i) (a.fo.drop k)) p.1 p.2 := by
  intro m
  induction m with
  | zero => intro i k h; omega
  | succ m ih =>
    intro i k hm hi hk
    by_cases hend : i = a.st.length ∧ k = a.fo.length
    · obtain ⟨rfl, rfl⟩ := hend
      exact ⟨(0, 0), IsSpan.nil.iff (fun x => (true_end x).symm)⟩
    · have key : ∀ xs : List St, (∀ x ∈ xs, x ∈ stepsL a.st a.fo i k) → ∃ (s : Int × Int) (first : Bool), AccW W (ByS a xs) s first := by
        intro xs
        have : ∀ n (xs : List St), xs.length = n → (∀ x ∈ xs, x ∈ stepsL a.st a.fo i k) → ∃ (s : Int × Int) (first : Bool), AccW W (ByS a xs) s first := by
          intro n
          induction n with
          | zero =>
            intro xs hx _
            have : xs = [] := List.length_eq_zero_iff.1 hx
            subst this
            exact ⟨(0, 0), true, .inl ⟨rfl, rfl, fun l ⟨_, h, _⟩ => by cases h⟩⟩
          | succ n ihn =>
            intro xs hx hs
            have hne : xs ≠ [] := fun e => by rw [e] at hx; cases hx
            obtain ⟨ys, y, rfl⟩ : ∃ ys y, xs = ys ++ [y] := ⟨xs.dropLast, xs.getLast hne, (List.dropLast_concat_getLast hne).symm⟩
            obtain ⟨s, first, h⟩ := ihn ys (by simp at hx; exact hx) (fun x h => hs x (by simp [h]))
            have hy := hs y (by simp)
            obtain ⟨g1, g2, g3, _⟩ := step_bound hy hi hk
            obtain ⟨p, hp⟩ := ih y.i y.k (by omega) g1 g2
            exact ⟨_, _, h.snoc h0 (fun n hn => (step_notch o1 o2 hy hn).1) hp⟩
        exact this _ xs rfl
      obtain ⟨s, first, h⟩ := key (bestL a.st a.fo i k) (fun x hx => (mem_best.1 hx).1)
      refine ⟨s, ?_⟩
      rcases h with ⟨_, _, hn⟩ | ⟨_, h⟩
      · exfalso
        exact hn (a.st.drop i) ((true_iff o1 o2 hi hk hend _).1 (by unfold TrueL; rw [dist_self]; omega))
      · exact h.iff (fun l => (true_iff o1 o2 hi hk hend l).symm)
theorem span_at {W : Int → Int} (h0 : W 0 = 0) {a : Tl} (o1 : okN a.st = true) (o2 : okN a.fo = true) {i k : Nat} (hi : i ≤ a.st.length) (hk : k ≤ a.fo.length) : IsSpan W (TrueL (a.st.drop i) (a.fo.drop k)) (spanF W (a.st.drop i) (a.fo.drop k)).1 (spanF W (a.st.drop i) (a.fo.drop k)).2 := by
  obtain ⟨p, hp⟩ := span_ex h0 o1 o2 _ i k (Nat.lt_succ_self _) hi hk
  rw [spanF_eq hp]
  exact hp
end Go.Proofs.YtihonljdanjfmaaDoor
namespace Go.Proofs.YtihonljdanjfmaaDoor
open Go.RowKit Go.Proofs Go.Shelf
theorem infoInt : (Tryd.prog.info? 3).map (fun i => (i.zero, i.size, i.bytes)) = some (some (.int .i64 0), 1, 8) := by kernel_rfl
end Go.Proofs.YtihonljdanjfmaaDoor
namespace Go.Proofs.YtihonljdanjfmaaDoor
open Go.RowKit Go.Proofs Go.Shelf
/-- Row r of the table lies in the outer block's cells. -/
def RowAt (W : World) (cs : Array Value) (a b : List Int) (O X : Nat) (r : Nat) : Prop := ∃ R rs, cs[r]? = some (.slice (some ⟨R, 0, none⟩) (b.length + 1) (b.length + 1)) ∧ R < X ∧ R ≠ O ∧ Box W R rs 3 ∧ rs.size = b.length + 1 ∧ ∀ k, k ≤ b.length → rs[k]? = some (.int .i64 (dd a b r k : Int))
theorem RowAt.keep {W W' : World} {cs cs' : Array Value} {a b : List Int} {O X X' r : Nat} (h : RowAt W cs a b O X r) (hc : cs'[r]? = cs[r]?) (hX : X ≤ X') (hk : ∀ k, k < X → k ≠ O → W'.heap[k]? = W.heap[k]?) : RowAt W' cs' a b O X' r := by
  obtain ⟨R, rs, h1, h2, h3, h4, h5, h6⟩ := h
  exact ⟨R, rs, hc.trans h1, by omega, h3, (hk R h2 h3).trans h4, h5, h6⟩
/-- Two worlds that differ in what has been drawn alone. -/
def Same (a b : World) : Prop := b.heap = a.heap ∧ b.os = a.os ∧ b.tape = a.tape ∧ b.output = a.output
theorem Same.box {a b : World} (h : Same a b) {k : Nat} {cs : Array Value} {t : TypeId} (hb : Box a k cs t) : Box b k cs t := by unfold Box at *; rw [h.1]; exact hb
theorem Same.below {w a b : World} {B : Nat} (h : Same a b) (hb : Below B w a) : Below B w b := ⟨h.2.1.trans hb.os, h.2.2.1.trans hb.tape, h.2.2.2.trans hb.output, by rw [h.1]; exact hb.size, fun k hk => by rw [h.1]; exact hb.block k hk⟩
/-- The table is whole. -/
def Tbl (w : World) (O : Nat) (a b : List Int) : Prop := ∀ i, i ≤ a.length → ∃ R, w.cell? ⟨O, i, none⟩ = some (.slice (some ⟨R, 0, none⟩) (b.length + 1) (b.length + 1)) ∧ ∀ k, k ≤ b.length → w.cell? ⟨R, k, none⟩ = some (.int .i64 (dd a b i k : Int))
theorem infoRow : (Tryd.prog.info? 22).map (fun i => (i.zero, i.size, i.bytes)) = some (some (.slice none 0 0), 1, 24) := by kernel_rfl
set_option maxRecDepth 20000 in
set_option maxHeartbeats 4000000 in
theorem table_any (a b : List Int) (aa ba : Option Addr) (ca cb : Nat) (w : World) (hl : a.length ≤ 1000) (hl2 : b.length ≤ 1000) (h1 : RdI w aa a) (h2 : RdI w ba b) :
    Calls Tryd.prog 171 #[.slice aa a.length ca, .slice ba b.length cb] w fun e w' => ∃ O, e = .returned (.slice (some ⟨O, 0, none⟩) (a.length + 1) (a.length + 1)) ∧ Below w.heap.size w w' ∧ Tbl w' O a b := by
  have hm := mixedS
  have H1 := hid h1; have H2 := hid h2; clear h1 h2
  obtain ⟨i0, hi0, iz0, iz1, iz2⟩ := info_parts infoInt
  obtain ⟨i1, hi1, jz0, jz1, jz2⟩ := info_parts infoRow
  have mk1 : ∀ W : World, (Instr.makeSlice 81 (.int .i64 ((a.length : Int) + 1)) (.int .i64 ((a.length : Int) + 1))).run Tryd.prog W = .ok (.slice (some ⟨W.heap.size, 0, none⟩) (a.length + 1) (a.length + 1)) (W.alloc (.cells (madeCells (Value.slice none 0 0).cells ((a.length + 1) * i1.size)) 22)) := fun W => by
    have := run_make (P := Tryd.prog) W 81 22 i1 _ Tryd.underlying81 hi1 jz0 .i64 .i64 ((a.length : Int) + 1) ((a.length : Int) + 1) (by omega) (by omega) (by rw [jz2]; omega) (by omega)
    rw [this]
    have e : ((a.length : Int) + 1).toNat = a.length + 1 := by omega
    rw [e]
  have mk2 : ∀ W : World, (Instr.makeSlice 22 (.int .i64 ((b.length : Int) + 1)) (.int .i64 ((b.length : Int) + 1))).run Tryd.prog W = .ok (.slice (some ⟨W.heap.size, 0, none⟩) (b.length + 1) (b.length + 1)) (W.alloc (.cells (madeCells (Value.int .i64 0).cells ((b.length + 1) * i0.size)) 3)) := fun W => by
    have := run_make (P := Tryd.prog) W 22 3 i0 _ Tryd.underlying22 hi0 iz0 .i64 .i64 ((b.length : Int) + 1) ((b.length : Int) + 1) (by omega) (by omega) (by rw [iz2]; omega) (by omega)
    rw [this]
    have e : ((b.length : Int) + 1).toNat = b.length + 1 := by omega
    rw [e]
  go_enter Tryd.func171, Tryd.ntmps171
  go_wp2_with fail
  refine wp_world (fun W => (∃ cs, Box W w.heap.size cs 22 ∧ cs.size = a.length + 1) ∧ Below w.heap.size w W) ⟨⟨madeCells #[.slice none 0 0] (a.length + 1), Box.at _ _ rfl, size_madeCells _ _⟩, (by repeat (first | (with_reducible exact Below.refl _ _) | (with_reducible assumption) | (with_reducible refine Below.drew ?_) | (with_reducible refine below_drewN ?_ _) | (with_reducible refine Below.alloc ?_ (by first | omega | (simp; done) | (simp; omega)) _) | (with_reducible refine Below.setCell ?_ (by first | omega | (simp; done) | (simp; omega)) _) | (with_reducible refine Below.trans ?_ (Below.mono (by assumption) (by first | omega | (simp; done) | (simp; omega))))))⟩ ?_
  rintro W0 ⟨⟨cs0, hb0, hz0⟩, hB0⟩
  go_loopw [6] (fun p W => ∃ j, j ≤ a.length + 1 ∧ p = .int .i64 ((j : Int) - 1) ∧ (∃ cs, Box W w.heap.size cs 22 ∧ cs.size = a.length + 1 ∧ ∀ r, j ≤ r → r ≤ a.length → RowAt W cs a b w.heap.size W.heap.size r) ∧ Below w.heap.size w W) (fun p _ => (intOf p + 1).toNat)
  case atStart => exact ⟨a.length + 1, by omega, by simp, ⟨cs0, hb0, hz0, fun r h1 h2 => by omega⟩, hB0⟩
  case round =>
    obtain ⟨j, hj, rfl, ⟨cs, hO, hcs, hrows⟩, hB⟩ := hrel
    have HR := hid hrows; clear hrows
    cases j with
    | zero =>
      go_wp2_with fail
      go_ret
      refine ⟨w.heap.size, rfl, hB, fun r hr => ?_⟩
      obtain ⟨R, rs, g1, g2, _, g3, g4, g5⟩ := HR.out r (Nat.zero_le _) hr
      exact ⟨R, (hO.cell r).trans g1, fun k hk => (g3.cell k).trans (g5 k hk)⟩
    | succ i =>
      have ei : (((i + 1 : Nat) : Int) - 1) = (i : Int) := by omega
      rw [ei]
      have hO0 := hid hO
      have hlO := hO.lt
      obtain ⟨v0, hv0⟩ : ∃ v, wr.cell? ⟨w.heap.size, i, none⟩ = some v := ⟨cs[i], (hO.cell i).trans (Array.getElem?_eq_getElem (by omega))⟩
      have hf0 := hO.frozen i
      have hi : i ≤ a.length := by omega
      clear hO
      go_wp2_with fail
      refine wp_world (fun W => (∃ cs, Box W w.heap.size cs 22 ∧ cs.size = a.length + 1 ∧ cs[i]? = some (.slice (some ⟨wr.heap.size, 0, none⟩) (b.length + 1) (b.length + 1)) ∧ ∀ r, i + 1 ≤ r → r ≤ a.length → RowAt W cs a b w.heap.size wr.heap.size r) ∧ Below w.heap.size w W ∧ W.heap.size = wr.heap.size + 1 ∧ ∃ rs, Box W wr.heap.size rs 3 ∧ rs.size = b.length + 1) ⟨⟨cs.setIfInBounds i (.slice (some ⟨wr.heap.size, 0, none⟩) (b.length + 1) (b.length + 1)), (hO0.out.set i _).alloc _, by simpa using hcs, by rw [Array.getElem?_setIfInBounds]; simp; omega, ?_⟩, ?_, by simp, madeCells #[.int .i64 0] (b.length + 1), Box.at _ _ (by simp), size_madeCells _ _⟩ ?_
      · intro r h1 h2
        refine (HR.out r h1 h2).keep ?_ (Nat.le_refl _) (fun k hk hne => ?_)
        · rw [Array.getElem?_setIfInBounds, if_neg (by omega)]
        · exact (Below.heap_alloc _ _ k (by simpa using hk)).trans (Below.heap_setCell _ _ _ k hne)
      · exact (by repeat (first | (with_reducible exact Below.refl _ _) | (with_reducible assumption) | (with_reducible refine Below.drew ?_) | (with_reducible refine below_drewN ?_ _) | (with_reducible refine Below.alloc ?_ (by first | omega | (simp; done) | (simp; omega)) _) | (with_reducible refine Below.setCell ?_ (by first | omega | (simp; done) | (simp; omega)) _) | (with_reducible refine Below.trans ?_ (Below.mono (by assumption) (by first | omega | (simp; done) | (simp; omega))))))
      rintro W0 ⟨⟨cs1, hO1, hcs1, hci1, hrow1⟩, hB1, hz1, rs1, hR1, hrs1⟩
      have HRW1 := hid hrow1; clear hrow1
      clear hv0 hf0 hO0 hcs HR hB hB0
      obtain ⟨X, hX⟩ : ∃ X, X = wr.heap.size := ⟨_, rfl⟩
      rw [← hX] at hci1 hz1 hR1 HRW1 hlO
      clear hX
      go_loopw [7] (fun p W => ∃ l, l ≤ b.length + 1 ∧ p = .int .i64 ((l : Int) - 1) ∧ Box W w.heap.size cs1 22 ∧ (∀ r, i + 1 ≤ r → r ≤ a.length → RowAt W cs1 a b w.heap.size X r) ∧ Below w.heap.size w W ∧ W.heap.size = X + 1 ∧ ∃ rs, Box W X rs 3 ∧ rs.size = b.length + 1 ∧ ∀ k, l ≤ k → k ≤ b.length → rs[k]? = some (.int .i64 (dd a b i k : Int))) (fun p _ => (intOf p + 1).toNat)
      case atStart => exact ⟨b.length + 1, by omega, by simp, hO1, HRW1.out, hB1, hz1, rs1, hR1, hrs1, fun k h1 h2 => by omega⟩
      case round =>
        obtain ⟨l, hlb, rfl, hO2, hrow2, hB2, hz2, rs2, hR2, hrs2, hd2⟩ := hrel
        have HRW2 := hid hrow2; clear hrow2
        have HD2 := hid hd2; clear hd2
        cases l with
        | zero =>
          go_wp2_with fail
          refine ⟨⟨i, by omega, rfl, ⟨cs1, hO2, hcs1, fun r h1 h2 => ?_⟩, hB2⟩, by simp [intOf]⟩
          by_cases hr : r = i
          · subst hr
            exact ⟨X, rs2, hci1, by omega, by omega, hR2, hrs2, fun k hk => HD2.out k (Nat.zero_le _) hk⟩
          · exact (HRW2.out r (by omega) h2).keep rfl (by omega) (fun _ _ _ => rfl)
        | succ k =>
          have ek : (((k + 1 : Nat) : Int) - 1) = (k : Int) := by omega
          rw [ek]
          have hk : k ≤ b.length := by omega
          have c0 : wr.cell? ⟨w.heap.size, i, none⟩ = some (.slice (some ⟨X, 0, none⟩) (b.length + 1) (b.length + 1)) := (hO2.cell i).trans hci1
          obtain ⟨v0, hv0⟩ : ∃ v, wr.cell? ⟨X, k, none⟩ = some v := ⟨rs2[k], (hR2.cell k).trans (Array.getElem?_eq_getElem (by omega))⟩
          have hf0 := hR2.frozen k
          have lX := hR2.lt
          have HO2 := hid hO2; have HR2 := hid hR2
          have rel : ∀ (W : World) (n : Int), Same (wr.setCell ⟨X, k, none⟩ (.int .i64 n)) W → n = (dd a b i k : Int) →
              ∃ l, l ≤ b.length + 1 ∧ Value.int .i64 ((k : Int) - 1) = .int .i64 ((l : Int) - 1) ∧ Box W w.heap.size cs1 22 ∧ (∀ r, i + 1 ≤ r → r ≤ a.length → RowAt W cs1 a b w.heap.size X r) ∧ Below w.heap.size w W ∧ W.heap.size = X + 1 ∧ ∃ rs, Box W X rs 3 ∧ rs.size = b.length + 1 ∧ ∀ k, l ≤ k → k ≤ b.length → rs[k]? = some (.int .i64 (dd a b i k : Int)) := by
            rintro W n hs rfl
            refine ⟨k, by omega, rfl, hs.box (hO2.other _ _ _ (by omega)), fun r h1 h2 => (HRW2.out r h1 h2).keep rfl (Nat.le_refl _) (fun j hj _ => by rw [hs.1]; exact Below.heap_setCell _ _ _ j (show j ≠ X by omega)), hs.below (hB2.setCell (p := ⟨X, k, none⟩) (show w.heap.size ≤ X by omega) _), by rw [hs.1, World.size_setCell]; exact hz2, _, hs.box (hR2.set k _), by simpa using hrs2, fun j h1 h2 => ?_⟩
            rw [Array.getElem?_setIfInBounds]
            by_cases hj : k = j
            · subst hj; rw [if_pos rfl, if_pos (by omega)]
            · rw [if_neg hj]; exact HD2.out j (by omega) h2
          have REL := hid rel; clear rel
          clear hO2 hR2
          have ei' : i + 1 ≤ a.length ∨ i = a.length := by omega
          by_cases hin : i = a.length
          · have hend : (a.length - i) + (b.length - k) = dd a b i k := (dist_end (.inl (by omega))).symm
            have HE := hid hend; clear hend
            have hq : ((i : Int) == (a.length : Int)) = true := by rw [hin]; exact beq_self_eq_true _
            clear hin ei'
            go_wp2_with fail
            exact ⟨REL.out _ _ ⟨rfl, rfl, rfl, rfl⟩ (by have := HE.out; omega), by simp [intOf]⟩
          · have hq : ((i : Int) == (a.length : Int)) = false := by rw [beq_eq_false_iff_ne]; omega
            have hil : i < a.length := by omega
            clear hin ei'
            by_cases hkn : k = b.length
            · have hend : (a.length - i) + (b.length - k) = dd a b i k := (dist_end (.inr (by omega))).symm
              have HE := hid hend; clear hend
              have hq2 : ((k : Int) == (b.length : Int)) = true := by rw [hkn]; exact beq_self_eq_true _
              clear hkn
              go_wp2_with fail
              exact ⟨REL.out _ _ ⟨rfl, rfl, rfl, rfl⟩ (by have := HE.out; omega), by simp [intOf]⟩
            · have hq2 : ((k : Int) == (b.length : Int)) = false := by rw [beq_eq_false_iff_ne]; omega
              have hkl : k < b.length := by omega
              clear hkn
              obtain ⟨R1, rs1, g1, g2, g3, g4, g5, g6⟩ := HRW2.out (i + 1) (Nat.le_refl _) (by omega)
              have G4 := hid g4; have G6 := hid g6
              have c1 : wr.cell? ⟨w.heap.size, i + 1, none⟩ = some (.slice (some ⟨R1, 0, none⟩) (b.length + 1) (b.length + 1)) := (HO2.out.cell (i + 1)).trans g1
              have d11 : wr.cell? ⟨R1, k + 1, none⟩ = some (.int .i64 (dd a b (i + 1) (k + 1) : Int)) := (g4.cell (k + 1)).trans (g6 (k + 1) (by omega))
              have d10 : wr.cell? ⟨R1, k, none⟩ = some (.int .i64 (dd a b (i + 1) k : Int)) := (g4.cell k).trans (g6 k (by omega))
              have d01 : wr.cell? ⟨X, k + 1, none⟩ = some (.int .i64 (dd a b i (k + 1) : Int)) := (HR2.out.cell (k + 1)).trans (HD2.out (k + 1) (by omega) (by omega))
              clear g1 g2 g3 g4 g5 g6
              obtain ⟨ab, ao, rfl, ca'⟩ := (H1.out.below hB2) i hil
              obtain ⟨bb, bo, rfl, cb'⟩ := (H2.out.below hB2) k hkl
              have dd0 : dd a b i k = min (dd a b (i + 1) (k + 1) + (if a[i] = b[k] then 0 else 1)) (min (dd a b (i + 1) k + 1) (dd a b i (k + 1) + 1)) := dist_drop hil hkl
              have DD := hid dd0; clear dd0
              have e1 := dd_le a b (i + 1) (k + 1) (by omega) (by omega)
              have e2 := dd_le a b (i + 1) k (by omega) (by omega)
              have e3 := dd_le a b i (k + 1) (by omega) (by omega)
              have t1 : (i : Int) < (a.length : Int) + 1 := by omega
              have t2 : (k : Int) < (b.length : Int) + 1 := by omega
              have w1 := wrap_small (n := (i : Int) + 1) (by omega) (by omega)
              have w2 := wrap_small (n := (k : Int) + 1) (by omega) (by omega)
              have w3 := wrap_small (n := (dd a b (i + 1) k : Int) + 1) (by omega) (by omega)
              have w4 := wrap_small (n := (dd a b i (k + 1) : Int) + 1) (by omega) (by omega)
              by_cases he : a[i] = b[k]
              · have hne : (a[i] != b[k]) = false := by simp [he]
                have HEQ := hid he; clear he
                go_wp2_with fail
                go_big_quiet (fail)
                go_wp2_with fail
                refine wp_region_F [3, 10, 13, 18, 22] (fun w' => w'.cell? ⟨w.heap.size, i, none⟩ = some (.slice (some ⟨X, 0, none⟩) (b.length + 1) (b.length + 1)) ∧ w'.cell? ⟨w.heap.size, i + 1, none⟩ = some (.slice (some ⟨R1, 0, none⟩) (b.length + 1) (b.length + 1)) ∧ w'.cell? ⟨R1, k, none⟩ = some (.int .i64 (dd a b (i + 1) k : Int)) ∧ w'.cell? ⟨X, k + 1, none⟩ = some (.int .i64 (dd a b i (k + 1) : Int))) hm ⟨by go_simp, by go_simp, by go_simp, by go_simp⟩ ?_
                intro hS0; have hS := hid hS0; clear hS0
                (apply wpAnyF_pure (i := 0) rfl (by kernel_rfl) (fun _ _ _ h => h); · first | exact .inr ⟨rfl, rfl⟩ | exact .inl ⟨rfl, fun w' => by go_simp; rfl⟩); simp only [Act.put, List.setIfInBounds_toArray, List.set_cons_succ, List.set_cons_zero, List.getElem_toArray, List.getElem_cons_succ, List.getElem_cons_zero]
                (apply wpAnyF_pure (i := 1) rfl (by kernel_rfl) (fun _ _ _ h => h); · first | exact .inr ⟨rfl, rfl⟩ | exact .inl ⟨rfl, fun w' => by go_simp; rfl⟩); simp only [Act.put, List.setIfInBounds_toArray, List.set_cons_succ, List.set_cons_zero, List.getElem_toArray, List.getElem_cons_succ, List.getElem_cons_zero]
                (apply wpAnyF_pure (i := 2) rfl (by kernel_rfl) (fun _ _ _ h => h); · first | exact .inr ⟨rfl, rfl⟩ | exact .inl ⟨rfl, fun w' => by go_simp; rfl⟩); simp only [Act.put, List.setIfInBounds_toArray, List.set_cons_succ, List.set_cons_zero, List.getElem_toArray, List.getElem_cons_succ, List.getElem_cons_zero]
                (apply wpAnyF_held (i := 3) rfl (by kernel_rfl) (fun _ _ _ h => h) hS.out; · first | exact .inr ⟨rfl, rfl⟩ | exact .inl ⟨rfl, fun w' hS' => by (obtain ⟨s1, s2, s3, s4⟩ := hS'; go_simp; rfl)⟩); simp only [Act.put, List.setIfInBounds_toArray, List.set_cons_succ, List.set_cons_zero, List.getElem_toArray, List.getElem_cons_succ, List.getElem_cons_zero]
                (apply wpAnyF_pure (i := 4) rfl (by kernel_rfl) (fun _ _ _ h => h); · first | exact .inr ⟨rfl, rfl⟩ | exact .inl ⟨rfl, fun w' => by go_simp; rfl⟩); simp only [Act.put, List.setIfInBounds_toArray, List.set_cons_succ, List.set_cons_zero, List.getElem_toArray, List.getElem_cons_succ, List.getElem_cons_zero]
                (apply wpAnyF_pure (i := 5) rfl (by kernel_rfl) (fun _ _ _ h => h); · first | exact .inr ⟨rfl, rfl⟩ | exact .inl ⟨rfl, fun w' => by go_simp; rfl⟩); simp only [Act.put, List.setIfInBounds_toArray, List.set_cons_succ, List.set_cons_zero, List.getElem_toArray, List.getElem_cons_succ, List.getElem_cons_zero]
                (apply wpAnyF_pure (i := 6) rfl (by kernel_rfl) (fun _ _ _ h => h); · first | exact .inr ⟨rfl, rfl⟩ | exact .inl ⟨rfl, fun w' => by go_simp; rfl⟩); simp only [Act.put, List.setIfInBounds_toArray, List.set_cons_succ, List.set_cons_zero, List.getElem_toArray, List.getElem_cons_succ, List.getElem_cons_zero]
                (apply wpAnyF_pure (i := 7) rfl (by kernel_rfl) (fun _ _ _ h => h); · first | exact .inr ⟨rfl, rfl⟩ | exact .inl ⟨rfl, fun w' => by go_simp; rfl⟩); simp only [Act.put, List.setIfInBounds_toArray, List.set_cons_succ, List.set_cons_zero, List.getElem_toArray, List.getElem_cons_succ, List.getElem_cons_zero]
                (apply wpAnyF_pure (i := 8) rfl (by kernel_rfl) (fun _ _ _ h => h); · first | exact .inr ⟨rfl, rfl⟩ | exact .inl ⟨rfl, fun w' => by go_simp; rfl⟩); simp only [Act.put, List.setIfInBounds_toArray, List.set_cons_succ, List.set_cons_zero, List.getElem_toArray, List.getElem_cons_succ, List.getElem_cons_zero]
                (apply wpAnyF_pure (i := 9) rfl (by kernel_rfl) (fun _ _ _ h => h); · first | exact .inr ⟨rfl, rfl⟩ | exact .inl ⟨rfl, fun w' => by go_simp; rfl⟩); simp only [Act.put, List.setIfInBounds_toArray, List.set_cons_succ, List.set_cons_zero, List.getElem_toArray, List.getElem_cons_succ, List.getElem_cons_zero]
                (apply wpAnyF_held (i := 10) rfl (by kernel_rfl) (fun _ _ _ h => h) hS.out; · first | exact .inr ⟨rfl, rfl⟩ | exact .inl ⟨rfl, fun w' hS' => by (obtain ⟨s1, s2, s3, s4⟩ := hS'; go_simp; rfl)⟩); simp only [Act.put, List.setIfInBounds_toArray, List.set_cons_succ, List.set_cons_zero, List.getElem_toArray, List.getElem_cons_succ, List.getElem_cons_zero]
                (apply wpAnyF_pure (i := 11) rfl (by kernel_rfl) (fun _ _ _ h => h); · first | exact .inr ⟨rfl, rfl⟩ | exact .inl ⟨rfl, fun w' => by go_simp; rfl⟩); simp only [Act.put, List.setIfInBounds_toArray, List.set_cons_succ, List.set_cons_zero, List.getElem_toArray, List.getElem_cons_succ, List.getElem_cons_zero]
                (apply wpAnyF_pure (i := 12) rfl (by kernel_rfl) (fun _ _ _ h => h); · first | exact .inr ⟨rfl, rfl⟩ | exact .inl ⟨rfl, fun w' => by go_simp; rfl⟩); simp only [Act.put, List.setIfInBounds_toArray, List.set_cons_succ, List.set_cons_zero, List.getElem_toArray, List.getElem_cons_succ, List.getElem_cons_zero]
                (apply wpAnyF_held (i := 13) rfl (by kernel_rfl) (fun _ _ _ h => h) hS.out; · first | exact .inr ⟨rfl, rfl⟩ | exact .inl ⟨rfl, fun w' hS' => by (obtain ⟨s1, s2, s3, s4⟩ := hS'; go_simp; rfl)⟩); simp only [Act.put, List.setIfInBounds_toArray, List.set_cons_succ, List.set_cons_zero, List.getElem_toArray, List.getElem_cons_succ, List.getElem_cons_zero]
                (apply wpAnyF_pure (i := 14) rfl (by kernel_rfl) (fun _ _ _ h => h); · first | exact .inr ⟨rfl, rfl⟩ | exact .inl ⟨rfl, fun w' => by go_simp; rfl⟩); simp only [Act.put, List.setIfInBounds_toArray, List.set_cons_succ, List.set_cons_zero, List.getElem_toArray, List.getElem_cons_succ, List.getElem_cons_zero]
                (apply wpAnyF_pure (i := 15) rfl (by kernel_rfl) (fun _ _ _ h => h); · first | exact .inr ⟨rfl, rfl⟩ | exact .inl ⟨rfl, fun w' => by go_simp; rfl⟩); simp only [Act.put, List.setIfInBounds_toArray, List.set_cons_succ, List.set_cons_zero, List.getElem_toArray, List.getElem_cons_succ, List.getElem_cons_zero]
                (apply wpAnyF_pure (i := 16) rfl (by kernel_rfl) (fun _ _ _ h => h); · first | exact .inr ⟨rfl, rfl⟩ | exact .inl ⟨rfl, fun w' => by go_simp; rfl⟩); simp only [Act.put, List.setIfInBounds_toArray, List.set_cons_succ, List.set_cons_zero, List.getElem_toArray, List.getElem_cons_succ, List.getElem_cons_zero]
                (apply wpAnyF_pure (i := 17) rfl (by kernel_rfl) (fun _ _ _ h => h); · first | exact .inr ⟨rfl, rfl⟩ | exact .inl ⟨rfl, fun w' => by go_simp; rfl⟩); simp only [Act.put, List.setIfInBounds_toArray, List.set_cons_succ, List.set_cons_zero, List.getElem_toArray, List.getElem_cons_succ, List.getElem_cons_zero]
                (apply wpAnyF_held (i := 18) rfl (by kernel_rfl) (fun _ _ _ h => h) hS.out; · first | exact .inr ⟨rfl, rfl⟩ | exact .inl ⟨rfl, fun w' hS' => by (obtain ⟨s1, s2, s3, s4⟩ := hS'; go_simp; rfl)⟩); simp only [Act.put, List.setIfInBounds_toArray, List.set_cons_succ, List.set_cons_zero, List.getElem_toArray, List.getElem_cons_succ, List.getElem_cons_zero]
                (apply wpAnyF_pure (i := 19) rfl (by kernel_rfl) (fun _ _ _ h => h); · first | exact .inr ⟨rfl, rfl⟩ | exact .inl ⟨rfl, fun w' => by go_simp; rfl⟩); simp only [Act.put, List.setIfInBounds_toArray, List.set_cons_succ, List.set_cons_zero, List.getElem_toArray, List.getElem_cons_succ, List.getElem_cons_zero]
                (apply wpAnyF_pure (i := 20) rfl (by kernel_rfl) (fun _ _ _ h => h); · first | exact .inr ⟨rfl, rfl⟩ | exact .inl ⟨rfl, fun w' => by go_simp; rfl⟩); simp only [Act.put, List.setIfInBounds_toArray, List.set_cons_succ, List.set_cons_zero, List.getElem_toArray, List.getElem_cons_succ, List.getElem_cons_zero]
                (apply wpAnyF_pure (i := 21) rfl (by kernel_rfl) (fun _ _ _ h => h); · first | exact .inr ⟨rfl, rfl⟩ | exact .inl ⟨rfl, fun w' => by go_simp; rfl⟩); simp only [Act.put, List.setIfInBounds_toArray, List.set_cons_succ, List.set_cons_zero, List.getElem_toArray, List.getElem_cons_succ, List.getElem_cons_zero]
                (apply wpAnyF_held (i := 22) rfl (by kernel_rfl) (fun _ _ _ h => h) hS.out; · first | exact .inr ⟨rfl, rfl⟩ | exact .inl ⟨rfl, fun w' hS' => by (obtain ⟨s1, s2, s3, s4⟩ := hS'; go_simp; rfl)⟩); simp only [Act.put, List.setIfInBounds_toArray, List.set_cons_succ, List.set_cons_zero, List.getElem_toArray, List.getElem_cons_succ, List.getElem_cons_zero]
                (apply wpAnyF_pure (i := 23) rfl (by kernel_rfl) (fun _ _ _ h => h); · first | exact .inr ⟨rfl, rfl⟩ | exact .inl ⟨rfl, fun w' => by go_simp; rfl⟩); simp only [Act.put, List.setIfInBounds_toArray, List.set_cons_succ, List.set_cons_zero, List.getElem_toArray, List.getElem_cons_succ, List.getElem_cons_zero]
                (apply wpAnyF_pure (i := 24) rfl (by kernel_rfl) (fun _ _ _ h => h); · first | exact .inr ⟨rfl, rfl⟩ | exact .inl ⟨rfl, fun w' => by go_simp; rfl⟩); simp only [Act.put, List.setIfInBounds_toArray, List.set_cons_succ, List.set_cons_zero, List.getElem_toArray, List.getElem_cons_succ, List.getElem_cons_zero]
                (apply wpAnyF_pure (i := 25) rfl (by kernel_rfl) (fun _ _ _ h => h); · first | exact .inr ⟨rfl, rfl⟩ | exact .inl ⟨rfl, fun w' => by go_simp; rfl⟩); simp only [Act.put, List.setIfInBounds_toArray, List.set_cons_succ, List.set_cons_zero, List.getElem_toArray, List.getElem_cons_succ, List.getElem_cons_zero]
                refine wpAnyF_one (i := 26) rfl ⟨by kernel_rfl, by kernel_rfl⟩ ?_
                intro K hK
                go_simp
                refine shutN hK (by kernel_rfl) ?_
                refine wpAnyF_done (by kernel_rfl) ?_ _
                clear hS
                go_wp2_with fail
                refine ⟨REL.out _ _ ⟨rfl, rfl, rfl, rfl⟩ ?_, by simp [intOf]⟩
                have h0 := DD.out
                rw [if_pos HEQ.out] at h0
                split <;> split <;> omega
              · have hne : (a[i] != b[k]) = true := by simp [he]
                have HEQ := hid he; clear he
                go_wp2_with fail
                go_big_quiet (fail)
                go_wp2_with fail
                refine wp_region_F [3, 10, 13, 18, 22] (fun w' => w'.cell? ⟨w.heap.size, i, none⟩ = some (.slice (some ⟨X, 0, none⟩) (b.length + 1) (b.length + 1)) ∧ w'.cell? ⟨w.heap.size, i + 1, none⟩ = some (.slice (some ⟨R1, 0, none⟩) (b.length + 1) (b.length + 1)) ∧ w'.cell? ⟨R1, k, none⟩ = some (.int .i64 (dd a b (i + 1) k : Int)) ∧ w'.cell? ⟨X, k + 1, none⟩ = some (.int .i64 (dd a b i (k + 1) : Int))) hm ⟨by go_simp, by go_simp, by go_simp, by go_simp⟩ ?_
                intro hS0; have hS := hid hS0; clear hS0
                (apply wpAnyF_pure (i := 0) rfl (by kernel_rfl) (fun _ _ _ h => h); · first | exact .inr ⟨rfl, rfl⟩ | exact .inl ⟨rfl, fun w' => by go_simp; rfl⟩); simp only [Act.put, List.setIfInBounds_toArray, List.set_cons_succ, List.set_cons_zero, List.getElem_toArray, List.getElem_cons_succ, List.getElem_cons_zero]
                (apply wpAnyF_pure (i := 1) rfl (by kernel_rfl) (fun _ _ _ h => h); · first | exact .inr ⟨rfl, rfl⟩ | exact .inl ⟨rfl, fun w' => by go_simp; rfl⟩); simp only [Act.put, List.setIfInBounds_toArray, List.set_cons_succ, List.set_cons_zero, List.getElem_toArray, List.getElem_cons_succ, List.getElem_cons_zero]
                (apply wpAnyF_pure (i := 2) rfl (by kernel_rfl) (fun _ _ _ h => h); · first | exact .inr ⟨rfl, rfl⟩ | exact .inl ⟨rfl, fun w' => by go_simp; rfl⟩); simp only [Act.put, List.setIfInBounds_toArray, List.set_cons_succ, List.set_cons_zero, List.getElem_toArray, List.getElem_cons_succ, List.getElem_cons_zero]
                (apply wpAnyF_held (i := 3) rfl (by kernel_rfl) (fun _ _ _ h => h) hS.out; · first | exact .inr ⟨rfl, rfl⟩ | exact .inl ⟨rfl, fun w' hS' => by (obtain ⟨s1, s2, s3, s4⟩ := hS'; go_simp; rfl)⟩); simp only [Act.put, List.setIfInBounds_toArray, List.set_cons_succ, List.set_cons_zero, List.getElem_toArray, List.getElem_cons_succ, List.getElem_cons_zero]
                (apply wpAnyF_pure (i := 4) rfl (by kernel_rfl) (fun _ _ _ h => h); · first | exact .inr ⟨rfl, rfl⟩ | exact .inl ⟨rfl, fun w' => by go_simp; rfl⟩); simp only [Act.put, List.setIfInBounds_toArray, List.set_cons_succ, List.set_cons_zero, List.getElem_toArray, List.getElem_cons_succ, List.getElem_cons_zero]
                (apply wpAnyF_pure (i := 5) rfl (by kernel_rfl) (fun _ _ _ h => h); · first | exact .inr ⟨rfl, rfl⟩ | exact .inl ⟨rfl, fun w' => by go_simp; rfl⟩); simp only [Act.put, List.setIfInBounds_toArray, List.set_cons_succ, List.set_cons_zero, List.getElem_toArray, List.getElem_cons_succ, List.getElem_cons_zero]
                (apply wpAnyF_pure (i := 6) rfl (by kernel_rfl) (fun _ _ _ h => h); · first | exact .inr ⟨rfl, rfl⟩ | exact .inl ⟨rfl, fun w' => by go_simp; rfl⟩); simp only [Act.put, List.setIfInBounds_toArray, List.set_cons_succ, List.set_cons_zero, List.getElem_toArray, List.getElem_cons_succ, List.getElem_cons_zero]
                (apply wpAnyF_pure (i := 7) rfl (by kernel_rfl) (fun _ _ _ h => h); · first | exact .inr ⟨rfl, rfl⟩ | exact .inl ⟨rfl, fun w' => by go_simp; rfl⟩); simp only [Act.put, List.setIfInBounds_toArray, List.set_cons_succ, List.set_cons_zero, List.getElem_toArray, List.getElem_cons_succ, List.getElem_cons_zero]
                (apply wpAnyF_pure (i := 8) rfl (by kernel_rfl) (fun _ _ _ h => h); · first | exact .inr ⟨rfl, rfl⟩ | exact .inl ⟨rfl, fun w' => by go_simp; rfl⟩); simp only [Act.put, List.setIfInBounds_toArray, List.set_cons_succ, List.set_cons_zero, List.getElem_toArray, List.getElem_cons_succ, List.getElem_cons_zero]
                (apply wpAnyF_pure (i := 9) rfl (by kernel_rfl) (fun _ _ _ h => h); · first | exact .inr ⟨rfl, rfl⟩ | exact .inl ⟨rfl, fun w' => by go_simp; rfl⟩); simp only [Act.put, List.setIfInBounds_toArray, List.set_cons_succ, List.set_cons_zero, List.getElem_toArray, List.getElem_cons_succ, List.getElem_cons_zero]
                (apply wpAnyF_held (i := 10) rfl (by kernel_rfl) (fun _ _ _ h => h) hS.out; · first | exact .inr ⟨rfl, rfl⟩ | exact .inl ⟨rfl, fun w' hS' => by (obtain ⟨s1, s2, s3, s4⟩ := hS'; go_simp; rfl)⟩); simp only [Act.put, List.setIfInBounds_toArray, List.set_cons_succ, List.set_cons_zero, List.getElem_toArray, List.getElem_cons_succ, List.getElem_cons_zero]
                (apply wpAnyF_pure (i := 11) rfl (by kernel_rfl) (fun _ _ _ h => h); · first | exact .inr ⟨rfl, rfl⟩ | exact .inl ⟨rfl, fun w' => by go_simp; rfl⟩); simp only [Act.put, List.setIfInBounds_toArray, List.set_cons_succ, List.set_cons_zero, List.getElem_toArray, List.getElem_cons_succ, List.getElem_cons_zero]
                (apply wpAnyF_pure (i := 12) rfl (by kernel_rfl) (fun _ _ _ h => h); · first | exact .inr ⟨rfl, rfl⟩ | exact .inl ⟨rfl, fun w' => by go_simp; rfl⟩); simp only [Act.put, List.setIfInBounds_toArray, List.set_cons_succ, List.set_cons_zero, List.getElem_toArray, List.getElem_cons_succ, List.getElem_cons_zero]
                (apply wpAnyF_held (i := 13) rfl (by kernel_rfl) (fun _ _ _ h => h) hS.out; · first | exact .inr ⟨rfl, rfl⟩ | exact .inl ⟨rfl, fun w' hS' => by (obtain ⟨s1, s2, s3, s4⟩ := hS'; go_simp; rfl)⟩); simp only [Act.put, List.setIfInBounds_toArray, List.set_cons_succ, List.set_cons_zero, List.getElem_toArray, List.getElem_cons_succ, List.getElem_cons_zero]
                (apply wpAnyF_pure (i := 14) rfl (by kernel_rfl) (fun _ _ _ h => h); · first | exact .inr ⟨rfl, rfl⟩ | exact .inl ⟨rfl, fun w' => by go_simp; rfl⟩); simp only [Act.put, List.setIfInBounds_toArray, List.set_cons_succ, List.set_cons_zero, List.getElem_toArray, List.getElem_cons_succ, List.getElem_cons_zero]
                (apply wpAnyF_pure (i := 15) rfl (by kernel_rfl) (fun _ _ _ h => h); · first | exact .inr ⟨rfl, rfl⟩ | exact .inl ⟨rfl, fun w' => by go_simp; rfl⟩); simp only [Act.put, List.setIfInBounds_toArray, List.set_cons_succ, List.set_cons_zero, List.getElem_toArray, List.getElem_cons_succ, List.getElem_cons_zero]
                (apply wpAnyF_pure (i := 16) rfl (by kernel_rfl) (fun _ _ _ h => h); · first | exact .inr ⟨rfl, rfl⟩ | exact .inl ⟨rfl, fun w' => by go_simp; rfl⟩); simp only [Act.put, List.setIfInBounds_toArray, List.set_cons_succ, List.set_cons_zero, List.getElem_toArray, List.getElem_cons_succ, List.getElem_cons_zero]
                (apply wpAnyF_pure (i := 17) rfl (by kernel_rfl) (fun _ _ _ h => h); · first | exact .inr ⟨rfl, rfl⟩ | exact .inl ⟨rfl, fun w' => by go_simp; rfl⟩); simp only [Act.put, List.setIfInBounds_toArray, List.set_cons_succ, List.set_cons_zero, List.getElem_toArray, List.getElem_cons_succ, List.getElem_cons_zero]
                (apply wpAnyF_held (i := 18) rfl (by kernel_rfl) (fun _ _ _ h => h) hS.out; · first | exact .inr ⟨rfl, rfl⟩ | exact .inl ⟨rfl, fun w' hS' => by (obtain ⟨s1, s2, s3, s4⟩ := hS'; go_simp; rfl)⟩); simp only [Act.put, List.setIfInBounds_toArray, List.set_cons_succ, List.set_cons_zero, List.getElem_toArray, List.getElem_cons_succ, List.getElem_cons_zero]
                (apply wpAnyF_pure (i := 19) rfl (by kernel_rfl) (fun _ _ _ h => h); · first | exact .inr ⟨rfl, rfl⟩ | exact .inl ⟨rfl, fun w' => by go_simp; rfl⟩); simp only [Act.put, List.setIfInBounds_toArray, List.set_cons_succ, List.set_cons_zero, List.getElem_toArray, List.getElem_cons_succ, List.getElem_cons_zero]
                (apply wpAnyF_pure (i := 20) rfl (by kernel_rfl) (fun _ _ _ h => h); · first | exact .inr ⟨rfl, rfl⟩ | exact .inl ⟨rfl, fun w' => by go_simp; rfl⟩); simp only [Act.put, List.setIfInBounds_toArray, List.set_cons_succ, List.set_cons_zero, List.getElem_toArray, List.getElem_cons_succ, List.getElem_cons_zero]
                (apply wpAnyF_pure (i := 21) rfl (by kernel_rfl) (fun _ _ _ h => h); · first | exact .inr ⟨rfl, rfl⟩ | exact .inl ⟨rfl, fun w' => by go_simp; rfl⟩); simp only [Act.put, List.setIfInBounds_toArray, List.set_cons_succ, List.set_cons_zero, List.getElem_toArray, List.getElem_cons_succ, List.getElem_cons_zero]
                (apply wpAnyF_held (i := 22) rfl (by kernel_rfl) (fun _ _ _ h => h) hS.out; · first | exact .inr ⟨rfl, rfl⟩ | exact .inl ⟨rfl, fun w' hS' => by (obtain ⟨s1, s2, s3, s4⟩ := hS'; go_simp; rfl)⟩); simp only [Act.put, List.setIfInBounds_toArray, List.set_cons_succ, List.set_cons_zero, List.getElem_toArray, List.getElem_cons_succ, List.getElem_cons_zero]
                (apply wpAnyF_pure (i := 23) rfl (by kernel_rfl) (fun _ _ _ h => h); · first | exact .inr ⟨rfl, rfl⟩ | exact .inl ⟨rfl, fun w' => by go_simp; rfl⟩); simp only [Act.put, List.setIfInBounds_toArray, List.set_cons_succ, List.set_cons_zero, List.getElem_toArray, List.getElem_cons_succ, List.getElem_cons_zero]
                (apply wpAnyF_pure (i := 24) rfl (by kernel_rfl) (fun _ _ _ h => h); · first | exact .inr ⟨rfl, rfl⟩ | exact .inl ⟨rfl, fun w' => by go_simp; rfl⟩); simp only [Act.put, List.setIfInBounds_toArray, List.set_cons_succ, List.set_cons_zero, List.getElem_toArray, List.getElem_cons_succ, List.getElem_cons_zero]
                (apply wpAnyF_pure (i := 25) rfl (by kernel_rfl) (fun _ _ _ h => h); · first | exact .inr ⟨rfl, rfl⟩ | exact .inl ⟨rfl, fun w' => by go_simp; rfl⟩); simp only [Act.put, List.setIfInBounds_toArray, List.set_cons_succ, List.set_cons_zero, List.getElem_toArray, List.getElem_cons_succ, List.getElem_cons_zero]
                refine wpAnyF_one (i := 26) rfl ⟨by kernel_rfl, by kernel_rfl⟩ ?_
                intro K hK
                go_simp
                refine shutN hK (by kernel_rfl) ?_
                refine wpAnyF_done (by kernel_rfl) ?_ _
                clear hS
                go_wp2_with fail
                refine ⟨REL.out _ _ ⟨rfl, rfl, rfl, rfl⟩ ?_, by simp [intOf]⟩
                have h0 := DD.out
                rw [if_neg HEQ.out] at h0
                split <;> split <;> omega
end Go.Proofs.YtihonljdanjfmaaDoor
namespace Go.Proofs.YtihonljdanjfmaaDoor
open Go.RowKit Go.Proofs Go.Shelf
/-- A part of a code. -/
def partC : List Bool → Code → Code
  | [], c => c
  | false :: p, .seq a _ => partC p a
  | true :: p, .seq _ b => partC p b
  | false :: p, .cond _ a _ => partC p a
  | true :: p, .cond _ _ b => partC p b
  | _ :: p, .block _ a => partC p a
  | _ :: p, .loop a => partC p a
  | _ :: p, .scope a => partC p a
  | false :: p, .rangeFunc _ _ a _ => partC p a
  | true :: p, .rangeFunc _ _ _ b => partC p b
  | _ :: _, c => c
def subC (p : List Bool) (c : Option Code) : Code := partC p (c.getD .skip)
/-- The code with another part in that place. -/
def putC : List Bool → Code → Code → Code
  | [], t, _ => t
  | false :: p, t, .seq a b => .seq (putC p t a) b
  | true :: p, t, .seq a b => .seq a (putC p t b)
  | false :: p, t, .cond c a b => .cond c (putC p t a) b
  | true :: p, t, .cond c a b => .cond c a (putC p t b)
  | _ :: p, t, .block n a => .block n (putC p t a)
  | _ :: p, t, .loop a => .loop (putC p t a)
  | _ :: p, t, .scope a => .scope (putC p t a)
  | _ :: _, _, c => c
/-- Row r of the table of spans lies in the outer block's cells. -/
def SRow (sp : Nat → Nat → Int × Int) (W : World) (cs : Array Value) (m O X : Nat) (r : Nat) : Prop := ∃ R rs, cs[r]? = some (.slice (some ⟨R, 0, none⟩) (m + 1) (m + 1)) ∧ R < X ∧ R ≠ O ∧ Box W R rs 134 ∧ rs.size = 2 * (m + 1) ∧ ∀ k, k ≤ m → rs[k * 2]? = some (.int .i64 (sp r k).1) ∧ rs[k * 2 + 1]? = some (.int .i64 (sp r k).2)
theorem SRow.keep {sp : Nat → Nat → Int × Int} {W W' : World} {cs cs' : Array Value} {m O X X' r : Nat} (h : SRow sp W cs m O X r) (hc : cs'[r]? = cs[r]?) (hX : X ≤ X') (hk : ∀ k, k < X → k ≠ O → k < W.heap.size → W'.heap[k]? = W.heap[k]?) : SRow sp W' cs' m O X' r := by
  obtain ⟨R, rs, h1, h2, h3, h4, h5, h6⟩ := h
  exact ⟨R, rs, hc.trans h1, by omega, h3, (hk R h2 h3 h4.lt).trans h4, h5, h6⟩
theorem infoSRow : (Tryd.prog.info? 237).map (fun i => (i.zero, i.size, i.bytes)) = some (some (.slice none 0 0), 1, 24) := by kernel_rfl
/-- In the inner loop. -/
structure RcI (sp : Nat → Nat → Int × Int) (w1 : World) (n m O X i : Nat) (cs : Array Value) (rs : Array Value) (l : Nat) (V : World) : Prop where
  o : Box V O cs 237
  rows : ∀ r, i + 1 ≤ r → r ≤ n → SRow sp V cs m O X r
  bel : Below w1.heap.size w1 V
  x : Box V X rs 134
  sz : rs.size = 2 * (m + 1)
  got : ∀ k, l ≤ k → k ≤ m → rs[k * 2]? = some (.int .i64 (sp i k).1) ∧ rs[k * 2 + 1]? = some (.int .i64 (sp i k).2)
theorem RcI.keep {sp : Nat → Nat → Int × Int} {w1 V V' : World} {n m O X i l Y : Nat} {cs rs : Array Value} (h : RcI sp w1 n m O X i cs rs l V) (hO : O < Y) (hX : X < Y) (h1 : w1.heap.size ≤ Y) (kp : Keep (· < Y) V V') : RcI sp w1 n m O X i cs rs l V' :=
  ⟨kp.box hO h.o, fun r g1 g2 => (h.rows r g1 g2).keep rfl (Nat.le_refl _) (fun k hk _ hv => kp.block k hv (show k < Y by omega)), h.bel.trans (kp.below (fun b hb => show b < Y by omega) h.bel.size), kp.box hX h.x, h.sz, h.got⟩
/-- In a round of the inner loop: what the registers hold. -/
def StP (a : Tl) (W : Int → Int) (w w1 : World) (OT O X Y i k : Nat) (cs rs : Array Value) (xs : List St) (ex : (Nat → Value) → Prop) (a' : Act) (V : World) : Prop := ∃ (first : Bool) (s : Int × Int) (f : Nat → Value), a' = ⟨((List.range 220).map f).toArray, []⟩ ∧
  (f 2 = .pointer (some ⟨w.heap.size, 0, none⟩) ∧ f 3 = .pointer (some ⟨w.heap.size + 1, 0, none⟩) ∧ f 4 = .pointer (some ⟨w.heap.size + 1 + 1, 0, none⟩) ∧ f 5 = .slice (some ⟨OT, 0, none⟩) (a.st.length + 1) (a.st.length + 1) ∧ f 6 = .int .i64 a.st.length ∧ f 7 = .int .i64 a.fo.length ∧ f 8 = .slice (some ⟨O, 0, none⟩) (a.st.length + 1) (a.st.length + 1) ∧ f 9 = .int .i64 i ∧ f 10 = .int .i64 k ∧ f 11 = .pointer (some ⟨Y, 0, none⟩) ∧ f 12 = .bool first) ∧
  ex f ∧ RcI (fun r k => spanF W (a.st.drop r) (a.fo.drop k)) w1 a.st.length a.fo.length O X i cs rs (k + 1) V ∧ Y < V.heap.size ∧ Box V Y #[.int .i64 s.1, .int .i64 s.2] 134 ∧ AccW W (ByS a xs) s first
theorem RcI.same {sp : Nat → Nat → Int × Int} {w1 V V' : World} {n m O X i l : Nat} {cs rs : Array Value} (h : RcI sp w1 n m O X i cs rs l V) (k : Keep (fun _ => True) V V') : RcI sp w1 n m O X i cs rs l V' :=
  ⟨k.box trivial h.o, fun r g1 g2 => (h.rows r g1 g2).keep rfl (Nat.le_refl _) (fun k' _ _ hv => k.block k' hv trivial), h.bel.trans (k.below (fun b hb => trivial) h.bel.size), k.box trivial h.x, h.sz, h.got⟩
theorem keep_drewN (V : World) (n : Nat) : Keep (fun _ => True) V (V.drewN n) := by
  have h := below_drewN (Below.refl V.heap.size V) n
  exact ⟨h.os, h.tape, h.output, h.size, fun k hk _ => h.block k hk⟩
end Go.Proofs.YtihonljdanjfmaaDoor
namespace Go.Proofs.YtihonljdanjfmaaDoor
open Go.RowKit Go.Proofs Go.Shelf
theorem okN_le {xs : List Int} (h : okN xs = true) {i : Nat} (hi : i < xs.length) : xs[i] ≤ 4 := by
  unfold okN at h
  rw [List.all_eq_true] at h
  have := h _ (List.getElem_mem hi)
  simp at this
  omega
set_option maxRecDepth 20000 in
set_option maxHeartbeats 4000000 in
theorem refC1 (a : Tl) (W : Int → Int) (sa fa : Option Addr) (sc fc : Nat) (w w1 : World) (OT O X Y i k : Nat) (cs rs : Array Value) (xs : List St) (hl : a.st.length ≤ 1000) (hl2 : a.fo.length ≤ 1000) (o1 : okN a.st = true) (o2 : okN a.fo = true) (w0 : Hid (W 0 = 0)) (wb : ∀ n, -1000 ≤ W n ∧ W n ≤ 1000) (H1 : Hid (RdI w1 sa a.st)) (H2 : Hid (RdI w1 fa a.fo))
    (BX : Hid (Box w1 w.heap.size (#[.int .i64 a.id, .int .i64 a.hs, .slice sa a.st.length sc, .slice fa a.fo.length fc]) 68)) (BW : Hid (Box w1 (w.heap.size + 1) (#[.int .i64 (W 0), .int .i64 (W 1), .int .i64 (W 2), .int .i64 (W 3), .int .i64 (W 4)]) 221)) (TT : Hid (Tbl w1 OT a.st a.fo)) (hi : i ≤ a.st.length) (hk : k ≤ a.fo.length) (hOX : O < X) (hXY : X < Y) (h1 : w1.heap.size ≤ O) (a' : Act) (V : World)
    (h : StP a W w w1 OT O X Y i k cs rs xs (fun _ => True) a' V) : ((subC [true, true, true, true, false, true, false, false, true, false, false, true, true, false, false, true, false, false, true, true, false] Tryd.f155.body)).wp Tryd.prog (NormP (StP a W w w1 OT O X Y i k cs rs (xs ++ (step1 a.st a.fo i k).filter (isBest a.st a.fo i k)) (fun _ => True))) a' V := by
  have hm := mixedS
  obtain ⟨first, s, f, rfl, ⟨f2, f3, f4, f5, f6, f7, f8, f9, f10, f11, f12⟩, -, hI, hYV, bY, hacc⟩ := h
  rw [show (List.range 220).map f = [f 0, f 1, f 2, f 3, f 4, f 5, f 6, f 7, f 8, f 9, f 10, f 11, f 12, f 13, f 14, f 15, f 16, f 17, f 18, f 19, f 20, f 21, f 22, f 23, f 24, f 25, f 26, f 27, f 28, f 29, f 30, f 31, f 32, f 33, f 34, f 35, f 36, f 37, f 38, f 39, f 40, f 41, f 42, f 43, f 44, f 45, f 46, f 47, f 48, f 49, f 50, f 51, f 52, f 53, f 54, f 55, f 56, f 57, f 58, f 59, f 60, f 61, f 62, f 63, f 64, f 65, f 66, f 67, f 68, f 69, f 70, f 71, f 72, f 73, f 74, f 75, f 76, f 77, f 78, f 79, f 80, f 81, f 82, f 83, f 84, f 85, f 86, f 87, f 88, f 89, f 90, f 91, f 92, f 93, f 94, f 95, f 96, f 97, f 98, f 99, f 100, f 101, f 102, f 103, f 104, f 105, f 106, f 107, f 108, f 109, f 110, f 111, f 112, f 113, f 114, f 115, f 116, f 117, f 118, f 119, f 120, f 121, f 122, f 123, f 124, f 125, f 126, f 127, f 128, f 129, f 130, f 131, f 132, f 133, f 134, f 135, f 136, f 137, f 138, f 139, f 140, f 141, f 142, f 143, f 144, f 145, f 146, f 147, f 148, f 149, f 150, f 151, f 152, f 153, f 154, f 155, f 156, f 157, f 158, f 159, f 160, f 161, f 162, f 163, f 164, f 165, f 166, f 167, f 168, f 169, f 170, f 171, f 172, f 173, f 174, f 175, f 176, f 177, f 178, f 179, f 180, f 181, f 182, f 183, f 184, f 185, f 186, f 187, f 188, f 189, f 190, f 191, f 192, f 193, f 194, f 195, f 196, f 197, f 198, f 199, f 200, f 201, f 202, f 203, f 204, f 205, f 206, f 207, f 208, f 209, f 210, f 211, f 212, f 213, f 214, f 215, f 216, f 217, f 218, f 219] from rfl, f2, f3, f4, f5, f6, f7, f8, f9, f10, f11, f12]
  clear f2 f3 f4 f5 f6 f7 f8 f9 f10 f11 f12
  have II := hid hI; have BY := hid bY; have AC := hid hacc
  have TR : ∀ i k, i ≤ a.st.length → k ≤ a.fo.length → ∃ R, V.cell? ⟨OT, i, none⟩ = some (.slice (some ⟨R, 0, none⟩) (a.fo.length + 1) (a.fo.length + 1)) ∧ V.cell? ⟨R, k, none⟩ = some (.int .i64 (dd a.st a.fo i k : Int)) := fun i k hi hk => by
    obtain ⟨R, r1, r2⟩ := TT.out i hi
    exact ⟨R, (hI.bel.cell (cell_lt r1)).trans r1, (hI.bel.cell (cell_lt (r2 k hk))).trans (r2 k hk)⟩
  have TR := hid TR
  clear hI bY hacc
  have tc1 : (i : Int) < (a.st.length : Int) + 1 := by omega
  have tc2 : (k : Int) < (a.fo.length : Int) + 1 := by omega
  have wi := wrap_small (n := (i : Int) + 1) (by omega) (by omega)
  have wk := wrap_small (n := (k : Int) + 1) (by omega) (by omega)
  dsimp only [subC, Tryd.f155, Option.getD_some, partC]
  by_cases hin : i < a.st.length
  · by_cases hkn : k < a.fo.length
    · obtain ⟨Ra, ra1, ra2⟩ := TR.out i k hi hk
      obtain ⟨Rc, rc1, rc2⟩ := TR.out (i + 1) (k + 1) hin hkn
      have dl1 := dd_le a.st a.fo (i + 1) (k + 1) (by omega) (by omega)
      have w4 := wrap_small (n := (dd a.st a.fo (i + 1) (k + 1) : Int) + 1) (by omega) (by omega)
      have td1 : (i : Int) + 1 < (a.st.length : Int) + 1 := by omega
      have td2 : (k : Int) + 1 < (a.fo.length : Int) + 1 := by omega
      obtain ⟨ab, ao, rfl, ca⟩ := (H1.out.below II.out.bel) i hin
      obtain ⟨bb, bo, rfl, cb⟩ := (H2.out.below II.out.bel) k hkn
      have e5 : V.cell? ⟨w.heap.size, 2, none⟩ = some (.slice (some ⟨ab, ao, none⟩) a.st.length sc) := (BX.out.below II.out.bel BX.out.lt).cell 2
      have e7 : V.cell? ⟨w.heap.size, 3, none⟩ = some (.slice (some ⟨bb, bo, none⟩) a.fo.length fc) := (BX.out.below II.out.bel BX.out.lt).cell 3
      have hx1 := step1_yes hin hkn
      have hsm : a.st[i] = a.fo[k] → dd a.st a.fo i k = dd a.st a.fo (i + 1) (k + 1) := dd_same hin hkn
      have n4 := okN_pos o1 hin; have m4 := okN_pos o2 hkn
      have n5 := okN_le o1 hin; have m5 := okN_le o2 hkn
      obtain ⟨p, hp⟩ : ∃ p, a.st[i] = p := ⟨_, rfl⟩
      obtain ⟨q, hq⟩ : ∃ q, a.fo[k] = q := ⟨_, rfl⟩
      rw [hp] at ca n4 n5 hsm hx1
      rw [hq] at cb m4 m5 hsm hx1
      have HX1 := hid hx1; have HSM := hid hsm
      have pb0 : 0 ≤ p := by omega
      have pb1 : p < 5 := by omega
      have qb0 : 0 ≤ q := by omega
      have qb1 : q < 5 := by omega
      clear hp hq hx1 hsm
      obtain ⟨R', rs', g1, g2, g3, g4, g5, g6⟩ := II.out.rows (i + 1) (Nat.le_refl _) hin
      have XB := II.out.bel
      have e0 : V.cell? ⟨Y, 0, none⟩ = some (.int .i64 s.1) := BY.out.cell 0
      have e1 : V.cell? ⟨Y, 1, none⟩ = some (.int .i64 s.2) := BY.out.cell 1
      have e2 : V.cell? ⟨O, i + 1, none⟩ = some (.slice (some ⟨R', 0, none⟩) (a.fo.length + 1) (a.fo.length + 1)) := (II.out.o.cell (i + 1)).trans g1
      have e3 : V.cell? ⟨R', (k + 1) * 2, none⟩ = some (.int .i64 (spanF W (a.st.drop (i + 1)) (a.fo.drop (k + 1))).1) := (g4.cell _).trans (g6 (k + 1) hkn).1
      have e4 : V.cell? ⟨R', (k + 1) * 2 + 1, none⟩ = some (.int .i64 (spanF W (a.st.drop (i + 1)) (a.fo.drop (k + 1))).2) := (g4.cell _).trans (g6 (k + 1) hkn).2
      have ew : ∀ n : Int, 0 < n → n ≤ 4 → V.cell? ⟨w.heap.size + 1, n.toNat, none⟩ = some (.int .i64 (W n)) := fun n h1 h2 => by
        refine ((BW.out.below XB BW.out.lt).cell n.toNat).trans ?_
        have hh : n = 1 ∨ n = 2 ∨ n = 3 ∨ n = 4 := by omega
        rcases hh with rfl | rfl | rfl | rfl <;> rfl
      have e6 := ew p n4 n5
      have e8 := ew q m4 m5
      have sat := span_at w0.out o1 o2 (show i + 1 ≤ a.st.length from hin) (show k + 1 ≤ a.fo.length from hkn)
      have sb := span_bound wb (by simp; omega) (by simp; omega) sat
      obtain ⟨t, ht⟩ : ∃ t, spanF W (a.st.drop (i + 1)) (a.fo.drop (k + 1)) = t := ⟨_, rfl⟩
      rw [ht] at e3 e4 sat sb
      have SAT := hid sat
      have wbp := wb p; have wbq := wb q
      have lY := BY.out.lt
      clear g1 g2 g3 g4 g5 g6 ht sat XB ew
      by_cases he : p = q
      · have hd : dd a.st a.fo i k = dd a.st a.fo (i + 1) (k + 1) := HSM.out he
        have hx : (step1 a.st a.fo i k) = [⟨i + 1, k + 1, p, q, 0⟩] := by rw [HX1.out, if_pos he]
        have hx2 := hid hx
        have hq1 : (p == q) = true := by simp [he]
        have hq2 : ((dd a.st a.fo i k : Int) == (dd a.st a.fo (i + 1) (k + 1) : Int)) = true := by rw [hd]; simp
        have HD := hid hd; clear hd he hx
        go_wp2_with fail
        go_big_quiet (fail)
        go_wp2_with fail
        go_big_quiet (fail)
        go_wp2_with fail
        refine wp_region_F [0, 5, 9, 12, 15] (fun w' => w'.cell? ⟨Y, 0, none⟩ = some (.int .i64 s.1) ∧ w'.cell? ⟨Y, 1, none⟩ = some (.int .i64 s.2) ∧ w'.cell? ⟨O, i + 1, none⟩ = some (.slice (some ⟨R', 0, none⟩) (a.fo.length + 1) (a.fo.length + 1)) ∧ w'.cell? ⟨R', (k + 1) * 2, none⟩ = some (.int .i64 t.1) ∧ w'.cell? ⟨R', (k + 1) * 2 + 1, none⟩ = some (.int .i64 t.2) ∧ w'.cell? ⟨w.heap.size + 1, p.toNat, none⟩ = some (.int .i64 (W p)) ∧ w'.cell? ⟨w.heap.size + 1, q.toNat, none⟩ = some (.int .i64 (W q))) hm ⟨by go_simp, by go_simp, by go_simp, by go_simp, by go_simp, by go_simp, by go_simp⟩ ?_
        intro hS0; have hS := hid hS0; clear hS0
        (apply wpAnyF_held (i := 0) rfl (by kernel_rfl) (fun _ _ _ h => h) hS.out; · first | exact .inr ⟨rfl, rfl⟩ | exact .inl ⟨rfl, fun w' hS' => by (obtain ⟨s1, s2, s3, s4, s5, s6, s7⟩ := hS'; go_simp; rfl)⟩); simp only [Act.put, List.setIfInBounds_toArray, List.set_cons_succ, List.set_cons_zero, List.getElem_toArray, List.getElem_cons_succ, List.getElem_cons_zero]
        (apply wpAnyF_pure (i := 1) rfl (by kernel_rfl) (fun _ _ _ h => h); · first | exact .inr ⟨rfl, rfl⟩ | exact .inl ⟨rfl, fun w' => by go_simp; rfl⟩); simp only [Act.put, List.setIfInBounds_toArray, List.set_cons_succ, List.set_cons_zero, List.getElem_toArray, List.getElem_cons_succ, List.getElem_cons_zero]
        (apply wpAnyF_pure (i := 2) rfl (by kernel_rfl) (fun _ _ _ h => h); · first | exact .inr ⟨rfl, rfl⟩ | exact .inl ⟨rfl, fun w' => by go_simp; rfl⟩); simp only [Act.put, List.setIfInBounds_toArray, List.set_cons_succ, List.set_cons_zero, List.getElem_toArray, List.getElem_cons_succ, List.getElem_cons_zero]
        (apply wpAnyF_pure (i := 3) rfl (by kernel_rfl) (fun _ _ _ h => h); · first | exact .inr ⟨rfl, rfl⟩ | exact .inl ⟨rfl, fun w' => by go_simp; rfl⟩); simp only [Act.put, List.setIfInBounds_toArray, List.set_cons_succ, List.set_cons_zero, List.getElem_toArray, List.getElem_cons_succ, List.getElem_cons_zero]
        (apply wpAnyF_pure (i := 4) rfl (by kernel_rfl) (fun _ _ _ h => h); · first | exact .inr ⟨rfl, rfl⟩ | exact .inl ⟨rfl, fun w' => by go_simp; rfl⟩); simp only [Act.put, List.setIfInBounds_toArray, List.set_cons_succ, List.set_cons_zero, List.getElem_toArray, List.getElem_cons_succ, List.getElem_cons_zero]
        (apply wpAnyF_held (i := 5) rfl (by kernel_rfl) (fun _ _ _ h => h) hS.out; · first | exact .inr ⟨rfl, rfl⟩ | exact .inl ⟨rfl, fun w' hS' => by (obtain ⟨s1, s2, s3, s4, s5, s6, s7⟩ := hS'; go_simp; rfl)⟩); simp only [Act.put, List.setIfInBounds_toArray, List.set_cons_succ, List.set_cons_zero, List.getElem_toArray, List.getElem_cons_succ, List.getElem_cons_zero]
        (apply wpAnyF_pure (i := 6) rfl (by kernel_rfl) (fun _ _ _ h => h); · first | exact .inr ⟨rfl, rfl⟩ | exact .inl ⟨rfl, fun w' => by go_simp; rfl⟩); simp only [Act.put, List.setIfInBounds_toArray, List.set_cons_succ, List.set_cons_zero, List.getElem_toArray, List.getElem_cons_succ, List.getElem_cons_zero]
        (apply wpAnyF_pure (i := 7) rfl (by kernel_rfl) (fun _ _ _ h => h); · first | exact .inr ⟨rfl, rfl⟩ | exact .inl ⟨rfl, fun w' => by go_simp; rfl⟩); simp only [Act.put, List.setIfInBounds_toArray, List.set_cons_succ, List.set_cons_zero, List.getElem_toArray, List.getElem_cons_succ, List.getElem_cons_zero]
        (apply wpAnyF_pure (i := 8) rfl (by kernel_rfl) (fun _ _ _ h => h); · first | exact .inr ⟨rfl, rfl⟩ | exact .inl ⟨rfl, fun w' => by go_simp; rfl⟩); simp only [Act.put, List.setIfInBounds_toArray, List.set_cons_succ, List.set_cons_zero, List.getElem_toArray, List.getElem_cons_succ, List.getElem_cons_zero]
        (apply wpAnyF_held (i := 9) rfl (by kernel_rfl) (fun _ _ _ h => h) hS.out; · first | exact .inr ⟨rfl, rfl⟩ | exact .inl ⟨rfl, fun w' hS' => by (obtain ⟨s1, s2, s3, s4, s5, s6, s7⟩ := hS'; go_simp; rfl)⟩); simp only [Act.put, List.setIfInBounds_toArray, List.set_cons_succ, List.set_cons_zero, List.getElem_toArray, List.getElem_cons_succ, List.getElem_cons_zero]
        (apply wpAnyF_pure (i := 10) rfl (by kernel_rfl) (fun _ _ _ h => h); · first | exact .inr ⟨rfl, rfl⟩ | exact .inl ⟨rfl, fun w' => by go_simp; rfl⟩); simp only [Act.put, List.setIfInBounds_toArray, List.set_cons_succ, List.set_cons_zero, List.getElem_toArray, List.getElem_cons_succ, List.getElem_cons_zero]
        (apply wpAnyF_pure (i := 11) rfl (by kernel_rfl) (fun _ _ _ h => h); · first | exact .inr ⟨rfl, rfl⟩ | exact .inl ⟨rfl, fun w' => by go_simp; rfl⟩); simp only [Act.put, List.setIfInBounds_toArray, List.set_cons_succ, List.set_cons_zero, List.getElem_toArray, List.getElem_cons_succ, List.getElem_cons_zero]
        (apply wpAnyF_held (i := 12) rfl (by kernel_rfl) (fun _ _ _ h => h) hS.out; · first | exact .inr ⟨rfl, rfl⟩ | exact .inl ⟨rfl, fun w' hS' => by (obtain ⟨s1, s2, s3, s4, s5, s6, s7⟩ := hS'; go_simp; rfl)⟩); simp only [Act.put, List.setIfInBounds_toArray, List.set_cons_succ, List.set_cons_zero, List.getElem_toArray, List.getElem_cons_succ, List.getElem_cons_zero]
        (apply wpAnyF_pure (i := 13) rfl (by kernel_rfl) (fun _ _ _ h => h); · first | exact .inr ⟨rfl, rfl⟩ | exact .inl ⟨rfl, fun w' => by go_simp; rfl⟩); simp only [Act.put, List.setIfInBounds_toArray, List.set_cons_succ, List.set_cons_zero, List.getElem_toArray, List.getElem_cons_succ, List.getElem_cons_zero]
        (apply wpAnyF_pure (i := 14) rfl (by kernel_rfl) (fun _ _ _ h => h); · first | exact .inr ⟨rfl, rfl⟩ | exact .inl ⟨rfl, fun w' => by go_simp; rfl⟩); simp only [Act.put, List.setIfInBounds_toArray, List.set_cons_succ, List.set_cons_zero, List.getElem_toArray, List.getElem_cons_succ, List.getElem_cons_zero]
        (apply wpAnyF_held (i := 15) rfl (by kernel_rfl) (fun _ _ _ h => h) hS.out; · first | exact .inr ⟨rfl, rfl⟩ | exact .inl ⟨rfl, fun w' hS' => by (obtain ⟨s1, s2, s3, s4, s5, s6, s7⟩ := hS'; go_simp; rfl)⟩); simp only [Act.put, List.setIfInBounds_toArray, List.set_cons_succ, List.set_cons_zero, List.getElem_toArray, List.getElem_cons_succ, List.getElem_cons_zero]
        (apply wpAnyF_pure (i := 16) rfl (by kernel_rfl) (fun _ _ _ h => h); · first | exact .inr ⟨rfl, rfl⟩ | exact .inl ⟨rfl, fun w' => by go_simp; rfl⟩); simp only [Act.put, List.setIfInBounds_toArray, List.set_cons_succ, List.set_cons_zero, List.getElem_toArray, List.getElem_cons_succ, List.getElem_cons_zero]
        refine wpAnyF_one (i := 17) rfl ⟨by kernel_rfl, by kernel_rfl⟩ ?_
        intro K hK
        go_simp
        refine (wide_any s t (W p) (W q) first _ (by omega) (by omega) (by omega) (by omega)).mono ?_
        rintro e w5 ⟨rfl, hb5⟩
        have hb : Below V.heap.size V w5 := ⟨hb5.os, hb5.tape, hb5.output, hb5.size, hb5.block⟩
        have B5 := hid (BY.out.below hb BY.out.lt)
        have kb : Keep (· < Y) V w5 := Keep.of_below hb (fun b _ h => by have : b < Y := h; omega)
        have I5 := hid (II.out.keep (Y := Y) (by omega) hXY (by omega) kb)
        refine shutN hK (by kernel_rfl) ?_
        refine wpAnyF_one (i := 18) rfl ⟨by kernel_rfl, by kernel_rfl⟩ ?_
        intro K hK
        have y0 := B5.out.cell 0; have y1 := B5.out.cell 1; have y2 := B5.out.frozen 0; have y3 := B5.out.frozen 1; have y4 := B5.out.lt
        simp only [List.getElem?_toArray, List.getElem?_cons_zero, List.getElem?_cons_succ] at y0 y1
        go_simp
        refine shutN hK (by kernel_rfl) ?_
        (apply wpAnyF_pure (i := 19) rfl (by kernel_rfl) (fun _ _ _ h => h); · first | exact .inr ⟨rfl, rfl⟩ | exact .inl ⟨rfl, fun w' => by go_simp; rfl⟩); simp only [Act.put, List.setIfInBounds_toArray, List.set_cons_succ, List.set_cons_zero, List.getElem_toArray, List.getElem_cons_succ, List.getElem_cons_zero]
        refine wpAnyF_done (by kernel_rfl) ?_ _
        clear hS
        have hbest : isBest a.st a.fo i k ⟨i + 1, k + 1, p, q, 0⟩ = true := by unfold isBest; simp; have := HD.out; omega
        show StP a W w w1 OT O X Y i k cs rs (xs ++ (step1 a.st a.fo i k).filter (isBest a.st a.fo i k)) (fun _ => True) _ _
        refine ⟨false, wideF s t (W p) (W q) first, acts_of' rfl ⟨⟨rfl, rfl, rfl, rfl, rfl, rfl, rfl, rfl, rfl, rfl, rfl⟩, trivial, I5.out.keep (Y := Y) (by omega) hXY (by omega) (((Keep.refl _ _).setCell _ _ (fun _ h => by have : Y < Y := h; omega)).setCell _ _ (fun _ h => by have : Y < Y := h; omega)), by simpa using y4, (B5.out.set 0 _).set 1 _, ?_⟩⟩
        rw [hx2.out, List.filter_cons_of_pos hbest, List.filter_nil]
        have h := AC.out.snoc (x := ⟨i + 1, k + 1, p, q, 0⟩) w0.out (fun m hm => by unfold notchesL at hm; split at hm <;> simp at hm <;> omega) SAT.out
        dsimp only at h
        exact h
      · have hx : (step1 a.st a.fo i k) = [⟨i + 1, k + 1, p, q, 1⟩] := by rw [HX1.out, if_neg he]
        have hx2 := hid hx
        have hq1 : (p == q) = false := by simp [he]
        have hq0 : (p != q) = true := by simp [he]
        clear he hx
        by_cases hd : dd a.st a.fo i k = dd a.st a.fo (i + 1) (k + 1) + 1
        · have hq3 : ((dd a.st a.fo i k : Int) == (dd a.st a.fo (i + 1) (k + 1) : Int) + 1) = true := by rw [hd]; simp
          have HD := hid hd; clear hd
          go_wp2_with fail
          go_big_quiet (fail)
          go_wp2_with fail
          go_big_quiet (fail)
          go_wp2_with fail
          refine wp_region_F [0, 5, 9, 12, 15] (fun w' => w'.cell? ⟨Y, 0, none⟩ = some (.int .i64 s.1) ∧ w'.cell? ⟨Y, 1, none⟩ = some (.int .i64 s.2) ∧ w'.cell? ⟨O, i + 1, none⟩ = some (.slice (some ⟨R', 0, none⟩) (a.fo.length + 1) (a.fo.length + 1)) ∧ w'.cell? ⟨R', (k + 1) * 2, none⟩ = some (.int .i64 t.1) ∧ w'.cell? ⟨R', (k + 1) * 2 + 1, none⟩ = some (.int .i64 t.2) ∧ w'.cell? ⟨w.heap.size + 1, p.toNat, none⟩ = some (.int .i64 (W p)) ∧ w'.cell? ⟨w.heap.size + 1, q.toNat, none⟩ = some (.int .i64 (W q))) hm ⟨by go_simp, by go_simp, by go_simp, by go_simp, by go_simp, by go_simp, by go_simp⟩ ?_
          intro hS0; have hS := hid hS0; clear hS0
          (apply wpAnyF_held (i := 0) rfl (by kernel_rfl) (fun _ _ _ h => h) hS.out; · first | exact .inr ⟨rfl, rfl⟩ | exact .inl ⟨rfl, fun w' hS' => by (obtain ⟨s1, s2, s3, s4, s5, s6, s7⟩ := hS'; go_simp; rfl)⟩); simp only [Act.put, List.setIfInBounds_toArray, List.set_cons_succ, List.set_cons_zero, List.getElem_toArray, List.getElem_cons_succ, List.getElem_cons_zero]
          (apply wpAnyF_pure (i := 1) rfl (by kernel_rfl) (fun _ _ _ h => h); · first | exact .inr ⟨rfl, rfl⟩ | exact .inl ⟨rfl, fun w' => by go_simp; rfl⟩); simp only [Act.put, List.setIfInBounds_toArray, List.set_cons_succ, List.set_cons_zero, List.getElem_toArray, List.getElem_cons_succ, List.getElem_cons_zero]
          (apply wpAnyF_pure (i := 2) rfl (by kernel_rfl) (fun _ _ _ h => h); · first | exact .inr ⟨rfl, rfl⟩ | exact .inl ⟨rfl, fun w' => by go_simp; rfl⟩); simp only [Act.put, List.setIfInBounds_toArray, List.set_cons_succ, List.set_cons_zero, List.getElem_toArray, List.getElem_cons_succ, List.getElem_cons_zero]
          (apply wpAnyF_pure (i := 3) rfl (by kernel_rfl) (fun _ _ _ h => h); · first | exact .inr ⟨rfl, rfl⟩ | exact .inl ⟨rfl, fun w' => by go_simp; rfl⟩); simp only [Act.put, List.setIfInBounds_toArray, List.set_cons_succ, List.set_cons_zero, List.getElem_toArray, List.getElem_cons_succ, List.getElem_cons_zero]
          (apply wpAnyF_pure (i := 4) rfl (by kernel_rfl) (fun _ _ _ h => h); · first | exact .inr ⟨rfl, rfl⟩ | exact .inl ⟨rfl, fun w' => by go_simp; rfl⟩); simp only [Act.put, List.setIfInBounds_toArray, List.set_cons_succ, List.set_cons_zero, List.getElem_toArray, List.getElem_cons_succ, List.getElem_cons_zero]
          (apply wpAnyF_held (i := 5) rfl (by kernel_rfl) (fun _ _ _ h => h) hS.out; · first | exact .inr ⟨rfl, rfl⟩ | exact .inl ⟨rfl, fun w' hS' => by (obtain ⟨s1, s2, s3, s4, s5, s6, s7⟩ := hS'; go_simp; rfl)⟩); simp only [Act.put, List.setIfInBounds_toArray, List.set_cons_succ, List.set_cons_zero, List.getElem_toArray, List.getElem_cons_succ, List.getElem_cons_zero]
          (apply wpAnyF_pure (i := 6) rfl (by kernel_rfl) (fun _ _ _ h => h); · first | exact .inr ⟨rfl, rfl⟩ | exact .inl ⟨rfl, fun w' => by go_simp; rfl⟩); simp only [Act.put, List.setIfInBounds_toArray, List.set_cons_succ, List.set_cons_zero, List.getElem_toArray, List.getElem_cons_succ, List.getElem_cons_zero]
          (apply wpAnyF_pure (i := 7) rfl (by kernel_rfl) (fun _ _ _ h => h); · first | exact .inr ⟨rfl, rfl⟩ | exact .inl ⟨rfl, fun w' => by go_simp; rfl⟩); simp only [Act.put, List.setIfInBounds_toArray, List.set_cons_succ, List.set_cons_zero, List.getElem_toArray, List.getElem_cons_succ, List.getElem_cons_zero]
          (apply wpAnyF_pure (i := 8) rfl (by kernel_rfl) (fun _ _ _ h => h); · first | exact .inr ⟨rfl, rfl⟩ | exact .inl ⟨rfl, fun w' => by go_simp; rfl⟩); simp only [Act.put, List.setIfInBounds_toArray, List.set_cons_succ, List.set_cons_zero, List.getElem_toArray, List.getElem_cons_succ, List.getElem_cons_zero]
          (apply wpAnyF_held (i := 9) rfl (by kernel_rfl) (fun _ _ _ h => h) hS.out; · first | exact .inr ⟨rfl, rfl⟩ | exact .inl ⟨rfl, fun w' hS' => by (obtain ⟨s1, s2, s3, s4, s5, s6, s7⟩ := hS'; go_simp; rfl)⟩); simp only [Act.put, List.setIfInBounds_toArray, List.set_cons_succ, List.set_cons_zero, List.getElem_toArray, List.getElem_cons_succ, List.getElem_cons_zero]
          (apply wpAnyF_pure (i := 10) rfl (by kernel_rfl) (fun _ _ _ h => h); · first | exact .inr ⟨rfl, rfl⟩ | exact .inl ⟨rfl, fun w' => by go_simp; rfl⟩); simp only [Act.put, List.setIfInBounds_toArray, List.set_cons_succ, List.set_cons_zero, List.getElem_toArray, List.getElem_cons_succ, List.getElem_cons_zero]
          (apply wpAnyF_pure (i := 11) rfl (by kernel_rfl) (fun _ _ _ h => h); · first | exact .inr ⟨rfl, rfl⟩ | exact .inl ⟨rfl, fun w' => by go_simp; rfl⟩); simp only [Act.put, List.setIfInBounds_toArray, List.set_cons_succ, List.set_cons_zero, List.getElem_toArray, List.getElem_cons_succ, List.getElem_cons_zero]
          (apply wpAnyF_held (i := 12) rfl (by kernel_rfl) (fun _ _ _ h => h) hS.out; · first | exact .inr ⟨rfl, rfl⟩ | exact .inl ⟨rfl, fun w' hS' => by (obtain ⟨s1, s2, s3, s4, s5, s6, s7⟩ := hS'; go_simp; rfl)⟩); simp only [Act.put, List.setIfInBounds_toArray, List.set_cons_succ, List.set_cons_zero, List.getElem_toArray, List.getElem_cons_succ, List.getElem_cons_zero]
          (apply wpAnyF_pure (i := 13) rfl (by kernel_rfl) (fun _ _ _ h => h); · first | exact .inr ⟨rfl, rfl⟩ | exact .inl ⟨rfl, fun w' => by go_simp; rfl⟩); simp only [Act.put, List.setIfInBounds_toArray, List.set_cons_succ, List.set_cons_zero, List.getElem_toArray, List.getElem_cons_succ, List.getElem_cons_zero]
          (apply wpAnyF_pure (i := 14) rfl (by kernel_rfl) (fun _ _ _ h => h); · first | exact .inr ⟨rfl, rfl⟩ | exact .inl ⟨rfl, fun w' => by go_simp; rfl⟩); simp only [Act.put, List.setIfInBounds_toArray, List.set_cons_succ, List.set_cons_zero, List.getElem_toArray, List.getElem_cons_succ, List.getElem_cons_zero]
          (apply wpAnyF_held (i := 15) rfl (by kernel_rfl) (fun _ _ _ h => h) hS.out; · first | exact .inr ⟨rfl, rfl⟩ | exact .inl ⟨rfl, fun w' hS' => by (obtain ⟨s1, s2, s3, s4, s5, s6, s7⟩ := hS'; go_simp; rfl)⟩); simp only [Act.put, List.setIfInBounds_toArray, List.set_cons_succ, List.set_cons_zero, List.getElem_toArray, List.getElem_cons_succ, List.getElem_cons_zero]
          (apply wpAnyF_pure (i := 16) rfl (by kernel_rfl) (fun _ _ _ h => h); · first | exact .inr ⟨rfl, rfl⟩ | exact .inl ⟨rfl, fun w' => by go_simp; rfl⟩); simp only [Act.put, List.setIfInBounds_toArray, List.set_cons_succ, List.set_cons_zero, List.getElem_toArray, List.getElem_cons_succ, List.getElem_cons_zero]
          refine wpAnyF_one (i := 17) rfl ⟨by kernel_rfl, by kernel_rfl⟩ ?_
          intro K hK
          go_simp
          refine (wide_any s t (W p) (W q) first _ (by omega) (by omega) (by omega) (by omega)).mono ?_
          rintro e w5 ⟨rfl, hb5⟩
          have hb : Below V.heap.size V w5 := ⟨hb5.os, hb5.tape, hb5.output, hb5.size, hb5.block⟩
          have B5 := hid (BY.out.below hb BY.out.lt)
          have kb : Keep (· < Y) V w5 := Keep.of_below hb (fun b _ h => by have : b < Y := h; omega)
          have I5 := hid (II.out.keep (Y := Y) (by omega) hXY (by omega) kb)
          refine shutN hK (by kernel_rfl) ?_
          refine wpAnyF_one (i := 18) rfl ⟨by kernel_rfl, by kernel_rfl⟩ ?_
          intro K hK
          have y0 := B5.out.cell 0; have y1 := B5.out.cell 1; have y2 := B5.out.frozen 0; have y3 := B5.out.frozen 1; have y4 := B5.out.lt
          simp only [List.getElem?_toArray, List.getElem?_cons_zero, List.getElem?_cons_succ] at y0 y1
          go_simp
          refine shutN hK (by kernel_rfl) ?_
          (apply wpAnyF_pure (i := 19) rfl (by kernel_rfl) (fun _ _ _ h => h); · first | exact .inr ⟨rfl, rfl⟩ | exact .inl ⟨rfl, fun w' => by go_simp; rfl⟩); simp only [Act.put, List.setIfInBounds_toArray, List.set_cons_succ, List.set_cons_zero, List.getElem_toArray, List.getElem_cons_succ, List.getElem_cons_zero]
          refine wpAnyF_done (by kernel_rfl) ?_ _
          clear hS
          have hbest : isBest a.st a.fo i k ⟨i + 1, k + 1, p, q, 1⟩ = true := by unfold isBest; simp; have := HD.out; omega
          show StP a W w w1 OT O X Y i k cs rs (xs ++ (step1 a.st a.fo i k).filter (isBest a.st a.fo i k)) (fun _ => True) _ _
          refine ⟨false, wideF s t (W p) (W q) first, acts_of' rfl ⟨⟨rfl, rfl, rfl, rfl, rfl, rfl, rfl, rfl, rfl, rfl, rfl⟩, trivial, I5.out.keep (Y := Y) (by omega) hXY (by omega) (((Keep.refl _ _).setCell _ _ (fun _ h => by have : Y < Y := h; omega)).setCell _ _ (fun _ h => by have : Y < Y := h; omega)), by simpa using y4, (B5.out.set 0 _).set 1 _, ?_⟩⟩
          rw [hx2.out, List.filter_cons_of_pos hbest, List.filter_nil]
          have h := AC.out.snoc (x := ⟨i + 1, k + 1, p, q, 1⟩) w0.out (fun m hm => by unfold notchesL at hm; split at hm <;> simp at hm <;> omega) SAT.out
          dsimp only at h
          exact h
        · have hq3 : ((dd a.st a.fo i k : Int) == (dd a.st a.fo (i + 1) (k + 1) : Int) + 1) = false := by rw [beq_eq_false_iff_ne]; omega
          have HD := hid hd; clear hd
          go_wp2_with fail
          go_big_quiet (fail)
          go_wp2_with fail
          go_big_quiet (fail)
          go_wp2_with fail
          have hbest : ¬ isBest a.st a.fo i k ⟨i + 1, k + 1, p, q, 1⟩ = true := by unfold isBest; simp; have := HD.out; omega
          show StP a W w w1 OT O X Y i k cs rs (xs ++ (step1 a.st a.fo i k).filter (isBest a.st a.fo i k)) (fun _ => True) _ _
          refine ⟨first, s, acts_of' rfl ⟨⟨rfl, rfl, rfl, rfl, rfl, rfl, rfl, rfl, rfl, rfl, rfl⟩, trivial, II.out.same ((keep_drewN _ _).trans (keep_drewN _ _)), hYV, BY.out, ?_⟩⟩
          rw [hx2.out, List.filter_cons_of_neg hbest, List.filter_nil, List.append_nil]
          exact AC.out
    · have HKN := hid hkn
      go_wp2_with fail
      show StP a W w w1 OT O X Y i k cs rs (xs ++ (step1 a.st a.fo i k).filter (isBest a.st a.fo i k)) (fun _ => True) _ _
      refine ⟨first, s, acts_of' rfl ⟨⟨rfl, rfl, rfl, rfl, rfl, rfl, rfl, rfl, rfl, rfl, rfl⟩, trivial, II.out, hYV, BY.out, ?_⟩⟩
      rw [step1_no (fun h => HKN.out h.2), List.filter_nil, List.append_nil]
      exact AC.out
  · have HIN := hid hin
    go_wp2_with fail
    show StP a W w w1 OT O X Y i k cs rs (xs ++ (step1 a.st a.fo i k).filter (isBest a.st a.fo i k)) (fun _ => True) _ _
    refine ⟨first, s, acts_of' rfl ⟨⟨rfl, rfl, rfl, rfl, rfl, rfl, rfl, rfl, rfl, rfl, rfl⟩, trivial, II.out, hYV, BY.out, ?_⟩⟩
    rw [step1_no (fun h => HIN.out h.1), List.filter_nil, List.append_nil]
    exact AC.out
end Go.Proofs.YtihonljdanjfmaaDoor
namespace Go.Proofs.YtihonljdanjfmaaDoor
open Go.RowKit Go.Proofs Go.Shelf
set_option maxRecDepth 20000 in
set_option maxHeartbeats 4000000 in
theorem refC2 (a : Tl) (W : Int → Int) (sa fa : Option Addr) (sc fc : Nat) (w w1 : World) (OT O X Y i k : Nat) (cs rs : Array Value) (xs : List St) (hl : a.st.length ≤ 1000) (hl2 : a.fo.length ≤ 1000) (o1 : okN a.st = true) (o2 : okN a.fo = true) (w0 : Hid (W 0 = 0)) (wb : ∀ n, -1000 ≤ W n ∧ W n ≤ 1000) (H1 : Hid (RdI w1 sa a.st))
    (BX : Hid (Box w1 w.heap.size (#[.int .i64 a.id, .int .i64 a.hs, .slice sa a.st.length sc, .slice fa a.fo.length fc]) 68)) (BW : Hid (Box w1 (w.heap.size + 1) (#[.int .i64 (W 0), .int .i64 (W 1), .int .i64 (W 2), .int .i64 (W 3), .int .i64 (W 4)]) 221)) (TT : Hid (Tbl w1 OT a.st a.fo)) (hi : i ≤ a.st.length) (hk : k ≤ a.fo.length) (hOX : O < X) (hXY : X < Y) (h1 : w1.heap.size ≤ O) (a' : Act) (V : World)
    (h : StP a W w w1 OT O X Y i k cs rs xs (fun _ => True) a' V) : ((subC [true, true, true, true, false, true, false, false, true, false, false, true, true, false, false, true, false, false, true, true, true, false] Tryd.f155.body)).wp Tryd.prog (NormP (StP a W w w1 OT O X Y i k cs rs (xs ++ (step2 a.st i k).filter (isBest a.st a.fo i k)) (fun _ => True))) a' V := by
  have hm := mixedS
  obtain ⟨first, s, f, rfl, ⟨f2, f3, f4, f5, f6, f7, f8, f9, f10, f11, f12⟩, -, hI, hYV, bY, hacc⟩ := h
  rw [show (List.range 220).map f = [f 0, f 1, f 2, f 3, f 4, f 5, f 6, f 7, f 8, f 9, f 10, f 11, f 12, f 13, f 14, f 15, f 16, f 17, f 18, f 19, f 20, f 21, f 22, f 23, f 24, f 25, f 26, f 27, f 28, f 29, f 30, f 31, f 32, f 33, f 34, f 35, f 36, f 37, f 38, f 39, f 40, f 41, f 42, f 43, f 44, f 45, f 46, f 47, f 48, f 49, f 50, f 51, f 52, f 53, f 54, f 55, f 56, f 57, f 58, f 59, f 60, f 61, f 62, f 63, f 64, f 65, f 66, f 67, f 68, f 69, f 70, f 71, f 72, f 73, f 74, f 75, f 76, f 77, f 78, f 79, f 80, f 81, f 82, f 83, f 84, f 85, f 86, f 87, f 88, f 89, f 90, f 91, f 92, f 93, f 94, f 95, f 96, f 97, f 98, f 99, f 100, f 101, f 102, f 103, f 104, f 105, f 106, f 107, f 108, f 109, f 110, f 111, f 112, f 113, f 114, f 115, f 116, f 117, f 118, f 119, f 120, f 121, f 122, f 123, f 124, f 125, f 126, f 127, f 128, f 129, f 130, f 131, f 132, f 133, f 134, f 135, f 136, f 137, f 138, f 139, f 140, f 141, f 142, f 143, f 144, f 145, f 146, f 147, f 148, f 149, f 150, f 151, f 152, f 153, f 154, f 155, f 156, f 157, f 158, f 159, f 160, f 161, f 162, f 163, f 164, f 165, f 166, f 167, f 168, f 169, f 170, f 171, f 172, f 173, f 174, f 175, f 176, f 177, f 178, f 179, f 180, f 181, f 182, f 183, f 184, f 185, f 186, f 187, f 188, f 189, f 190, f 191, f 192, f 193, f 194, f 195, f 196, f 197, f 198, f 199, f 200, f 201, f 202, f 203, f 204, f 205, f 206, f 207, f 208, f 209, f 210, f 211, f 212, f 213, f 214, f 215, f 216, f 217, f 218, f 219] from rfl, f2, f3, f4, f5, f6, f7, f8, f9, f10, f11, f12]
  clear f2 f3 f4 f5 f6 f7 f8 f9 f10 f11 f12
  have II := hid hI; have BY := hid bY; have AC := hid hacc
  have TR : ∀ i k, i ≤ a.st.length → k ≤ a.fo.length → ∃ R, V.cell? ⟨OT, i, none⟩ = some (.slice (some ⟨R, 0, none⟩) (a.fo.length + 1) (a.fo.length + 1)) ∧ V.cell? ⟨R, k, none⟩ = some (.int .i64 (dd a.st a.fo i k : Int)) := fun i k hi hk => by
    obtain ⟨R, r1, r2⟩ := TT.out i hi
    exact ⟨R, (hI.bel.cell (cell_lt r1)).trans r1, (hI.bel.cell (cell_lt (r2 k hk))).trans (r2 k hk)⟩
  have TR := hid TR
  clear hI bY hacc
  have tc1 : (i : Int) < (a.st.length : Int) + 1 := by omega
  have tc2 : (k : Int) < (a.fo.length : Int) + 1 := by omega
  have wi := wrap_small (n := (i : Int) + 1) (by omega) (by omega)
  dsimp only [subC, Tryd.f155, Option.getD_some, partC]
  by_cases hin : i < a.st.length
  · obtain ⟨Ra, ra1, ra2⟩ := TR.out i k hi hk
    obtain ⟨Rc, rc1, rc2⟩ := TR.out (i + 1) k hin hk
    have dl1 := dd_le a.st a.fo (i + 1) k (by omega) (by omega)
    have w4 := wrap_small (n := (dd a.st a.fo (i + 1) k : Int) + 1) (by omega) (by omega)
    have td1 : (i : Int) + 1 < (a.st.length : Int) + 1 := by omega
    by_cases hd : dd a.st a.fo i k = dd a.st a.fo (i + 1) k + 1
    · have hq3 : ((dd a.st a.fo i k : Int) == (dd a.st a.fo (i + 1) k : Int) + 1) = true := by rw [hd]; simp
      have HD := hid hd; clear hd
      obtain ⟨ab, ao, rfl, ca⟩ := (H1.out.below II.out.bel) i hin
      obtain ⟨R', rs', g1, g2, g3, g4, g5, g6⟩ := II.out.rows (i + 1) (Nat.le_refl _) hin
      have n4 := okN_pos o1 hin
      have n5 : a.st[i] ≤ 4 := by
        have h := o1
        unfold okN at h
        rw [List.all_eq_true] at h
        have := h _ (List.getElem_mem hin)
        simp at this
        omega
      obtain ⟨n, hn⟩ : ∃ n, a.st[i] = n := ⟨_, rfl⟩
      have hx2 : step2 a.st i k = [⟨i + 1, k, n, 0, 1⟩] := by rw [step2_yes k hin, hn]
      rw [hn] at ca n4 n5
      have nb0 : 0 ≤ n := by omega
      have nb1 : n < 5 := by omega
      have XB := II.out.bel
      have e0 : V.cell? ⟨Y, 0, none⟩ = some (.int .i64 s.1) := BY.out.cell 0
      have e1 : V.cell? ⟨Y, 1, none⟩ = some (.int .i64 s.2) := BY.out.cell 1
      have e2 : V.cell? ⟨O, i + 1, none⟩ = some (.slice (some ⟨R', 0, none⟩) (a.fo.length + 1) (a.fo.length + 1)) := (II.out.o.cell (i + 1)).trans g1
      have e3 : V.cell? ⟨R', k * 2, none⟩ = some (.int .i64 (spanF W (a.st.drop (i + 1)) (a.fo.drop k)).1) := (g4.cell _).trans (g6 k hk).1
      have e4 : V.cell? ⟨R', k * 2 + 1, none⟩ = some (.int .i64 (spanF W (a.st.drop (i + 1)) (a.fo.drop k)).2) := (g4.cell _).trans (g6 k hk).2
      have e5 : V.cell? ⟨w.heap.size, 2, none⟩ = some (.slice (some ⟨ab, ao, none⟩) a.st.length sc) := (BX.out.below XB BX.out.lt).cell 2
      have e6 : V.cell? ⟨w.heap.size + 1, n.toNat, none⟩ = some (.int .i64 (W n)) := by
        refine ((BW.out.below XB BW.out.lt).cell n.toNat).trans ?_
        have hh : n = 1 ∨ n = 2 ∨ n = 3 ∨ n = 4 := by omega
        rcases hh with rfl | rfl | rfl | rfl <;> rfl
      have sat := span_at w0.out o1 o2 (show i + 1 ≤ a.st.length from hin) hk
      have sb := span_bound wb (by simp; omega) (by simp; omega) sat
      obtain ⟨t, ht⟩ : ∃ t, spanF W (a.st.drop (i + 1)) (a.fo.drop k) = t := ⟨_, rfl⟩
      rw [ht] at e3 e4 sat sb
      have SAT := hid sat
      have wbn := wb n
      have lY := BY.out.lt
      clear hn g1 g2 g3 g4 g5 g6 ht sat XB
      go_wp2_with fail
      go_big_quiet (fail)
      go_wp2_with fail
      refine wp_region_F [0, 5, 8, 10, 13, 15] (fun w' => w'.cell? ⟨Y, 0, none⟩ = some (.int .i64 s.1) ∧ w'.cell? ⟨Y, 1, none⟩ = some (.int .i64 s.2) ∧ w'.cell? ⟨O, i + 1, none⟩ = some (.slice (some ⟨R', 0, none⟩) (a.fo.length + 1) (a.fo.length + 1)) ∧ w'.cell? ⟨R', k * 2, none⟩ = some (.int .i64 t.1) ∧ w'.cell? ⟨R', k * 2 + 1, none⟩ = some (.int .i64 t.2) ∧ w'.cell? ⟨w.heap.size, 2, none⟩ = some (.slice (some ⟨ab, ao, none⟩) a.st.length sc) ∧ w'.cell? ⟨w.heap.size + 1, n.toNat, none⟩ = some (.int .i64 (W n)) ∧ w'.cell? ⟨ab, ao + i, none⟩ = some (.int .i64 n)) hm ⟨e0, e1, e2, e3, e4, e5, e6, ca⟩ ?_
      intro hS0; have hS := hid hS0; clear hS0
      (apply wpAnyF_held (i := 0) rfl (by kernel_rfl) (fun _ _ _ h => h) hS.out; · first | exact .inr ⟨rfl, rfl⟩ | exact .inl ⟨rfl, fun w' hS' => by (obtain ⟨s1, s2, s3, s4, s5, s6, s7, s8⟩ := hS'; go_simp; rfl)⟩); simp only [Act.put, List.setIfInBounds_toArray, List.set_cons_succ, List.set_cons_zero, List.getElem_toArray, List.getElem_cons_succ, List.getElem_cons_zero]
      (apply wpAnyF_pure (i := 1) rfl (by kernel_rfl) (fun _ _ _ h => h); · first | exact .inr ⟨rfl, rfl⟩ | exact .inl ⟨rfl, fun w' => by go_simp; rfl⟩); simp only [Act.put, List.setIfInBounds_toArray, List.set_cons_succ, List.set_cons_zero, List.getElem_toArray, List.getElem_cons_succ, List.getElem_cons_zero]
      (apply wpAnyF_pure (i := 2) rfl (by kernel_rfl) (fun _ _ _ h => h); · first | exact .inr ⟨rfl, rfl⟩ | exact .inl ⟨rfl, fun w' => by go_simp; rfl⟩); simp only [Act.put, List.setIfInBounds_toArray, List.set_cons_succ, List.set_cons_zero, List.getElem_toArray, List.getElem_cons_succ, List.getElem_cons_zero]
      (apply wpAnyF_pure (i := 3) rfl (by kernel_rfl) (fun _ _ _ h => h); · first | exact .inr ⟨rfl, rfl⟩ | exact .inl ⟨rfl, fun w' => by go_simp; rfl⟩); simp only [Act.put, List.setIfInBounds_toArray, List.set_cons_succ, List.set_cons_zero, List.getElem_toArray, List.getElem_cons_succ, List.getElem_cons_zero]
      (apply wpAnyF_pure (i := 4) rfl (by kernel_rfl) (fun _ _ _ h => h); · first | exact .inr ⟨rfl, rfl⟩ | exact .inl ⟨rfl, fun w' => by go_simp; rfl⟩); simp only [Act.put, List.setIfInBounds_toArray, List.set_cons_succ, List.set_cons_zero, List.getElem_toArray, List.getElem_cons_succ, List.getElem_cons_zero]
      (apply wpAnyF_held (i := 5) rfl (by kernel_rfl) (fun _ _ _ h => h) hS.out; · first | exact .inr ⟨rfl, rfl⟩ | exact .inl ⟨rfl, fun w' hS' => by (obtain ⟨s1, s2, s3, s4, s5, s6, s7, s8⟩ := hS'; go_simp; rfl)⟩); simp only [Act.put, List.setIfInBounds_toArray, List.set_cons_succ, List.set_cons_zero, List.getElem_toArray, List.getElem_cons_succ, List.getElem_cons_zero]
      (apply wpAnyF_pure (i := 6) rfl (by kernel_rfl) (fun _ _ _ h => h); · first | exact .inr ⟨rfl, rfl⟩ | exact .inl ⟨rfl, fun w' => by go_simp; rfl⟩); simp only [Act.put, List.setIfInBounds_toArray, List.set_cons_succ, List.set_cons_zero, List.getElem_toArray, List.getElem_cons_succ, List.getElem_cons_zero]
      (apply wpAnyF_pure (i := 7) rfl (by kernel_rfl) (fun _ _ _ h => h); · first | exact .inr ⟨rfl, rfl⟩ | exact .inl ⟨rfl, fun w' => by go_simp; rfl⟩); simp only [Act.put, List.setIfInBounds_toArray, List.set_cons_succ, List.set_cons_zero, List.getElem_toArray, List.getElem_cons_succ, List.getElem_cons_zero]
      (apply wpAnyF_held (i := 8) rfl (by kernel_rfl) (fun _ _ _ h => h) hS.out; · first | exact .inr ⟨rfl, rfl⟩ | exact .inl ⟨rfl, fun w' hS' => by (obtain ⟨s1, s2, s3, s4, s5, s6, s7, s8⟩ := hS'; go_simp; rfl)⟩); simp only [Act.put, List.setIfInBounds_toArray, List.set_cons_succ, List.set_cons_zero, List.getElem_toArray, List.getElem_cons_succ, List.getElem_cons_zero]
      (apply wpAnyF_pure (i := 9) rfl (by kernel_rfl) (fun _ _ _ h => h); · first | exact .inr ⟨rfl, rfl⟩ | exact .inl ⟨rfl, fun w' => by go_simp; rfl⟩); simp only [Act.put, List.setIfInBounds_toArray, List.set_cons_succ, List.set_cons_zero, List.getElem_toArray, List.getElem_cons_succ, List.getElem_cons_zero]
      (apply wpAnyF_held (i := 10) rfl (by kernel_rfl) (fun _ _ _ h => h) hS.out; · first | exact .inr ⟨rfl, rfl⟩ | exact .inl ⟨rfl, fun w' hS' => by (obtain ⟨s1, s2, s3, s4, s5, s6, s7, s8⟩ := hS'; go_simp; rfl)⟩); simp only [Act.put, List.setIfInBounds_toArray, List.set_cons_succ, List.set_cons_zero, List.getElem_toArray, List.getElem_cons_succ, List.getElem_cons_zero]
      (apply wpAnyF_pure (i := 11) rfl (by kernel_rfl) (fun _ _ _ h => h); · first | exact .inr ⟨rfl, rfl⟩ | exact .inl ⟨rfl, fun w' => by go_simp; rfl⟩); simp only [Act.put, List.setIfInBounds_toArray, List.set_cons_succ, List.set_cons_zero, List.getElem_toArray, List.getElem_cons_succ, List.getElem_cons_zero]
      (apply wpAnyF_pure (i := 12) rfl (by kernel_rfl) (fun _ _ _ h => h); · first | exact .inr ⟨rfl, rfl⟩ | exact .inl ⟨rfl, fun w' => by go_simp; rfl⟩); simp only [Act.put, List.setIfInBounds_toArray, List.set_cons_succ, List.set_cons_zero, List.getElem_toArray, List.getElem_cons_succ, List.getElem_cons_zero]
      (apply wpAnyF_held (i := 13) rfl (by kernel_rfl) (fun _ _ _ h => h) hS.out; · first | exact .inr ⟨rfl, rfl⟩ | exact .inl ⟨rfl, fun w' hS' => by (obtain ⟨s1, s2, s3, s4, s5, s6, s7, s8⟩ := hS'; go_simp; rfl)⟩); simp only [Act.put, List.setIfInBounds_toArray, List.set_cons_succ, List.set_cons_zero, List.getElem_toArray, List.getElem_cons_succ, List.getElem_cons_zero]
      (apply wpAnyF_pure (i := 14) rfl (by kernel_rfl) (fun _ _ _ h => h); · first | exact .inr ⟨rfl, rfl⟩ | exact .inl ⟨rfl, fun w' => by go_simp; rfl⟩); simp only [Act.put, List.setIfInBounds_toArray, List.set_cons_succ, List.set_cons_zero, List.getElem_toArray, List.getElem_cons_succ, List.getElem_cons_zero]
      (apply wpAnyF_held (i := 15) rfl (by kernel_rfl) (fun _ _ _ h => h) hS.out; · first | exact .inr ⟨rfl, rfl⟩ | exact .inl ⟨rfl, fun w' hS' => by (obtain ⟨s1, s2, s3, s4, s5, s6, s7, s8⟩ := hS'; go_simp; rfl)⟩); simp only [Act.put, List.setIfInBounds_toArray, List.set_cons_succ, List.set_cons_zero, List.getElem_toArray, List.getElem_cons_succ, List.getElem_cons_zero]
      (apply wpAnyF_pure (i := 16) rfl (by kernel_rfl) (fun _ _ _ h => h); · first | exact .inr ⟨rfl, rfl⟩ | exact .inl ⟨rfl, fun w' => by go_simp; rfl⟩); simp only [Act.put, List.setIfInBounds_toArray, List.set_cons_succ, List.set_cons_zero, List.getElem_toArray, List.getElem_cons_succ, List.getElem_cons_zero]
      refine wpAnyF_one (i := 17) rfl ⟨by kernel_rfl, by kernel_rfl⟩ ?_
      intro K hK
      go_simp
      refine (wide_any s t (W n) 0 first _ (by omega) (by omega) (by omega) (by omega)).mono ?_
      rintro e w5 ⟨rfl, hb5⟩
      have hb : Below V.heap.size V w5 := ⟨hb5.os, hb5.tape, hb5.output, hb5.size, hb5.block⟩
      have B5 := hid (BY.out.below hb BY.out.lt)
      have kb : Keep (· < Y) V w5 := Keep.of_below hb (fun b _ h => by have : b < Y := h; omega)
      have I5 := hid (II.out.keep (Y := Y) (by omega) hXY (by omega) kb)
      refine shutS hK ⟨(hb.cell (cell_lt e0)).trans e0, (hb.cell (cell_lt e1)).trans e1, (hb.cell (cell_lt e2)).trans e2, (hb.cell (cell_lt e3)).trans e3, (hb.cell (cell_lt e4)).trans e4, (hb.cell (cell_lt e5)).trans e5, (hb.cell (cell_lt e6)).trans e6, (hb.cell (cell_lt ca)).trans ca⟩ (fun hS => ?_)
      refine wpAnyF_one (i := 18) rfl ⟨by kernel_rfl, by kernel_rfl⟩ ?_
      intro K hK
      have y0 := B5.out.cell 0; have y1 := B5.out.cell 1; have y2 := B5.out.frozen 0; have y3 := B5.out.frozen 1; have y4 := B5.out.lt
      simp only [List.getElem?_toArray, List.getElem?_cons_zero, List.getElem?_cons_succ] at y0 y1
      go_simp
      refine shutN hK (by kernel_rfl) ?_
      (apply wpAnyF_pure (i := 19) rfl (by kernel_rfl) (fun _ _ _ h => h); · first | exact .inr ⟨rfl, rfl⟩ | exact .inl ⟨rfl, fun w' => by go_simp; rfl⟩); simp only [Act.put, List.setIfInBounds_toArray, List.set_cons_succ, List.set_cons_zero, List.getElem_toArray, List.getElem_cons_succ, List.getElem_cons_zero]
      refine wpAnyF_done (by kernel_rfl) ?_ _
      clear hS
      have hbest : isBest a.st a.fo i k ⟨i + 1, k, n, 0, 1⟩ = true := by unfold isBest; simp; have := HD.out; omega
      show StP a W w w1 OT O X Y i k cs rs (xs ++ (step2 a.st i k).filter (isBest a.st a.fo i k)) (fun _ => True) _ _
      refine ⟨false, wideF s t (W n) 0 first, acts_of' rfl ⟨⟨rfl, rfl, rfl, rfl, rfl, rfl, rfl, rfl, rfl, rfl, rfl⟩, trivial, I5.out.keep (Y := Y) (by omega) hXY (by omega) (((Keep.refl _ _).setCell _ _ (fun _ h => by have : Y < Y := h; omega)).setCell _ _ (fun _ h => by have : Y < Y := h; omega)), by simpa using y4, (B5.out.set 0 _).set 1 _, ?_⟩⟩
      rw [hx2, List.filter_cons_of_pos hbest, List.filter_nil]
      have h := AC.out.snoc (x := ⟨i + 1, k, n, 0, 1⟩) w0.out (fun m hm => by unfold notchesL at hm; split at hm <;> simp at hm <;> omega) SAT.out
      dsimp only at h
      rw [w0.out] at h
      exact h
    · have hq3 : ((dd a.st a.fo i k : Int) == (dd a.st a.fo (i + 1) k : Int) + 1) = false := by rw [beq_eq_false_iff_ne]; omega
      have HD := hid hd; clear hd
      go_wp2_with fail
      go_big_quiet (fail)
      go_wp2_with fail
      have hbest : ¬ isBest a.st a.fo i k ⟨i + 1, k, a.st[i], 0, 1⟩ = true := by unfold isBest; simp; have := HD.out; omega
      show StP a W w w1 OT O X Y i k cs rs (xs ++ (step2 a.st i k).filter (isBest a.st a.fo i k)) (fun _ => True) _ _
      refine ⟨first, s, acts_of' rfl ⟨⟨rfl, rfl, rfl, rfl, rfl, rfl, rfl, rfl, rfl, rfl, rfl⟩, trivial, II.out.same (keep_drewN _ _), hYV, BY.out, ?_⟩⟩
      rw [step2_yes k hin, List.filter_cons_of_neg hbest, List.filter_nil, List.append_nil]
      exact AC.out
  · have HIN := hid hin
    go_wp2_with fail
    go_big_quiet (fail)
    go_wp2_with fail
    show StP a W w w1 OT O X Y i k cs rs (xs ++ (step2 a.st i k).filter (isBest a.st a.fo i k)) (fun _ => True) _ _
    refine ⟨first, s, acts_of' rfl ⟨⟨rfl, rfl, rfl, rfl, rfl, rfl, rfl, rfl, rfl, rfl, rfl⟩, trivial, II.out.same (keep_drewN _ _), hYV, BY.out, ?_⟩⟩
    rw [step2_no k HIN.out, List.filter_nil, List.append_nil]
    exact AC.out
end Go.Proofs.YtihonljdanjfmaaDoor
namespace Go.Proofs.YtihonljdanjfmaaDoor
open Go.RowKit Go.Proofs Go.Shelf
theorem wideF_comm (s t : Int × Int) (a b : Int) (first : Bool) : wideF s t a b first = wideF s t b a first := by unfold wideF; rw [show min a b = min b a by omega, show max a b = max b a by omega]
set_option maxRecDepth 20000 in
set_option maxHeartbeats 4000000 in
theorem refC3 (a : Tl) (W : Int → Int) (sa fa : Option Addr) (sc fc : Nat) (w w1 : World) (OT O X Y i k : Nat) (cs rs : Array Value) (xs : List St) (hl : a.st.length ≤ 1000) (hl2 : a.fo.length ≤ 1000) (o1 : okN a.st = true) (o2 : okN a.fo = true) (w0 : Hid (W 0 = 0)) (wb : ∀ n, -1000 ≤ W n ∧ W n ≤ 1000) (H2 : Hid (RdI w1 fa a.fo))
    (BX : Hid (Box w1 w.heap.size (#[.int .i64 a.id, .int .i64 a.hs, .slice sa a.st.length sc, .slice fa a.fo.length fc]) 68)) (BW : Hid (Box w1 (w.heap.size + 1) (#[.int .i64 (W 0), .int .i64 (W 1), .int .i64 (W 2), .int .i64 (W 3), .int .i64 (W 4)]) 221)) (TT : Hid (Tbl w1 OT a.st a.fo)) (hi : i ≤ a.st.length) (hk : k ≤ a.fo.length) (hOX : O < X) (hXY : X < Y) (h1 : w1.heap.size ≤ O) (hci : cs[i]? = some (.slice (some ⟨X, 0, none⟩) (a.fo.length + 1) (a.fo.length + 1))) (a' : Act) (V : World)
    (h : StP a W w w1 OT O X Y i k cs rs xs (fun _ => True) a' V) : ((subC [true, true, true, true, false, true, false, false, true, false, false, true, true, false, false, true, false, false, true, true, true, true, false] Tryd.f155.body)).wp Tryd.prog (NormP (StP a W w w1 OT O X Y i k cs rs (xs ++ (step3 a.fo i k).filter (isBest a.st a.fo i k)) (fun _ => True))) a' V := by
  have hm := mixedS
  obtain ⟨first, s, f, rfl, ⟨f2, f3, f4, f5, f6, f7, f8, f9, f10, f11, f12⟩, -, hI, hYV, bY, hacc⟩ := h
  rw [show (List.range 220).map f = [f 0, f 1, f 2, f 3, f 4, f 5, f 6, f 7, f 8, f 9, f 10, f 11, f 12, f 13, f 14, f 15, f 16, f 17, f 18, f 19, f 20, f 21, f 22, f 23, f 24, f 25, f 26, f 27, f 28, f 29, f 30, f 31, f 32, f 33, f 34, f 35, f 36, f 37, f 38, f 39, f 40, f 41, f 42, f 43, f 44, f 45, f 46, f 47, f 48, f 49, f 50, f 51, f 52, f 53, f 54, f 55, f 56, f 57, f 58, f 59, f 60, f 61, f 62, f 63, f 64, f 65, f 66, f 67, f 68, f 69, f 70, f 71, f 72, f 73, f 74, f 75, f 76, f 77, f 78, f 79, f 80, f 81, f 82, f 83, f 84, f 85, f 86, f 87, f 88, f 89, f 90, f 91, f 92, f 93, f 94, f 95, f 96, f 97, f 98, f 99, f 100, f 101, f 102, f 103, f 104, f 105, f 106, f 107, f 108, f 109, f 110, f 111, f 112, f 113, f 114, f 115, f 116, f 117, f 118, f 119, f 120, f 121, f 122, f 123, f 124, f 125, f 126, f 127, f 128, f 129, f 130, f 131, f 132, f 133, f 134, f 135, f 136, f 137, f 138, f 139, f 140, f 141, f 142, f 143, f 144, f 145, f 146, f 147, f 148, f 149, f 150, f 151, f 152, f 153, f 154, f 155, f 156, f 157, f 158, f 159, f 160, f 161, f 162, f 163, f 164, f 165, f 166, f 167, f 168, f 169, f 170, f 171, f 172, f 173, f 174, f 175, f 176, f 177, f 178, f 179, f 180, f 181, f 182, f 183, f 184, f 185, f 186, f 187, f 188, f 189, f 190, f 191, f 192, f 193, f 194, f 195, f 196, f 197, f 198, f 199, f 200, f 201, f 202, f 203, f 204, f 205, f 206, f 207, f 208, f 209, f 210, f 211, f 212, f 213, f 214, f 215, f 216, f 217, f 218, f 219] from rfl, f2, f3, f4, f5, f6, f7, f8, f9, f10, f11, f12]
  clear f2 f3 f4 f5 f6 f7 f8 f9 f10 f11 f12
  have II := hid hI; have BY := hid bY; have AC := hid hacc
  have TR : ∀ i k, i ≤ a.st.length → k ≤ a.fo.length → ∃ R, V.cell? ⟨OT, i, none⟩ = some (.slice (some ⟨R, 0, none⟩) (a.fo.length + 1) (a.fo.length + 1)) ∧ V.cell? ⟨R, k, none⟩ = some (.int .i64 (dd a.st a.fo i k : Int)) := fun i k hi hk => by
    obtain ⟨R, r1, r2⟩ := TT.out i hi
    exact ⟨R, (hI.bel.cell (cell_lt r1)).trans r1, (hI.bel.cell (cell_lt (r2 k hk))).trans (r2 k hk)⟩
  have TR := hid TR
  clear hI bY hacc
  have tc1 : (i : Int) < (a.st.length : Int) + 1 := by omega
  have tc2 : (k : Int) < (a.fo.length : Int) + 1 := by omega
  have wi := wrap_small (n := (k : Int) + 1) (by omega) (by omega)
  dsimp only [subC, Tryd.f155, Option.getD_some, partC]
  by_cases hin : k < a.fo.length
  · obtain ⟨Ra, ra1, ra2⟩ := TR.out i k hi hk
    obtain ⟨Rc, rc1, rc2⟩ := TR.out i (k + 1) hi hin
    obtain rfl : Ra = Rc := by rw [ra1] at rc1; simpa using rc1
    clear rc1
    have dl1 := dd_le a.st a.fo i (k + 1) (by omega) (by omega)
    have w4 := wrap_small (n := (dd a.st a.fo i (k + 1) : Int) + 1) (by omega) (by omega)
    have td1 : (k : Int) + 1 < (a.fo.length : Int) + 1 := by omega
    by_cases hd : dd a.st a.fo i k = dd a.st a.fo i (k + 1) + 1
    · have hq3 : ((dd a.st a.fo i k : Int) == (dd a.st a.fo i (k + 1) : Int) + 1) = true := by rw [hd]; simp
      have HD := hid hd; clear hd
      obtain ⟨ab, ao, rfl, ca⟩ := (H2.out.below II.out.bel) k hin
      have g6 := II.out.got (k + 1) (Nat.le_refl _) hin
      have n4 := okN_pos o2 hin
      have n5 : a.fo[k] ≤ 4 := by
        have h := o2
        unfold okN at h
        rw [List.all_eq_true] at h
        have := h _ (List.getElem_mem hin)
        simp at this
        omega
      obtain ⟨n, hn⟩ : ∃ n, a.fo[k] = n := ⟨_, rfl⟩
      have hx2 : step3 a.fo i k = [⟨i, k + 1, 0, n, 1⟩] := by rw [step3_yes i hin, hn]
      rw [hn] at ca n4 n5
      have nb0 : 0 ≤ n := by omega
      have nb1 : n < 5 := by omega
      have XB := II.out.bel
      have e0 : V.cell? ⟨Y, 0, none⟩ = some (.int .i64 s.1) := BY.out.cell 0
      have e1 : V.cell? ⟨Y, 1, none⟩ = some (.int .i64 s.2) := BY.out.cell 1
      have e2 : V.cell? ⟨O, i, none⟩ = some (.slice (some ⟨X, 0, none⟩) (a.fo.length + 1) (a.fo.length + 1)) := (II.out.o.cell i).trans hci
      have e3 : V.cell? ⟨X, (k + 1) * 2, none⟩ = some (.int .i64 (spanF W (a.st.drop i) (a.fo.drop (k + 1))).1) := (II.out.x.cell _).trans g6.1
      have e4 : V.cell? ⟨X, (k + 1) * 2 + 1, none⟩ = some (.int .i64 (spanF W (a.st.drop i) (a.fo.drop (k + 1))).2) := (II.out.x.cell _).trans g6.2
      have e5 : V.cell? ⟨w.heap.size, 3, none⟩ = some (.slice (some ⟨ab, ao, none⟩) a.fo.length fc) := (BX.out.below XB BX.out.lt).cell 3
      have e6 : V.cell? ⟨w.heap.size + 1, n.toNat, none⟩ = some (.int .i64 (W n)) := by
        refine ((BW.out.below XB BW.out.lt).cell n.toNat).trans ?_
        have hh : n = 1 ∨ n = 2 ∨ n = 3 ∨ n = 4 := by omega
        rcases hh with rfl | rfl | rfl | rfl <;> rfl
      have sat := span_at w0.out o1 o2 hi (show k + 1 ≤ a.fo.length from hin)
      have sb := span_bound wb (by simp; omega) (by simp; omega) sat
      obtain ⟨t, ht⟩ : ∃ t, spanF W (a.st.drop i) (a.fo.drop (k + 1)) = t := ⟨_, rfl⟩
      rw [ht] at e3 e4 sat sb
      have SAT := hid sat
      have wbn := wb n
      have lY := BY.out.lt
      clear hn g6 ht sat XB
      go_wp2_with fail
      go_big_quiet (fail)
      go_wp2_with fail
      refine wp_region_F [0, 4, 8, 10, 13, 15] (fun w' => w'.cell? ⟨Y, 0, none⟩ = some (.int .i64 s.1) ∧ w'.cell? ⟨Y, 1, none⟩ = some (.int .i64 s.2) ∧ w'.cell? ⟨O, i, none⟩ = some (.slice (some ⟨X, 0, none⟩) (a.fo.length + 1) (a.fo.length + 1)) ∧ w'.cell? ⟨X, (k + 1) * 2, none⟩ = some (.int .i64 t.1) ∧ w'.cell? ⟨X, (k + 1) * 2 + 1, none⟩ = some (.int .i64 t.2) ∧ w'.cell? ⟨w.heap.size, 3, none⟩ = some (.slice (some ⟨ab, ao, none⟩) a.fo.length fc) ∧ w'.cell? ⟨w.heap.size + 1, n.toNat, none⟩ = some (.int .i64 (W n)) ∧ w'.cell? ⟨ab, ao + k, none⟩ = some (.int .i64 n)) hm ⟨e0, e1, e2, e3, e4, e5, e6, ca⟩ ?_
      intro hS0; have hS := hid hS0; clear hS0
      (apply wpAnyF_held (i := 0) rfl (by kernel_rfl) (fun _ _ _ h => h) hS.out; · first | exact .inr ⟨rfl, rfl⟩ | exact .inl ⟨rfl, fun w' hS' => by (obtain ⟨s1, s2, s3, s4, s5, s6, s7, s8⟩ := hS'; go_simp; rfl)⟩); simp only [Act.put, List.setIfInBounds_toArray, List.set_cons_succ, List.set_cons_zero, List.getElem_toArray, List.getElem_cons_succ, List.getElem_cons_zero]
      (apply wpAnyF_pure (i := 1) rfl (by kernel_rfl) (fun _ _ _ h => h); · first | exact .inr ⟨rfl, rfl⟩ | exact .inl ⟨rfl, fun w' => by go_simp; rfl⟩); simp only [Act.put, List.setIfInBounds_toArray, List.set_cons_succ, List.set_cons_zero, List.getElem_toArray, List.getElem_cons_succ, List.getElem_cons_zero]
      (apply wpAnyF_pure (i := 2) rfl (by kernel_rfl) (fun _ _ _ h => h); · first | exact .inr ⟨rfl, rfl⟩ | exact .inl ⟨rfl, fun w' => by go_simp; rfl⟩); simp only [Act.put, List.setIfInBounds_toArray, List.set_cons_succ, List.set_cons_zero, List.getElem_toArray, List.getElem_cons_succ, List.getElem_cons_zero]
      (apply wpAnyF_pure (i := 3) rfl (by kernel_rfl) (fun _ _ _ h => h); · first | exact .inr ⟨rfl, rfl⟩ | exact .inl ⟨rfl, fun w' => by go_simp; rfl⟩); simp only [Act.put, List.setIfInBounds_toArray, List.set_cons_succ, List.set_cons_zero, List.getElem_toArray, List.getElem_cons_succ, List.getElem_cons_zero]
      (apply wpAnyF_held (i := 4) rfl (by kernel_rfl) (fun _ _ _ h => h) hS.out; · first | exact .inr ⟨rfl, rfl⟩ | exact .inl ⟨rfl, fun w' hS' => by (obtain ⟨s1, s2, s3, s4, s5, s6, s7, s8⟩ := hS'; go_simp; rfl)⟩); simp only [Act.put, List.setIfInBounds_toArray, List.set_cons_succ, List.set_cons_zero, List.getElem_toArray, List.getElem_cons_succ, List.getElem_cons_zero]
      (apply wpAnyF_pure (i := 5) rfl (by kernel_rfl) (fun _ _ _ h => h); · first | exact .inr ⟨rfl, rfl⟩ | exact .inl ⟨rfl, fun w' => by go_simp; rfl⟩); simp only [Act.put, List.setIfInBounds_toArray, List.set_cons_succ, List.set_cons_zero, List.getElem_toArray, List.getElem_cons_succ, List.getElem_cons_zero]
      (apply wpAnyF_pure (i := 6) rfl (by kernel_rfl) (fun _ _ _ h => h); · first | exact .inr ⟨rfl, rfl⟩ | exact .inl ⟨rfl, fun w' => by go_simp; rfl⟩); simp only [Act.put, List.setIfInBounds_toArray, List.set_cons_succ, List.set_cons_zero, List.getElem_toArray, List.getElem_cons_succ, List.getElem_cons_zero]
      (apply wpAnyF_pure (i := 7) rfl (by kernel_rfl) (fun _ _ _ h => h); · first | exact .inr ⟨rfl, rfl⟩ | exact .inl ⟨rfl, fun w' => by go_simp; rfl⟩); simp only [Act.put, List.setIfInBounds_toArray, List.set_cons_succ, List.set_cons_zero, List.getElem_toArray, List.getElem_cons_succ, List.getElem_cons_zero]
      (apply wpAnyF_held (i := 8) rfl (by kernel_rfl) (fun _ _ _ h => h) hS.out; · first | exact .inr ⟨rfl, rfl⟩ | exact .inl ⟨rfl, fun w' hS' => by (obtain ⟨s1, s2, s3, s4, s5, s6, s7, s8⟩ := hS'; go_simp; rfl)⟩); simp only [Act.put, List.setIfInBounds_toArray, List.set_cons_succ, List.set_cons_zero, List.getElem_toArray, List.getElem_cons_succ, List.getElem_cons_zero]
      (apply wpAnyF_pure (i := 9) rfl (by kernel_rfl) (fun _ _ _ h => h); · first | exact .inr ⟨rfl, rfl⟩ | exact .inl ⟨rfl, fun w' => by go_simp; rfl⟩); simp only [Act.put, List.setIfInBounds_toArray, List.set_cons_succ, List.set_cons_zero, List.getElem_toArray, List.getElem_cons_succ, List.getElem_cons_zero]
      (apply wpAnyF_held (i := 10) rfl (by kernel_rfl) (fun _ _ _ h => h) hS.out; · first | exact .inr ⟨rfl, rfl⟩ | exact .inl ⟨rfl, fun w' hS' => by (obtain ⟨s1, s2, s3, s4, s5, s6, s7, s8⟩ := hS'; go_simp; rfl)⟩); simp only [Act.put, List.setIfInBounds_toArray, List.set_cons_succ, List.set_cons_zero, List.getElem_toArray, List.getElem_cons_succ, List.getElem_cons_zero]
      (apply wpAnyF_pure (i := 11) rfl (by kernel_rfl) (fun _ _ _ h => h); · first | exact .inr ⟨rfl, rfl⟩ | exact .inl ⟨rfl, fun w' => by go_simp; rfl⟩); simp only [Act.put, List.setIfInBounds_toArray, List.set_cons_succ, List.set_cons_zero, List.getElem_toArray, List.getElem_cons_succ, List.getElem_cons_zero]
      (apply wpAnyF_pure (i := 12) rfl (by kernel_rfl) (fun _ _ _ h => h); · first | exact .inr ⟨rfl, rfl⟩ | exact .inl ⟨rfl, fun w' => by go_simp; rfl⟩); simp only [Act.put, List.setIfInBounds_toArray, List.set_cons_succ, List.set_cons_zero, List.getElem_toArray, List.getElem_cons_succ, List.getElem_cons_zero]
      (apply wpAnyF_held (i := 13) rfl (by kernel_rfl) (fun _ _ _ h => h) hS.out; · first | exact .inr ⟨rfl, rfl⟩ | exact .inl ⟨rfl, fun w' hS' => by (obtain ⟨s1, s2, s3, s4, s5, s6, s7, s8⟩ := hS'; go_simp; rfl)⟩); simp only [Act.put, List.setIfInBounds_toArray, List.set_cons_succ, List.set_cons_zero, List.getElem_toArray, List.getElem_cons_succ, List.getElem_cons_zero]
      (apply wpAnyF_pure (i := 14) rfl (by kernel_rfl) (fun _ _ _ h => h); · first | exact .inr ⟨rfl, rfl⟩ | exact .inl ⟨rfl, fun w' => by go_simp; rfl⟩); simp only [Act.put, List.setIfInBounds_toArray, List.set_cons_succ, List.set_cons_zero, List.getElem_toArray, List.getElem_cons_succ, List.getElem_cons_zero]
      (apply wpAnyF_held (i := 15) rfl (by kernel_rfl) (fun _ _ _ h => h) hS.out; · first | exact .inr ⟨rfl, rfl⟩ | exact .inl ⟨rfl, fun w' hS' => by (obtain ⟨s1, s2, s3, s4, s5, s6, s7, s8⟩ := hS'; go_simp; rfl)⟩); simp only [Act.put, List.setIfInBounds_toArray, List.set_cons_succ, List.set_cons_zero, List.getElem_toArray, List.getElem_cons_succ, List.getElem_cons_zero]
      (apply wpAnyF_pure (i := 16) rfl (by kernel_rfl) (fun _ _ _ h => h); · first | exact .inr ⟨rfl, rfl⟩ | exact .inl ⟨rfl, fun w' => by go_simp; rfl⟩); simp only [Act.put, List.setIfInBounds_toArray, List.set_cons_succ, List.set_cons_zero, List.getElem_toArray, List.getElem_cons_succ, List.getElem_cons_zero]
      refine wpAnyF_one (i := 17) rfl ⟨by kernel_rfl, by kernel_rfl⟩ ?_
      intro K hK
      go_simp
      refine (wide_any s t (W n) 0 first _ (by omega) (by omega) (by omega) (by omega)).mono ?_
      rintro e w5 ⟨rfl, hb5⟩
      have hb : Below V.heap.size V w5 := ⟨hb5.os, hb5.tape, hb5.output, hb5.size, hb5.block⟩
      have B5 := hid (BY.out.below hb BY.out.lt)
      have kb : Keep (· < Y) V w5 := Keep.of_below hb (fun b _ h => by have : b < Y := h; omega)
      have I5 := hid (II.out.keep (Y := Y) (by omega) hXY (by omega) kb)
      refine shutS hK ⟨(hb.cell (cell_lt e0)).trans e0, (hb.cell (cell_lt e1)).trans e1, (hb.cell (cell_lt e2)).trans e2, (hb.cell (cell_lt e3)).trans e3, (hb.cell (cell_lt e4)).trans e4, (hb.cell (cell_lt e5)).trans e5, (hb.cell (cell_lt e6)).trans e6, (hb.cell (cell_lt ca)).trans ca⟩ (fun hS => ?_)
      refine wpAnyF_one (i := 18) rfl ⟨by kernel_rfl, by kernel_rfl⟩ ?_
      intro K hK
      have y0 := B5.out.cell 0; have y1 := B5.out.cell 1; have y2 := B5.out.frozen 0; have y3 := B5.out.frozen 1; have y4 := B5.out.lt
      simp only [List.getElem?_toArray, List.getElem?_cons_zero, List.getElem?_cons_succ] at y0 y1
      go_simp
      refine shutN hK (by kernel_rfl) ?_
      (apply wpAnyF_pure (i := 19) rfl (by kernel_rfl) (fun _ _ _ h => h); · first | exact .inr ⟨rfl, rfl⟩ | exact .inl ⟨rfl, fun w' => by go_simp; rfl⟩); simp only [Act.put, List.setIfInBounds_toArray, List.set_cons_succ, List.set_cons_zero, List.getElem_toArray, List.getElem_cons_succ, List.getElem_cons_zero]
      refine wpAnyF_done (by kernel_rfl) ?_ _
      clear hS
      have hbest : isBest a.st a.fo i k ⟨i, k + 1, 0, n, 1⟩ = true := by unfold isBest; simp; have := HD.out; omega
      show StP a W w w1 OT O X Y i k cs rs (xs ++ (step3 a.fo i k).filter (isBest a.st a.fo i k)) (fun _ => True) _ _
      refine ⟨false, wideF s t (W n) 0 first, acts_of' rfl ⟨⟨rfl, rfl, rfl, rfl, rfl, rfl, rfl, rfl, rfl, rfl, rfl⟩, trivial, I5.out.keep (Y := Y) (by omega) hXY (by omega) (((Keep.refl _ _).setCell _ _ (fun _ h => by have : Y < Y := h; omega)).setCell _ _ (fun _ h => by have : Y < Y := h; omega)), by simpa using y4, (B5.out.set 0 _).set 1 _, ?_⟩⟩
      rw [hx2, List.filter_cons_of_pos hbest, List.filter_nil]
      have h := AC.out.snoc (x := ⟨i, k + 1, 0, n, 1⟩) w0.out (fun m hm => by unfold notchesL at hm; split at hm <;> simp at hm <;> omega) SAT.out
      dsimp only at h
      rw [w0.out, wideF_comm] at h
      exact h
    · have hq3 : ((dd a.st a.fo i k : Int) == (dd a.st a.fo i (k + 1) : Int) + 1) = false := by rw [beq_eq_false_iff_ne]; omega
      have HD := hid hd; clear hd
      go_wp2_with fail
      go_big_quiet (fail)
      go_wp2_with fail
      have hbest : ¬ isBest a.st a.fo i k ⟨i, k + 1, 0, a.fo[k], 1⟩ = true := by unfold isBest; simp; have := HD.out; omega
      show StP a W w w1 OT O X Y i k cs rs (xs ++ (step3 a.fo i k).filter (isBest a.st a.fo i k)) (fun _ => True) _ _
      refine ⟨first, s, acts_of' rfl ⟨⟨rfl, rfl, rfl, rfl, rfl, rfl, rfl, rfl, rfl, rfl, rfl⟩, trivial, II.out.same (keep_drewN _ _), hYV, BY.out, ?_⟩⟩
      rw [step3_yes i hin, List.filter_cons_of_neg hbest, List.filter_nil, List.append_nil]
      exact AC.out
  · have HIN := hid hin
    go_wp2_with fail
    go_big_quiet (fail)
    go_wp2_with fail
    show StP a W w w1 OT O X Y i k cs rs (xs ++ (step3 a.fo i k).filter (isBest a.st a.fo i k)) (fun _ => True) _ _
    refine ⟨first, s, acts_of' rfl ⟨⟨rfl, rfl, rfl, rfl, rfl, rfl, rfl, rfl, rfl, rfl, rfl⟩, trivial, II.out.same (keep_drewN _ _), hYV, BY.out, ?_⟩⟩
    rw [step3_no i HIN.out, List.filter_nil, List.append_nil]
    exact AC.out
end Go.Proofs.YtihonljdanjfmaaDoor
namespace Go.Proofs.YtihonljdanjfmaaDoor
open Go.RowKit Go.Proofs Go.Shelf
/-- Behind a round of the inner loop. -/
def StQ (a : Tl) (W : Int → Int) (w w1 : World) (OT O X i k : Nat) (cs : Array Value) (a' : Act) (V : World) : Prop := ∃ (rs : Array Value) (f : Nat → Value), a' = ⟨((List.range 220).map f).toArray, []⟩ ∧
  (f 2 = .pointer (some ⟨w.heap.size, 0, none⟩) ∧ f 3 = .pointer (some ⟨w.heap.size + 1, 0, none⟩) ∧ f 4 = .pointer (some ⟨w.heap.size + 1 + 1, 0, none⟩) ∧ f 5 = .slice (some ⟨OT, 0, none⟩) (a.st.length + 1) (a.st.length + 1) ∧ f 6 = .int .i64 a.st.length ∧ f 7 = .int .i64 a.fo.length ∧ f 8 = .slice (some ⟨O, 0, none⟩) (a.st.length + 1) (a.st.length + 1) ∧ f 9 = .int .i64 i ∧ f 10 = .int .i64 k) ∧
  RcI (fun r k => spanF W (a.st.drop r) (a.fo.drop k)) w1 a.st.length a.fo.length O X i cs rs k V
theorem acc_span {W : Int → Int} {a : Tl} (o1 : okN a.st = true) (o2 : okN a.fo = true) {i k : Nat} (hi : i ≤ a.st.length) (hk : k ≤ a.fo.length) {s : Int × Int} {first : Bool} (h : AccW W (ByS a (bestL a.st a.fo i k)) s first) : spanF W (a.st.drop i) (a.fo.drop k) = s := by
  by_cases hend : i = a.st.length ∧ k = a.fo.length
  · obtain ⟨rfl, rfl⟩ := hend
    have h0 : s = (0, 0) := by
      rcases h with ⟨_, h, _⟩ | ⟨_, h⟩
      · exact h
      · exfalso
        obtain ⟨l, ⟨x, hx, _⟩, _⟩ := h.lo
        have hb := (mem_best.1 hx).1
        have := (step_bound hb hi hk).2.2.1
        omega
    subst h0
    exact spanF_eq (IsSpan.nil.iff (fun x => (true_end x).symm))
  · rcases h with ⟨_, _, hn⟩ | ⟨_, h⟩
    · exfalso
      exact hn (a.st.drop i) ((true_iff o1 o2 hi hk hend _).1 (by unfold TrueL; rw [dist_self]; omega))
    · exact spanF_eq (h.iff (fun l => (true_iff o1 o2 hi hk hend l).symm))
set_option maxRecDepth 20000 in
set_option maxHeartbeats 4000000 in
theorem refC4 (a : Tl) (W : Int → Int) (w w1 : World) (OT O X Y i k : Nat) (cs rs : Array Value) (hl : a.st.length ≤ 1000) (hl2 : a.fo.length ≤ 1000) (o1 : okN a.st = true) (o2 : okN a.fo = true) (hi : i ≤ a.st.length) (hk : k ≤ a.fo.length) (hOX : O < X) (hXY : X < Y) (h1 : w1.heap.size ≤ O) (hci : cs[i]? = some (.slice (some ⟨X, 0, none⟩) (a.fo.length + 1) (a.fo.length + 1))) (a' : Act) (V : World)
    (h : StP a W w w1 OT O X Y i k cs rs (bestL a.st a.fo i k) (fun _ => True) a' V) : ((subC [true, true, true, true, false, true, false, false, true, false, false, true, true, false, false, true, false, false, true, true, true, true, true] Tryd.f155.body)).wp Tryd.prog (NormP (StQ a W w w1 OT O X i k cs)) a' V := by
  have hm := mixedS
  obtain ⟨first, s, f, rfl, ⟨f2, f3, f4, f5, f6, f7, f8, f9, f10, f11, f12⟩, -, hI, hYV, bY, hacc⟩ := h
  rw [show (List.range 220).map f = [f 0, f 1, f 2, f 3, f 4, f 5, f 6, f 7, f 8, f 9, f 10, f 11, f 12, f 13, f 14, f 15, f 16, f 17, f 18, f 19, f 20, f 21, f 22, f 23, f 24, f 25, f 26, f 27, f 28, f 29, f 30, f 31, f 32, f 33, f 34, f 35, f 36, f 37, f 38, f 39, f 40, f 41, f 42, f 43, f 44, f 45, f 46, f 47, f 48, f 49, f 50, f 51, f 52, f 53, f 54, f 55, f 56, f 57, f 58, f 59, f 60, f 61, f 62, f 63, f 64, f 65, f 66, f 67, f 68, f 69, f 70, f 71, f 72, f 73, f 74, f 75, f 76, f 77, f 78, f 79, f 80, f 81, f 82, f 83, f 84, f 85, f 86, f 87, f 88, f 89, f 90, f 91, f 92, f 93, f 94, f 95, f 96, f 97, f 98, f 99, f 100, f 101, f 102, f 103, f 104, f 105, f 106, f 107, f 108, f 109, f 110, f 111, f 112, f 113, f 114, f 115, f 116, f 117, f 118, f 119, f 120, f 121, f 122, f 123, f 124, f 125, f 126, f 127, f 128, f 129, f 130, f 131, f 132, f 133, f 134, f 135, f 136, f 137, f 138, f 139, f 140, f 141, f 142, f 143, f 144, f 145, f 146, f 147, f 148, f 149, f 150, f 151, f 152, f 153, f 154, f 155, f 156, f 157, f 158, f 159, f 160, f 161, f 162, f 163, f 164, f 165, f 166, f 167, f 168, f 169, f 170, f 171, f 172, f 173, f 174, f 175, f 176, f 177, f 178, f 179, f 180, f 181, f 182, f 183, f 184, f 185, f 186, f 187, f 188, f 189, f 190, f 191, f 192, f 193, f 194, f 195, f 196, f 197, f 198, f 199, f 200, f 201, f 202, f 203, f 204, f 205, f 206, f 207, f 208, f 209, f 210, f 211, f 212, f 213, f 214, f 215, f 216, f 217, f 218, f 219] from rfl, f2, f3, f4, f5, f6, f7, f8, f9, f10, f11, f12]
  clear f2 f3 f4 f5 f6 f7 f8 f9 f10 f11 f12
  have hsp := acc_span o1 o2 hi hk hacc
  have II := hid hI; have HSP := hid hsp
  have tc1 : (i : Int) < (a.st.length : Int) + 1 := by omega
  have tc2 : (k : Int) < (a.fo.length : Int) + 1 := by omega
  have e0 : V.cell? ⟨Y, 0, none⟩ = some (.int .i64 s.1) := bY.cell 0
  have e1 : V.cell? ⟨Y, 1, none⟩ = some (.int .i64 s.2) := bY.cell 1
  have e2 : V.cell? ⟨O, i, none⟩ = some (.slice (some ⟨X, 0, none⟩) (a.fo.length + 1) (a.fo.length + 1)) := (hI.o.cell i).trans hci
  have sz := hI.sz
  obtain ⟨v0, hv0⟩ : ∃ v, V.cell? ⟨X, k * 2, none⟩ = some v := ⟨rs[k * 2], (hI.x.cell _).trans (Array.getElem?_eq_getElem (by omega))⟩
  obtain ⟨v1, hv1⟩ : ∃ v, V.cell? ⟨X, k * 2 + 1, none⟩ = some v := ⟨rs[k * 2 + 1], (hI.x.cell _).trans (Array.getElem?_eq_getElem (by omega))⟩
  have hf0 := hI.x.frozen (k * 2); have hf1 := hI.x.frozen (k * 2 + 1)
  have lX := hI.x.lt; have lO := hI.o.lt
  clear hI bY hacc hsp
  dsimp only [subC, Tryd.f155, Option.getD_some, partC]
  refine wp_region_F [3, 5] (fun w' => w'.cell? ⟨Y, 0, none⟩ = some (.int .i64 s.1) ∧ w'.cell? ⟨Y, 1, none⟩ = some (.int .i64 s.2) ∧ w'.cell? ⟨O, i, none⟩ = some (.slice (some ⟨X, 0, none⟩) (a.fo.length + 1) (a.fo.length + 1))) hm ⟨e0, e1, e2⟩ ?_
  intro hS0; have hS := hid hS0; clear hS0
  (apply wpAnyF_pure (i := 0) rfl (by kernel_rfl) (fun _ _ _ h => h); · first | exact .inr ⟨rfl, rfl⟩ | exact .inl ⟨rfl, fun w' => by go_simp; rfl⟩); simp only [Act.put, List.setIfInBounds_toArray, List.set_cons_succ, List.set_cons_zero, List.getElem_toArray, List.getElem_cons_succ, List.getElem_cons_zero]
  (apply wpAnyF_pure (i := 1) rfl (by kernel_rfl) (fun _ _ _ h => h); · first | exact .inr ⟨rfl, rfl⟩ | exact .inl ⟨rfl, fun w' => by go_simp; rfl⟩); simp only [Act.put, List.setIfInBounds_toArray, List.set_cons_succ, List.set_cons_zero, List.getElem_toArray, List.getElem_cons_succ, List.getElem_cons_zero]
  (apply wpAnyF_pure (i := 2) rfl (by kernel_rfl) (fun _ _ _ h => h); · first | exact .inr ⟨rfl, rfl⟩ | exact .inl ⟨rfl, fun w' => by go_simp; rfl⟩); simp only [Act.put, List.setIfInBounds_toArray, List.set_cons_succ, List.set_cons_zero, List.getElem_toArray, List.getElem_cons_succ, List.getElem_cons_zero]
  (apply wpAnyF_held (i := 3) rfl (by kernel_rfl) (fun _ _ _ h => h) hS.out; · first | exact .inr ⟨rfl, rfl⟩ | exact .inl ⟨rfl, fun w' hS' => by (obtain ⟨s1, s2, s3⟩ := hS'; go_simp; rfl)⟩); simp only [Act.put, List.setIfInBounds_toArray, List.set_cons_succ, List.set_cons_zero, List.getElem_toArray, List.getElem_cons_succ, List.getElem_cons_zero]
  (apply wpAnyF_pure (i := 4) rfl (by kernel_rfl) (fun _ _ _ h => h); · first | exact .inr ⟨rfl, rfl⟩ | exact .inl ⟨rfl, fun w' => by go_simp; rfl⟩); simp only [Act.put, List.setIfInBounds_toArray, List.set_cons_succ, List.set_cons_zero, List.getElem_toArray, List.getElem_cons_succ, List.getElem_cons_zero]
  (apply wpAnyF_held (i := 5) rfl (by kernel_rfl) (fun _ _ _ h => h) hS.out; · first | exact .inr ⟨rfl, rfl⟩ | exact .inl ⟨rfl, fun w' hS' => by (obtain ⟨s1, s2, s3⟩ := hS'; go_simp; rfl)⟩); simp only [Act.put, List.setIfInBounds_toArray, List.set_cons_succ, List.set_cons_zero, List.getElem_toArray, List.getElem_cons_succ, List.getElem_cons_zero]
  (apply wpAnyF_pure (i := 6) rfl (by kernel_rfl) (fun _ _ _ h => h); · first | exact .inr ⟨rfl, rfl⟩ | exact .inl ⟨rfl, fun w' => by go_simp; rfl⟩); simp only [Act.put, List.setIfInBounds_toArray, List.set_cons_succ, List.set_cons_zero, List.getElem_toArray, List.getElem_cons_succ, List.getElem_cons_zero]
  refine wpAnyF_one (i := 7) rfl ⟨by kernel_rfl, by kernel_rfl⟩ ?_
  intro K hK
  go_simp
  refine shutN hK (by kernel_rfl) ?_
  refine wpAnyF_done (by kernel_rfl) ?_ _
  clear hS
  show StQ a W w w1 OT O X i k cs _ _
  have hI := II.out
  refine ⟨(rs.setIfInBounds (k * 2) (.int .i64 s.1)).setIfInBounds (k * 2 + 1) (.int .i64 s.2), acts_of' rfl ⟨⟨rfl, rfl, rfl, rfl, rfl, rfl, rfl, rfl, rfl⟩, ?_⟩⟩
  have hk1 : ∀ b, b ≠ X → ((V.setCell ⟨X, k * 2, none⟩ (.int .i64 s.1)).setCell ⟨X, k * 2 + 1, none⟩ (.int .i64 s.2)).heap[b]? = V.heap[b]? := fun b hb => (Below.heap_setCell _ _ _ b hb).trans (Below.heap_setCell _ _ _ b hb)
  have hg : RcI (fun r k => spanF W (a.st.drop r) (a.fo.drop k)) w1 a.st.length a.fo.length O X i cs ((rs.setIfInBounds (k * 2) (.int .i64 s.1)).setIfInBounds (k * 2 + 1) (.int .i64 s.2)) k ((V.setCell ⟨X, k * 2, none⟩ (.int .i64 s.1)).setCell ⟨X, k * 2 + 1, none⟩ (.int .i64 s.2)) := by
    refine ⟨(hk1 O (by omega)).trans hI.o, fun r g1 g2 => (hI.rows r g1 g2).keep rfl (Nat.le_refl _) (fun b hb _ _ => hk1 b (by omega)), (hI.bel.setCell (p := ⟨X, k * 2, none⟩) (show w1.heap.size ≤ X by omega) _).setCell (p := ⟨X, k * 2 + 1, none⟩) (show w1.heap.size ≤ X by omega) _, (hI.x.set _ _).set _ _, by simpa using hI.sz, fun j h1 h2 => ?_⟩
    by_cases hj : j = k
    · subst hj
      rw [HSP.out]
      refine ⟨?_, ?_⟩
      · rw [Array.getElem?_setIfInBounds, if_neg (by omega), Array.getElem?_setIfInBounds, if_pos rfl, if_pos (by omega)]
      · rw [Array.getElem?_setIfInBounds, if_pos rfl, if_pos (by simp; omega)]
    · have h3 := hI.got j (by omega) h2
      refine ⟨?_, ?_⟩
      · rw [Array.getElem?_setIfInBounds, if_neg (by omega), Array.getElem?_setIfInBounds, if_neg (by omega)]; exact h3.1
      · rw [Array.getElem?_setIfInBounds, if_neg (by omega), Array.getElem?_setIfInBounds, if_neg (by omega)]; exact h3.2
  exact hg.same ⟨rfl, rfl, rfl, Nat.le_refl _, fun _ _ _ => rfl⟩
end Go.Proofs.YtihonljdanjfmaaDoor
namespace Go.Proofs.YtihonljdanjfmaaDoor
open Go.RowKit Go.Proofs Go.Shelf
theorem wp_next {P : Program} {x y : Code} {Q : Exit → Act → World → Prop} {a : Act} {w : World} (R : Act → World → Prop) (h : x.wp P (NormP R) a w) (k : ∀ a w, R a w → y.wp P Q a w) : (Code.seq x y).wp P Q a w :=
  wp_seq (wp_post R h (fun a w hr => k a w hr))
set_option maxRecDepth 20000 in
theorem refTail (a : Tl) (W : Int → Int) (sa fa : Option Addr) (sc fc : Nat) (w w1 : World) (OT O X Y i k : Nat) (cs rs : Array Value) (hl : a.st.length ≤ 1000) (hl2 : a.fo.length ≤ 1000) (o1 : okN a.st = true) (o2 : okN a.fo = true) (w0 : Hid (W 0 = 0)) (wb : ∀ n, -1000 ≤ W n ∧ W n ≤ 1000) (H1 : Hid (RdI w1 sa a.st)) (H2 : Hid (RdI w1 fa a.fo))
    (BX : Hid (Box w1 w.heap.size (#[.int .i64 a.id, .int .i64 a.hs, .slice sa a.st.length sc, .slice fa a.fo.length fc]) 68)) (BW : Hid (Box w1 (w.heap.size + 1) (#[.int .i64 (W 0), .int .i64 (W 1), .int .i64 (W 2), .int .i64 (W 3), .int .i64 (W 4)]) 221)) (TT : Hid (Tbl w1 OT a.st a.fo)) (hi : i ≤ a.st.length) (hk : k ≤ a.fo.length) (hOX : O < X) (hXY : X < Y) (h1 : w1.heap.size ≤ O) (hci : cs[i]? = some (.slice (some ⟨X, 0, none⟩) (a.fo.length + 1) (a.fo.length + 1))) (a' : Act) (V : World)
    (h : StP a W w w1 OT O X Y i k cs rs [] (fun _ => True) a' V) : ((subC [true, true, true, true, false, true, false, false, true, false, false, true, true, false, false, true, false, false, true, true] Tryd.f155.body)).wp Tryd.prog (NormP (StQ a W w w1 OT O X i k cs)) a' V := by
  show (Code.seq ((subC [true, true, true, true, false, true, false, false, true, false, false, true, true, false, false, true, false, false, true, true, false] Tryd.f155.body)) (Code.seq ((subC [true, true, true, true, false, true, false, false, true, false, false, true, true, false, false, true, false, false, true, true, true, false] Tryd.f155.body)) (Code.seq ((subC [true, true, true, true, false, true, false, false, true, false, false, true, true, false, false, true, false, false, true, true, true, true, false] Tryd.f155.body)) ((subC [true, true, true, true, false, true, false, false, true, false, false, true, true, false, false, true, false, false, true, true, true, true, true] Tryd.f155.body))))).wp Tryd.prog _ _ _
  refine wp_next _ (refC1 a W sa fa sc fc w w1 OT O X Y i k cs rs [] hl hl2 o1 o2 w0 wb H1 H2 BX BW TT hi hk hOX hXY h1 a' V h) fun a2 V2 q2 => ?_
  refine wp_next _ (refC2 a W sa fa sc fc w w1 OT O X Y i k cs rs _ hl hl2 o1 o2 w0 wb H1 BX BW TT hi hk hOX hXY h1 a2 V2 q2) fun a3 V3 q3 => ?_
  refine wp_next _ (refC3 a W sa fa sc fc w w1 OT O X Y i k cs rs _ hl hl2 o1 o2 w0 wb H2 BX BW TT hi hk hOX hXY h1 hci a3 V3 q3) fun a4 V4 q4 => ?_
  refine refC4 a W w w1 OT O X Y i k cs rs hl hl2 o1 o2 hi hk hOX hXY h1 hci a4 V4 ?_
  have e : [] ++ (step1 a.st a.fo i k).filter (isBest a.st a.fo i k) ++ (step2 a.st i k).filter (isBest a.st a.fo i k) ++ (step3 a.fo i k).filter (isBest a.st a.fo i k) = bestL a.st a.fo i k := by
    unfold bestL stepsL
    rw [List.filter_append, List.filter_append, List.nil_append, List.append_assoc]
  rw [← e]
  exact q4
end Go.Proofs.YtihonljdanjfmaaDoor
namespace Go.Proofs.YtihonljdanjfmaaDoor
open Go.RowKit Go.Proofs Go.Shelf
set_option maxRecDepth 20000 in
set_option maxHeartbeats 4000000 in
theorem refComes_any (a : Tl) (W : Int → Int) (sa fa : Option Addr) (sc fc : Nat) (w : World) (hl : a.st.length ≤ 1000) (hl2 : a.fo.length ≤ 1000) (o1 : okN a.st = true) (o2 : okN a.fo = true) (w0 : W 0 = 0) (wb : ∀ n, -1000 ≤ W n ∧ W n ≤ 1000) (h1 : RdI w sa a.st) (h2 : RdI w fa a.fo) :
    Calls Tryd.prog 155 #[.agg #[.int .i64 a.id, .int .i64 a.hs, .slice sa a.st.length sc, .slice fa a.fo.length fc], .agg #[.int .i64 (W 0), .int .i64 (W 1), .int .i64 (W 2), .int .i64 (W 3), .int .i64 (W 4)]] w
      fun e w' => e = .returned (.agg #[.int .i64 (spanF W a.st a.fo).1, .int .i64 (spanF W a.st a.fo).2]) ∧ Below w.heap.size w w' := by
  have hm := mixedS
  have H1 := hid h1; have H2 := hid h2; clear h1 h2
  have HW0 := hid w0; clear w0
  obtain ⟨i0, hi0, iz0, iz1, iz2⟩ := info_parts infoSpan
  obtain ⟨i1, hi1, jz0, jz1, jz2⟩ := info_parts infoSRow
  have mk1 : ∀ V : World, (Instr.makeSlice 242 (.int .i64 ((a.st.length : Int) + 1)) (.int .i64 ((a.st.length : Int) + 1))).run Tryd.prog V = .ok (.slice (some ⟨V.heap.size, 0, none⟩) (a.st.length + 1) (a.st.length + 1)) (V.alloc (.cells (madeCells (Value.slice none 0 0).cells ((a.st.length + 1) * i1.size)) 237)) := fun V => by
    have := run_make (P := Tryd.prog) V 242 237 i1 _ Tryd.underlying242 hi1 jz0 .i64 .i64 ((a.st.length : Int) + 1) ((a.st.length : Int) + 1) (by omega) (by omega) (by rw [jz2]; omega) (by omega)
    rw [this]
    have e : ((a.st.length : Int) + 1).toNat = a.st.length + 1 := by omega
    rw [e]
  have mk2 : ∀ V : World, (Instr.makeSlice 237 (.int .i64 ((a.fo.length : Int) + 1)) (.int .i64 ((a.fo.length : Int) + 1))).run Tryd.prog V = .ok (.slice (some ⟨V.heap.size, 0, none⟩) (a.fo.length + 1) (a.fo.length + 1)) (V.alloc (.cells (madeCells (Value.agg #[.int .i64 0, .int .i64 0]).cells ((a.fo.length + 1) * i0.size)) 134)) := fun V => by
    have := run_make (P := Tryd.prog) V 237 134 i0 _ Tryd.underlying237 hi0 iz0 .i64 .i64 ((a.fo.length : Int) + 1) ((a.fo.length : Int) + 1) (by omega) (by omega) (by rw [iz2]; omega) (by omega)
    rw [this]
    have e : ((a.fo.length : Int) + 1).toNat = a.fo.length + 1 := by omega
    rw [e]
  have tl := refTail a W sa fa sc fc w
  obtain ⟨T, hTe⟩ : ∃ T, (subC [true, true, true, true, false, true, false, false, true, false, false, true, true, false, false, true, false, false, true, true] Tryd.f155.body) = T := ⟨_, rfl⟩
  have hbody : Tryd.f155.body = some (putC [true, true, true, true, false, true, false, false, true, false, false, true, true, false, false, true, false, false, true, true] T (Tryd.f155.body.getD .skip)) := by rw [← hTe]; rfl
  rw [hTe] at tl
  have TL := hid tl
  clear tl hTe
  refine calls_of_wp Tryd.func155 hbody ?_
  clear hbody
  simp only [Tryd.ntmps155, List.size_toArray, List.length_cons, List.length_nil, Nat.reduceAdd, Nat.reduceSub, Array.replicate_succ, Array.replicate_zero, List.push_toArray, List.append_toArray, List.nil_append, List.cons_append]
  dsimp only [Tryd.f155, Option.getD_some, putC]
  go_wp2_with fail
  refine (table_any a.st a.fo sa fa sc fc _ hl hl2 (H1.out.below (by repeat (first | (with_reducible exact Below.refl _ _) | (with_reducible assumption) | (with_reducible refine Below.drew ?_) | (with_reducible refine below_drewN ?_ _) | (with_reducible refine Below.alloc ?_ (by first | omega | (simp; done) | (simp; omega)) _) | (with_reducible refine Below.setCell ?_ (by first | omega | (simp; done) | (simp; omega)) _) | (with_reducible refine Below.trans ?_ (Below.mono (by assumption) (by first | omega | (simp; done) | (simp; omega))))))) (H2.out.below (by repeat (first | (with_reducible exact Below.refl _ _) | (with_reducible assumption) | (with_reducible refine Below.drew ?_) | (with_reducible refine below_drewN ?_ _) | (with_reducible refine Below.alloc ?_ (by first | omega | (simp; done) | (simp; omega)) _) | (with_reducible refine Below.setCell ?_ (by first | omega | (simp; done) | (simp; omega)) _) | (with_reducible refine Below.trans ?_ (Below.mono (by assumption) (by first | omega | (simp; done) | (simp; omega)))))))).mono ?_
  rintro e w1 ⟨OT, rfl, hb1, hT⟩
  have BX := hid ((((Box.new w (#[.int .i64 a.id, .int .i64 a.hs, .slice sa a.st.length sc, .slice fa a.fo.length fc]) 68).alloc (.cells (#[.int .i64 (W 0), .int .i64 (W 1), .int .i64 (W 2), .int .i64 (W 3), .int .i64 (W 4)]) 221)).alloc (.cells #[.int .i64 0, .int .i64 0] 134)).below hb1 (by simp; omega))
  have BW := hid (((Box.at (w := w.alloc (.cells #[.int .i64 a.id, .int .i64 a.hs, .slice sa a.st.length sc, .slice fa a.fo.length fc] 68)) (n := w.heap.size + 1) (#[.int .i64 (W 0), .int .i64 (W 1), .int .i64 (W 2), .int .i64 (W 3), .int .i64 (W 4)]) 221 (by simp)).alloc (.cells #[.int .i64 0, .int .i64 0] 134)).below hb1 (by simp))
  have BR := hid ((Box.at (w := (w.alloc (.cells #[.int .i64 a.id, .int .i64 a.hs, .slice sa a.st.length sc, .slice fa a.fo.length fc] 68)).alloc (.cells (#[.int .i64 (W 0), .int .i64 (W 1), .int .i64 (W 2), .int .i64 (W 3), .int .i64 (W 4)]) 221)) (n := w.heap.size + 1 + 1) #[.int .i64 0, .int .i64 0] 134 (by simp)).below hb1 (by simp))
  have WB := hid (show Below w.heap.size w w1 from (by repeat (first | (with_reducible exact Below.refl _ _) | (with_reducible assumption) | (with_reducible refine Below.drew ?_) | (with_reducible refine below_drewN ?_ _) | (with_reducible refine Below.alloc ?_ (by first | omega | (simp; done) | (simp; omega)) _) | (with_reducible refine Below.setCell ?_ (by first | omega | (simp; done) | (simp; omega)) _) | (with_reducible refine Below.trans ?_ (Below.mono (by assumption) (by first | omega | (simp; done) | (simp; omega)))))))
  have TT := hid hT
  clear hb1 hT
  obtain ⟨⟨c0, c1, c2, c3⟩, _, lx⟩ := box_quad BX.out
  go_wp2_with fail
  go_big_quiet (fail)
  go_wp2_with fail
  refine wp_world (fun V => (∃ cs, Box V w1.heap.size cs 237 ∧ cs.size = a.st.length + 1) ∧ Below w1.heap.size w1 V) ⟨⟨madeCells #[.slice none 0 0] (a.st.length + 1), Box.at _ _ rfl, size_madeCells _ _⟩, (by repeat (first | (with_reducible exact Below.refl _ _) | (with_reducible assumption) | (with_reducible refine Below.drew ?_) | (with_reducible refine below_drewN ?_ _) | (with_reducible refine Below.alloc ?_ (by first | omega | (simp; done) | (simp; omega)) _) | (with_reducible refine Below.setCell ?_ (by first | omega | (simp; done) | (simp; omega)) _) | (with_reducible refine Below.trans ?_ (Below.mono (by assumption) (by first | omega | (simp; done) | (simp; omega))))))⟩ ?_
  rintro W0 ⟨⟨cs0, hb0, hz0⟩, hB0⟩
  obtain ⟨O, hO⟩ : ∃ O, O = w1.heap.size := ⟨_, rfl⟩
  rw [← hO] at hb0 ⊢
  have nO : w.heap.size + 1 + 1 < O := by have := BR.out.lt; omega
  have HO := hid hO
  clear hO
  clear c0 c1 c2 c3 lx
  refine wp_loop (fun a' V => ∃ f : Nat → Value, a' = ⟨((List.range 220).map f).toArray, []⟩ ∧ ((f 2 = .pointer (some ⟨w.heap.size, 0, none⟩) ∧ f 3 = .pointer (some ⟨w.heap.size + 1, 0, none⟩) ∧ f 4 = .pointer (some ⟨w.heap.size + 1 + 1, 0, none⟩) ∧ f 5 = .slice (some ⟨OT, 0, none⟩) (a.st.length + 1) (a.st.length + 1) ∧ f 6 = .int .i64 a.st.length ∧ f 7 = .int .i64 a.fo.length ∧ f 8 = .slice (some ⟨O, 0, none⟩) (a.st.length + 1) (a.st.length + 1)) ∧ ∃ j : Nat, j ≤ a.st.length + 1 ∧ f 9 = .int .i64 ((j : Int) - 1) ∧ (∃ cs, Box V O cs 237 ∧ cs.size = a.st.length + 1 ∧ ∀ r, j ≤ r → r ≤ a.st.length → SRow (fun r k => spanF W (a.st.drop r) (a.fo.drop k)) V cs a.fo.length O V.heap.size r) ∧ Below w1.heap.size w1 V)) (fun a' _ => (intOf (a'.tmps.getD 9 Go.undef) + 1).toNat) ?atStart ?round
  case atStart => exact acts_of' rfl ⟨⟨rfl, rfl, rfl, rfl, rfl, rfl, rfl⟩, a.st.length + 1, by omega, congrArg (Value.int .i64) (by omega), ⟨cs0, hb0, hz0, fun r h1 h2 => by omega⟩, hB0⟩
  case round =>
    rintro _ wr ⟨f, rfl, ⟨f2, f3, f4, f5, f6, f7, f8⟩, j, hj, f9, ⟨cs, hOb, hcs, hrows⟩, hB⟩
    rw [show (List.range 220).map f = [f 0, f 1, f 2, f 3, f 4, f 5, f 6, f 7, f 8, f 9, f 10, f 11, f 12, f 13, f 14, f 15, f 16, f 17, f 18, f 19, f 20, f 21, f 22, f 23, f 24, f 25, f 26, f 27, f 28, f 29, f 30, f 31, f 32, f 33, f 34, f 35, f 36, f 37, f 38, f 39, f 40, f 41, f 42, f 43, f 44, f 45, f 46, f 47, f 48, f 49, f 50, f 51, f 52, f 53, f 54, f 55, f 56, f 57, f 58, f 59, f 60, f 61, f 62, f 63, f 64, f 65, f 66, f 67, f 68, f 69, f 70, f 71, f 72, f 73, f 74, f 75, f 76, f 77, f 78, f 79, f 80, f 81, f 82, f 83, f 84, f 85, f 86, f 87, f 88, f 89, f 90, f 91, f 92, f 93, f 94, f 95, f 96, f 97, f 98, f 99, f 100, f 101, f 102, f 103, f 104, f 105, f 106, f 107, f 108, f 109, f 110, f 111, f 112, f 113, f 114, f 115, f 116, f 117, f 118, f 119, f 120, f 121, f 122, f 123, f 124, f 125, f 126, f 127, f 128, f 129, f 130, f 131, f 132, f 133, f 134, f 135, f 136, f 137, f 138, f 139, f 140, f 141, f 142, f 143, f 144, f 145, f 146, f 147, f 148, f 149, f 150, f 151, f 152, f 153, f 154, f 155, f 156, f 157, f 158, f 159, f 160, f 161, f 162, f 163, f 164, f 165, f 166, f 167, f 168, f 169, f 170, f 171, f 172, f 173, f 174, f 175, f 176, f 177, f 178, f 179, f 180, f 181, f 182, f 183, f 184, f 185, f 186, f 187, f 188, f 189, f 190, f 191, f 192, f 193, f 194, f 195, f 196, f 197, f 198, f 199, f 200, f 201, f 202, f 203, f 204, f 205, f 206, f 207, f 208, f 209, f 210, f 211, f 212, f 213, f 214, f 215, f 216, f 217, f 218, f 219] from rfl, f2, f3, f4, f5, f6, f7, f8, f9]
    clear f2 f3 f4 f5 f6 f7 f8 f9
    have HR := hid hrows; clear hrows hb0 hB0
    cases j with
    | zero =>
      obtain ⟨R, rs, g1, g2, _, g3, g4, g5⟩ := HR.out 0 (Nat.le_refl _) (Nat.zero_le _)
      have q0 : wr.cell? ⟨O, 0, none⟩ = some (.slice (some ⟨R, 0, none⟩) (a.fo.length + 1) (a.fo.length + 1)) := (hOb.cell 0).trans g1
      have q1 : wr.cell? ⟨R, 0, none⟩ = some (.int .i64 (spanF W a.st a.fo).1) := (g3.cell 0).trans (g5 0 (Nat.zero_le _)).1
      have q2 : wr.cell? ⟨R, 1, none⟩ = some (.int .i64 (spanF W a.st a.fo).2) := (g3.cell 1).trans (g5 0 (Nat.zero_le _)).2
      have b4 := BR.out.below hB BR.out.lt
      have r0 := b4.cell 0; have r1 := b4.cell 1; have r2 := b4.frozen 0; have r3 := b4.frozen 1; have r4 := b4.lt
      simp only [List.getElem?_toArray, List.getElem?_cons_zero, List.getElem?_cons_succ] at r0 r1
      have t1 : (0 : Int) < (a.st.length : Int) + 1 := by omega
      have t2 : (0 : Int) < (a.fo.length : Int) + 1 := by omega
      clear g1 g2 g3 g4 g5 b4 HR
      go_wp2_with fail
      refine bodyPost_ret (v := .agg #[.int .i64 (spanF W a.st a.fo).1, .int .i64 (spanF W a.st a.fo).2]) (by simp [results, Tryd.results155, go_sem, r0, r1, r2, r3, r4]) rfl ⟨rfl, ((WB.out.trans (hB.mono WB.out.size)).setCell (p := ⟨w.heap.size + 1 + 1, 0, none⟩) (show w.heap.size ≤ w.heap.size + 1 + 1 by omega) _).setCell (p := ⟨w.heap.size + 1 + 1, 1, none⟩) (show w.heap.size ≤ w.heap.size + 1 + 1 by omega) _⟩
    | succ i =>
      have ei : (((i + 1 : Nat) : Int) - 1) = (i : Int) := by omega
      rw [ei]
      have hO0 := hid hOb
      have hlO := hOb.lt
      obtain ⟨v0, hv0⟩ : ∃ v, wr.cell? ⟨O, i, none⟩ = some v := ⟨cs[i], (hOb.cell i).trans (Array.getElem?_eq_getElem (by omega))⟩
      have hf0 := hOb.frozen i
      have hi : i ≤ a.st.length := by omega
      clear hOb
      go_wp2_with fail
      refine wp_world (fun V => ∃ cs1 rs, cs1.size = a.st.length + 1 ∧ cs1[i]? = some (.slice (some ⟨wr.heap.size, 0, none⟩) (a.fo.length + 1) (a.fo.length + 1)) ∧ RcI (fun r k => spanF W (a.st.drop r) (a.fo.drop k)) w1 a.st.length a.fo.length O wr.heap.size i cs1 rs (a.fo.length + 1) V) ⟨cs.setIfInBounds i (.slice (some ⟨wr.heap.size, 0, none⟩) (a.fo.length + 1) (a.fo.length + 1)), madeCells #[.int .i64 0, .int .i64 0] ((a.fo.length + 1) * 2), by simpa using hcs, by rw [Array.getElem?_setIfInBounds]; simp; omega, ⟨?_, ?_, ?_, ?_, ?_, ?_⟩⟩ ?_
      · exact (hO0.out.set i _).alloc _
      · intro r g1 g2
        refine (HR.out r g1 g2).keep ?_ (Nat.le_refl _) (fun k hk hne _ => ?_)
        · rw [Array.getElem?_setIfInBounds, if_neg (by omega)]
        · exact (Below.heap_alloc _ _ k (by simpa using hk)).trans (Below.heap_setCell _ _ _ k hne)
      · exact (hB.setCell (p := ⟨O, i, none⟩) (show w1.heap.size ≤ O by have := HO.out; omega) _).alloc (by have := hB.size; simp; omega) _
      · exact Box.at _ _ (by simp)
      · rw [size_madeCells]; omega
      · intro k g1 g2; omega
      rintro W2 ⟨cs1, rs1, hcs1, hci1, hI1⟩
      have XO : O < wr.heap.size := hlO
      have hXs := hB.size
      clear hv0 hf0 hO0 hcs HR hB
      obtain ⟨X, hX⟩ : ∃ X, X = wr.heap.size := ⟨_, rfl⟩
      rw [← hX] at hci1 hI1 XO hXs
      clear hX hlO
      have HOw : w1.heap.size ≤ O := by have := HO.out; omega
      refine wp_loop (fun a' V => ∃ f : Nat → Value, a' = ⟨((List.range 220).map f).toArray, []⟩ ∧ ((f 2 = .pointer (some ⟨w.heap.size, 0, none⟩) ∧ f 3 = .pointer (some ⟨w.heap.size + 1, 0, none⟩) ∧ f 4 = .pointer (some ⟨w.heap.size + 1 + 1, 0, none⟩) ∧ f 5 = .slice (some ⟨OT, 0, none⟩) (a.st.length + 1) (a.st.length + 1) ∧ f 6 = .int .i64 a.st.length ∧ f 7 = .int .i64 a.fo.length ∧ f 8 = .slice (some ⟨O, 0, none⟩) (a.st.length + 1) (a.st.length + 1) ∧ f 9 = .int .i64 i) ∧ ∃ l : Nat, l ≤ a.fo.length + 1 ∧ f 10 = .int .i64 ((l : Int) - 1) ∧ ∃ rs, RcI (fun r k => spanF W (a.st.drop r) (a.fo.drop k)) w1 a.st.length a.fo.length O X i cs1 rs l V)) (fun a' _ => (intOf (a'.tmps.getD 10 Go.undef) + 1).toNat) ?atStart ?round
      case atStart => exact acts_of' rfl ⟨⟨rfl, rfl, rfl, rfl, rfl, rfl, rfl, rfl⟩, a.fo.length + 1, by omega, congrArg (Value.int .i64) (by omega), rs1, hI1⟩
      case round =>
        rintro _ wr ⟨f, rfl, ⟨f2, f3, f4, f5, f6, f7, f8, f9⟩, l, hlb, f10, rs, hI⟩
        rw [show (List.range 220).map f = [f 0, f 1, f 2, f 3, f 4, f 5, f 6, f 7, f 8, f 9, f 10, f 11, f 12, f 13, f 14, f 15, f 16, f 17, f 18, f 19, f 20, f 21, f 22, f 23, f 24, f 25, f 26, f 27, f 28, f 29, f 30, f 31, f 32, f 33, f 34, f 35, f 36, f 37, f 38, f 39, f 40, f 41, f 42, f 43, f 44, f 45, f 46, f 47, f 48, f 49, f 50, f 51, f 52, f 53, f 54, f 55, f 56, f 57, f 58, f 59, f 60, f 61, f 62, f 63, f 64, f 65, f 66, f 67, f 68, f 69, f 70, f 71, f 72, f 73, f 74, f 75, f 76, f 77, f 78, f 79, f 80, f 81, f 82, f 83, f 84, f 85, f 86, f 87, f 88, f 89, f 90, f 91, f 92, f 93, f 94, f 95, f 96, f 97, f 98, f 99, f 100, f 101, f 102, f 103, f 104, f 105, f 106, f 107, f 108, f 109, f 110, f 111, f 112, f 113, f 114, f 115, f 116, f 117, f 118, f 119, f 120, f 121, f 122, f 123, f 124, f 125, f 126, f 127, f 128, f 129, f 130, f 131, f 132, f 133, f 134, f 135, f 136, f 137, f 138, f 139, f 140, f 141, f 142, f 143, f 144, f 145, f 146, f 147, f 148, f 149, f 150, f 151, f 152, f 153, f 154, f 155, f 156, f 157, f 158, f 159, f 160, f 161, f 162, f 163, f 164, f 165, f 166, f 167, f 168, f 169, f 170, f 171, f 172, f 173, f 174, f 175, f 176, f 177, f 178, f 179, f 180, f 181, f 182, f 183, f 184, f 185, f 186, f 187, f 188, f 189, f 190, f 191, f 192, f 193, f 194, f 195, f 196, f 197, f 198, f 199, f 200, f 201, f 202, f 203, f 204, f 205, f 206, f 207, f 208, f 209, f 210, f 211, f 212, f 213, f 214, f 215, f 216, f 217, f 218, f 219] from rfl, f2, f3, f4, f5, f6, f7, f8, f9, f10]
        clear f2 f3 f4 f5 f6 f7 f8 f9 f10
        clear hI1 rs1
        have II := hid hI
        have zX := hI.x.lt
        cases l with
        | zero =>
          go_wp2_with fail
          refine ⟨acts_of' rfl ⟨⟨rfl, rfl, rfl, rfl, rfl, rfl, rfl⟩, i, by omega, rfl, ⟨cs1, hI.o, hcs1, fun r g1 g2 => ?_⟩, hI.bel⟩, by simp [intOf]⟩
          by_cases hr : r = i
          · subst hr
            exact ⟨X, rs, hci1, hI.x.lt, by omega, hI.x, hI.sz, fun k hk => hI.got k (Nat.zero_le _) hk⟩
          · exact (hI.rows r (by omega) g2).keep rfl (by omega) (fun _ _ _ _ => rfl)
        | succ k =>
          have ek : (((k + 1 : Nat) : Int) - 1) = (k : Int) := by omega
          rw [ek]
          have hk : k ≤ a.fo.length := by omega
          clear hI
          obtain ⟨Y, hY⟩ : ∃ Y, Y = wr.heap.size := ⟨_, rfl⟩
          have XY : X < Y := by omega
          have b1 : RcI (fun r k => spanF W (a.st.drop r) (a.fo.drop k)) w1 a.st.length a.fo.length O X i cs1 rs (k + 1) (wr.alloc (.cells #[.int .i64 0, .int .i64 0] 134)) := II.out.keep (Y := wr.heap.size) (by omega) (by omega) (by omega) ((Keep.refl _ _).alloc _)
          have b2 : Box (wr.alloc (.cells #[.int .i64 0, .int .i64 0] 134)) Y #[.int .i64 0, .int .i64 0] 134 := Box.at _ _ hY
          have B1 := hid b1; have B2 := hid b2
          clear b1 b2
          have HWI := hid (II.out.bel)
          go_wp2_with fail
          refine wp_post (StQ a W w w1 OT O X i k cs1) (TL.out w1 OT O X Y i k cs1 rs hl hl2 o1 o2 HW0 wb (hid (H1.out.below WB.out)) (hid (H2.out.below WB.out)) BX BW TT hi hk XO XY HOw hci1 _ _ ?_) ?_
          · refine ⟨true, (0, 0), acts_of' rfl ⟨⟨rfl, rfl, rfl, rfl, rfl, rfl, rfl, rfl, rfl, by rw [hY]; rfl, rfl⟩, trivial, B1.out, B2.out.lt, B2.out, .inl ⟨rfl, rfl, fun l ⟨_, h, _⟩ => by cases h⟩⟩⟩
          · clear II hY B1 B2
            rintro a' V ⟨rs', f, rfl, ⟨f2, f3, f4, f5, f6, f7, f8, f9, f10⟩, hI⟩
            rw [show (List.range 220).map f = [f 0, f 1, f 2, f 3, f 4, f 5, f 6, f 7, f 8, f 9, f 10, f 11, f 12, f 13, f 14, f 15, f 16, f 17, f 18, f 19, f 20, f 21, f 22, f 23, f 24, f 25, f 26, f 27, f 28, f 29, f 30, f 31, f 32, f 33, f 34, f 35, f 36, f 37, f 38, f 39, f 40, f 41, f 42, f 43, f 44, f 45, f 46, f 47, f 48, f 49, f 50, f 51, f 52, f 53, f 54, f 55, f 56, f 57, f 58, f 59, f 60, f 61, f 62, f 63, f 64, f 65, f 66, f 67, f 68, f 69, f 70, f 71, f 72, f 73, f 74, f 75, f 76, f 77, f 78, f 79, f 80, f 81, f 82, f 83, f 84, f 85, f 86, f 87, f 88, f 89, f 90, f 91, f 92, f 93, f 94, f 95, f 96, f 97, f 98, f 99, f 100, f 101, f 102, f 103, f 104, f 105, f 106, f 107, f 108, f 109, f 110, f 111, f 112, f 113, f 114, f 115, f 116, f 117, f 118, f 119, f 120, f 121, f 122, f 123, f 124, f 125, f 126, f 127, f 128, f 129, f 130, f 131, f 132, f 133, f 134, f 135, f 136, f 137, f 138, f 139, f 140, f 141, f 142, f 143, f 144, f 145, f 146, f 147, f 148, f 149, f 150, f 151, f 152, f 153, f 154, f 155, f 156, f 157, f 158, f 159, f 160, f 161, f 162, f 163, f 164, f 165, f 166, f 167, f 168, f 169, f 170, f 171, f 172, f 173, f 174, f 175, f 176, f 177, f 178, f 179, f 180, f 181, f 182, f 183, f 184, f 185, f 186, f 187, f 188, f 189, f 190, f 191, f 192, f 193, f 194, f 195, f 196, f 197, f 198, f 199, f 200, f 201, f 202, f 203, f 204, f 205, f 206, f 207, f 208, f 209, f 210, f 211, f 212, f 213, f 214, f 215, f 216, f 217, f 218, f 219] from rfl, f2, f3, f4, f5, f6, f7, f8, f9, f10]
            clear f2 f3 f4 f5 f6 f7 f8 f9 f10
            have HI := hid hI
            clear hI
            go_wp2_with fail
            exact ⟨acts_of' rfl ⟨⟨rfl, rfl, rfl, rfl, rfl, rfl, rfl, rfl⟩, k, by omega, rfl, rs', HI.out⟩, by simp [intOf]⟩
end Go.Proofs.YtihonljdanjfmaaDoor
namespace Go.Proofs.YtihonljdanjfmaaDoor
open Go.RowKit Go.Proofs Go.Shelf
set_option maxRecDepth 20000 in
set_option maxHeartbeats 4000000 in
theorem refOwed1_any (a : Tl) (r : Rt) (sa fa : Option Addr) (sc fc : Nat) (w : World) (hl : a.st.length ≤ 1000) (hl2 : a.fo.length ≤ 1000) (o1 : okN a.st = true) (o2 : okN a.fo = true) (hr : r.ok = true) (w0 : rateW r 0 = 0) (wb : ∀ n, -1000 ≤ rateW r n ∧ rateW r n ≤ 1000) (h1 : RdI w sa a.st) (h2 : RdI w fa a.fo) :
    Calls Tryd.prog 129 #[.agg #[.int .i64 a.id, .int .i64 a.hs, .slice sa a.st.length sc, .slice fa a.fo.length fc], r.val] w
      fun e w' => e = .returned (.agg #[.int .i64 (spanF (rateW r) a.st a.fo).1, .int .i64 (spanF (rateW r) a.st a.fo).2]) ∧ Below w.heap.size w w' := by
  have H1 := hid h1; have H2 := hid h2; clear h1 h2
  have W0 := hid w0; clear w0
  unfold Rt.ok at hr
  simp only [Bool.and_eq_true, decide_eq_true_eq] at hr
  unfold Rt.val
  go_enter Tryd.func129, Tryd.ntmps129
  go_wp2_with fail
  have C := fun V (h : Below w.heap.size w V) => refComes_any a (rateW r) sa fa sc fc V hl hl2 o1 o2 W0.out wb (H1.out.below h) (H2.out.below h)
  rw [show rateW r 0 = 0 from rfl, show rateW r 1 = r.skin from rfl, show rateW r 2 = r.half from rfl, show rateW r 3 = r.barrel from rfl, show rateW r 4 = -r.paid from rfl] at C
  refine (C _ (by repeat (first | (with_reducible exact Below.refl _ _) | (with_reducible assumption) | (with_reducible refine Below.drew ?_) | (with_reducible refine below_drewN ?_ _) | (with_reducible refine Below.alloc ?_ (by first | omega | (simp; done) | (simp; omega)) _) | (with_reducible refine Below.setCell ?_ (by first | omega | (simp; done) | (simp; omega)) _) | (with_reducible refine Below.trans ?_ (Below.mono (by assumption) (by first | omega | (simp; done) | (simp; omega))))))).mono ?_
  rintro e w1 ⟨rfl, hb1⟩
  have B6 := hid ((Box.at (w := (w.alloc (.cells #[.int .i64 a.id, .int .i64 a.hs, .slice sa a.st.length sc, .slice fa a.fo.length fc] 68)).alloc (.cells #[.int .i64 r.skin, .int .i64 r.half, .int .i64 r.barrel, .int .i64 r.paid] 70)) (n := w.heap.size + 1 + 1) #[.int .i64 0, .int .i64 0] 134 (by simp)).below hb1 (by simp))
  have WB := hid (show Below w.heap.size w w1 from (by repeat (first | (with_reducible exact Below.refl _ _) | (with_reducible assumption) | (with_reducible refine Below.drew ?_) | (with_reducible refine below_drewN ?_ _) | (with_reducible refine Below.alloc ?_ (by first | omega | (simp; done) | (simp; omega)) _) | (with_reducible refine Below.setCell ?_ (by first | omega | (simp; done) | (simp; omega)) _) | (with_reducible refine Below.trans ?_ (Below.mono (by assumption) (by first | omega | (simp; done) | (simp; omega)))))))
  clear hb1 C
  have r0 := B6.out.cell 0; have r1 := B6.out.cell 1; have r2 := B6.out.frozen 0; have r3 := B6.out.frozen 1; have r4 := B6.out.lt
  simp only [List.getElem?_toArray, List.getElem?_cons_zero, List.getElem?_cons_succ] at r0 r1
  go_wp2_with fail
  refine bodyPost_ret (v := .agg #[.int .i64 (spanF (rateW r) a.st a.fo).1, .int .i64 (spanF (rateW r) a.st a.fo).2]) (by simp [results, Tryd.results129, go_sem, r0, r1, r2, r3, r4]) rfl ⟨rfl, (WB.out.setCell (p := ⟨w.heap.size + 1 + 1, 0, none⟩) (show w.heap.size ≤ w.heap.size + 1 + 1 by omega) _).setCell (p := ⟨w.heap.size + 1 + 1, 1, none⟩) (show w.heap.size ≤ w.heap.size + 1 + 1 by omega) _⟩
end Go.Proofs.YtihonljdanjfmaaDoor
namespace Go.Proofs.YtihonljdanjfmaaDoor
open Go.RowKit Go.Proofs Go.Shelf
theorem take_succ_eq {α : Type} [DecidableEq α] {xs ys : List α} {k : Nat} (h : xs.take k = ys.take k) (hx : k < xs.length) (hy : k < ys.length) (e : xs[k] = ys[k]) : xs.take (k + 1) = ys.take (k + 1) := by
  rw [List.take_succ_eq_append_getElem hx, List.take_succ_eq_append_getElem hy, h, e]
theorem sameInts_any (a b : Option Addr) (c d : Nat) (xs ys : List Int) (w : World) (hl : xs.length ≤ 4000) (hx : RdI w a xs) (hy : RdI w b ys) :
    Calls Tryd.prog 88 #[.slice a xs.length c, .slice b ys.length d] w fun e w' => e = .returned (.bool (decide (xs = ys))) ∧ Below w.heap.size w w' := by
  by_cases hlen : xs.length = ys.length
  · have hlb : ((xs.length : Int) != (ys.length : Int)) = false := by simp [hlen]
    have HX := hid hx; clear hx
    have HY := hid hy; clear hy
    have HL := hid hlen; clear hlen
    go_enter Tryd.func88, Tryd.ntmps88
    go_wp2_with fail
    clear hlb
    go_loopw [5] (fun i wr => ∃ k : Nat, k ≤ xs.length ∧ i = .int .i64 k ∧ xs.take k = ys.take k ∧ Below w.heap.size w wr) (fun i _ => (xs.length - (intOf i).toNat))
    case atStart => exact ⟨0, by omega, rfl, by simp, Below.refl _ _⟩
    case round =>
      obtain ⟨k, hk, rfl, hno, hb⟩ := hrel
      have Hno := hid hno; clear hno
      by_cases hlt : k < xs.length
      · have hlt2 : k < ys.length := by have := HL.out; omega
        obtain ⟨b1, o1, rfl, hc1⟩ := HX.out.below hb k hlt
        obtain ⟨b2, o2, rfl, hc2⟩ := HY.out.below hb k hlt2
        have hi : (k : Int) < (xs.length : Int) := by omega
        have hi2 : (k : Int) < (ys.length : Int) := by omega
        go_wp2_with fail
        go_quiet (fail)
        go_wp2_with fail
        · rename_i hne
          go_ret
          refine ⟨(congrArg (fun b => Ending.returned (Value.bool b)) ?_), (by repeat (first | (with_reducible exact Below.refl _ _) | (with_reducible assumption) | (with_reducible refine Below.drew ?_) | (with_reducible refine below_drewN ?_ _) | (with_reducible refine Below.alloc ?_ (by first | omega | (simp; done) | (simp; omega)) _) | (with_reducible refine Below.setCell ?_ (by first | omega | (simp; done) | (simp; omega)) _) | (with_reducible refine Below.trans ?_ (Below.mono (by assumption) (by first | omega | (simp; done) | (simp; omega))))))⟩
          have hxy : xs ≠ ys := by
            rintro rfl
            simp at hne
          simp [hxy]
        · rename_i heq
          go_roundw
          case rel => exact ⟨k + 1, by omega, by go_num, take_succ_eq Hno.out hlt hlt2 (by simpa using heq), (by repeat (first | (with_reducible exact Below.refl _ _) | (with_reducible assumption) | (with_reducible refine Below.drew ?_) | (with_reducible refine below_drewN ?_ _) | (with_reducible refine Below.alloc ?_ (by first | omega | (simp; done) | (simp; omega)) _) | (with_reducible refine Below.setCell ?_ (by first | omega | (simp; done) | (simp; omega)) _) | (with_reducible refine Below.trans ?_ (Below.mono (by assumption) (by first | omega | (simp; done) | (simp; omega))))))⟩
          case measure => simp [intOf]; omega
      · go_wp2_with fail
        go_ret
        refine ⟨(congrArg (fun b => Ending.returned (Value.bool b)) ?_), hb⟩
        have h1 : k = xs.length := by omega
        subst h1
        have h2 := Hno.out
        rw [List.take_of_length_le (Nat.le_refl _), List.take_of_length_le (by rw [HL.out]; exact Nat.le_refl _)] at h2
        simp [h2]
  · have hlb : ((xs.length : Int) != (ys.length : Int)) = true := by simp; omega
    go_enter Tryd.func88, Tryd.ntmps88
    go_wp2_with fail
    go_ret
    refine ⟨(congrArg (fun b => Ending.returned (Value.bool b)) ?_), Below.refl _ _⟩
    have hxy : xs ≠ ys := by rintro rfl; exact hlen rfl
    simp [hxy]
/-- What 'Same' answers of two tallies. -/
def sameT (id hs id' hs' : Int) (st fo st' fo' : List Int) : Bool := id == id' && hs == hs' && decide (st = st') && decide (fo = fo')
theorem same_any (id hs id' hs' : Int) (st fo st' fo' : List Int) (sa fa sa' fa' : Option Addr) (sc fc sc' fc' : Nat) (w : World)
    (hl : st.length ≤ 4000) (hl2 : fo.length ≤ 4000) (h1 : RdI w sa st) (h2 : RdI w fa fo) (h3 : RdI w sa' st') (h4 : RdI w fa' fo') :
    Calls Tryd.prog 39 #[.agg #[.int .i64 id, .int .i64 hs, .slice sa st.length sc, .slice fa fo.length fc], .agg #[.int .i64 id', .int .i64 hs', .slice sa' st'.length sc', .slice fa' fo'.length fc']] w fun e w' => e = .returned (.bool (sameT id hs id' hs' st fo st' fo')) ∧ Below w.heap.size w w' := by
  have HX := hid h1; clear h1
  have HY := hid h2; clear h2
  have HZ := hid h3; clear h3
  have HU := hid h4; clear h4
  have H1 := hid hl; have H2 := hid hl2; clear hl hl2
  by_cases e1 : id = id'
  · by_cases e2 : hs = hs'
    · have E : Hid (id = id' ∧ hs = hs') := ⟨e1, e2⟩
      have t1 : (id == id') = true := by simp [e1]
      have t2 : (hs == hs') = true := by simp [e2]
      clear e1 e2
      go_enter Tryd.func39, Tryd.ntmps39
      go_wp2_with fail
      clear t1 t2
      refine (sameInts_any _ _ _ _ _ _ _ H1.out (HX.out.below (by repeat (first | (with_reducible exact Below.refl _ _) | (with_reducible assumption) | (with_reducible refine Below.drew ?_) | (with_reducible refine below_drewN ?_ _) | (with_reducible refine Below.alloc ?_ (by first | omega | (simp; done) | (simp; omega)) _) | (with_reducible refine Below.setCell ?_ (by first | omega | (simp; done) | (simp; omega)) _) | (with_reducible refine Below.trans ?_ (Below.mono (by assumption) (by first | omega | (simp; done) | (simp; omega))))))) (HZ.out.below (by repeat (first | (with_reducible exact Below.refl _ _) | (with_reducible assumption) | (with_reducible refine Below.drew ?_) | (with_reducible refine below_drewN ?_ _) | (with_reducible refine Below.alloc ?_ (by first | omega | (simp; done) | (simp; omega)) _) | (with_reducible refine Below.setCell ?_ (by first | omega | (simp; done) | (simp; omega)) _) | (with_reducible refine Below.trans ?_ (Below.mono (by assumption) (by first | omega | (simp; done) | (simp; omega)))))))).mono ?_
      rintro e w1 ⟨rfl, hb1⟩
      have hz1 := (hb1).size; (try simp only [World.size_alloc, World.size_setCell, World.size_drew, World.heap_drewN] at hz1); obtain ⟨hc1, hf1⟩ := bcell hb1
      by_cases e3 : st = st'
      · have E3 := hid e3
        have t3 : decide (st = st') = true := by simp [e3]
        clear e3
        go_wp2_with fail
        refine (sameInts_any _ _ _ _ _ _ _ H2.out (HY.out.below (by repeat (first | (with_reducible exact Below.refl _ _) | (with_reducible assumption) | (with_reducible refine Below.drew ?_) | (with_reducible refine below_drewN ?_ _) | (with_reducible refine Below.alloc ?_ (by first | omega | (simp; done) | (simp; omega)) _) | (with_reducible refine Below.setCell ?_ (by first | omega | (simp; done) | (simp; omega)) _) | (with_reducible refine Below.trans ?_ (Below.mono (by assumption) (by first | omega | (simp; done) | (simp; omega))))))) (HU.out.below (by repeat (first | (with_reducible exact Below.refl _ _) | (with_reducible assumption) | (with_reducible refine Below.drew ?_) | (with_reducible refine below_drewN ?_ _) | (with_reducible refine Below.alloc ?_ (by first | omega | (simp; done) | (simp; omega)) _) | (with_reducible refine Below.setCell ?_ (by first | omega | (simp; done) | (simp; omega)) _) | (with_reducible refine Below.trans ?_ (Below.mono (by assumption) (by first | omega | (simp; done) | (simp; omega)))))))).mono ?_
        rintro e w2 ⟨rfl, hb2⟩
        have hz2 := (hb2).size; (try simp only [World.size_alloc, World.size_setCell, World.size_drew, World.heap_drewN] at hz2); obtain ⟨hc2, hf2⟩ := bcell hb2
        go_wp2_with fail
        go_ret
        exact ⟨(congrArg (fun b => Ending.returned (Value.bool b)) (by simp [sameT, E.out.1, E.out.2, E3.out])), (by repeat (first | (with_reducible exact Below.refl _ _) | (with_reducible assumption) | (with_reducible refine Below.drew ?_) | (with_reducible refine below_drewN ?_ _) | (with_reducible refine Below.alloc ?_ (by first | omega | (simp; done) | (simp; omega)) _) | (with_reducible refine Below.setCell ?_ (by first | omega | (simp; done) | (simp; omega)) _) | (with_reducible refine Below.trans ?_ (Below.mono (by assumption) (by first | omega | (simp; done) | (simp; omega))))))⟩
      · have t3 : decide (st = st') = false := by simp [e3]
        have E3 := hid e3
        clear e3
        go_wp2_with fail
        go_ret
        exact ⟨(congrArg (fun b => Ending.returned (Value.bool b)) (by simp [sameT, E3.out])), (by repeat (first | (with_reducible exact Below.refl _ _) | (with_reducible assumption) | (with_reducible refine Below.drew ?_) | (with_reducible refine below_drewN ?_ _) | (with_reducible refine Below.alloc ?_ (by first | omega | (simp; done) | (simp; omega)) _) | (with_reducible refine Below.setCell ?_ (by first | omega | (simp; done) | (simp; omega)) _) | (with_reducible refine Below.trans ?_ (Below.mono (by assumption) (by first | omega | (simp; done) | (simp; omega))))))⟩
    · have t1 : (id == id') = true := by simp [e1]
      have t2 : (hs == hs') = false := by simp [e2]
      clear e1
      go_enter Tryd.func39, Tryd.ntmps39
      go_wp2_with fail
      go_ret
      exact ⟨(congrArg (fun b => Ending.returned (Value.bool b)) (by simp [sameT, e2])), (by repeat (first | (with_reducible exact Below.refl _ _) | (with_reducible assumption) | (with_reducible refine Below.drew ?_) | (with_reducible refine below_drewN ?_ _) | (with_reducible refine Below.alloc ?_ (by first | omega | (simp; done) | (simp; omega)) _) | (with_reducible refine Below.setCell ?_ (by first | omega | (simp; done) | (simp; omega)) _) | (with_reducible refine Below.trans ?_ (Below.mono (by assumption) (by first | omega | (simp; done) | (simp; omega))))))⟩
  · have t1 : (id == id') = false := by simp [e1]
    go_enter Tryd.func39, Tryd.ntmps39
    go_wp2_with fail
    go_ret
    exact ⟨(congrArg (fun b => Ending.returned (Value.bool b)) (by simp [sameT, e1])), (by repeat (first | (with_reducible exact Below.refl _ _) | (with_reducible assumption) | (with_reducible refine Below.drew ?_) | (with_reducible refine below_drewN ?_ _) | (with_reducible refine Below.alloc ?_ (by first | omega | (simp; done) | (simp; omega)) _) | (with_reducible refine Below.setCell ?_ (by first | omega | (simp; done) | (simp; omega)) _) | (with_reducible refine Below.trans ?_ (Below.mono (by assumption) (by first | omega | (simp; done) | (simp; omega))))))⟩
end Go.Proofs.YtihonljdanjfmaaDoor
namespace Go.Proofs.YtihonljdanjfmaaDoor.Sw
open Go.RowKit Go
/-- A tally's cells, rates' cells, a span's cells. -/
def tC (t : Tl) : List AV := [.val (.int .i64 t.id), .val (.int .i64 t.hs), .sl 1 iC t.st, .sl 1 iC t.fo]
def rC (r : Rt) : List AV := [.val (.int .i64 r.skin), .val (.int .i64 r.half), .val (.int .i64 r.barrel), .val (.int .i64 r.paid)]
def pC (s : Int × Int) : List AV := [.val (.int .i64 s.1), .val (.int .i64 s.2)]
instance {t : Tl} : OneL (tC t) := inferInstanceAs (OneL [_, _, _, _])
instance {t : Int × Int} : OneL (pC t) := inferInstanceAs (OneL [_, _])
theorem rdI_of {G : Nat → Option Obj} {w : World} (hG : Gin G w) {a : Option Addr} {xs : List Int} (h : SlP G 1 iC a xs) : RdI w a xs := fun i hi => by
  obtain ⟨b, o, e, h1⟩ := h i hi
  obtain ⟨u, h2, h3⟩ := h1 0 _ rfl
  refine ⟨b, o, e, ?_⟩
  have h3' : u = .int .i64 xs[i] := h3
  have := cellG.cell hG h2
  rw [h3'] at this
  simpa using this
theorem fits_tl {G : Nat → Option Obj} {w : World} (hG : Gin G w) {t : Tl} {v : Value} (h : (AV.agg (tC t)).P G v) : ∃ sa sc fa fc, v = .agg #[.int .i64 t.id, .int .i64 t.hs, .slice sa t.st.length sc, .slice fa t.fo.length fc] ∧ RdI w sa t.st ∧ RdI w fa t.fo := by
  obtain ⟨us, e, hu⟩ := h
  match us, hu with
  | [v0, v1, v2, v3], ⟨h0, h1, ⟨a1, c1, h2, _, h4⟩, ⟨a2, c2, h3, _, h5⟩, _⟩ =>
    have h0' : v0 = _ := h0
    have h1' : v1 = _ := h1
    subst e h0' h1' h2 h3
    exact ⟨a1, c1, a2, c2, rfl, rdI_of hG h4, rdI_of hG h5⟩
theorem fits_rt {G : Nat → Option Obj} {r : Rt} {v : Value} (h : (AV.agg (rC r)).P G v) : v = r.val := by
  obtain ⟨us, e, hu⟩ := h
  match us, hu with
  | [v0, v1, v2, v3], ⟨h0, h1, h2, h3, _⟩ =>
    have h0' : v0 = _ := h0
    have h1' : v1 = _ := h1
    have h2' : v2 = _ := h2
    have h3' : v3 = _ := h3
    subst e h0' h1' h2' h3'
    rfl
/-- The table of checks, as it is laid. -/
def TabG (G : Nat → Option Obj) : Prop := cellG G 1 0 = some (.func (.func 226) #[] #[]) ∧ cellG G 1 1 = some (.func (.func 227) #[] #[]) ∧ cellG G 1 2 = some (.func (.func 228) #[] #[])
def HA.tab : HA := ⟨fun G F _ => F = [] ∧ TabG G, fun h k => ⟨k.1, cellG.le h k.2.1, cellG.le h k.2.2.1, cellG.le h k.2.2.2⟩, fun _ k => k⟩
theorem con_tab {P : Program} {k : FuncId} {args : List AV} {av : AV} (he : ∀ args w, (callFunc k args).run P w = .ok (.enter k args) w)
    (h : ∀ (G : Nat → Option Obj) (vs : List Value) (w : World), Fits G args vs → Gin G w → Tab w → Calls P k vs.toArray w fun e w' => ∃ v, e = .returned v ∧ av.P G v ∧ Below w.heap.size w w') : Con P k args [HA.tab] (Is av [HA.tab]) :=
  ⟨he, fun G Fp vs w hf hi => by
    obtain ⟨F1, F2, ep, ⟨hF1, hT⟩, hF2⟩ := hi.hs
    have hF2' : F2 = [] := hF2
    subst hF1 hF2'
    obtain rfl : Fp = [] := List.Perm.eq_nil (by simpa using ep)
    refine (h G vs w hf hi.gin ⟨cellG.cell hi.gin hT.1, cellG.cell hi.gin hT.2.1, cellG.cell hi.gin hT.2.2⟩).mono fun e w' ⟨v, h1, h2, h3⟩ => ?_
    exact ⟨v, av, [HA.tab], G, [], h1, ⟨rfl, rfl⟩, ⟨h3.os, h3.tape, h3.output, h3.size, fun b hb _ => h3.block b hb, fun _ h => .inl h, Gle.refl _, fun _ _ h => .inl h⟩, ⟨fun b o e => (h3.block b (hi.gin.lt e)).trans (hi.gin b o e), by simp, fun b hb => (by cases hb), [], [], .refl _, ⟨rfl, hT⟩, rfl⟩, h2⟩⟩
theorem great_con (t : Tl) : Con Tryd.prog 31 [.agg (tC t)] [] (Is (.val (.bool (decide ((30 : Int) < t.st.length) || decide ((30 : Int) < t.fo.length)))) []) := by
  refine con_same (enters_of Tryd.func31 (by kernel_rfl) rfl) fun G vs w hf hG => ?_
  match vs, hf with
  | [v], ⟨h, _⟩ =>
    obtain ⟨sa, sc, fa, fc, rfl, h1, h2⟩ := fits_tl hG h
    exact (great_any t.id t.hs sa t.st.length sc fa t.fo.length fc w).mono fun e w' ⟨h, hb⟩ => ⟨_, h, rfl, hb⟩
def sameTl (t u : Tl) : Bool := sameT t.id t.hs u.id u.hs t.st t.fo u.st u.fo
theorem sameTl_self (t : Tl) : sameTl t t = true := by simp [sameTl, sameT]
theorem same_con (t u : Tl) (h1 : t.st.length ≤ 1000) (h2 : t.fo.length ≤ 1000) : Con Tryd.prog 39 [.agg (tC t), .agg (tC u)] [] (Is (.val (.bool (sameTl t u))) []) := by
  refine con_same (enters_of Tryd.func39 (by kernel_rfl) rfl) fun G vs w hf hG => ?_
  match vs, hf with
  | [v, v'], ⟨h, h', _⟩ =>
    obtain ⟨sa, sc, fa, fc, rfl, g1, g2⟩ := fits_tl hG h
    obtain ⟨sa', sc', fa', fc', rfl, g3, g4⟩ := fits_tl hG h'
    exact (same_any _ _ _ _ _ _ _ _ _ _ _ _ _ _ _ _ w (by omega) (by omega) g1 g2 g3 g4).mono fun e w' ⟨h, hb⟩ => ⟨_, h, rfl, hb⟩
theorem tally_con (t : Tl) (h1 : t.st.length ≤ 1000) (h2 : t.fo.length ≤ 1000) : Con Tryd.prog 127 [.agg (tC t)] [] (Is (.val (.bool (okT t.id t.hs t.st t.fo))) []) := by
  refine con_same (enters_of Tryd.func127 (by kernel_rfl) rfl) fun G vs w hf hG => ?_
  match vs, hf with
  | [v], ⟨h, _⟩ =>
    obtain ⟨sa, sc, fa, fc, rfl, g1, g2⟩ := fits_tl hG h
    exact (tally_any t.id t.hs _ _ _ _ _ _ w (by omega) (by omega) g1 g2).mono fun e w' ⟨h, hb⟩ => ⟨_, h, rfl, hb⟩
/-- A span and an error. -/
def seA (s : (Int × Int) × Int) : AV := .tup [.agg (pC s.1), .val (.int .i64 s.2)]
theorem seA_ok (s : (Int × Int) × Int) (G : Nat → Option Obj) : (seA s).P G (.tuple #[.agg #[.int .i64 s.1.1, .int .i64 s.1.2], .int .i64 s.2]) := ⟨[_, _], rfl, ⟨[_, _], rfl, rfl, rfl, trivial⟩, rfl, trivial⟩
theorem owed_con (t : Tl) (r : Rt) (h1 : t.st.length ≤ 1000) (h2 : t.fo.length ≤ 1000) : Con Tryd.prog 82 [.agg (tC t), .agg (rC r)] [HA.tab] (Is (seA (owedR t r)) [HA.tab]) := by
  refine con_tab (enters_of Tryd.func82 (by kernel_rfl) rfl) fun G vs w hf hG hT => ?_
  match vs, hf with
  | [v, v'], ⟨h, h', _⟩ =>
    obtain ⟨sa, sc, fa, fc, rfl, g1, g2⟩ := fits_tl hG h
    obtain rfl := fits_rt h'
    exact (owed_any t r sa fa sc fc w hT h1 h2 g1 g2).mono fun e w' ⟨h, hb⟩ => ⟨_, h, seA_ok _ G, hb⟩
theorem refOwed1_con (t : Tl) (r : Rt) (h1 : t.st.length ≤ 1000) (h2 : t.fo.length ≤ 1000) (o1 : okN t.st = true) (o2 : okN t.fo = true) (hr : r.ok = true) : Con Tryd.prog 129 [.agg (tC t), .agg (rC r)] [] (Is (.agg (pC (spanF (rateW r) t.st t.fo))) []) := by
  refine con_same (enters_of Tryd.func129 (by kernel_rfl) rfl) fun G vs w hf hG => ?_
  match vs, hf with
  | [v, v'], ⟨h, h', _⟩ =>
    obtain ⟨sa, sc, fa, fc, rfl, g1, g2⟩ := fits_tl hG h
    obtain rfl := fits_rt h'
    exact (refOwed1_any t r sa fa sc fc w h1 h2 o1 o2 hr rfl (rateW_b hr) g1 g2).mono fun e w' ⟨h, hb⟩ => ⟨_, h, ⟨[_, _], rfl, rfl, rfl, trivial⟩, hb⟩
theorem refRates_con (r : Rt) : Con Tryd.prog 128 [.agg (rC r)] [] (Is (.val (.bool r.ok)) []) := by
  refine con_same (enters_of Tryd.func128 (by kernel_rfl) rfl) fun G vs w hf hG => ?_
  match vs, hf with
  | [v], ⟨h', _⟩ =>
    obtain rfl := fits_rt h'
    exact (refRates_any r w).mono fun e w' ⟨h, hb⟩ => ⟨_, h, rfl, hb⟩
theorem owedR_eq (a : Tl) (r : Rt) : owedR a r = if okT a.id a.hs a.st a.fo = true then (if r.ok = true then (spanF (rateW r) a.st a.fo, 0) else ((0, 0), 71)) else ((0, 0), 70) := by
  unfold owedR owesR errAll owesL
  simp [Tl.ok]
  split <;> simp_all
set_option maxRecDepth 20000 in
theorem refOwed_con (t : Tl) (r : Rt) (h1 : t.st.length ≤ 1000) (h2 : t.fo.length ≤ 1000) : Con Tryd.prog 84 [.agg (tC t), .agg (rC r)] [] (Is (seA (owedR t r)) []) := by
  rw [owedR_eq]
  unfold seA
  refine con_of Tryd.func84 rfl (enters_of Tryd.func84 (by kernel_rfl) rfl) rfl ?_; intro n w0 F0 G0
  (refine goSt ?_; (repeat (refine goAl ?_; intro p hp; refine goSt ?_)))
  (first | (apply wl_call (tally_con t h1 h2); exact rfl; exact rfl) | (apply wl_callR (tally_con t h1 h2); exact rfl; exact goAtm; exact rfl))
  cases ho : okT t.id t.hs t.st t.fo with
  | false =>
    (refine goSt ?_; (repeat (refine goAl ?_; intro p hp; refine goSt ?_)))
    rw [if_neg (by simp)]
    (apply resN1; exact rfl; exact rfl; exact goAtm; exact inferInstance; exact rfl; exact rfl; exact ⟨rfl, rfl⟩)
  | true =>
    rw [if_pos rfl]
    (refine goSt ?_; (repeat (refine goAl ?_; intro p hp; refine goSt ?_)))
    (first | (apply wl_call (refRates_con r); exact rfl; exact rfl) | (apply wl_callR (refRates_con r); exact rfl; exact goAtm; exact rfl))
    cases hr : r.ok with
    | false =>
      (refine goSt ?_; (repeat (refine goAl ?_; intro p hp; refine goSt ?_)))
      rw [if_neg (by simp)]
      (apply resN1; exact rfl; exact rfl; exact goAtm; exact inferInstance; exact rfl; exact rfl; exact ⟨rfl, rfl⟩)
    | true =>
      rw [if_pos rfl]
      have hoo := okT_okN' ho
      (refine goSt ?_; (repeat (refine goAl ?_; intro p hp; refine goSt ?_)))
      (first | (apply wl_call (refOwed1_con t r h1 h2 hoo.1 hoo.2 hr); exact rfl; exact rfl) | (apply wl_callR (refOwed1_con t r h1 h2 hoo.1 hoo.2 hr); exact rfl; exact goAtm; exact rfl))
      (refine goSt ?_; (repeat (refine goAl ?_; intro p hp; refine goSt ?_)))
      (apply resN1; exact rfl; exact rfl; exact goAtm; exact inferInstance; exact rfl; exact rfl; exact ⟨rfl, rfl⟩)
set_option maxRecDepth 20000 in
theorem twin_con (t : Tl) (h1 : t.st.length ≤ 1000) (h2 : t.fo.length ≤ 1000) : Con Tryd.prog 32 [.agg (tC t)] [] (Is (.agg (tC t)) []) := by
  refine con_of Tryd.func32 rfl (enters_of Tryd.func32 (by kernel_rfl) rfl) rfl ?_; intro n w0 F0 G0
  (refine goSt ?_; (repeat (refine goAl ?_; intro p hp; refine goSt ?_)))
  refine W_run 9 [3, 4, 5, 6, 7, 8, 9, 10, 11] [1, 2, 3, 5, 6, 7, 8] Cut.nil rfl goFlt mixedS (by kernel_rfl) rfl ?_
  refine Run.tok [] [] rfl (fun vs => by apply ltr_pk; exact goPk; (refine ltr ?_; apply lt_lit (f := iC); (repeat (first | exact Elems.nil | (apply Elems.cons; exact rfl; exact inferInstance; exact rfl))); exact rfl; (first | exact (of_decide_eq_true rfl) | decide | (simp; done) | (simp; omega)))) goApp ?_
  refine rpv [] [] ?_
  refine rpv [1] [] ?_
  refine Run.tok [0, 2] [0] rfl (fun vs => by apply ltr_pk; exact goPk; (refine ltr ?_; apply lt_append; exact rfl; exact rfl; (first | omega | (simp; omega)))) goApp ?_
  refine Run.tok [] [] rfl (fun vs => by apply ltr_pk; exact goPk; (refine ltr ?_; apply lt_lit (f := iC); (repeat (first | exact Elems.nil | (apply Elems.cons; exact rfl; exact inferInstance; exact rfl))); exact rfl; (first | exact (of_decide_eq_true rfl) | decide | (simp; done) | (simp; omega)))) goApp ?_
  refine rpv [] [] ?_
  refine rpv [5] [] ?_
  refine Run.tok [4, 6] [4] rfl (fun vs => by apply ltr_pk; exact goPk; (refine ltr ?_; apply lt_append; exact rfl; exact rfl; (first | omega | (simp; omega)))) goApp ?_
  refine rpv [] [] ?_
  refine ⟨⟨by kernel_rfl, by kernel_rfl⟩, fun vs => ?_⟩
  apply WL_auto [3, 7, 8]
  · exact goPk
  · exact goNrm
  · kernel_rfl
  · kernel_rfl
  (apply WL_frz 6; exact rfl; exact goRm)
  (apply WL_frz 10; exact rfl; exact goRm)
  (refine goSt ?_; (repeat (refine goAl ?_; intro p hp; refine goSt ?_)))
  (apply resN; exact rfl; exact rfl; exact goAtm; exact inferInstance; exact rfl; exact ⟨rfl, rfl⟩)
end Go.Proofs.YtihonljdanjfmaaDoor.Sw
