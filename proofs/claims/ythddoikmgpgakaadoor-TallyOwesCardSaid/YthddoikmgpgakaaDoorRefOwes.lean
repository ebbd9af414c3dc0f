/- The reference's 'Owes'. -/
import Derived.Test.YthddoikmgpgakaaDoorProg
import Derived.Test.YthddoikmgpgakaaDoorBase
import Derived.Outline
import Derived.RangeFuncNested
import Derived.Shelf.Abstract
import Derived.Deep.QuietTactic
import Derived.BigQuiet
import Derived.Deep.RegionHeld3
import Derived.WalkSmall
import Derived.Laws.EntriesVeiled
import Derived.WalkMore
import Derived.Test.YthddoikmgpgakaaDoorRefOwed
import Derived.Test.YthddoikmgpgakaaDoorAll
namespace Go.Proofs.YthddoikmgpgakaaDoor
open Go.RowKit Go.Proofs Go.Shelf
theorem refSpan_bound {t : Tl} {r : Rt} (hr : r.ok = true) (h1 : t.st.length ≤ 1000) (h2 : t.fo.length ≤ 1000) (o1 : okN t.st = true) (o2 : okN t.fo = true) {lo hi : Int} (h : spanF (rateW r) t.st t.fo = (lo, hi)) : -2000000 ≤ lo ∧ lo ≤ 2000000 ∧ -2000000 ≤ hi ∧ hi ≤ 2000000 := by
  have := span_at (W := rateW r) (by simp [rateW]) o1 o2 (i := 0) (k := 0) (Nat.zero_le _) (Nat.zero_le _)
  rw [List.drop_zero, List.drop_zero, h] at this
  exact span_bound (rateW_b hr) h1 h2 this
set_option maxRecDepth 20000 in
set_option maxHeartbeats 4000000 in
theorem refOwes_any (ts : List Tl) (house : Int) (r : Rt) (la : Option Addr) (lc : Nat) (w : World) (hl : ts.length ≤ 4000) (hs : ∀ t ∈ ts, t.st.length ≤ 1000 ∧ t.fo.length ≤ 1000) (h : RdT w la ts) :
    Calls Tryd.prog 47 #[.slice la ts.length lc, .int .i64 house, r.val] w
      fun e w' => e = .returned (.tuple #[.agg #[.int .i64 (owesR ts house r).1.1, .int .i64 (owesR ts house r).1.2], .int .i64 (owesR ts house r).2]) ∧ Below w.heap.size w w' := by
  have H := hid h; clear h
  have HS := hid hs; clear hs
  unfold Rt.val
  go_enter Tryd.func47, Tryd.ntmps47
  go_wp2_with fail
  refine (checked_any la lc ts _ hl (fun t h => ⟨by have := (HS.out t h).1; omega, by have := (HS.out t h).2; omega⟩) (H.out.below (by repeat (first | (with_reducible exact Below.refl _ _) | (with_reducible assumption) | (with_reducible refine Below.drew ?_) | (with_reducible refine below_drewN ?_ _) | (with_reducible refine Below.alloc ?_ (by first | omega | (simp; done) | (simp; omega)) _) | (with_reducible refine Below.setCell ?_ (by first | omega | (simp; done) | (simp; omega)) _) | (with_reducible refine Below.trans ?_ (Below.mono (by assumption) (by first | omega | (simp; done) | (simp; omega)))))))).mono ?_
  rintro e w1 ⟨rfl, hb1⟩
  have B5 := hid (((Box.new w #[.int .i64 r.skin, .int .i64 r.half, .int .i64 r.barrel, .int .i64 r.paid] 64).alloc (.cells #[.int .i64 0, .int .i64 0] 68)).below hb1 (by simp; omega))
  have B6 := hid ((Box.at (w := w.alloc (.cells #[.int .i64 r.skin, .int .i64 r.half, .int .i64 r.barrel, .int .i64 r.paid] 64)) (n := w.heap.size + 1) #[.int .i64 0, .int .i64 0] 68 (by simp)).below hb1 (by simp))
  have WB := hid (show Below w.heap.size w w1 from (by repeat (first | (with_reducible exact Below.refl _ _) | (with_reducible assumption) | (with_reducible refine Below.drew ?_) | (with_reducible refine below_drewN ?_ _) | (with_reducible refine Below.alloc ?_ (by first | omega | (simp; done) | (simp; omega)) _) | (with_reducible refine Below.setCell ?_ (by first | omega | (simp; done) | (simp; omega)) _) | (with_reducible refine Below.trans ?_ (Below.mono (by assumption) (by first | omega | (simp; done) | (simp; omega)))))))
  clear hb1
  by_cases he : errAll ts = 0
  · have t1 : (errAll ts != 0) = false := by rw [he]; rfl
    have HE := hid he; clear he
    obtain ⟨⟨c0, c1, c2, c3⟩, _, lx⟩ := box_quad B5.out
    go_wp2_with fail
    refine (refRates_any r w1).mono ?_
    rintro e w2 ⟨rfl, hb2⟩
    have B5 := hid (B5.out.below hb2 B5.out.lt); have B6 := hid (B6.out.below hb2 B6.out.lt); have WB := hid (WB.out.trans (hb2.mono WB.out.size))
    clear hb2 c0 c1 c2 c3 lx
    obtain ⟨⟨c0, c1, c2, c3⟩, _, lx⟩ := box_quad B5.out
    by_cases hr : r.ok = true
    · rw [hr]
      have HR := hid hr; clear hr
      have hl6 : ts.length ≤ 6 := by
        have h := HE.out
        unfold errAll at h
        split at h
        · cases h
        · omega
      have hok : ∀ t ∈ ts, okT t.id t.hs t.st t.fo = true := by
        have h := HE.out
        unfold errAll at h
        split at h
        · cases h
        · split at h
          · rename_i h2; exact fun t ht => List.all_eq_true.1 h2 t ht
          · cases h
      have HOK := hid hok; clear hok
      go_wp2_with fail
      refine wp_world (fun W => Box W w2.heap.size #[.int .i64 0, .int .i64 0] 68 ∧ Box W (w.heap.size + 1) #[.int .i64 0, .int .i64 0] 68 ∧ Box W w.heap.size #[.int .i64 r.skin, .int .i64 r.half, .int .i64 r.barrel, .int .i64 r.paid] 64 ∧ Below w.heap.size w W) ⟨Box.new _ _ _, B6.out.alloc _, B5.out.alloc _, WB.out.alloc WB.out.size _⟩ ?_
      obtain ⟨P, hP⟩ : ∃ P, P = w2.heap.size := ⟨_, rfl⟩
      have nP : w.heap.size + 1 < P := by have := B6.out.lt; omega
      rw [← hP]
      clear hP c0 c1 c2 c3 lx t1 B5 B6 WB
      rintro W0 ⟨bP, b6, b5, hB⟩
      go_loopw [25] (fun p wr => ∃ k : Nat, k ≤ ts.length ∧ p = .int .i64 k ∧ Box wr P #[.int .i64 (owesL (rateW r) house (ts.take k)).1, .int .i64 (owesL (rateW r) house (ts.take k)).2] 68 ∧ Box wr (w.heap.size + 1) #[.int .i64 0, .int .i64 0] 68 ∧ Box wr w.heap.size #[.int .i64 r.skin, .int .i64 r.half, .int .i64 r.barrel, .int .i64 r.paid] 64 ∧ Below w.heap.size w wr ∧ (-(2000000 * k : Int) ≤ (owesL (rateW r) house (ts.take k)).1 ∧ (owesL (rateW r) house (ts.take k)).1 ≤ 2000000 * k ∧ -(2000000 * k : Int) ≤ (owesL (rateW r) house (ts.take k)).2 ∧ (owesL (rateW r) house (ts.take k)).2 ≤ 2000000 * k)) (fun p _ => ts.length - (intOf p).toNat)
      case atStart => exact ⟨0, by omega, rfl, bP, b6, b5, hB, by simp [owesL]⟩
      case round =>
        obtain ⟨k, hk, rfl, hbP, hb6, hb5, hBr, hbd⟩ := hrel
        have BP := hid hbP; have B6 := hid hb6; have B5 := hid hb5; have WB := hid hBr
        obtain ⟨⟨c0, c1, c2, c3⟩, _, lx⟩ := box_quad hb5
        clear bP b6 b5 hb5 hB
        by_cases hlt : k < ts.length
        · obtain ⟨b, o, sa, sc, fa, fc, rfl, g0, g1, g2, g3, g4, g5⟩ := H.out.below hBr k hlt
          have G4 := hid g4; have G5 := hid g5
          have lb := cell_lt g0
          have hsn : owesL (rateW r) house (ts.take (k + 1)) = (if ts[k].hs = house then ((owesL (rateW r) house (ts.take k)).1 + (spanF (rateW r) ts[k].st ts[k].fo).1, (owesL (rateW r) house (ts.take k)).2 + (spanF (rateW r) ts[k].st ts[k].fo).2) else owesL (rateW r) house (ts.take k)) := by
            rw [List.take_succ_eq_append_getElem hlt]
            unfold owesL
            rw [List.foldl_append]
            rfl
          have HSN := hid hsn; clear hsn
          have hts := HOK.out _ (List.getElem_mem hlt)
          have hln := HS.out _ (List.getElem_mem hlt)
          obtain ⟨E, hE⟩ : ∃ E, owesL (rateW r) house (ts.take k) = E := ⟨_, rfl⟩
          rw [hE] at BP HSN hbd
          obtain ⟨e1, e2⟩ := E
          obtain ⟨t, hT⟩ : ∃ t, ts[k] = t := ⟨_, rfl⟩
          rw [hT] at g0 g1 g2 g3 G4 G5 HSN hts hln
          have HTS := hid hts
          clear hE hT hts hbP hb6 hBr g4 g5
          dsimp only at BP HSN hbd
          by_cases hh : t.hs = house
          · have hq : (t.hs == house) = true := by simp [hh]
            have HH := hid hh; clear hh
            go_wp2_with fail
            have C := fun V h1 h2 => refOwed1_any t r sa fa sc fc V hln.1 hln.2 (okT_okN' HTS.out).1 (okT_okN' HTS.out).2 HR.out (by simp [rateW]) (rateW_b HR.out) h1 h2
            unfold Rt.val at C
            refine (C _ (G4.out.alloc _) (G5.out.alloc _)).mono ?_
            clear C
            rintro e w4 ⟨rfl, hb3⟩
            have hb := ((Below.refl _ wr).alloc (Nat.le_refl _) (.cells #[.int .i64 t.id, .int .i64 t.hs, .slice sa t.st.length sc, .slice fa t.fo.length fc] 24)).trans (hb3.mono (by simp))
            have swr := WB.out.size
            have lP := BP.out.lt; have l6 := B6.out.lt
            have B5 := hid (B5.out.below hb B5.out.lt)
            have BP := hid (BP.out.below hb lP); have B6 := hid (B6.out.below hb l6); have WB := hid (WB.out.trans (hb.mono swr))
            obtain ⟨S, hS⟩ : ∃ S, spanF (rateW r) t.st t.fo = S := ⟨_, rfl⟩
            obtain ⟨lo, hi⟩ := S
            have sb := refSpan_bound (t := t) HR.out hln.1 hln.2 (okT_okN' HTS.out).1 (okT_okN' HTS.out).2 hS
            have hsf := hS
            rw [hS]
            clear hb hb3 g0 g1 g2 g3 lb
            have HSF := hid hsf
            have y0 : w4.cell? ⟨P, 0, none⟩ = some (.int .i64 e1) := BP.out.cell 0
            have y1 : w4.cell? ⟨P, 1, none⟩ = some (.int .i64 e2) := BP.out.cell 1
            have y2 := BP.out.frozen 0; have y3 := BP.out.frozen 1; have y4 := BP.out.lt
            have hw1 := wrap_mid (n := e1 + lo) (by omega) (by omega)
            have hw2 := wrap_mid (n := e2 + hi) (by omega) (by omega)
            have hP6 : w.heap.size ≤ P := by omega
            clear hsf hS
            go_wp2_with fail
            have k7 := WB.out.alloc WB.out.size (.cells #[.int .i64 lo, .int .i64 hi] 68)
            refine ⟨⟨k + 1, by omega, by go_num, ?_, ?_, ?_, ?_, ?_⟩, by simp [intOf]; omega⟩
            · rw [HSN.out, if_pos HH.out, HSF.out]
              first | exact (((BP.out.alloc _).set 0 _).set 1 _) | exact (((BP.out.set 0 _).set 1 _).alloc _)
            · first | exact ((B6.out.alloc _).other _ _ _ (by omega)).other _ _ _ (by omega) | exact (((B6.out.other _ _ _ (by omega)).other _ _ _ (by omega)).alloc _)
            · first | exact ((B5.out.alloc _).other _ _ _ (by omega)).other _ _ _ (by omega) | exact (((B5.out.other _ _ _ (by omega)).other _ _ _ (by omega)).alloc _)
            · first | exact ((k7.setCell (p := ⟨P, 0, none⟩) hP6 _).setCell (p := ⟨P, 1, none⟩) hP6 _) | exact (((WB.out.setCell (p := ⟨P, 0, none⟩) hP6 _).setCell (p := ⟨P, 1, none⟩) hP6 _).alloc (by simp; exact WB.out.size) _)
            · rw [HSN.out, if_pos HH.out, HSF.out]
              dsimp only
              omega
          · have hq : (t.hs == house) = false := by simp [hh]
            have HH := hid hh; clear hh
            go_wp2_with fail
            exact ⟨⟨k + 1, by omega, by go_num, by rw [HSN.out, if_neg HH.out]; exact BP.out.alloc _, B6.out.alloc _, B5.out.alloc _, WB.out.alloc WB.out.size _, by rw [HSN.out, if_neg HH.out]; dsimp only; omega⟩, by simp [intOf]; omega⟩
        · have hkk : k = ts.length := by omega
          subst hkk
          rw [List.take_of_length_le (Nat.le_refl _)] at BP
          obtain ⟨E, hE⟩ : ∃ E, owesL (rateW r) house ts = E := ⟨_, rfl⟩
          rw [hE] at BP
          obtain ⟨e1, e2⟩ := E
          have y0 : wr.cell? ⟨P, 0, none⟩ = some (.int .i64 e1) := BP.out.cell 0
          have y1 : wr.cell? ⟨P, 1, none⟩ = some (.int .i64 e2) := BP.out.cell 1
          have r0 := hb6.cell 0; have r1 := hb6.cell 1; have r2 := hb6.frozen 0; have r3 := hb6.frozen 1; have r4 := hb6.lt
          simp only [List.getElem?_toArray, List.getElem?_cons_zero, List.getElem?_cons_succ] at r0 r1
          have HE3 := hid hE
          clear hbP hb6 hBr hE hbd
          go_wp2_with fail
          refine bodyPost_ret (v := .tuple #[.agg #[.int .i64 e1, .int .i64 e2], .int .i64 0]) (by simp [results, Tryd.results47, go_sem, r0, r1, r2, r3, r4]) rfl ⟨?_, (((WB.out).setCell (p := ⟨w.heap.size + 1, 0, none⟩) (show w.heap.size ≤ w.heap.size + 1 by omega) _).setCell (p := ⟨w.heap.size + 1, 1, none⟩) (show w.heap.size ≤ w.heap.size + 1 by omega) _)⟩
          have h1 : owesR ts house r = ((e1, e2), 0) := by unfold owesR; rw [if_neg (by rw [HE.out]; simp), if_pos HR.out, HE3.out]
          rw [h1]
    · have hr' : r.ok = false := by simpa using hr
      have HR := hid hr; clear hr
      rw [hr']
      have r0 := B6.out.cell 0; have r1 := B6.out.cell 1; have r2 := B6.out.frozen 0; have r3 := B6.out.frozen 1; have r4 := B6.out.lt
      simp only [List.getElem?_toArray, List.getElem?_cons_zero, List.getElem?_cons_succ] at r0 r1
      go_wp2_with fail
      refine bodyPost_ret (v := .tuple #[.agg #[.int .i64 0, .int .i64 0], .int .i64 71]) (by simp [results, Tryd.results47, go_sem, r0, r1, r2, r3, r4]) rfl ⟨?_, (((WB.out).setCell (p := ⟨w.heap.size + 1, 0, none⟩) (show w.heap.size ≤ w.heap.size + 1 by omega) _).setCell (p := ⟨w.heap.size + 1, 1, none⟩) (show w.heap.size ≤ w.heap.size + 1 by omega) _)⟩
      have h1 : owesR ts house r = ((0, 0), 71) := by unfold owesR; rw [if_neg (by rw [HE.out]; simp), if_neg HR.out]
      rw [h1]
  · have t1 : (errAll ts != 0) = true := by simpa using he
    have HE := hid he; clear he
    have r0 := B6.out.cell 0; have r1 := B6.out.cell 1; have r2 := B6.out.frozen 0; have r3 := B6.out.frozen 1; have r4 := B6.out.lt
    simp only [List.getElem?_toArray, List.getElem?_cons_zero, List.getElem?_cons_succ] at r0 r1
    go_wp2_with fail
    refine bodyPost_ret (v := .tuple #[.agg #[.int .i64 0, .int .i64 0], .int .i64 (errAll ts)]) (by simp [results, Tryd.results47, go_sem, r0, r1, r2, r3, r4]) rfl ⟨?_, (((WB.out).setCell (p := ⟨w.heap.size + 1, 0, none⟩) (show w.heap.size ≤ w.heap.size + 1 by omega) _).setCell (p := ⟨w.heap.size + 1, 1, none⟩) (show w.heap.size ≤ w.heap.size + 1 by omega) _)⟩
    have h1 : owesR ts house r = ((0, 0), errAll ts) := by unfold owesR; rw [if_pos HE.out]
    rw [h1]

end Go.Proofs.YthddoikmgpgakaaDoor
