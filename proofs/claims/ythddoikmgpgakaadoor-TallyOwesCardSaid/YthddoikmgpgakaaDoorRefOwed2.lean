/- The reference's 'Owed'. -/
import Derived.Test.YthddoikmgpgakaaDoorProg
import Derived.Test.YthddoikmgpgakaaDoorBase
import Derived.Outline
import Derived.RangeFuncNested
import Derived.Shelf.Abstract
import Derived.Deep.QuietTactic
import Derived.BigQuiet
import Derived.Deep.RegionHeld3
import Derived.WalkSmall
import Derived.Laws.EntriesVeiled
import Derived.WalkMore
import Derived.Test.YthddoikmgpgakaaDoorRefOwes
namespace Go.Proofs.YthddoikmgpgakaaDoor
open Go.RowKit Go.Proofs Go.Shelf
set_option maxRecDepth 20000 in
set_option maxHeartbeats 4000000 in
theorem refOwed_any (a : Tl) (r : Rt) (sa fa : Option Addr) (sc fc : Nat) (w : World) (hl : a.st.length ≤ 1000) (hl2 : a.fo.length ≤ 1000) (h1 : RdI w sa a.st) (h2 : RdI w fa a.fo) :
    Calls Tryd.prog 45 #[.agg #[.int .i64 a.id, .int .i64 a.hs, .slice sa a.st.length sc, .slice fa a.fo.length fc], r.val] w
      fun e w' => e = .returned (.tuple #[.agg #[.int .i64 (owedR a r).1.1, .int .i64 (owedR a r).1.2], .int .i64 (owedR a r).2]) ∧ Below w.heap.size w w' := by
  have H1 := hid h1; have H2 := hid h2; clear h1 h2
  unfold Rt.val
  go_enter Tryd.func45, Tryd.ntmps45
  go_wp2_with fail
  have C := fun V (h : Below w.heap.size w V) => tally_any a.id a.hs a.st a.fo sa fa sc fc V (by omega) (by omega) (H1.out.below h) (H2.out.below h)
  refine (C _ (by repeat (first | (with_reducible exact Below.refl _ _) | (with_reducible assumption) | (with_reducible refine Below.drew ?_) | (with_reducible refine below_drewN ?_ _) | (with_reducible refine Below.alloc ?_ (by first | omega | (simp; done) | (simp; omega)) _) | (with_reducible refine Below.setCell ?_ (by first | omega | (simp; done) | (simp; omega)) _) | (with_reducible refine Below.trans ?_ (Below.mono (by assumption) (by first | omega | (simp; done) | (simp; omega))))))).mono ?_
  clear C
  rintro e w1 ⟨rfl, hb1⟩
  have WB := hid (show Below w.heap.size w w1 from (by repeat (first | (with_reducible exact Below.refl _ _) | (with_reducible assumption) | (with_reducible refine Below.drew ?_) | (with_reducible refine below_drewN ?_ _) | (with_reducible refine Below.alloc ?_ (by first | omega | (simp; done) | (simp; omega)) _) | (with_reducible refine Below.setCell ?_ (by first | omega | (simp; done) | (simp; omega)) _) | (with_reducible refine Below.trans ?_ (Below.mono (by assumption) (by first | omega | (simp; done) | (simp; omega)))))))
  have B6 := hid ((Box.at (w := (w.alloc (.cells #[.int .i64 a.id, .int .i64 a.hs, .slice sa a.st.length sc, .slice fa a.fo.length fc] 24)).alloc (.cells #[.int .i64 r.skin, .int .i64 r.half, .int .i64 r.barrel, .int .i64 r.paid] 64)) (n := w.heap.size + 1 + 1) #[.int .i64 0, .int .i64 0] 68 (by simp)).below hb1 (by simp))
  have r0 := B6.out.cell 0; have r1 := B6.out.cell 1; have r2 := B6.out.frozen 0; have r3 := B6.out.frozen 1; have r4 := B6.out.lt
  simp only [List.getElem?_toArray, List.getElem?_cons_zero, List.getElem?_cons_succ] at r0 r1
  have B5 := hid ((Box.at (w := w.alloc (.cells #[.int .i64 a.id, .int .i64 a.hs, .slice sa a.st.length sc, .slice fa a.fo.length fc] 24)) (n := w.heap.size + 1) #[.int .i64 r.skin, .int .i64 r.half, .int .i64 r.barrel, .int .i64 r.paid] 64 (by simp)).alloc (.cells #[.int .i64 0, .int .i64 0] 68) |>.below hb1 (by simp))
  have B4 := hid ((((Box.new w #[.int .i64 a.id, .int .i64 a.hs, .slice sa a.st.length sc, .slice fa a.fo.length fc] 24).alloc (.cells #[.int .i64 r.skin, .int .i64 r.half, .int .i64 r.barrel, .int .i64 r.paid] 64)).alloc (.cells #[.int .i64 0, .int .i64 0] 68)).below hb1 (by simp; omega))
  clear hb1
  have hR : owedR a r = if okT a.id a.hs a.st a.fo = true then (if r.ok = true then (spanF (rateW r) a.st a.fo, 0) else ((0, 0), 71)) else ((0, 0), 70) := by
    unfold owedR owesR errAll owesL
    simp [Tl.ok]
    split <;> simp_all
  have HRR := hid hR; clear hR
  cases hk : okT a.id a.hs a.st a.fo with
  | false =>
    go_wp2_with fail
    refine bodyPost_ret (v := .tuple #[.agg #[.int .i64 0, .int .i64 0], .int .i64 70]) (by simp [results, Tryd.results45, go_sem, r0, r1, r2, r3, r4]) rfl ⟨?_, (WB.out.setCell (p := ⟨w.heap.size + 1 + 1, 0, none⟩) (show w.heap.size ≤ w.heap.size + 1 + 1 by omega) _).setCell (p := ⟨w.heap.size + 1 + 1, 1, none⟩) (show w.heap.size ≤ w.heap.size + 1 + 1 by omega) _⟩
    rw [HRR.out, if_neg (by rw [hk]; simp)]
  | true =>
    have HK := hid hk; clear hk
    obtain ⟨⟨c0, c1, c2, c3⟩, _, lx⟩ := box_quad B5.out
    go_wp2_with fail
    refine (refRates_any r w1).mono ?_
    rintro e w2 ⟨rfl, hb2⟩
    have B4 := hid (B4.out.below hb2 B4.out.lt); have B5 := hid (B5.out.below hb2 B5.out.lt); have B6 := hid (B6.out.below hb2 B6.out.lt); have WB := hid (WB.out.trans (hb2.mono WB.out.size))
    clear hb2 c0 c1 c2 c3 lx r0 r1 r2 r3 r4
    have r0 := B6.out.cell 0; have r1 := B6.out.cell 1; have r2 := B6.out.frozen 0; have r3 := B6.out.frozen 1; have r4 := B6.out.lt
    simp only [List.getElem?_toArray, List.getElem?_cons_zero, List.getElem?_cons_succ] at r0 r1
    cases hr : r.ok with
    | false =>
      go_wp2_with fail
      refine bodyPost_ret (v := .tuple #[.agg #[.int .i64 0, .int .i64 0], .int .i64 71]) (by simp [results, Tryd.results45, go_sem, r0, r1, r2, r3, r4]) rfl ⟨?_, (WB.out.setCell (p := ⟨w.heap.size + 1 + 1, 0, none⟩) (show w.heap.size ≤ w.heap.size + 1 + 1 by omega) _).setCell (p := ⟨w.heap.size + 1 + 1, 1, none⟩) (show w.heap.size ≤ w.heap.size + 1 + 1 by omega) _⟩
      rw [HRR.out, if_pos HK.out, if_neg (by rw [hr]; simp)]
    | true =>
      have HR := hid hr; clear hr
      obtain ⟨⟨c0, c1, c2, c3⟩, _, lx⟩ := box_quad B5.out
      obtain ⟨⟨d0, d1, d2, d3⟩, _, lx4⟩ := box_quad B4.out
      go_wp2_with fail
      have hkk : okN a.st = true ∧ okN a.fo = true := okT_okN' HK.out
      have C := fun V h1 h2 => refOwed1_any a r sa fa sc fc V hl hl2 hkk.1 hkk.2 HR.out (by simp [rateW]) (rateW_b HR.out) h1 h2
      unfold Rt.val at C
      refine (C w2 (H1.out.below WB.out) (H2.out.below WB.out)).mono ?_
      clear C c0 c1 c2 c3 d0 d1 d2 d3 lx lx4 r0 r1 r2 r3 r4
      rintro e w3 ⟨rfl, hb3⟩
      have B6 := hid (B6.out.below hb3 B6.out.lt); have WB := hid (WB.out.trans (hb3.mono WB.out.size))
      have r0 := B6.out.cell 0; have r1 := B6.out.cell 1; have r2 := B6.out.frozen 0; have r3 := B6.out.frozen 1; have r4 := B6.out.lt
      simp only [List.getElem?_toArray, List.getElem?_cons_zero, List.getElem?_cons_succ] at r0 r1
      clear hb3 B4 B5
      go_wp2_with fail
      refine bodyPost_ret (v := .tuple #[.agg #[.int .i64 (spanF (rateW r) a.st a.fo).1, .int .i64 (spanF (rateW r) a.st a.fo).2], .int .i64 0]) (by simp [results, Tryd.results45, go_sem, r0, r1, r2, r3, r4]) rfl ⟨?_, (WB.out.setCell (p := ⟨w.heap.size + 1 + 1, 0, none⟩) (show w.heap.size ≤ w.heap.size + 1 + 1 by omega) _).setCell (p := ⟨w.heap.size + 1 + 1, 1, none⟩) (show w.heap.size ≤ w.heap.size + 1 + 1 by omega) _⟩
      rw [HRR.out, if_pos HK.out, if_pos HR.out]
end Go.Proofs.YthddoikmgpgakaaDoor
