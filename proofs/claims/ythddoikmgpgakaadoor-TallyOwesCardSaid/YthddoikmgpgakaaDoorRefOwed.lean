/- The reference's 'owed'. -/
import Derived.Test.YthddoikmgpgakaaDoorProg
import Derived.Test.YthddoikmgpgakaaDoorBase
import Derived.Outline
import Derived.RangeFuncNested
import Derived.Shelf.Abstract
import Derived.Deep.QuietTactic
import Derived.BigQuiet
import Derived.Deep.RegionHeld3
import Derived.WalkSmall
import Derived.Laws.EntriesVeiled
import Derived.WalkMore
import Derived.Test.YthddoikmgpgakaaDoorRefComes
namespace Go.Proofs.YthddoikmgpgakaaDoor
open Go.RowKit Go.Proofs Go.Shelf
set_option maxRecDepth 20000 in
set_option maxHeartbeats 4000000 in
theorem refOwed1_any (a : Tl) (r : Rt) (sa fa : Option Addr) (sc fc : Nat) (w : World) (hl : a.st.length ≤ 1000) (hl2 : a.fo.length ≤ 1000) (o1 : okN a.st = true) (o2 : okN a.fo = true) (hr : r.ok = true) (w0 : rateW r 0 = 0) (wb : ∀ n, -1000 ≤ rateW r n ∧ rateW r n ≤ 1000) (h1 : RdI w sa a.st) (h2 : RdI w fa a.fo) :
    Calls Tryd.prog 94 #[.agg #[.int .i64 a.id, .int .i64 a.hs, .slice sa a.st.length sc, .slice fa a.fo.length fc], r.val] w
      fun e w' => e = .returned (.agg #[.int .i64 (spanF (rateW r) a.st a.fo).1, .int .i64 (spanF (rateW r) a.st a.fo).2]) ∧ Below w.heap.size w w' := by
  have H1 := hid h1; have H2 := hid h2; clear h1 h2
  have W0 := hid w0; clear w0
  unfold Rt.ok at hr
  simp only [Bool.and_eq_true, decide_eq_true_eq] at hr
  unfold Rt.val
  go_enter Tryd.func94, Tryd.ntmps94
  go_wp2_with fail
  have C := fun V (h : Below w.heap.size w V) => refComes_any a (rateW r) sa fa sc fc V hl hl2 o1 o2 W0.out wb (H1.out.below h) (H2.out.below h)
  rw [show rateW r 0 = 0 from rfl, show rateW r 1 = r.skin from rfl, show rateW r 2 = r.half from rfl, show rateW r 3 = r.barrel from rfl, show rateW r 4 = -r.paid from rfl] at C
  refine (C _ (by repeat (first | (with_reducible exact Below.refl _ _) | (with_reducible assumption) | (with_reducible refine Below.drew ?_) | (with_reducible refine below_drewN ?_ _) | (with_reducible refine Below.alloc ?_ (by first | omega | (simp; done) | (simp; omega)) _) | (with_reducible refine Below.setCell ?_ (by first | omega | (simp; done) | (simp; omega)) _) | (with_reducible refine Below.trans ?_ (Below.mono (by assumption) (by first | omega | (simp; done) | (simp; omega))))))).mono ?_
  rintro e w1 ⟨rfl, hb1⟩
  have B6 := hid ((Box.at (w := (w.alloc (.cells #[.int .i64 a.id, .int .i64 a.hs, .slice sa a.st.length sc, .slice fa a.fo.length fc] 24)).alloc (.cells #[.int .i64 r.skin, .int .i64 r.half, .int .i64 r.barrel, .int .i64 r.paid] 64)) (n := w.heap.size + 1 + 1) #[.int .i64 0, .int .i64 0] 68 (by simp)).below hb1 (by simp))
  have WB := hid (show Below w.heap.size w w1 from (by repeat (first | (with_reducible exact Below.refl _ _) | (with_reducible assumption) | (with_reducible refine Below.drew ?_) | (with_reducible refine below_drewN ?_ _) | (with_reducible refine Below.alloc ?_ (by first | omega | (simp; done) | (simp; omega)) _) | (with_reducible refine Below.setCell ?_ (by first | omega | (simp; done) | (simp; omega)) _) | (with_reducible refine Below.trans ?_ (Below.mono (by assumption) (by first | omega | (simp; done) | (simp; omega)))))))
  clear hb1 C
  have r0 := B6.out.cell 0; have r1 := B6.out.cell 1; have r2 := B6.out.frozen 0; have r3 := B6.out.frozen 1; have r4 := B6.out.lt
  simp only [List.getElem?_toArray, List.getElem?_cons_zero, List.getElem?_cons_succ] at r0 r1
  go_wp2_with fail
  refine bodyPost_ret (v := .agg #[.int .i64 (spanF (rateW r) a.st a.fo).1, .int .i64 (spanF (rateW r) a.st a.fo).2]) (by simp [results, Tryd.results94, go_sem, r0, r1, r2, r3, r4]) rfl ⟨rfl, (WB.out.setCell (p := ⟨w.heap.size + 1 + 1, 0, none⟩) (show w.heap.size ≤ w.heap.size + 1 + 1 by omega) _).setCell (p := ⟨w.heap.size + 1 + 1, 1, none⟩) (show w.heap.size ≤ w.heap.size + 1 + 1 by omega) _⟩
end Go.Proofs.YthddoikmgpgakaaDoor
