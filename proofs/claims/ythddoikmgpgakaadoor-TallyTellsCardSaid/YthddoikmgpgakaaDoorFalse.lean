/- 'False', in the program and in the reference: the fewest false notches, or the error. -/
import Derived.Test.YthddoikmgpgakaaDoorProg
import Derived.Test.YthddoikmgpgakaaDoorBase
import Derived.Outline
import Derived.RangeFuncNested
import Derived.Shelf.Abstract
import Derived.Deep.QuietTactic
import Derived.BigQuiet
import Derived.Deep.RegionHeld3
import Derived.WalkSmall
import Derived.Laws.EntriesVeiled
import Derived.WalkMore
import Derived.Test.YthddoikmgpgakaaDoorTable
namespace Go.Proofs.YthddoikmgpgakaaDoor
open Go.RowKit Go.Proofs Go.Shelf

/-- The false notches of a tally, or the error. -/
def falseR (a : Tl) : Int × Int := if okT a.id a.hs a.st a.fo = true then (dist a.st a.fo, 0) else (0, 70)

set_option maxRecDepth 20000 in
theorem false_any (a : Tl) (sa fa : Option Addr) (sc fc : Nat) (w : World) (ht : Tab w) (hl : a.st.length ≤ 1000) (hl2 : a.fo.length ≤ 1000) (h1 : RdI w sa a.st) (h2 : RdI w fa a.fo) :
    Calls Tryd.prog 30 #[.agg #[.int .i64 a.id, .int .i64 a.hs, .slice sa a.st.length sc, .slice fa a.fo.length fc]] w
      fun e w' => e = .returned (.tuple #[.int .i64 (falseR a).1, .int .i64 (falseR a).2]) ∧ Below w.heap.size w w' := by
  have H1 := hid h1; have H2 := hid h2; clear h1 h2
  have HT := hid ht; clear ht
  go_enter Tryd.func30, Tryd.ntmps30
  go_wp2_with fail
  refine (check_any _ _ _ _ _ _ _ _ _ (HT.out.below (by repeat (first | (with_reducible exact Below.refl _ _) | (with_reducible assumption) | (with_reducible refine Below.drew ?_) | (with_reducible refine below_drewN ?_ _) | (with_reducible refine Below.alloc ?_ (by first | omega | (simp; done) | (simp; omega)) _) | (with_reducible refine Below.setCell ?_ (by first | omega | (simp; done) | (simp; omega)) _) | (with_reducible refine Below.trans ?_ (Below.mono (by assumption) (by first | omega | (simp; done) | (simp; omega))))))) (by omega) (by omega) (H1.out.below (by repeat (first | (with_reducible exact Below.refl _ _) | (with_reducible assumption) | (with_reducible refine Below.drew ?_) | (with_reducible refine below_drewN ?_ _) | (with_reducible refine Below.alloc ?_ (by first | omega | (simp; done) | (simp; omega)) _) | (with_reducible refine Below.setCell ?_ (by first | omega | (simp; done) | (simp; omega)) _) | (with_reducible refine Below.trans ?_ (Below.mono (by assumption) (by first | omega | (simp; done) | (simp; omega))))))) (H2.out.below (by repeat (first | (with_reducible exact Below.refl _ _) | (with_reducible assumption) | (with_reducible refine Below.drew ?_) | (with_reducible refine below_drewN ?_ _) | (with_reducible refine Below.alloc ?_ (by first | omega | (simp; done) | (simp; omega)) _) | (with_reducible refine Below.setCell ?_ (by first | omega | (simp; done) | (simp; omega)) _) | (with_reducible refine Below.trans ?_ (Below.mono (by assumption) (by first | omega | (simp; done) | (simp; omega)))))))).mono ?_
  rintro e w1 ⟨rfl, hb1⟩
  have b1 := (Box.new w #[.int .i64 a.id, .int .i64 a.hs, .slice sa a.st.length sc, .slice fa a.fo.length fc] 24).below hb1 (by simp)
  have c2 : w1.cell? ⟨w.heap.size, 2, none⟩ = some (.slice sa a.st.length sc) := b1.cell 2
  have c3 : w1.cell? ⟨w.heap.size, 3, none⟩ = some (.slice fa a.fo.length fc) := b1.cell 3
  have hbw : Below w.heap.size w w1 := (by repeat (first | (with_reducible exact Below.refl _ _) | (with_reducible assumption) | (with_reducible refine Below.drew ?_) | (with_reducible refine below_drewN ?_ _) | (with_reducible refine Below.alloc ?_ (by first | omega | (simp; done) | (simp; omega)) _) | (with_reducible refine Below.setCell ?_ (by first | omega | (simp; done) | (simp; omega)) _) | (with_reducible refine Below.trans ?_ (Below.mono (by assumption) (by first | omega | (simp; done) | (simp; omega))))))
  clear b1 hb1
  by_cases hok : okT a.id a.hs a.st a.fo = true
  · have t1 : (errT (okT a.id a.hs a.st a.fo) != 0) = false := by rw [hok]; rfl
    have HK := hid hok; clear hok
    go_wp2_with fail
    refine (between_any a.st a.fo sa fa sc fc w1 (by omega) (by omega) (H1.out.below hbw) (H2.out.below hbw)).mono ?_
    rintro e w2 ⟨rfl, hb2⟩
    have hb := hbw.trans (hb2.mono hbw.size)
    clear t1 c2 c3 hbw hb2
    go_wp2_with fail
    refine bodyPost_ret (results_tmp2 rfl _ _ _) rfl ?_
    unfold falseR; rw [if_pos HK.out]
    exact ⟨rfl, hb⟩
  · have t1 : (errT (okT a.id a.hs a.st a.fo) != 0) = true := by rw [Bool.not_eq_true] at hok; rw [hok]; rfl
    have t2 : errT (okT a.id a.hs a.st a.fo) = 70 := by rw [Bool.not_eq_true] at hok; rw [hok]; rfl
    have HK := hid hok; clear hok
    rw [t2] at t1 ⊢
    clear t2
    go_wp2_with fail
    refine bodyPost_ret (results_tmp2 rfl _ _ _) rfl ?_
    unfold falseR; rw [if_neg HK.out]
    exact ⟨rfl, hbw⟩

set_option maxRecDepth 20000 in
theorem refFalse_any (a : Tl) (sa fa : Option Addr) (sc fc : Nat) (w : World) (hl : a.st.length ≤ 1000) (hl2 : a.fo.length ≤ 1000) (h1 : RdI w sa a.st) (h2 : RdI w fa a.fo) :
    Calls Tryd.prog 31 #[.agg #[.int .i64 a.id, .int .i64 a.hs, .slice sa a.st.length sc, .slice fa a.fo.length fc]] w
      fun e w' => e = .returned (.tuple #[.int .i64 (falseR a).1, .int .i64 (falseR a).2]) ∧ Below w.heap.size w w' := by
  have H1 := hid h1; have H2 := hid h2; clear h1 h2
  go_enter Tryd.func31, Tryd.ntmps31
  go_wp2_with fail
  refine (tally_any _ _ _ _ _ _ _ _ _ (by omega) (by omega) (H1.out.below (by repeat (first | (with_reducible exact Below.refl _ _) | (with_reducible assumption) | (with_reducible refine Below.drew ?_) | (with_reducible refine below_drewN ?_ _) | (with_reducible refine Below.alloc ?_ (by first | omega | (simp; done) | (simp; omega)) _) | (with_reducible refine Below.setCell ?_ (by first | omega | (simp; done) | (simp; omega)) _) | (with_reducible refine Below.trans ?_ (Below.mono (by assumption) (by first | omega | (simp; done) | (simp; omega))))))) (H2.out.below (by repeat (first | (with_reducible exact Below.refl _ _) | (with_reducible assumption) | (with_reducible refine Below.drew ?_) | (with_reducible refine below_drewN ?_ _) | (with_reducible refine Below.alloc ?_ (by first | omega | (simp; done) | (simp; omega)) _) | (with_reducible refine Below.setCell ?_ (by first | omega | (simp; done) | (simp; omega)) _) | (with_reducible refine Below.trans ?_ (Below.mono (by assumption) (by first | omega | (simp; done) | (simp; omega)))))))).mono ?_
  rintro e w1 ⟨rfl, hb1⟩
  have b1 := (Box.new w #[.int .i64 a.id, .int .i64 a.hs, .slice sa a.st.length sc, .slice fa a.fo.length fc] 24).below hb1 (by simp)
  have c2 : w1.cell? ⟨w.heap.size, 2, none⟩ = some (.slice sa a.st.length sc) := b1.cell 2
  have c3 : w1.cell? ⟨w.heap.size, 3, none⟩ = some (.slice fa a.fo.length fc) := b1.cell 3
  have hbw : Below w.heap.size w w1 := (by repeat (first | (with_reducible exact Below.refl _ _) | (with_reducible assumption) | (with_reducible refine Below.drew ?_) | (with_reducible refine below_drewN ?_ _) | (with_reducible refine Below.alloc ?_ (by first | omega | (simp; done) | (simp; omega)) _) | (with_reducible refine Below.setCell ?_ (by first | omega | (simp; done) | (simp; omega)) _) | (with_reducible refine Below.trans ?_ (Below.mono (by assumption) (by first | omega | (simp; done) | (simp; omega))))))
  clear b1 hb1
  by_cases hok : okT a.id a.hs a.st a.fo = true
  · rw [hok]
    have HK := hid hok; clear hok
    go_wp2_with fail
    refine (refBetween_any a.st a.fo sa fa sc fc w1 hl hl2 (H1.out.below hbw) (H2.out.below hbw)).mono ?_
    rintro e w2 ⟨rfl, hb2⟩
    have hb := hbw.trans (hb2.mono hbw.size)
    clear c2 c3 hbw hb2
    go_wp2_with fail
    refine bodyPost_ret (results_tmp2 rfl _ _ _) rfl ?_
    unfold falseR; rw [if_pos HK.out]
    exact ⟨rfl, hb⟩
  · have HK := hid hok
    rw [Bool.not_eq_true] at hok
    rw [hok]
    clear hok
    go_wp2_with fail
    refine bodyPost_ret (results_tmp2 rfl _ _ _) rfl ?_
    unfold falseR; rw [if_neg HK.out]
    exact ⟨rfl, hbw⟩

end Go.Proofs.YthddoikmgpgakaaDoor
