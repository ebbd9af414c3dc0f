/- 'Is', in the program and in the reference: whether a list is a true one, or the error. -/
import Derived.Test.YthddoikmgpgakaaDoorProg
import Derived.Test.YthddoikmgpgakaaDoorBase
import Derived.Outline
import Derived.RangeFuncNested
import Derived.Shelf.Abstract
import Derived.Deep.QuietTactic
import Derived.BigQuiet
import Derived.Deep.RegionHeld3
import Derived.WalkSmall
import Derived.Laws.EntriesVeiled
import Derived.WalkMore
import Derived.Test.YthddoikmgpgakaaDoorTable
namespace Go.Proofs.YthddoikmgpgakaaDoor
open Go.RowKit Go.Proofs Go.Shelf

/-- Whether a list is a true one. -/
def trueL (st fo l : List Int) : Bool := okN l && decide (dist st l + dist l fo = dist st fo)
/-- What is told of it. -/
def isR (a : Tl) (l : List Int) : Bool × Int := if okT a.id a.hs a.st a.fo = true then (trueL a.st a.fo l, 0) else (false, 70)
theorem true_ints {x y z : Nat} : ((x : Int) + (y : Int) == (z : Int)) = decide (x + y = z) := by
  rw [Bool.eq_iff_iff]; simp; omega

set_option maxRecDepth 20000 in
set_option maxHeartbeats 2000000 in
theorem true_any (a : Tl) (l : List Int) (sa fa la : Option Addr) (sc fc lc : Nat) (w : World) (hl : a.st.length ≤ 1000) (hl2 : a.fo.length ≤ 1000) (hl3 : l.length ≤ 1000) (h1 : RdI w sa a.st) (h2 : RdI w fa a.fo) (h3 : RdI w la l) :
    Calls Tryd.prog 90 #[.agg #[.int .i64 a.id, .int .i64 a.hs, .slice sa a.st.length sc, .slice fa a.fo.length fc], .slice la l.length lc] w
      fun e w' => e = .returned (.bool (trueL a.st a.fo l)) ∧ Below w.heap.size w w' := by
  have hm := mixedS
  have H1 := hid h1; have H2 := hid h2; have H3 := hid h3; clear h1 h2 h3
  go_enter Tryd.func90, Tryd.ntmps90
  go_wp2_with fail
  have BX := hid (Box.new w #[.int .i64 a.id, .int .i64 a.hs, .slice sa a.st.length sc, .slice fa a.fo.length fc] 24)
  have HB := hid ((Below.refl w.heap.size w).alloc (Nat.le_refl _) (.cells #[.int .i64 a.id, .int .i64 a.hs, .slice sa a.st.length sc, .slice fa a.fo.length fc] 24))
  generalize w.alloc (.cells #[.int .i64 a.id, .int .i64 a.hs, .slice sa a.st.length sc, .slice fa a.fo.length fc] 24) = w1 at BX HB ⊢
  refine wp_region_F [4, 9, 13, 15] (fun w' => w'.cell? ⟨w.heap.size, 2, none⟩ = some (.slice sa a.st.length sc) ∧ w'.cell? ⟨w.heap.size, 3, none⟩ = some (.slice fa a.fo.length fc)) hm ⟨BX.out.cell 2, BX.out.cell 3⟩ ?_
  intro hS0; have hS := hid hS0; clear hS0
  have d1 := dist_le a.st l; have d2 := dist_le l a.fo; have d3 := dist_le a.st a.fo
  have hw := wrap_small (n := (dist a.st l : Int) + (dist l a.fo : Int)) (by omega) (by omega)
  have lb := BX.out.lt
  by_cases hok : okN l = true
  · have HK := hid hok
    (apply wpAnyF_pure (i := 0) rfl (by kernel_rfl) (fun _ _ _ h => h); · first | exact .inr ⟨rfl, rfl⟩ | exact .inl ⟨rfl, fun w' => by go_simp; rfl⟩); simp only [Act.put, List.setIfInBounds_toArray, List.set_cons_succ, List.set_cons_zero, List.getElem_toArray, List.getElem_cons_succ, List.getElem_cons_zero]
    refine wpAnyF_one (i := 1) rfl ⟨by kernel_rfl, by kernel_rfl⟩ ?_
    intro K hK
    go_simp
    refine (notches_any la lc l w1.drew (by omega) (H3.out.below HB.out.drew)).mono ?_
    rintro e w2 ⟨rfl, e2⟩
    have HB2 : Below w.heap.size w w2 := e2 ▸ HB.out.drew
    have B2 : Box w2 w.heap.size #[.int .i64 a.id, .int .i64 a.hs, .slice sa a.st.length sc, .slice fa a.fo.length fc] 24 := e2 ▸ BX.out.drew
    clear e2
    rw [HK.out]
    refine shutS hK ⟨B2.cell 2, B2.cell 3⟩ (fun hS => ?_)
    (apply wpAnyF_pure (i := 2) rfl (by kernel_rfl) (fun _ _ _ h => h); · first | exact .inr ⟨rfl, rfl⟩ | exact .inl ⟨rfl, fun w' => by go_simp; rfl⟩); simp only [Act.put, List.setIfInBounds_toArray, List.set_cons_succ, List.set_cons_zero, List.getElem_toArray, List.getElem_cons_succ, List.getElem_cons_zero]
    (apply wpAnyF_pure (i := 3) rfl (by kernel_rfl) (fun _ _ _ h => h); · first | exact .inr ⟨rfl, rfl⟩ | exact .inl ⟨rfl, fun w' => by go_simp; rfl⟩); simp only [Act.put, List.setIfInBounds_toArray, List.set_cons_succ, List.set_cons_zero, List.getElem_toArray, List.getElem_cons_succ, List.getElem_cons_zero]
    (apply wpAnyF_held (i := 4) rfl (by kernel_rfl) (fun _ _ _ h => h) hS.out; · first | exact .inr ⟨rfl, rfl⟩ | exact .inl ⟨rfl, fun w' hS' => by (obtain ⟨s1, s2⟩ := hS'; go_simp; rfl)⟩); simp only [Act.put, List.setIfInBounds_toArray, List.set_cons_succ, List.set_cons_zero, List.getElem_toArray, List.getElem_cons_succ, List.getElem_cons_zero]
    (apply wpAnyF_pure (i := 5) rfl (by kernel_rfl) (fun _ _ _ h => h); · first | exact .inr ⟨rfl, rfl⟩ | exact .inl ⟨rfl, fun w' => by go_simp; rfl⟩); simp only [Act.put, List.setIfInBounds_toArray, List.set_cons_succ, List.set_cons_zero, List.getElem_toArray, List.getElem_cons_succ, List.getElem_cons_zero]
    (apply wpAnyF_pure (i := 7) rfl (by kernel_rfl) (fun _ _ _ h => h); · first | exact .inr ⟨rfl, rfl⟩ | exact .inl ⟨rfl, fun w' => by go_simp; rfl⟩); simp only [Act.put, List.setIfInBounds_toArray, List.set_cons_succ, List.set_cons_zero, List.getElem_toArray, List.getElem_cons_succ, List.getElem_cons_zero]
    (apply wpAnyF_pure (i := 8) rfl (by kernel_rfl) (fun _ _ _ h => h); · first | exact .inr ⟨rfl, rfl⟩ | exact .inl ⟨rfl, fun w' => by go_simp; rfl⟩); simp only [Act.put, List.setIfInBounds_toArray, List.set_cons_succ, List.set_cons_zero, List.getElem_toArray, List.getElem_cons_succ, List.getElem_cons_zero]
    (apply wpAnyF_held (i := 9) rfl (by kernel_rfl) (fun _ _ _ h => h) hS.out; · first | exact .inr ⟨rfl, rfl⟩ | exact .inl ⟨rfl, fun w' hS' => by (obtain ⟨s1, s2⟩ := hS'; go_simp; rfl)⟩); simp only [Act.put, List.setIfInBounds_toArray, List.set_cons_succ, List.set_cons_zero, List.getElem_toArray, List.getElem_cons_succ, List.getElem_cons_zero]
    (apply wpAnyF_pure (i := 12) rfl (by kernel_rfl) (fun _ _ _ h => h); · first | exact .inr ⟨rfl, rfl⟩ | exact .inl ⟨rfl, fun w' => by go_simp; rfl⟩); simp only [Act.put, List.setIfInBounds_toArray, List.set_cons_succ, List.set_cons_zero, List.getElem_toArray, List.getElem_cons_succ, List.getElem_cons_zero]
    (apply wpAnyF_held (i := 13) rfl (by kernel_rfl) (fun _ _ _ h => h) hS.out; · first | exact .inr ⟨rfl, rfl⟩ | exact .inl ⟨rfl, fun w' hS' => by (obtain ⟨s1, s2⟩ := hS'; go_simp; rfl)⟩); simp only [Act.put, List.setIfInBounds_toArray, List.set_cons_succ, List.set_cons_zero, List.getElem_toArray, List.getElem_cons_succ, List.getElem_cons_zero]
    (apply wpAnyF_pure (i := 14) rfl (by kernel_rfl) (fun _ _ _ h => h); · first | exact .inr ⟨rfl, rfl⟩ | exact .inl ⟨rfl, fun w' => by go_simp; rfl⟩); simp only [Act.put, List.setIfInBounds_toArray, List.set_cons_succ, List.set_cons_zero, List.getElem_toArray, List.getElem_cons_succ, List.getElem_cons_zero]
    (apply wpAnyF_held (i := 15) rfl (by kernel_rfl) (fun _ _ _ h => h) hS.out; · first | exact .inr ⟨rfl, rfl⟩ | exact .inl ⟨rfl, fun w' hS' => by (obtain ⟨s1, s2⟩ := hS'; go_simp; rfl)⟩); simp only [Act.put, List.setIfInBounds_toArray, List.set_cons_succ, List.set_cons_zero, List.getElem_toArray, List.getElem_cons_succ, List.getElem_cons_zero]
    refine wpAnyF_one (i := 6) rfl ⟨by kernel_rfl, by kernel_rfl⟩ ?_
    intro K hK
    go_simp
    refine (refBetween_any a.st l sa la sc lc w2 (by omega) (by omega) (H1.out.below HB2) (H3.out.below HB2)).mono ?_
    rintro e w3 ⟨rfl, hb3⟩
    have HB3 := HB2.trans (hb3.mono HB2.size)
    have B3 := B2.below hb3 B2.lt
    refine shutS hK ⟨B3.cell 2, B3.cell 3⟩ (fun hS => ?_)
    refine wpAnyF_one (i := 10) rfl ⟨by kernel_rfl, by kernel_rfl⟩ ?_
    intro K hK
    go_simp
    refine (refBetween_any l a.fo la fa lc fc w3 (by omega) (by omega) (H3.out.below HB3) (H2.out.below HB3)).mono ?_
    rintro e w4 ⟨rfl, hb4⟩
    have HB4 := HB3.trans (hb4.mono HB3.size)
    have B4 := B3.below hb4 B3.lt
    refine shutS hK ⟨B4.cell 2, B4.cell 3⟩ (fun hS => ?_)
    (apply wpAnyF_pure (i := 11) rfl (by kernel_rfl) (fun _ _ _ h => h); · first | exact .inr ⟨rfl, rfl⟩ | exact .inl ⟨rfl, fun w' => by go_simp; rfl⟩); simp only [Act.put, List.setIfInBounds_toArray, List.set_cons_succ, List.set_cons_zero, List.getElem_toArray, List.getElem_cons_succ, List.getElem_cons_zero]
    refine wpAnyF_one (i := 16) rfl ⟨by kernel_rfl, by kernel_rfl⟩ ?_
    intro K hK
    go_simp
    refine (refBetween_any a.st a.fo sa fa sc fc w4 (by omega) (by omega) (H1.out.below HB4) (H2.out.below HB4)).mono ?_
    rintro e w5 ⟨rfl, hb5⟩
    have HB5 := HB4.trans (hb5.mono HB4.size)
    refine shutN hK (by kernel_rfl) ?_
    (apply wpAnyF_pure (i := 17) rfl (by kernel_rfl) (fun _ _ _ h => h); · first | exact .inr ⟨rfl, rfl⟩ | exact .inl ⟨rfl, fun w' => by go_simp; rfl⟩); simp only [Act.put, List.setIfInBounds_toArray, List.set_cons_succ, List.set_cons_zero, List.getElem_toArray, List.getElem_cons_succ, List.getElem_cons_zero]
    (apply wpAnyF_pure (i := 18) rfl (by kernel_rfl) (fun _ _ _ h => h); · first | exact .inr ⟨rfl, rfl⟩ | exact .inl ⟨rfl, fun w' => by go_simp; rfl⟩); simp only [Act.put, List.setIfInBounds_toArray, List.set_cons_succ, List.set_cons_zero, List.getElem_toArray, List.getElem_cons_succ, List.getElem_cons_zero]
    (apply wpAnyF_pure (i := 19) rfl (by kernel_rfl) (fun _ _ _ h => h); · first | exact .inr ⟨rfl, rfl⟩ | exact .inl ⟨rfl, fun w' => by go_simp; rfl⟩); simp only [Act.put, List.setIfInBounds_toArray, List.set_cons_succ, List.set_cons_zero, List.getElem_toArray, List.getElem_cons_succ, List.getElem_cons_zero]
    refine wpAnyF_done (by kernel_rfl) ?_ _
    go_wp2_with fail
    refine bodyPost_ret (results_tmp rfl _ _ _) rfl ?_
    refine ⟨?_, HB5⟩
    unfold trueL; rw [HK.out, Bool.true_and, ← true_ints]
    first | rfl | (simp; done) | (congr 1; simp; omega)
  · have HK := hid hok
    (apply wpAnyF_pure (i := 0) rfl (by kernel_rfl) (fun _ _ _ h => h); · first | exact .inr ⟨rfl, rfl⟩ | exact .inl ⟨rfl, fun w' => by go_simp; rfl⟩); simp only [Act.put, List.setIfInBounds_toArray, List.set_cons_succ, List.set_cons_zero, List.getElem_toArray, List.getElem_cons_succ, List.getElem_cons_zero]
    refine wpAnyF_one (i := 1) rfl ⟨by kernel_rfl, by kernel_rfl⟩ ?_
    intro K hK
    go_simp
    refine (notches_any la lc l w1.drew (by omega) (H3.out.below HB.out.drew)).mono ?_
    rintro e w2 ⟨rfl, e2⟩
    have HB2 : Below w.heap.size w w2 := e2 ▸ HB.out.drew
    have B2 : Box w2 w.heap.size #[.int .i64 a.id, .int .i64 a.hs, .slice sa a.st.length sc, .slice fa a.fo.length fc] 24 := e2 ▸ BX.out.drew
    clear e2
    rw [(Bool.not_eq_true _ ▸ HK.out : okN l = false)]
    refine shutS hK ⟨B2.cell 2, B2.cell 3⟩ (fun hS => ?_)
    (apply wpAnyF_pure (i := 2) rfl (by kernel_rfl) (fun _ _ _ h => h); · first | exact .inr ⟨rfl, rfl⟩ | exact .inl ⟨rfl, fun w' => by go_simp; rfl⟩); simp only [Act.put, List.setIfInBounds_toArray, List.set_cons_succ, List.set_cons_zero, List.getElem_toArray, List.getElem_cons_succ, List.getElem_cons_zero]
    (apply wpAnyF_pure (i := 3) rfl (by kernel_rfl) (fun _ _ _ h => h); · first | exact .inr ⟨rfl, rfl⟩ | exact .inl ⟨rfl, fun w' => by go_simp; rfl⟩); simp only [Act.put, List.setIfInBounds_toArray, List.set_cons_succ, List.set_cons_zero, List.getElem_toArray, List.getElem_cons_succ, List.getElem_cons_zero]
    (apply wpAnyF_held (i := 4) rfl (by kernel_rfl) (fun _ _ _ h => h) hS.out; · first | exact .inr ⟨rfl, rfl⟩ | exact .inl ⟨rfl, fun w' hS' => by (obtain ⟨s1, s2⟩ := hS'; go_simp; rfl)⟩); simp only [Act.put, List.setIfInBounds_toArray, List.set_cons_succ, List.set_cons_zero, List.getElem_toArray, List.getElem_cons_succ, List.getElem_cons_zero]
    (apply wpAnyF_pure (i := 5) rfl (by kernel_rfl) (fun _ _ _ h => h); · first | exact .inr ⟨rfl, rfl⟩ | exact .inl ⟨rfl, fun w' => by go_simp; rfl⟩); simp only [Act.put, List.setIfInBounds_toArray, List.set_cons_succ, List.set_cons_zero, List.getElem_toArray, List.getElem_cons_succ, List.getElem_cons_zero]
    (apply wpAnyF_pure (i := 7) rfl (by kernel_rfl) (fun _ _ _ h => h); · first | exact .inr ⟨rfl, rfl⟩ | exact .inl ⟨rfl, fun w' => by go_simp; rfl⟩); simp only [Act.put, List.setIfInBounds_toArray, List.set_cons_succ, List.set_cons_zero, List.getElem_toArray, List.getElem_cons_succ, List.getElem_cons_zero]
    (apply wpAnyF_pure (i := 8) rfl (by kernel_rfl) (fun _ _ _ h => h); · first | exact .inr ⟨rfl, rfl⟩ | exact .inl ⟨rfl, fun w' => by go_simp; rfl⟩); simp only [Act.put, List.setIfInBounds_toArray, List.set_cons_succ, List.set_cons_zero, List.getElem_toArray, List.getElem_cons_succ, List.getElem_cons_zero]
    (apply wpAnyF_held (i := 9) rfl (by kernel_rfl) (fun _ _ _ h => h) hS.out; · first | exact .inr ⟨rfl, rfl⟩ | exact .inl ⟨rfl, fun w' hS' => by (obtain ⟨s1, s2⟩ := hS'; go_simp; rfl)⟩); simp only [Act.put, List.setIfInBounds_toArray, List.set_cons_succ, List.set_cons_zero, List.getElem_toArray, List.getElem_cons_succ, List.getElem_cons_zero]
    (apply wpAnyF_pure (i := 12) rfl (by kernel_rfl) (fun _ _ _ h => h); · first | exact .inr ⟨rfl, rfl⟩ | exact .inl ⟨rfl, fun w' => by go_simp; rfl⟩); simp only [Act.put, List.setIfInBounds_toArray, List.set_cons_succ, List.set_cons_zero, List.getElem_toArray, List.getElem_cons_succ, List.getElem_cons_zero]
    (apply wpAnyF_held (i := 13) rfl (by kernel_rfl) (fun _ _ _ h => h) hS.out; · first | exact .inr ⟨rfl, rfl⟩ | exact .inl ⟨rfl, fun w' hS' => by (obtain ⟨s1, s2⟩ := hS'; go_simp; rfl)⟩); simp only [Act.put, List.setIfInBounds_toArray, List.set_cons_succ, List.set_cons_zero, List.getElem_toArray, List.getElem_cons_succ, List.getElem_cons_zero]
    (apply wpAnyF_pure (i := 14) rfl (by kernel_rfl) (fun _ _ _ h => h); · first | exact .inr ⟨rfl, rfl⟩ | exact .inl ⟨rfl, fun w' => by go_simp; rfl⟩); simp only [Act.put, List.setIfInBounds_toArray, List.set_cons_succ, List.set_cons_zero, List.getElem_toArray, List.getElem_cons_succ, List.getElem_cons_zero]
    (apply wpAnyF_held (i := 15) rfl (by kernel_rfl) (fun _ _ _ h => h) hS.out; · first | exact .inr ⟨rfl, rfl⟩ | exact .inl ⟨rfl, fun w' hS' => by (obtain ⟨s1, s2⟩ := hS'; go_simp; rfl)⟩); simp only [Act.put, List.setIfInBounds_toArray, List.set_cons_succ, List.set_cons_zero, List.getElem_toArray, List.getElem_cons_succ, List.getElem_cons_zero]
    refine wpAnyF_one (i := 6) rfl ⟨by kernel_rfl, by kernel_rfl⟩ ?_
    intro K hK
    go_simp
    refine shutS hK (by obtain ⟨s1, s2⟩ := hS.out; exact ⟨by go_simp, by go_simp⟩) (fun hS => ?_)
    refine wpAnyF_one (i := 10) rfl ⟨by kernel_rfl, by kernel_rfl⟩ ?_
    intro K hK
    go_simp
    refine shutS hK (by obtain ⟨s1, s2⟩ := hS.out; exact ⟨by go_simp, by go_simp⟩) (fun hS => ?_)
    (apply wpAnyF_pure (i := 11) rfl (by kernel_rfl) (fun _ _ _ h => h); · first | exact .inr ⟨rfl, rfl⟩ | exact .inl ⟨rfl, fun w' => by go_simp; rfl⟩); simp only [Act.put, List.setIfInBounds_toArray, List.set_cons_succ, List.set_cons_zero, List.getElem_toArray, List.getElem_cons_succ, List.getElem_cons_zero]
    refine wpAnyF_one (i := 16) rfl ⟨by kernel_rfl, by kernel_rfl⟩ ?_
    intro K hK
    go_simp
    refine shutN hK (by kernel_rfl) ?_
    (apply wpAnyF_pure (i := 17) rfl (by kernel_rfl) (fun _ _ _ h => h); · first | exact .inr ⟨rfl, rfl⟩ | exact .inl ⟨rfl, fun w' => by go_simp; rfl⟩); simp only [Act.put, List.setIfInBounds_toArray, List.set_cons_succ, List.set_cons_zero, List.getElem_toArray, List.getElem_cons_succ, List.getElem_cons_zero]
    (apply wpAnyF_pure (i := 18) rfl (by kernel_rfl) (fun _ _ _ h => h); · first | exact .inr ⟨rfl, rfl⟩ | exact .inl ⟨rfl, fun w' => by go_simp; rfl⟩); simp only [Act.put, List.setIfInBounds_toArray, List.set_cons_succ, List.set_cons_zero, List.getElem_toArray, List.getElem_cons_succ, List.getElem_cons_zero]
    (apply wpAnyF_pure (i := 19) rfl (by kernel_rfl) (fun _ _ _ h => h); · first | exact .inr ⟨rfl, rfl⟩ | exact .inl ⟨rfl, fun w' => by go_simp; rfl⟩); simp only [Act.put, List.setIfInBounds_toArray, List.set_cons_succ, List.set_cons_zero, List.getElem_toArray, List.getElem_cons_succ, List.getElem_cons_zero]
    refine wpAnyF_done (by kernel_rfl) ?_ _
    go_wp2_with fail
    refine bodyPost_ret (results_tmp rfl _ _ _) rfl ?_
    refine ⟨?_, HB2⟩
    unfold trueL; rw [(Bool.not_eq_true _ ▸ HK.out : okN l = false), Bool.false_and]
    rfl



set_option maxRecDepth 20000 in
set_option maxHeartbeats 2000000 in
theorem is_any (a : Tl) (l : List Int) (sa fa la : Option Addr) (sc fc lc : Nat) (w : World) (ht : Tab w) (hl : a.st.length ≤ 1000) (hl2 : a.fo.length ≤ 1000) (hl3 : l.length ≤ 1000) (h1 : RdI w sa a.st) (h2 : RdI w fa a.fo) (h3 : RdI w la l) :
    Calls Tryd.prog 34 #[.agg #[.int .i64 a.id, .int .i64 a.hs, .slice sa a.st.length sc, .slice fa a.fo.length fc], .slice la l.length lc] w
      fun e w' => e = .returned (.tuple #[.bool (isR a l).1, .int .i64 (isR a l).2]) ∧ Below w.heap.size w w' := by
  have hm := mixedS
  have H1 := hid h1; have H2 := hid h2; have H3 := hid h3; clear h1 h2 h3
  have HT := hid ht; clear ht
  go_enter Tryd.func34, Tryd.ntmps34
  go_wp2_with fail
  refine (check_any _ _ _ _ _ _ _ _ _ (HT.out.below (by repeat (first | (with_reducible exact Below.refl _ _) | (with_reducible assumption) | (with_reducible refine Below.drew ?_) | (with_reducible refine below_drewN ?_ _) | (with_reducible refine Below.alloc ?_ (by first | omega | (simp; done) | (simp; omega)) _) | (with_reducible refine Below.setCell ?_ (by first | omega | (simp; done) | (simp; omega)) _) | (with_reducible refine Below.trans ?_ (Below.mono (by assumption) (by first | omega | (simp; done) | (simp; omega))))))) (by omega) (by omega) (H1.out.below (by repeat (first | (with_reducible exact Below.refl _ _) | (with_reducible assumption) | (with_reducible refine Below.drew ?_) | (with_reducible refine below_drewN ?_ _) | (with_reducible refine Below.alloc ?_ (by first | omega | (simp; done) | (simp; omega)) _) | (with_reducible refine Below.setCell ?_ (by first | omega | (simp; done) | (simp; omega)) _) | (with_reducible refine Below.trans ?_ (Below.mono (by assumption) (by first | omega | (simp; done) | (simp; omega))))))) (H2.out.below (by repeat (first | (with_reducible exact Below.refl _ _) | (with_reducible assumption) | (with_reducible refine Below.drew ?_) | (with_reducible refine below_drewN ?_ _) | (with_reducible refine Below.alloc ?_ (by first | omega | (simp; done) | (simp; omega)) _) | (with_reducible refine Below.setCell ?_ (by first | omega | (simp; done) | (simp; omega)) _) | (with_reducible refine Below.trans ?_ (Below.mono (by assumption) (by first | omega | (simp; done) | (simp; omega)))))))).mono ?_
  rintro e w2 ⟨rfl, hb2⟩
  have BX := hid ((Box.new w #[.int .i64 a.id, .int .i64 a.hs, .slice sa a.st.length sc, .slice fa a.fo.length fc] 24).below hb2 (by simp))
  have HB := hid (show Below w.heap.size w w2 from (by repeat (first | (with_reducible exact Below.refl _ _) | (with_reducible assumption) | (with_reducible refine Below.drew ?_) | (with_reducible refine below_drewN ?_ _) | (with_reducible refine Below.alloc ?_ (by first | omega | (simp; done) | (simp; omega)) _) | (with_reducible refine Below.setCell ?_ (by first | omega | (simp; done) | (simp; omega)) _) | (with_reducible refine Below.trans ?_ (Below.mono (by assumption) (by first | omega | (simp; done) | (simp; omega)))))))
  clear hb2
  by_cases hko : okT a.id a.hs a.st a.fo = true
  · have t1 : (errT (okT a.id a.hs a.st a.fo) != 0) = false := by rw [hko]; rfl
    have HO := hid hko; clear hko
    go_wp2_with fail
    refine wp_region_F [4, 9, 13, 15] (fun w' => w'.cell? ⟨w.heap.size, 2, none⟩ = some (.slice sa a.st.length sc) ∧ w'.cell? ⟨w.heap.size, 3, none⟩ = some (.slice fa a.fo.length fc)) hm ⟨BX.out.cell 2, BX.out.cell 3⟩ ?_
    intro hS0; have hS := hid hS0; clear hS0
    have d1 := dist_le a.st l; have d2 := dist_le l a.fo; have d3 := dist_le a.st a.fo
    have hw := wrap_small (n := (dist a.st l : Int) + (dist l a.fo : Int)) (by omega) (by omega)
    have lb := BX.out.lt
    clear t1
    by_cases hok : okN l = true
    · have HK := hid hok
      (apply wpAnyF_pure (i := 0) rfl (by kernel_rfl) (fun _ _ _ h => h); · first | exact .inr ⟨rfl, rfl⟩ | exact .inl ⟨rfl, fun w' => by go_simp; rfl⟩); simp only [Act.put, List.setIfInBounds_toArray, List.set_cons_succ, List.set_cons_zero, List.getElem_toArray, List.getElem_cons_succ, List.getElem_cons_zero]
      refine wpAnyF_one (i := 1) rfl ⟨by kernel_rfl, by kernel_rfl⟩ ?_
      intro K hK
      go_simp
      refine (kinds_any la lc l w2.drew (by omega) (H3.out.below HB.out.drew)).mono ?_
      rintro e w3 ⟨rfl, hb3⟩
      have HB2 := HB.out.drew.trans (hb3.mono HB.out.size)
      have B2 := BX.out.drew.below hb3 lb
      rw [HK.out]
      refine shutS hK ⟨B2.cell 2, B2.cell 3⟩ (fun hS => ?_)
      (apply wpAnyF_pure (i := 2) rfl (by kernel_rfl) (fun _ _ _ h => h); · first | exact .inr ⟨rfl, rfl⟩ | exact .inl ⟨rfl, fun w' => by go_simp; rfl⟩); simp only [Act.put, List.setIfInBounds_toArray, List.set_cons_succ, List.set_cons_zero, List.getElem_toArray, List.getElem_cons_succ, List.getElem_cons_zero]
      (apply wpAnyF_pure (i := 3) rfl (by kernel_rfl) (fun _ _ _ h => h); · first | exact .inr ⟨rfl, rfl⟩ | exact .inl ⟨rfl, fun w' => by go_simp; rfl⟩); simp only [Act.put, List.setIfInBounds_toArray, List.set_cons_succ, List.set_cons_zero, List.getElem_toArray, List.getElem_cons_succ, List.getElem_cons_zero]
      (apply wpAnyF_held (i := 4) rfl (by kernel_rfl) (fun _ _ _ h => h) hS.out; · first | exact .inr ⟨rfl, rfl⟩ | exact .inl ⟨rfl, fun w' hS' => by (obtain ⟨s1, s2⟩ := hS'; go_simp; rfl)⟩); simp only [Act.put, List.setIfInBounds_toArray, List.set_cons_succ, List.set_cons_zero, List.getElem_toArray, List.getElem_cons_succ, List.getElem_cons_zero]
      (apply wpAnyF_pure (i := 5) rfl (by kernel_rfl) (fun _ _ _ h => h); · first | exact .inr ⟨rfl, rfl⟩ | exact .inl ⟨rfl, fun w' => by go_simp; rfl⟩); simp only [Act.put, List.setIfInBounds_toArray, List.set_cons_succ, List.set_cons_zero, List.getElem_toArray, List.getElem_cons_succ, List.getElem_cons_zero]
      (apply wpAnyF_pure (i := 7) rfl (by kernel_rfl) (fun _ _ _ h => h); · first | exact .inr ⟨rfl, rfl⟩ | exact .inl ⟨rfl, fun w' => by go_simp; rfl⟩); simp only [Act.put, List.setIfInBounds_toArray, List.set_cons_succ, List.set_cons_zero, List.getElem_toArray, List.getElem_cons_succ, List.getElem_cons_zero]
      (apply wpAnyF_pure (i := 8) rfl (by kernel_rfl) (fun _ _ _ h => h); · first | exact .inr ⟨rfl, rfl⟩ | exact .inl ⟨rfl, fun w' => by go_simp; rfl⟩); simp only [Act.put, List.setIfInBounds_toArray, List.set_cons_succ, List.set_cons_zero, List.getElem_toArray, List.getElem_cons_succ, List.getElem_cons_zero]
      (apply wpAnyF_held (i := 9) rfl (by kernel_rfl) (fun _ _ _ h => h) hS.out; · first | exact .inr ⟨rfl, rfl⟩ | exact .inl ⟨rfl, fun w' hS' => by (obtain ⟨s1, s2⟩ := hS'; go_simp; rfl)⟩); simp only [Act.put, List.setIfInBounds_toArray, List.set_cons_succ, List.set_cons_zero, List.getElem_toArray, List.getElem_cons_succ, List.getElem_cons_zero]
      (apply wpAnyF_pure (i := 12) rfl (by kernel_rfl) (fun _ _ _ h => h); · first | exact .inr ⟨rfl, rfl⟩ | exact .inl ⟨rfl, fun w' => by go_simp; rfl⟩); simp only [Act.put, List.setIfInBounds_toArray, List.set_cons_succ, List.set_cons_zero, List.getElem_toArray, List.getElem_cons_succ, List.getElem_cons_zero]
      (apply wpAnyF_held (i := 13) rfl (by kernel_rfl) (fun _ _ _ h => h) hS.out; · first | exact .inr ⟨rfl, rfl⟩ | exact .inl ⟨rfl, fun w' hS' => by (obtain ⟨s1, s2⟩ := hS'; go_simp; rfl)⟩); simp only [Act.put, List.setIfInBounds_toArray, List.set_cons_succ, List.set_cons_zero, List.getElem_toArray, List.getElem_cons_succ, List.getElem_cons_zero]
      (apply wpAnyF_pure (i := 14) rfl (by kernel_rfl) (fun _ _ _ h => h); · first | exact .inr ⟨rfl, rfl⟩ | exact .inl ⟨rfl, fun w' => by go_simp; rfl⟩); simp only [Act.put, List.setIfInBounds_toArray, List.set_cons_succ, List.set_cons_zero, List.getElem_toArray, List.getElem_cons_succ, List.getElem_cons_zero]
      (apply wpAnyF_held (i := 15) rfl (by kernel_rfl) (fun _ _ _ h => h) hS.out; · first | exact .inr ⟨rfl, rfl⟩ | exact .inl ⟨rfl, fun w' hS' => by (obtain ⟨s1, s2⟩ := hS'; go_simp; rfl)⟩); simp only [Act.put, List.setIfInBounds_toArray, List.set_cons_succ, List.set_cons_zero, List.getElem_toArray, List.getElem_cons_succ, List.getElem_cons_zero]
      refine wpAnyF_one (i := 6) rfl ⟨by kernel_rfl, by kernel_rfl⟩ ?_
      intro K hK
      go_simp
      refine (between_any a.st l sa la sc lc w3 (by omega) (by omega) (H1.out.below HB2) (H3.out.below HB2)).mono ?_
      rintro e w4 ⟨rfl, hb4⟩
      have HB3 := HB2.trans (hb4.mono HB2.size)
      have B3 := B2.below hb4 B2.lt
      refine shutS hK ⟨B3.cell 2, B3.cell 3⟩ (fun hS => ?_)
      refine wpAnyF_one (i := 10) rfl ⟨by kernel_rfl, by kernel_rfl⟩ ?_
      intro K hK
      go_simp
      refine (between_any l a.fo la fa lc fc w4 (by omega) (by omega) (H3.out.below HB3) (H2.out.below HB3)).mono ?_
      rintro e w5 ⟨rfl, hb5⟩
      have HB4 := HB3.trans (hb5.mono HB3.size)
      have B4 := B3.below hb5 B3.lt
      refine shutS hK ⟨B4.cell 2, B4.cell 3⟩ (fun hS => ?_)
      (apply wpAnyF_pure (i := 11) rfl (by kernel_rfl) (fun _ _ _ h => h); · first | exact .inr ⟨rfl, rfl⟩ | exact .inl ⟨rfl, fun w' => by go_simp; rfl⟩); simp only [Act.put, List.setIfInBounds_toArray, List.set_cons_succ, List.set_cons_zero, List.getElem_toArray, List.getElem_cons_succ, List.getElem_cons_zero]
      refine wpAnyF_one (i := 16) rfl ⟨by kernel_rfl, by kernel_rfl⟩ ?_
      intro K hK
      go_simp
      refine (between_any a.st a.fo sa fa sc fc w5 (by omega) (by omega) (H1.out.below HB4) (H2.out.below HB4)).mono ?_
      rintro e w6 ⟨rfl, hb6⟩
      have HB5 := HB4.trans (hb6.mono HB4.size)
      refine shutN hK (by kernel_rfl) ?_
      (apply wpAnyF_pure (i := 17) rfl (by kernel_rfl) (fun _ _ _ h => h); · first | exact .inr ⟨rfl, rfl⟩ | exact .inl ⟨rfl, fun w' => by go_simp; rfl⟩); simp only [Act.put, List.setIfInBounds_toArray, List.set_cons_succ, List.set_cons_zero, List.getElem_toArray, List.getElem_cons_succ, List.getElem_cons_zero]
      (apply wpAnyF_pure (i := 18) rfl (by kernel_rfl) (fun _ _ _ h => h); · first | exact .inr ⟨rfl, rfl⟩ | exact .inl ⟨rfl, fun w' => by go_simp; rfl⟩); simp only [Act.put, List.setIfInBounds_toArray, List.set_cons_succ, List.set_cons_zero, List.getElem_toArray, List.getElem_cons_succ, List.getElem_cons_zero]
      (apply wpAnyF_pure (i := 19) rfl (by kernel_rfl) (fun _ _ _ h => h); · first | exact .inr ⟨rfl, rfl⟩ | exact .inl ⟨rfl, fun w' => by go_simp; rfl⟩); simp only [Act.put, List.setIfInBounds_toArray, List.set_cons_succ, List.set_cons_zero, List.getElem_toArray, List.getElem_cons_succ, List.getElem_cons_zero]
      (apply wpAnyF_pure (i := 20) rfl (by kernel_rfl) (fun _ _ _ h => h); · first | exact .inr ⟨rfl, rfl⟩ | exact .inl ⟨rfl, fun w' => by go_simp; rfl⟩); simp only [Act.put, List.setIfInBounds_toArray, List.set_cons_succ, List.set_cons_zero, List.getElem_toArray, List.getElem_cons_succ, List.getElem_cons_zero]
      refine wpAnyF_done (by kernel_rfl) ?_ _
      go_wp2_with fail
      refine bodyPost_ret (results_tmp2 rfl _ _ _) rfl ?_
      refine ⟨?_, HB5⟩
      unfold isR; rw [if_pos HO.out]; unfold trueL; rw [HK.out, Bool.true_and, ← true_ints]
      first | rfl | (simp; done)
    · have HK := hid hok
      (apply wpAnyF_pure (i := 0) rfl (by kernel_rfl) (fun _ _ _ h => h); · first | exact .inr ⟨rfl, rfl⟩ | exact .inl ⟨rfl, fun w' => by go_simp; rfl⟩); simp only [Act.put, List.setIfInBounds_toArray, List.set_cons_succ, List.set_cons_zero, List.getElem_toArray, List.getElem_cons_succ, List.getElem_cons_zero]
      refine wpAnyF_one (i := 1) rfl ⟨by kernel_rfl, by kernel_rfl⟩ ?_
      intro K hK
      go_simp
      refine (kinds_any la lc l w2.drew (by omega) (H3.out.below HB.out.drew)).mono ?_
      rintro e w3 ⟨rfl, hb3⟩
      have HB2 := HB.out.drew.trans (hb3.mono HB.out.size)
      have B2 := BX.out.drew.below hb3 lb
      rw [(Bool.not_eq_true _ ▸ HK.out : okN l = false)]
      refine shutS hK ⟨B2.cell 2, B2.cell 3⟩ (fun hS => ?_)
      (apply wpAnyF_pure (i := 2) rfl (by kernel_rfl) (fun _ _ _ h => h); · first | exact .inr ⟨rfl, rfl⟩ | exact .inl ⟨rfl, fun w' => by go_simp; rfl⟩); simp only [Act.put, List.setIfInBounds_toArray, List.set_cons_succ, List.set_cons_zero, List.getElem_toArray, List.getElem_cons_succ, List.getElem_cons_zero]
      (apply wpAnyF_pure (i := 3) rfl (by kernel_rfl) (fun _ _ _ h => h); · first | exact .inr ⟨rfl, rfl⟩ | exact .inl ⟨rfl, fun w' => by go_simp; rfl⟩); simp only [Act.put, List.setIfInBounds_toArray, List.set_cons_succ, List.set_cons_zero, List.getElem_toArray, List.getElem_cons_succ, List.getElem_cons_zero]
      (apply wpAnyF_held (i := 4) rfl (by kernel_rfl) (fun _ _ _ h => h) hS.out; · first | exact .inr ⟨rfl, rfl⟩ | exact .inl ⟨rfl, fun w' hS' => by (obtain ⟨s1, s2⟩ := hS'; go_simp; rfl)⟩); simp only [Act.put, List.setIfInBounds_toArray, List.set_cons_succ, List.set_cons_zero, List.getElem_toArray, List.getElem_cons_succ, List.getElem_cons_zero]
      (apply wpAnyF_pure (i := 5) rfl (by kernel_rfl) (fun _ _ _ h => h); · first | exact .inr ⟨rfl, rfl⟩ | exact .inl ⟨rfl, fun w' => by go_simp; rfl⟩); simp only [Act.put, List.setIfInBounds_toArray, List.set_cons_succ, List.set_cons_zero, List.getElem_toArray, List.getElem_cons_succ, List.getElem_cons_zero]
      (apply wpAnyF_pure (i := 7) rfl (by kernel_rfl) (fun _ _ _ h => h); · first | exact .inr ⟨rfl, rfl⟩ | exact .inl ⟨rfl, fun w' => by go_simp; rfl⟩); simp only [Act.put, List.setIfInBounds_toArray, List.set_cons_succ, List.set_cons_zero, List.getElem_toArray, List.getElem_cons_succ, List.getElem_cons_zero]
      (apply wpAnyF_pure (i := 8) rfl (by kernel_rfl) (fun _ _ _ h => h); · first | exact .inr ⟨rfl, rfl⟩ | exact .inl ⟨rfl, fun w' => by go_simp; rfl⟩); simp only [Act.put, List.setIfInBounds_toArray, List.set_cons_succ, List.set_cons_zero, List.getElem_toArray, List.getElem_cons_succ, List.getElem_cons_zero]
      (apply wpAnyF_held (i := 9) rfl (by kernel_rfl) (fun _ _ _ h => h) hS.out; · first | exact .inr ⟨rfl, rfl⟩ | exact .inl ⟨rfl, fun w' hS' => by (obtain ⟨s1, s2⟩ := hS'; go_simp; rfl)⟩); simp only [Act.put, List.setIfInBounds_toArray, List.set_cons_succ, List.set_cons_zero, List.getElem_toArray, List.getElem_cons_succ, List.getElem_cons_zero]
      (apply wpAnyF_pure (i := 12) rfl (by kernel_rfl) (fun _ _ _ h => h); · first | exact .inr ⟨rfl, rfl⟩ | exact .inl ⟨rfl, fun w' => by go_simp; rfl⟩); simp only [Act.put, List.setIfInBounds_toArray, List.set_cons_succ, List.set_cons_zero, List.getElem_toArray, List.getElem_cons_succ, List.getElem_cons_zero]
      (apply wpAnyF_held (i := 13) rfl (by kernel_rfl) (fun _ _ _ h => h) hS.out; · first | exact .inr ⟨rfl, rfl⟩ | exact .inl ⟨rfl, fun w' hS' => by (obtain ⟨s1, s2⟩ := hS'; go_simp; rfl)⟩); simp only [Act.put, List.setIfInBounds_toArray, List.set_cons_succ, List.set_cons_zero, List.getElem_toArray, List.getElem_cons_succ, List.getElem_cons_zero]
      (apply wpAnyF_pure (i := 14) rfl (by kernel_rfl) (fun _ _ _ h => h); · first | exact .inr ⟨rfl, rfl⟩ | exact .inl ⟨rfl, fun w' => by go_simp; rfl⟩); simp only [Act.put, List.setIfInBounds_toArray, List.set_cons_succ, List.set_cons_zero, List.getElem_toArray, List.getElem_cons_succ, List.getElem_cons_zero]
      (apply wpAnyF_held (i := 15) rfl (by kernel_rfl) (fun _ _ _ h => h) hS.out; · first | exact .inr ⟨rfl, rfl⟩ | exact .inl ⟨rfl, fun w' hS' => by (obtain ⟨s1, s2⟩ := hS'; go_simp; rfl)⟩); simp only [Act.put, List.setIfInBounds_toArray, List.set_cons_succ, List.set_cons_zero, List.getElem_toArray, List.getElem_cons_succ, List.getElem_cons_zero]
      refine wpAnyF_one (i := 6) rfl ⟨by kernel_rfl, by kernel_rfl⟩ ?_
      intro K hK
      go_simp
      refine shutS hK (by obtain ⟨s1, s2⟩ := hS.out; exact ⟨by go_simp, by go_simp⟩) (fun hS => ?_)
      refine wpAnyF_one (i := 10) rfl ⟨by kernel_rfl, by kernel_rfl⟩ ?_
      intro K hK
      go_simp
      refine shutS hK (by obtain ⟨s1, s2⟩ := hS.out; exact ⟨by go_simp, by go_simp⟩) (fun hS => ?_)
      (apply wpAnyF_pure (i := 11) rfl (by kernel_rfl) (fun _ _ _ h => h); · first | exact .inr ⟨rfl, rfl⟩ | exact .inl ⟨rfl, fun w' => by go_simp; rfl⟩); simp only [Act.put, List.setIfInBounds_toArray, List.set_cons_succ, List.set_cons_zero, List.getElem_toArray, List.getElem_cons_succ, List.getElem_cons_zero]
      refine wpAnyF_one (i := 16) rfl ⟨by kernel_rfl, by kernel_rfl⟩ ?_
      intro K hK
      go_simp
      refine shutN hK (by kernel_rfl) ?_
      (apply wpAnyF_pure (i := 17) rfl (by kernel_rfl) (fun _ _ _ h => h); · first | exact .inr ⟨rfl, rfl⟩ | exact .inl ⟨rfl, fun w' => by go_simp; rfl⟩); simp only [Act.put, List.setIfInBounds_toArray, List.set_cons_succ, List.set_cons_zero, List.getElem_toArray, List.getElem_cons_succ, List.getElem_cons_zero]
      (apply wpAnyF_pure (i := 18) rfl (by kernel_rfl) (fun _ _ _ h => h); · first | exact .inr ⟨rfl, rfl⟩ | exact .inl ⟨rfl, fun w' => by go_simp; rfl⟩); simp only [Act.put, List.setIfInBounds_toArray, List.set_cons_succ, List.set_cons_zero, List.getElem_toArray, List.getElem_cons_succ, List.getElem_cons_zero]
      (apply wpAnyF_pure (i := 19) rfl (by kernel_rfl) (fun _ _ _ h => h); · first | exact .inr ⟨rfl, rfl⟩ | exact .inl ⟨rfl, fun w' => by go_simp; rfl⟩); simp only [Act.put, List.setIfInBounds_toArray, List.set_cons_succ, List.set_cons_zero, List.getElem_toArray, List.getElem_cons_succ, List.getElem_cons_zero]
      (apply wpAnyF_pure (i := 20) rfl (by kernel_rfl) (fun _ _ _ h => h); · first | exact .inr ⟨rfl, rfl⟩ | exact .inl ⟨rfl, fun w' => by go_simp; rfl⟩); simp only [Act.put, List.setIfInBounds_toArray, List.set_cons_succ, List.set_cons_zero, List.getElem_toArray, List.getElem_cons_succ, List.getElem_cons_zero]
      refine wpAnyF_done (by kernel_rfl) ?_ _
      go_wp2_with fail
      refine bodyPost_ret (results_tmp2 rfl _ _ _) rfl ?_
      refine ⟨?_, HB2⟩
      unfold isR; rw [if_pos HO.out]; unfold trueL; rw [(Bool.not_eq_true _ ▸ HK.out : okN l = false), Bool.false_and]
      rfl

  · have t1 : (errT (okT a.id a.hs a.st a.fo) != 0) = true := by rw [Bool.not_eq_true] at hko; rw [hko]; rfl
    have t2 : errT (okT a.id a.hs a.st a.fo) = 70 := by rw [Bool.not_eq_true] at hko; rw [hko]; rfl
    have HK := hid hko; clear hko
    rw [t2] at t1 ⊢
    clear t2
    go_wp2_with fail
    refine bodyPost_ret (results_tmp2 rfl _ _ _) rfl ?_
    unfold isR; rw [if_neg HK.out]
    exact ⟨rfl, HB.out⟩

set_option maxRecDepth 20000 in
theorem refIs_any (a : Tl) (l : List Int) (sa fa la : Option Addr) (sc fc lc : Nat) (w : World) (hl : a.st.length ≤ 1000) (hl2 : a.fo.length ≤ 1000) (hl3 : l.length ≤ 1000) (h1 : RdI w sa a.st) (h2 : RdI w fa a.fo) (h3 : RdI w la l) :
    Calls Tryd.prog 35 #[.agg #[.int .i64 a.id, .int .i64 a.hs, .slice sa a.st.length sc, .slice fa a.fo.length fc], .slice la l.length lc] w
      fun e w' => e = .returned (.tuple #[.bool (isR a l).1, .int .i64 (isR a l).2]) ∧ Below w.heap.size w w' := by
  have H1 := hid h1; have H2 := hid h2; have H3 := hid h3; clear h1 h2 h3
  go_enter Tryd.func35, Tryd.ntmps35
  go_wp2_with fail
  refine (tally_any _ _ _ _ _ _ _ _ _ (by omega) (by omega) (H1.out.below (by repeat (first | (with_reducible exact Below.refl _ _) | (with_reducible assumption) | (with_reducible refine Below.drew ?_) | (with_reducible refine below_drewN ?_ _) | (with_reducible refine Below.alloc ?_ (by first | omega | (simp; done) | (simp; omega)) _) | (with_reducible refine Below.setCell ?_ (by first | omega | (simp; done) | (simp; omega)) _) | (with_reducible refine Below.trans ?_ (Below.mono (by assumption) (by first | omega | (simp; done) | (simp; omega))))))) (H2.out.below (by repeat (first | (with_reducible exact Below.refl _ _) | (with_reducible assumption) | (with_reducible refine Below.drew ?_) | (with_reducible refine below_drewN ?_ _) | (with_reducible refine Below.alloc ?_ (by first | omega | (simp; done) | (simp; omega)) _) | (with_reducible refine Below.setCell ?_ (by first | omega | (simp; done) | (simp; omega)) _) | (with_reducible refine Below.trans ?_ (Below.mono (by assumption) (by first | omega | (simp; done) | (simp; omega)))))))).mono ?_
  rintro e w1 ⟨rfl, hb1⟩
  have b1 := (Box.new w #[.int .i64 a.id, .int .i64 a.hs, .slice sa a.st.length sc, .slice fa a.fo.length fc] 24).below hb1 (by simp)
  have c0 : w1.cell? ⟨w.heap.size, 0, none⟩ = some (.int .i64 a.id) := b1.cell 0
  have c1 : w1.cell? ⟨w.heap.size, 1, none⟩ = some (.int .i64 a.hs) := b1.cell 1
  have c2 : w1.cell? ⟨w.heap.size, 2, none⟩ = some (.slice sa a.st.length sc) := b1.cell 2
  have c3 : w1.cell? ⟨w.heap.size, 3, none⟩ = some (.slice fa a.fo.length fc) := b1.cell 3
  have hbw : Below w.heap.size w w1 := (by repeat (first | (with_reducible exact Below.refl _ _) | (with_reducible assumption) | (with_reducible refine Below.drew ?_) | (with_reducible refine below_drewN ?_ _) | (with_reducible refine Below.alloc ?_ (by first | omega | (simp; done) | (simp; omega)) _) | (with_reducible refine Below.setCell ?_ (by first | omega | (simp; done) | (simp; omega)) _) | (with_reducible refine Below.trans ?_ (Below.mono (by assumption) (by first | omega | (simp; done) | (simp; omega))))))
  clear b1 hb1
  by_cases hok : okT a.id a.hs a.st a.fo = true
  · rw [hok]
    have HK := hid hok; clear hok
    go_wp2_with fail
    refine (true_any a l sa fa la sc fc lc w1 hl hl2 hl3 (H1.out.below hbw) (H2.out.below hbw) (H3.out.below hbw)).mono ?_
    rintro e w2 ⟨rfl, hb2⟩
    have hb := hbw.trans (hb2.mono hbw.size)
    clear c0 c1 c2 c3 hbw hb2
    go_wp2_with fail
    refine bodyPost_ret (results_tmp2 rfl _ _ _) rfl ?_
    unfold isR; rw [if_pos HK.out]
    exact ⟨rfl, hb⟩
  · have HK := hid hok
    rw [Bool.not_eq_true] at hok
    rw [hok]
    clear hok
    go_wp2_with fail
    refine bodyPost_ret (results_tmp2 rfl _ _ _) rfl ?_
    unfold isR; rw [if_neg HK.out]
    exact ⟨rfl, hbw⟩

end Go.Proofs.YthddoikmgpgakaaDoor
