/- Proofs for the seat's cards: Is, LsK, MtG, Pa, Ps, Avl, Avm, Avc, Pm, Frame, Door, Door7. No condition of its own. -/
import Derived.Test.YthddoikmgpgakaaDoorProg
import Derived.Outline
import Derived.RangeFuncNested
import Derived.Shelf.Abstract
import Derived.Deep.QuietTactic
import Derived.BigQuiet
import Derived.Deep.RegionHeld3
import Derived.WalkSmall
import Derived.Laws.EntriesVeiled
import Derived.WalkMore
import Derived.Test.YthddoikmgpgakaaDoorCards
import Derived.Test.YthddoikmgpgakaaDoorTie
import Derived.WalkKit
import Derived.ProofKit
import Derived.OpenShut
import Derived.LaidMore
import Derived.LaidOnce
import Derived.ChangeOld
import Derived.Below
import Derived.Stop.Joined
import Derived.Lib.SmallJoins
import Derived.Deep.Slices
import Derived.Test.YthddoikmgpgakaaDoorNa7
set_option linter.unusedVariables false
set_option linter.unusedSimpArgs false
set_option maxRecDepth 40000
set_option maxHeartbeats 32000000
namespace Go.Proofs.YthddoikmgpgakaaDoor
open Go.RowKit Go.Proofs Go.Shelf
def trueL (st fo l : List Int) : Bool := okN l && decide (dist st l + dist l fo = dist st fo)
def isR (a : Tl) (l : List Int) : Bool × Int := if okT a.id a.hs a.st a.fo = true then (trueL a.st a.fo l, 0) else (false, 70)
theorem true_ints {x y z : Nat} : ((x : Int) + (y : Int) == (z : Int)) = decide (x + y = z) := by
 rw [Bool.eq_iff_iff]; simp; omega
theorem is_any (a : Tl) (l : List Int) (sa fa la : Option Addr) (sc fc lc : Nat) (w : World) (ht : Tab w) (hl : a.st.length ≤ 1000) (hl2 : a.fo.length ≤ 1000) (hl3 : l.length ≤ 1000) (h1 : RdI w sa a.st) (h2 : RdI w fa a.fo) (h3 : RdI w la l) :
  Calls Tryd.prog 34 #[.agg #[.int .i64 a.id, .int .i64 a.hs, .slice sa a.st.length sc, .slice fa a.fo.length fc], .slice la l.length lc] w
   fun e w' => e = .returned (.tuple #[.bool (isR a l).1, .int .i64 (isR a l).2]) ∧ Below w.heap.size w w' := by
 have hm := mixedS
 have H1 := hid h1; have H2 := hid h2; have H3 := hid h3; clear h1 h2 h3
 have HT := hid ht; clear ht
 go_enter Tryd.func34, Tryd.ntmps34
 go_wp2_with fail
 refine (check_any _ _ _ _ _ _ _ _ _ (HT.out.below goBl) (by omega) (by omega) (H1.out.below goBl) (H2.out.below goBl)).mono ?_
 rintro e w2 ⟨rfl, hb2⟩
 have BX := hid ((Box.new w #[.int .i64 a.id, .int .i64 a.hs, .slice sa a.st.length sc, .slice fa a.fo.length fc] 24).below hb2 (by simp))
 have HB := hid (show Below w.heap.size w w2 from goBl)
 clear hb2
 by_cases hko : okT a.id a.hs a.st a.fo = true
 ·have t1 : (errT (okT a.id a.hs a.st a.fo) != 0) = false := by rw [hko]; rfl
  have HO := hid hko; clear hko
  go_wp2_with fail
  refine wp_region_F [4, 9, 13, 15] (fun w' => w'.cell? ⟨w.heap.size, 2, none⟩ = some (.slice sa a.st.length sc) ∧ w'.cell? ⟨w.heap.size, 3, none⟩ = some (.slice fa a.fo.length fc)) hm ⟨BX.out.cell 2, BX.out.cell 3⟩ ?_
  intro hS0; have hS := hid hS0; clear hS0
  have d1 := dist_le a.st l; have d2 := dist_le l a.fo; have d3 := dist_le a.st a.fo
  have hw := wrap_small (n := (dist a.st l : Int) + (dist l a.fo : Int)) (by omega) (by omega)
  have lb := BX.out.lt
  clear t1
  by_cases hok : okN l = true
  ·have HK := hid hok
   (apply wpAnyF_pure (i := 0) rfl (by kernel_rfl) (fun _ _ _ h => h); · first | exact .inr ⟨rfl, rfl⟩ | exact .inl ⟨rfl, fun w' => by go_simp; rfl⟩); simp only [Act.put, List.setIfInBounds_toArray, List.set_cons_succ, List.set_cons_zero, List.getElem_toArray, List.getElem_cons_succ, List.getElem_cons_zero]
   refine wpAnyF_one (i := 1) rfl ⟨by kernel_rfl, by kernel_rfl⟩ ?_
   intro K hK
   go_simp
   refine (kinds_any la lc l w2.drew (by omega) (H3.out.below HB.out.drew)).mono ?_
   rintro e w3 ⟨rfl, hb3⟩
   have HB2 := HB.out.drew.trans (hb3.mono HB.out.size)
   have B2 := BX.out.drew.below hb3 lb
   rw [HK.out]
   refine shutS hK ⟨B2.cell 2, B2.cell 3⟩ (fun hS => ?_)
   (apply wpAnyF_pure (i := 2) rfl (by kernel_rfl) (fun _ _ _ h => h); · first | exact .inr ⟨rfl, rfl⟩ | exact .inl ⟨rfl, fun w' => by go_simp; rfl⟩); simp only [Act.put, List.setIfInBounds_toArray, List.set_cons_succ, List.set_cons_zero, List.getElem_toArray, List.getElem_cons_succ, List.getElem_cons_zero]
   (apply wpAnyF_pure (i := 3) rfl (by kernel_rfl) (fun _ _ _ h => h); · first | exact .inr ⟨rfl, rfl⟩ | exact .inl ⟨rfl, fun w' => by go_simp; rfl⟩); simp only [Act.put, List.setIfInBounds_toArray, List.set_cons_succ, List.set_cons_zero, List.getElem_toArray, List.getElem_cons_succ, List.getElem_cons_zero]
   (apply wpAnyF_held (i := 4) rfl (by kernel_rfl) (fun _ _ _ h => h) hS.out; · first | exact .inr ⟨rfl, rfl⟩ | exact .inl ⟨rfl, fun w' hS' => by (obtain ⟨s1, s2⟩ := hS'; go_simp; rfl)⟩); simp only [Act.put, List.setIfInBounds_toArray, List.set_cons_succ, List.set_cons_zero, List.getElem_toArray, List.getElem_cons_succ, List.getElem_cons_zero]
   (apply wpAnyF_pure (i := 5) rfl (by kernel_rfl) (fun _ _ _ h => h); · first | exact .inr ⟨rfl, rfl⟩ | exact .inl ⟨rfl, fun w' => by go_simp; rfl⟩); simp only [Act.put, List.setIfInBounds_toArray, List.set_cons_succ, List.set_cons_zero, List.getElem_toArray, List.getElem_cons_succ, List.getElem_cons_zero]
   (apply wpAnyF_pure (i := 7) rfl (by kernel_rfl) (fun _ _ _ h => h); · first | exact .inr ⟨rfl, rfl⟩ | exact .inl ⟨rfl, fun w' => by go_simp; rfl⟩); simp only [Act.put, List.setIfInBounds_toArray, List.set_cons_succ, List.set_cons_zero, List.getElem_toArray, List.getElem_cons_succ, List.getElem_cons_zero]
   (apply wpAnyF_pure (i := 8) rfl (by kernel_rfl) (fun _ _ _ h => h); · first | exact .inr ⟨rfl, rfl⟩ | exact .inl ⟨rfl, fun w' => by go_simp; rfl⟩); simp only [Act.put, List.setIfInBounds_toArray, List.set_cons_succ, List.set_cons_zero, List.getElem_toArray, List.getElem_cons_succ, List.getElem_cons_zero]
   (apply wpAnyF_held (i := 9) rfl (by kernel_rfl) (fun _ _ _ h => h) hS.out; · first | exact .inr ⟨rfl, rfl⟩ | exact .inl ⟨rfl, fun w' hS' => by (obtain ⟨s1, s2⟩ := hS'; go_simp; rfl)⟩); simp only [Act.put, List.setIfInBounds_toArray, List.set_cons_succ, List.set_cons_zero, List.getElem_toArray, List.getElem_cons_succ, List.getElem_cons_zero]
   (apply wpAnyF_pure (i := 12) rfl (by kernel_rfl) (fun _ _ _ h => h); · first | exact .inr ⟨rfl, rfl⟩ | exact .inl ⟨rfl, fun w' => by go_simp; rfl⟩); simp only [Act.put, List.setIfInBounds_toArray, List.set_cons_succ, List.set_cons_zero, List.getElem_toArray, List.getElem_cons_succ, List.getElem_cons_zero]
   (apply wpAnyF_held (i := 13) rfl (by kernel_rfl) (fun _ _ _ h => h) hS.out; · first | exact .inr ⟨rfl, rfl⟩ | exact .inl ⟨rfl, fun w' hS' => by (obtain ⟨s1, s2⟩ := hS'; go_simp; rfl)⟩); simp only [Act.put, List.setIfInBounds_toArray, List.set_cons_succ, List.set_cons_zero, List.getElem_toArray, List.getElem_cons_succ, List.getElem_cons_zero]
   (apply wpAnyF_pure (i := 14) rfl (by kernel_rfl) (fun _ _ _ h => h); · first | exact .inr ⟨rfl, rfl⟩ | exact .inl ⟨rfl, fun w' => by go_simp; rfl⟩); simp only [Act.put, List.setIfInBounds_toArray, List.set_cons_succ, List.set_cons_zero, List.getElem_toArray, List.getElem_cons_succ, List.getElem_cons_zero]
   (apply wpAnyF_held (i := 15) rfl (by kernel_rfl) (fun _ _ _ h => h) hS.out; · first | exact .inr ⟨rfl, rfl⟩ | exact .inl ⟨rfl, fun w' hS' => by (obtain ⟨s1, s2⟩ := hS'; go_simp; rfl)⟩); simp only [Act.put, List.setIfInBounds_toArray, List.set_cons_succ, List.set_cons_zero, List.getElem_toArray, List.getElem_cons_succ, List.getElem_cons_zero]
   refine wpAnyF_one (i := 6) rfl ⟨by kernel_rfl, by kernel_rfl⟩ ?_
   intro K hK
   go_simp
   refine (between_any a.st l sa la sc lc w3 (by omega) (by omega) (H1.out.below HB2) (H3.out.below HB2)).mono ?_
   rintro e w4 ⟨rfl, hb4⟩
   have HB3 := HB2.trans (hb4.mono HB2.size)
   have B3 := B2.below hb4 B2.lt
   refine shutS hK ⟨B3.cell 2, B3.cell 3⟩ (fun hS => ?_)
   refine wpAnyF_one (i := 10) rfl ⟨by kernel_rfl, by kernel_rfl⟩ ?_
   intro K hK
   go_simp
   refine (between_any l a.fo la fa lc fc w4 (by omega) (by omega) (H3.out.below HB3) (H2.out.below HB3)).mono ?_
   rintro e w5 ⟨rfl, hb5⟩
   have HB4 := HB3.trans (hb5.mono HB3.size)
   have B4 := B3.below hb5 B3.lt
   refine shutS hK ⟨B4.cell 2, B4.cell 3⟩ (fun hS => ?_)
   (apply wpAnyF_pure (i := 11) rfl (by kernel_rfl) (fun _ _ _ h => h); · first | exact .inr ⟨rfl, rfl⟩ | exact .inl ⟨rfl, fun w' => by go_simp; rfl⟩); simp only [Act.put, List.setIfInBounds_toArray, List.set_cons_succ, List.set_cons_zero, List.getElem_toArray, List.getElem_cons_succ, List.getElem_cons_zero]
   refine wpAnyF_one (i := 16) rfl ⟨by kernel_rfl, by kernel_rfl⟩ ?_
   intro K hK
   go_simp
   refine (between_any a.st a.fo sa fa sc fc w5 (by omega) (by omega) (H1.out.below HB4) (H2.out.below HB4)).mono ?_
   rintro e w6 ⟨rfl, hb6⟩
   have HB5 := HB4.trans (hb6.mono HB4.size)
   refine shutN hK (by kernel_rfl) ?_
   (apply wpAnyF_pure (i := 17) rfl (by kernel_rfl) (fun _ _ _ h => h); · first | exact .inr ⟨rfl, rfl⟩ | exact .inl ⟨rfl, fun w' => by go_simp; rfl⟩); simp only [Act.put, List.setIfInBounds_toArray, List.set_cons_succ, List.set_cons_zero, List.getElem_toArray, List.getElem_cons_succ, List.getElem_cons_zero]
   (apply wpAnyF_pure (i := 18) rfl (by kernel_rfl) (fun _ _ _ h => h); · first | exact .inr ⟨rfl, rfl⟩ | exact .inl ⟨rfl, fun w' => by go_simp; rfl⟩); simp only [Act.put, List.setIfInBounds_toArray, List.set_cons_succ, List.set_cons_zero, List.getElem_toArray, List.getElem_cons_succ, List.getElem_cons_zero]
   (apply wpAnyF_pure (i := 19) rfl (by kernel_rfl) (fun _ _ _ h => h); · first | exact .inr ⟨rfl, rfl⟩ | exact .inl ⟨rfl, fun w' => by go_simp; rfl⟩); simp only [Act.put, List.setIfInBounds_toArray, List.set_cons_succ, List.set_cons_zero, List.getElem_toArray, List.getElem_cons_succ, List.getElem_cons_zero]
   (apply wpAnyF_pure (i := 20) rfl (by kernel_rfl) (fun _ _ _ h => h); · first | exact .inr ⟨rfl, rfl⟩ | exact .inl ⟨rfl, fun w' => by go_simp; rfl⟩); simp only [Act.put, List.setIfInBounds_toArray, List.set_cons_succ, List.set_cons_zero, List.getElem_toArray, List.getElem_cons_succ, List.getElem_cons_zero]
   refine wpAnyF_done (by kernel_rfl) ?_ _
   go_wp2_with fail
   refine bodyPost_ret (results_tmp2 rfl _ _ _) rfl ?_
   refine ⟨?_, HB5⟩
   unfold isR; rw [if_pos HO.out]; unfold trueL; rw [HK.out, Bool.true_and, ← true_ints]
   first | rfl | (simp; done)
  ·have HK := hid hok
   (apply wpAnyF_pure (i := 0) rfl (by kernel_rfl) (fun _ _ _ h => h); · first | exact .inr ⟨rfl, rfl⟩ | exact .inl ⟨rfl, fun w' => by go_simp; rfl⟩); simp only [Act.put, List.setIfInBounds_toArray, List.set_cons_succ, List.set_cons_zero, List.getElem_toArray, List.getElem_cons_succ, List.getElem_cons_zero]
   refine wpAnyF_one (i := 1) rfl ⟨by kernel_rfl, by kernel_rfl⟩ ?_
   intro K hK
   go_simp
   refine (kinds_any la lc l w2.drew (by omega) (H3.out.below HB.out.drew)).mono ?_
   rintro e w3 ⟨rfl, hb3⟩
   have HB2 := HB.out.drew.trans (hb3.mono HB.out.size)
   have B2 := BX.out.drew.below hb3 lb
   rw [(Bool.not_eq_true _ ▸ HK.out : okN l = false)]
   refine shutS hK ⟨B2.cell 2, B2.cell 3⟩ (fun hS => ?_)
   (apply wpAnyF_pure (i := 2) rfl (by kernel_rfl) (fun _ _ _ h => h); · first | exact .inr ⟨rfl, rfl⟩ | exact .inl ⟨rfl, fun w' => by go_simp; rfl⟩); simp only [Act.put, List.setIfInBounds_toArray, List.set_cons_succ, List.set_cons_zero, List.getElem_toArray, List.getElem_cons_succ, List.getElem_cons_zero]
   (apply wpAnyF_pure (i := 3) rfl (by kernel_rfl) (fun _ _ _ h => h); · first | exact .inr ⟨rfl, rfl⟩ | exact .inl ⟨rfl, fun w' => by go_simp; rfl⟩); simp only [Act.put, List.setIfInBounds_toArray, List.set_cons_succ, List.set_cons_zero, List.getElem_toArray, List.getElem_cons_succ, List.getElem_cons_zero]
   (apply wpAnyF_held (i := 4) rfl (by kernel_rfl) (fun _ _ _ h => h) hS.out; · first | exact .inr ⟨rfl, rfl⟩ | exact .inl ⟨rfl, fun w' hS' => by (obtain ⟨s1, s2⟩ := hS'; go_simp; rfl)⟩); simp only [Act.put, List.setIfInBounds_toArray, List.set_cons_succ, List.set_cons_zero, List.getElem_toArray, List.getElem_cons_succ, List.getElem_cons_zero]
   (apply wpAnyF_pure (i := 5) rfl (by kernel_rfl) (fun _ _ _ h => h); · first | exact .inr ⟨rfl, rfl⟩ | exact .inl ⟨rfl, fun w' => by go_simp; rfl⟩); simp only [Act.put, List.setIfInBounds_toArray, List.set_cons_succ, List.set_cons_zero, List.getElem_toArray, List.getElem_cons_succ, List.getElem_cons_zero]
   (apply wpAnyF_pure (i := 7) rfl (by kernel_rfl) (fun _ _ _ h => h); · first | exact .inr ⟨rfl, rfl⟩ | exact .inl ⟨rfl, fun w' => by go_simp; rfl⟩); simp only [Act.put, List.setIfInBounds_toArray, List.set_cons_succ, List.set_cons_zero, List.getElem_toArray, List.getElem_cons_succ, List.getElem_cons_zero]
   (apply wpAnyF_pure (i := 8) rfl (by kernel_rfl) (fun _ _ _ h => h); · first | exact .inr ⟨rfl, rfl⟩ | exact .inl ⟨rfl, fun w' => by go_simp; rfl⟩); simp only [Act.put, List.setIfInBounds_toArray, List.set_cons_succ, List.set_cons_zero, List.getElem_toArray, List.getElem_cons_succ, List.getElem_cons_zero]
   (apply wpAnyF_held (i := 9) rfl (by kernel_rfl) (fun _ _ _ h => h) hS.out; · first | exact .inr ⟨rfl, rfl⟩ | exact .inl ⟨rfl, fun w' hS' => by (obtain ⟨s1, s2⟩ := hS'; go_simp; rfl)⟩); simp only [Act.put, List.setIfInBounds_toArray, List.set_cons_succ, List.set_cons_zero, List.getElem_toArray, List.getElem_cons_succ, List.getElem_cons_zero]
   (apply wpAnyF_pure (i := 12) rfl (by kernel_rfl) (fun _ _ _ h => h); · first | exact .inr ⟨rfl, rfl⟩ | exact .inl ⟨rfl, fun w' => by go_simp; rfl⟩); simp only [Act.put, List.setIfInBounds_toArray, List.set_cons_succ, List.set_cons_zero, List.getElem_toArray, List.getElem_cons_succ, List.getElem_cons_zero]
   (apply wpAnyF_held (i := 13) rfl (by kernel_rfl) (fun _ _ _ h => h) hS.out; · first | exact .inr ⟨rfl, rfl⟩ | exact .inl ⟨rfl, fun w' hS' => by (obtain ⟨s1, s2⟩ := hS'; go_simp; rfl)⟩); simp only [Act.put, List.setIfInBounds_toArray, List.set_cons_succ, List.set_cons_zero, List.getElem_toArray, List.getElem_cons_succ, List.getElem_cons_zero]
   (apply wpAnyF_pure (i := 14) rfl (by kernel_rfl) (fun _ _ _ h => h); · first | exact .inr ⟨rfl, rfl⟩ | exact .inl ⟨rfl, fun w' => by go_simp; rfl⟩); simp only [Act.put, List.setIfInBounds_toArray, List.set_cons_succ, List.set_cons_zero, List.getElem_toArray, List.getElem_cons_succ, List.getElem_cons_zero]
   (apply wpAnyF_held (i := 15) rfl (by kernel_rfl) (fun _ _ _ h => h) hS.out; · first | exact .inr ⟨rfl, rfl⟩ | exact .inl ⟨rfl, fun w' hS' => by (obtain ⟨s1, s2⟩ := hS'; go_simp; rfl)⟩); simp only [Act.put, List.setIfInBounds_toArray, List.set_cons_succ, List.set_cons_zero, List.getElem_toArray, List.getElem_cons_succ, List.getElem_cons_zero]
   refine wpAnyF_one (i := 6) rfl ⟨by kernel_rfl, by kernel_rfl⟩ ?_
   intro K hK
   go_simp
   refine shutS hK (by obtain ⟨s1, s2⟩ := hS.out; exact ⟨by go_simp, by go_simp⟩) (fun hS => ?_)
   refine wpAnyF_one (i := 10) rfl ⟨by kernel_rfl, by kernel_rfl⟩ ?_
   intro K hK
   go_simp
   refine shutS hK (by obtain ⟨s1, s2⟩ := hS.out; exact ⟨by go_simp, by go_simp⟩) (fun hS => ?_)
   (apply wpAnyF_pure (i := 11) rfl (by kernel_rfl) (fun _ _ _ h => h); · first | exact .inr ⟨rfl, rfl⟩ | exact .inl ⟨rfl, fun w' => by go_simp; rfl⟩); simp only [Act.put, List.setIfInBounds_toArray, List.set_cons_succ, List.set_cons_zero, List.getElem_toArray, List.getElem_cons_succ, List.getElem_cons_zero]
   refine wpAnyF_one (i := 16) rfl ⟨by kernel_rfl, by kernel_rfl⟩ ?_
   intro K hK
   go_simp
   refine shutN hK (by kernel_rfl) ?_
   (apply wpAnyF_pure (i := 17) rfl (by kernel_rfl) (fun _ _ _ h => h); · first | exact .inr ⟨rfl, rfl⟩ | exact .inl ⟨rfl, fun w' => by go_simp; rfl⟩); simp only [Act.put, List.setIfInBounds_toArray, List.set_cons_succ, List.set_cons_zero, List.getElem_toArray, List.getElem_cons_succ, List.getElem_cons_zero]
   (apply wpAnyF_pure (i := 18) rfl (by kernel_rfl) (fun _ _ _ h => h); · first | exact .inr ⟨rfl, rfl⟩ | exact .inl ⟨rfl, fun w' => by go_simp; rfl⟩); simp only [Act.put, List.setIfInBounds_toArray, List.set_cons_succ, List.set_cons_zero, List.getElem_toArray, List.getElem_cons_succ, List.getElem_cons_zero]
   (apply wpAnyF_pure (i := 19) rfl (by kernel_rfl) (fun _ _ _ h => h); · first | exact .inr ⟨rfl, rfl⟩ | exact .inl ⟨rfl, fun w' => by go_simp; rfl⟩); simp only [Act.put, List.setIfInBounds_toArray, List.set_cons_succ, List.set_cons_zero, List.getElem_toArray, List.getElem_cons_succ, List.getElem_cons_zero]
   (apply wpAnyF_pure (i := 20) rfl (by kernel_rfl) (fun _ _ _ h => h); · first | exact .inr ⟨rfl, rfl⟩ | exact .inl ⟨rfl, fun w' => by go_simp; rfl⟩); simp only [Act.put, List.setIfInBounds_toArray, List.set_cons_succ, List.set_cons_zero, List.getElem_toArray, List.getElem_cons_succ, List.getElem_cons_zero]
   refine wpAnyF_done (by kernel_rfl) ?_ _
   go_wp2_with fail
   refine bodyPost_ret (results_tmp2 rfl _ _ _) rfl ?_
   refine ⟨?_, HB2⟩
   unfold isR; rw [if_pos HO.out]; unfold trueL; rw [(Bool.not_eq_true _ ▸ HK.out : okN l = false), Bool.false_and]
   rfl
 ·have t1 : (errT (okT a.id a.hs a.st a.fo) != 0) = true := by rw [Bool.not_eq_true] at hko; rw [hko]; rfl
  have t2 : errT (okT a.id a.hs a.st a.fo) = 70 := by rw [Bool.not_eq_true] at hko; rw [hko]; rfl
  have HK := hid hko; clear hko
  rw [t2] at t1 ⊢
  clear t2
  go_wp2_with fail
  refine bodyPost_ret (results_tmp2 rfl _ _ _) rfl ?_
  unfold isR; rw [if_neg HK.out]
  exact ⟨rfl, HB.out⟩
end Go.Proofs.YthddoikmgpgakaaDoor
namespace Go.Proofs.YthddoikmgpgakaaDoor.Sw
open Go.RowKit Go Go.Shelf Go.Proofs
theorem con_newAll {P : Program} {k : FuncId} {args : List AV} {av : AV} (he : ∀ args w, (callFunc k args).run P w = .ok (.enter k args) w)
  (h : ∀ (G : Nat → Option Obj) (vs : List Value) (w : World), Fits G args vs → Gin G w → Tab w → Calls P k vs.toArray w fun en w' => ∃ v, en = .returned v ∧ Below w.heap.size w w' ∧ ∀ G' : Nat → Option Obj, (∀ b o, w.heap.size ≤ b → w'.heap[b]? = some o → G' b = some o) → av.P G' v) : Con P k args [HA.tab] (Is av [HA.tab]) := ⟨he, fun G Fp vs w hf hi => by
 obtain ⟨F1, F2, ep, ⟨hF1, hT⟩, hF2⟩ := hi.hs
 have hF2' : F2 = [] := hF2
 subst hF1 hF2'
 obtain rfl : Fp = [] := List.Perm.eq_nil (by simpa using ep)
 refine (h G vs w hf hi.gin ⟨cellG.cell hi.gin hT.1, cellG.cell hi.gin hT.2.1, cellG.cell hi.gin hT.2.2⟩).mono fun en w' ⟨v, h1, hb, hv⟩ => ?_
 have hle : Gle G (fun b => if b < w.heap.size then G b else w'.heap[b]?) := fun b o e => by
  show (if b < w.heap.size then G b else w'.heap[b]?) = some o
  rw [if_pos (hi.gin.lt e)]; exact e
 refine ⟨v, av, _, fun b => if b < w.heap.size then G b else w'.heap[b]?, [], h1, ⟨rfl, rfl⟩, ⟨hb.os, hb.tape, hb.output, hb.size, fun b hb' _ => hb.block b hb', fun b h => (by cases h), hle, fun b o e => ?_⟩, ⟨fun b o e => ?_, List.nodup_nil, fun b h => (by cases h), [], [], .refl _, HA.mono HA.tab hle ⟨rfl, hT⟩, rfl⟩, hv _ fun b o h1 h2 => ?_⟩
 ·split at e
  ·exact .inl e
  ·exact .inr (.inr (by omega))
 ·split at e
  ·exact (hb.block b (hi.gin.lt e)).trans (hi.gin b o e)
  ·exact e
 ·show (if b < w.heap.size then G b else w'.heap[b]?) = some o
  rw [if_neg (by omega)]; exact h2⟩
theorem own_sl {w : World} {B N : Nat} {v : Value} {xs : List Int} {G : Nat → Option Obj} (h : w.ownsRow B 3 1 v xs.length (xs.map (Value.int .i64))) (hN : N ≤ B) (hG : ∀ b o, N ≤ b → w.heap[b]? = some o → G b = some o) : (AV.sl 1 iC xs).P G v := by
 refine slO_sl (G0 := fun _ => none) (e := 3) ?_
 rcases h.2 with ⟨h1, h2⟩ | ⟨g, cap, cur, h1, h2, h3, h4, h5, h6, h7⟩
 ·exact .inl ⟨h1, List.eq_nil_of_length_eq_zero h2⟩
 ·exact .inr ⟨g, cap, cur, h1, rfl, hG g _ (by omega) h3, h4, h5, h6, h7⟩
theorem newT_tl {w : World} {B N : Nat} {v : Value} {t : Tl} {G : Nat → Option Obj} (h : NewT B w v t) (hN : N ≤ B) (hG : ∀ b o, N ≤ b → w.heap[b]? = some o → G b = some o) : (AV.agg (tC t)).P G v := by
 obtain ⟨sa, sc, fa, fc, rfl, r1, r2, _⟩ := h
 exact ⟨[_, _, _, _], rfl, rfl, rfl, own_sl r1 hN hG, own_sl r2 hN hG, trivial⟩
theorem newB_tl {w : World} {B X N : Nat} {v : Value} {t : Tl} {G : Nat → Option Obj} (h : NewB B X w v t) (hN : N ≤ B) (hG : ∀ b o, N ≤ b → w.heap[b]? = some o → G b = some o) : (AV.agg (tC t)).P G v := by
 obtain ⟨sa, sc, fa, fc, rfl, r1, r2, _⟩ := h
 exact ⟨[_, _, _, _], rfl, rfl, rfl, own_sl r1 hN hG, own_sl r2 hN hG, trivial⟩
theorem notchP_con (a : Tl) (k : Int) (ha : a.small) : Con Tryd.prog 20 [.agg (tC a), .val (.int .i64 k)] [HA.tab] (Is (.tup [.agg (tC (notchF a k).1), .val (.int .i64 (notchF a k).2)]) [HA.tab]) := by
 refine con_newAll (enters_of Tryd.func20 (by kernel_rfl) rfl) fun G vs w hf hG hT => ?_
 match vs, hf with
 | [v, v'], ⟨h, h', _⟩ =>
  obtain ⟨sa, sc, fa, fc, rfl, g1, g2⟩ := fits_tl hG h
  have h2 : v' = .int .i64 k := h'
  subst h2
  exact (notch_any a k sa fa sc fc w hT ha g1 g2).mono fun e w' ⟨v, h1, hb, hn⟩ => ⟨_, h1, hb, fun G' hG' => ⟨[_, _], rfl, newT_tl hn (Nat.le_refl _) hG', rfl, trivial⟩⟩
theorem joinP_con (a b : Tl) (ha : a.small) (hb : b.small) : Con Tryd.prog 22 [.agg (tC a), .agg (tC b)] [HA.tab] (Is (.tup [.agg (tC (joinF a b).1), .val (.int .i64 (joinF a b).2)]) [HA.tab]) := by
 refine con_newAll (enters_of Tryd.func22 (by kernel_rfl) rfl) fun G vs w hf hG hT => ?_
 match vs, hf with
 | [v, v'], ⟨h, h', _⟩ =>
  obtain ⟨sa, sc, fa, fc, rfl, g1, g2⟩ := fits_tl hG h
  obtain ⟨sb, sd, fb, fd, rfl, g3, g4⟩ := fits_tl hG h'
  exact (join_any a b sa fa sb fb sc fc sd fd w hT ha hb g1 g2 g3 g4).mono fun e w' ⟨v, h1, hb, hn⟩ => ⟨_, h1, hb, fun G' hG' => ⟨[_, _], rfl, newT_tl hn (Nat.le_refl _) hG', rfl, trivial⟩⟩
theorem fits_tlc {G : Nat → Option Obj} {w : World} (hG : Gin G w) {t : Tl} {v : Value} (h : (AV.agg (tC t)).P G v) : ∃ sa sc fa fc, v = .agg #[.int .i64 t.id, .int .i64 t.hs, .slice sa t.st.length sc, .slice fa t.fo.length fc] ∧ RdI w sa t.st ∧ RdI w fa t.fo ∧ t.st.length ≤ sc ∧ t.fo.length ≤ fc := by
 obtain ⟨vs, rfl, hf⟩ := h
 match vs, hf with
 | [a, b, c, d], ⟨h0, h1, ⟨sa, sc, h2, h2c, h2s⟩, ⟨fa, fc, h3, h3c, h3s⟩, _⟩ =>
  have h0' : a = .int .i64 t.id := h0
  have h1' : b = .int .i64 t.hs := h1
  subst h0' h1' h2 h3
  exact ⟨sa, sc, fa, fc, rfl, rdI_of hG h2s, rdI_of hG h3s, h2c, h3c⟩
theorem splitP_con (a : Tl) (i j : Int) (ha : a.st.length ≤ 1000 ∧ a.fo.length ≤ 1000) : Con Tryd.prog 28 [.agg (tC a), .val (.int .i64 i), .val (.int .i64 j)] [HA.tab] (Is (.tup [.agg (tC (splitF a i j).1), .agg (tC (splitF a i j).2.1), .val (.int .i64 (splitF a i j).2.2)]) [HA.tab]) := by
 refine con_newAll (enters_of Tryd.func28 (by kernel_rfl) rfl) fun G vs w hf hG hT => ?_
 match vs, hf with
 | [v, v', v2], ⟨h, h', h3, _⟩ =>
  obtain ⟨sa, sc, fa, fc, rfl, g1, g2, g3, g4⟩ := fits_tlc hG h
  have h2 : v' = .int .i64 i := h'
  have h4 : v2 = .int .i64 j := h3
  subst h2 h4
  exact (split_any a i j sa fa sc fc w hT ha.1 ha.2 g3 g4 g1 g2).mono fun e w' ⟨v, u, X, h1, hb, hn, hX, hn2⟩ => ⟨_, h1, hb, fun G' hG' => ⟨[_, _, _], rfl, newB_tl hn (Nat.le_refl _) hG', newT_tl hn2 hX hG', rfl, trivial⟩⟩
theorem falseP_con (a : Tl) (h1 : a.st.length ≤ 1000) (h2 : a.fo.length ≤ 1000) : Con Tryd.prog 30 [.agg (tC a)] [HA.tab] (Is (.tup [.val (.int .i64 (falseR a).1), .val (.int .i64 (falseR a).2)]) [HA.tab]) := by
 refine con_tab (enters_of Tryd.func30 (by kernel_rfl) rfl) fun G vs w hf hG hT => ?_
 match vs, hf with
 | [v], ⟨h, _⟩ =>
  obtain ⟨sa, sc, fa, fc, rfl, g1, g2⟩ := fits_tl hG h
  exact (false_any a sa fa sc fc w hT h1 h2 g1 g2).mono fun e w' ⟨h, hb⟩ => ⟨_, h, ⟨[_, _], rfl, rfl, rfl, trivial⟩, hb⟩
theorem isP_con (a : Tl) (l : List Int) (h1 : a.st.length ≤ 1000) (h2 : a.fo.length ≤ 1000) (h3 : l.length ≤ 1000) : Con Tryd.prog 34 [.agg (tC a), .sl 1 iC l] [HA.tab] (Is (.tup [.val (.bool (isR a l).1), .val (.int .i64 (isR a l).2)]) [HA.tab]) := by
 refine con_tab (enters_of Tryd.func34 (by kernel_rfl) rfl) fun G vs w hf hG hT => ?_
 match vs, hf with
 | [v, v'], ⟨h, h', _⟩ =>
  obtain ⟨sa, sc, fa, fc, rfl, g1, g2⟩ := fits_tl hG h
  obtain ⟨la, lc, rfl, g3⟩ := fits_slI hG h'
  exact (is_any a l sa fa la sc fc lc w hT h1 h2 h3 g1 g2 g3).mono fun e w' ⟨h, hb⟩ => ⟨_, h, ⟨[_, _], rfl, rfl, rfl, trivial⟩, hb⟩
noncomputable def whereR (a : Tl) (at' : Int) : Int × Int := @Classical.epsilon (Int × Int) ⟨(0, 0)⟩ (CutR a at')
theorem whereR_eq {a : Tl} {at' : Int} {r : Int × Int} (h : CutR a at' r) : whereR a at' = r := (@Classical.epsilon_spec (Int × Int) (CutR a at') ⟨r, h⟩).unique h
theorem whereP_con (a : Tl) (at' : Int) (h1 : a.st.length ≤ 1000) (h2 : a.fo.length ≤ 1000) : Con Tryd.prog 26 [.agg (tC a), .val (.int .i64 at')] [HA.tab] (Is (.tup [.val (.int .i64 (whereR a at').1), .val (.int .i64 (whereR a at').2)]) [HA.tab]) := by
 refine con_tab (enters_of Tryd.func26 (by kernel_rfl) rfl) fun G vs w hf hG hT => ?_
 match vs, hf with
 | [v, v'], ⟨h, h', _⟩ =>
  obtain ⟨sa, sc, fa, fc, rfl, g1, g2, g3, g4⟩ := fits_tlc hG h
  have h3 : v' = .int .i64 at' := h'
  subst h3
  exact (where_any a at' sa fa sc fc w hT h1 h2 g3 g4 g1 g2).mono fun e w' ⟨r, h, hr, hb⟩ => ⟨_, h, by rw [whereR_eq hr]; exact ⟨[_, _], rfl, rfl, rfl, trivial⟩, hb⟩
def hT : Tl := ⟨1, 5, [1, 1, 2, 4], [1, 2, 3, 4]⟩
def rT : Rt := ⟨6, 3, 40, 10⟩
theorem intsP_con (l : List Int) : Con Tryd.prog 62 [.sl 1 iC l] [] (Is (.sl 1 iC l) []) := by
 refine con_of Tryd.func62 rfl (enters_of Tryd.func62 (by kernel_rfl) rfl) rfl ?_; intro n w0 F0 G0
 refine zS ?_
 (apply res1; exact rfl; exact rfl; exact ⟨rfl, rfl⟩)
theorem cutP_con (a b : List Int) : Con Tryd.prog 63 [.sl 1 iC a, .sl 1 iC b] [] (Is (.agg (tC ⟨1, 5, a, b⟩)) []) := by
 refine con_of Tryd.func63 rfl (enters_of Tryd.func63 (by kernel_rfl) rfl) rfl ?_; intro n w0 F0 G0
 refine zS ?_;repeat(refine yA ?_;intro p hp;refine zS ?_)
 (apply resN; exact rfl; exact rfl; exact zM; exact inferInstance; exact rfl; exact ⟨rfl, rfl⟩)
theorem half_con : Con Tryd.prog 61 [] [] (Is (.agg (tC hT)) []) := by
 refine con_of Tryd.func61 rfl (enters_of Tryd.func61 (by kernel_rfl) rfl) rfl ?_; intro n w0 F0 G0
 refine zS ?_;repeat(refine yA ?_;intro p hp;refine zS ?_)
 (apply wl_litF iC; exact inferInstance; exact inferInstance; exact inferInstance; exact zE; exact rfl; (first | exact (of_decide_eq_true rfl) | decide | (simp; done) | (simp; omega)); exact rfl)
 refine zS ?_
 (first | (apply wl_call (intsP_con [1, 1, 2, 4]); exact rfl; exact rfl) | (apply wl_callR (intsP_con [1, 1, 2, 4]); exact rfl; exact zM; exact rfl))
 refine zS ?_
 (apply wl_litF iC; exact inferInstance; exact inferInstance; exact inferInstance; exact zE; exact rfl; (first | exact (of_decide_eq_true rfl) | decide | (simp; done) | (simp; omega)); exact rfl)
 refine zS ?_
 (first | (apply wl_call (intsP_con [1, 2, 3, 4]); exact rfl; exact rfl) | (apply wl_callR (intsP_con [1, 2, 3, 4]); exact rfl; exact zM; exact rfl))
 refine zS ?_
 (first | (apply wl_call (cutP_con [1, 1, 2, 4] [1, 2, 3, 4]); exact rfl; exact rfl) | (apply wl_callR (cutP_con [1, 1, 2, 4] [1, 2, 3, 4]); exact rfl; exact zM; exact rfl))
 refine zS ?_
 (apply resN; exact rfl; exact rfl; exact zM; exact inferInstance; exact rfl; exact ⟨rfl, rfl⟩)
theorem rates_con : Con Tryd.prog 64 [] [] (Is (.agg (rC rT)) []) := by
 refine con_of Tryd.func64 rfl (enters_of Tryd.func64 (by kernel_rfl) rfl) rfl ?_; intro n w0 F0 G0
 refine zS ?_;repeat(refine yA ?_;intro p hp;refine zS ?_)
 (apply resN; exact rfl; exact rfl; exact zM; exact inferInstance; exact rfl; exact ⟨rfl, rfl⟩)
theorem span_con (a b : Int) : Con Tryd.prog 65 [.val (.int .i64 a), .val (.int .i64 b)] [] (Is (.agg [.val (.int .i64 a), .val (.int .i64 b)]) []) := by
 refine con_of Tryd.func65 rfl (enters_of Tryd.func65 (by kernel_rfl) rfl) rfl ?_; intro n w0 F0 G0
 refine zS ?_;repeat(refine yA ?_;intro p hp;refine zS ?_)
 (apply resN; exact rfl; exact rfl; exact zM; exact inferInstance; exact rfl; exact ⟨rfl, rfl⟩)
theorem isL_con (l m : List Int) (h1 : l.length ≤ 1000000) (h2 : m.length ≤ 1000000) : Con Tryd.prog 66 [.sl 1 iC l, .val (.int .i64 0), .sl 1 iC m] [] (Is (.val (.bool (decide (l = m)))) []) := by
 refine con_of Tryd.func66 rfl (enters_of Tryd.func66 (by kernel_rfl) rfl) rfl ?_; intro n w0 F0 G0
 refine zS ?_
 (first | (apply wl_call (sameI_con l m h1 h2); exact rfl; exact rfl) | (apply wl_callR (sameI_con l m h1 h2); exact rfl; exact zM; exact rfl))
 refine zS ?_
 (apply res1; exact rfl; exact rfl; exact ⟨rfl, rfl⟩)
end Go.Proofs.YthddoikmgpgakaaDoor.Sw
namespace Go.Proofs.YthddoikmgpgakaaDoor.Sw
open Go.RowKit Go Go.Shelf Go.Proofs
open Go.Proofs.YthddoikmgpgakaaDoor.Ma
def sorT (ts : List Tl) (t : Tl) (k : Nat) : Tl := ⟨t.id, t.hs, t.st, if h : k < ts.length then ts[k].fo else []⟩
def sortR (ts : List Tl) : List Tl × Int := if errAll ts = 0 then (List.zipWith (sorT ts) ts (bst (matsT ts)).1, 0) else ([], errAll ts)
theorem best_ok (ts : List Tl) (hne : matsT ts ≠ []) : (bst (matsT ts)).1.length = ts.length ∧ ∀ k ∈ (bst (matsT ts)).1, k < ts.length := by
 have hm := (bi _ (matsT_nonneg ts)).mem hne
 obtain ⟨r, h1, h2, h3, _⟩ := mats_mem.1 hm
 rw [List.nil_append] at h1
 rw [h1]
 exact ⟨h2, fun k hk => (h3 k hk).1⟩
theorem mats_ne {N : Nat} (c : Nat → Nat → Int) : ∀ (m : Nat) (s : List Nat) (cn : Int), s.Nodup → (∀ k ∈ s, k < N) → s.length + m = N → mats N c m s cn ≠ []
 | 0, s, cn, _, _, _ => by simp [mats]
 | m + 1, s, cn, hn, hs, hl => by
  have : ∃ k, k < N ∧ k ∉ s := by
   refine Classical.byContradiction fun h => ?_
   have hsub : List.range N ⊆ s := fun k hk => Classical.byContradiction fun h2 => h ⟨k, List.mem_range.1 hk, h2⟩
   have := (List.nodup_range (n := N)).length_le_of_subset hsub
   rw [List.length_range] at this
   omega
  obtain ⟨k, hk, hks⟩ := this
  intro e
  rw [mats_succ] at e
  have h1 := List.flatMap_eq_nil_iff.1 e k (List.mem_range.2 hk)
  rw [if_neg hks] at h1
  refine mats_ne c m (s ++ [k]) _ (List.nodup_append.2 ⟨hn, by simp, fun a ha b hb e => ?_⟩) (fun j hj => ?_) (by rw [List.length_append, List.length_singleton]; omega) h1
  ·have : b = k := by simpa using hb
   subst this; subst e; exact hks ha
  ·rcases List.mem_append.1 hj with hj | hj
   ·exact hs j hj
   ·have : j = k := by simpa using hj
    subst this; exact hk
theorem matsT_ne (ts : List Tl) : matsT ts ≠ [] := mats_ne _ _ _ _ List.nodup_nil (fun k hk => by cases hk) (by simp)
theorem WL_packN {c : Cx} {rs : List (Nat × AV)} {hs : List HA} {Q : Exit → S → Prop} {ops : Array Oper} {tl : List Oper} (kk : WL c ops tl ⟨rs, .pack [] :: hs⟩ Q) : WL c ops tl ⟨rs, hs⟩ Q := ⟨fun a w st => kk.out a w (by
 obtain ⟨G, F, hI, rr⟩ := st
 exact ⟨G, F, ⟨hI.gin, hI.nd, hI.own, [], F, .refl _, rfl, hI.hs⟩, rr⟩)⟩
theorem sort_con (ts : List Tl) (hl : ts.length ≤ 4000) (hs : small3 ts) : Con Tryd.prog 53 [.sl 4 tC ts] [HA.tab] (fun x y => ∃ (u : Value) (L : List TO), L.map (·.1) = (sortR ts).1 ∧ x = .tup [.val u, .val (.int .i64 (sortR ts).2)] ∧ y = [.row u 24 4 toC L, .pack (L.flatMap toR), HA.tab]) := by
 have MC := match_con ts hl hs
 unfold matchR at MC
 unfold sortR
 by_cases he' : errAll ts = 0
 ·rw [if_pos he'] at MC ⊢
  have h6 := err_len he'
  obtain ⟨hml, hmk⟩ := best_ok ts (matsT_ne ts)
  generalize bst (matsT ts) = B at MC hml hmk ⊢
  refine con_of Tryd.func53 rfl (enters_of Tryd.func53 (by kernel_rfl) rfl) rfl ?_; intro n w0 F0 G0
  refine zS ?_;repeat(refine yA ?_;intro p hp;refine zS ?_)
  (apply wl_callP (MC); exact rfl; exact yC; exact rfl)
  rintro _ _ ⟨v0, rfl, rfl⟩
  refine WL_one At.here (fun hone => ?_)
  refine WL_packN ?_
  refine zS ?_;repeat(refine yA ?_;intro p hp;refine zS ?_)
  refine W_loopJ (fun (q : Nat × Value × List TO) => ⟨[(0, .sl 4 tC ts), (4, .val v0), (7, .val q.2.1), (19, .sl 4 tC ts), (20, .val (.int .i64 ts.length)), (21, .val (.int .i64 q.1))], [.row q.2.1 24 4 toC q.2.2, .pack (q.2.2.flatMap toR), .row v0 3 1 iC (ints B.1), HA.tab]⟩) (fun q => q.1 ≤ ts.length ∧ q.2.2.map (·.1) = (List.zipWith (sorT ts) ts B.1).take q.1) (fun q => ts.length - q.1) (0, .slice none 0 0, []) (fun _ _ st => st_sub2 (st_nil 24 4 toC st) zR zP) ⟨Nat.zero_le _, by simp⟩ ?_
  rintro ⟨i, v, L⟩ ⟨hi, hL⟩
  dsimp only at hi hL ⊢
  refine zS ?_;repeat(refine yA ?_;intro p hp;refine zS ?_)
  refine w_cond rfl (fun hlt => ?_) (fun hlt => ?_)
  ·have hi' : i < ts.length := by simpa using hlt
   have hib : i < B.1.length := by omega
   have hil := ints_len B.1
   have hk := hmk _ (List.getElem_mem hib)
   have e2 : (ints B.1)[i]'(by omega) = (B.1[i] : Int) := by simp [ints]
   have e4 : sorT ts ts[i] B.1[i] = ⟨ts[i].id, ts[i].hs, ts[i].st, ts[B.1[i]].fo⟩ := by unfold sorT; rw [dif_pos hk]
   have hz : (List.zipWith (sorT ts) ts B.1).take (i + 1) = (List.zipWith (sorT ts) ts B.1).take i ++ [⟨ts[i].id, ts[i].hs, ts[i].st, ts[B.1[i]].fo⟩] := by
    rw [List.take_succ_eq_append_getElem (by rw [List.length_zipWith]; omega), List.getElem_zipWith, e4]
   have hLl : L.length ≤ 6 := by
    have := congrArg List.length hL
    rw [List.length_map, List.length_take] at this; omega
   have s1 := hs _ (List.getElem_mem hi')
   have s2 := hs _ (List.getElem_mem hk)
   have CC := copied_con ⟨ts[i].id, ts[i].hs, ts[i].st, ts[B.1[i]].fo⟩ ⟨by show _ ≤ _; dsimp only; omega, by show _ ≤ _; dsimp only; omega⟩
   refine zS ?_;repeat(refine yA ?_;intro p hp;refine zS ?_)
   rw [e2]
   refine zS ?_;repeat(refine yA ?_;intro p hp;refine zS ?_)
   (apply wl_callP (CC); exact rfl; exact yC; exact rfl)
   rintro _ _ ⟨⟨o1, o2⟩, rfl, rfl⟩
   refine WL_as 37 (.agg (toC (⟨ts[i].id, ts[i].hs, ts[i].st, ts[B.1[i]].fo⟩, o1, o2))) rfl ?_
   (apply wl_litF toC; exact inferInstance; exact inferInstance; exact inferInstance; exact zE; exact rfl; (first | exact (of_decide_eq_true rfl) | decide | (simp; done) | (simp; omega)); exact rfl)
   (first | (apply wl_append; exact rfl; exact rfl; exact zN; exact inferInstance; exact inferInstance; (first | omega | (simp; omega)); exact rfl) | (apply wl_appendN; exact rfl; exact rfl; exact inferInstance; exact inferInstance; (first | omega | (simp; omega)); exact rfl))
   intro v2
   refine WL_snoc (h := .row o1.1 3 1 iC ts[i].st) zN zN ?_
   refine WL_snoc (h := .row o2.1 3 1 iC ts[B.1[i]].fo) zN zN ?_
   refine zS ?_;repeat(refine yA ?_;intro p hp;refine zS ?_)
   have hpk : (L ++ [((⟨ts[i].id, ts[i].hs, ts[i].st, ts[B.1[i]].fo⟩ : Tl), o1, o2)]).flatMap toR = L.flatMap toR ++ [.row o1.1 3 1 iC ts[i].st] ++ [.row o2.1 3 1 iC ts[B.1[i]].fo] := by
    rw [List.flatMap_append]
    simp [toR]
   refine ⟨(i + 1, v2, L ++ [((⟨ts[i].id, ts[i].hs, ts[i].st, ts[B.1[i]].fo⟩ : Tl), o1, o2)]), fun _ _ st => st_sub2 st zR (by dsimp only; rw [hpk]; exact zP), ⟨hi', ?_⟩, ?_⟩
   ·dsimp only
    rw [List.map_append, hL, hz]; rfl
   ·dsimp only; omega
  ·have hii : i = ts.length := by simp at hlt; omega
   subst hii
   rw [List.take_of_length_le (by rw [List.length_zipWith]; omega)] at hL
   refine zS ?_;repeat(refine yA ?_;intro p hp;refine zS ?_)
   (apply resK2; exact rfl; exact rfl; exact rfl; exact ⟨v, L, hL, rfl, rfl⟩; exact yC)
 ·rw [if_neg he'] at MC ⊢
  refine con_of Tryd.func53 rfl (enters_of Tryd.func53 (by kernel_rfl) rfl) rfl ?_; intro n w0 F0 G0
  refine zS ?_;repeat(refine yA ?_;intro p hp;refine zS ?_)
  (apply wl_callP (MC); exact rfl; exact yC; exact rfl)
  rintro _ _ ⟨v0, rfl, rfl⟩
  refine WL_one At.here (fun hone => ?_)
  refine WL_packN ?_
  refine zS ?_;repeat(refine yA ?_;intro p hp;refine zS ?_)
  simp only [he', decide_false, Bool.not_false]
  refine zS ?_;repeat(refine yA ?_;intro p hp;refine zS ?_)
  refine Res_row0 24 4 toC ?_
  (apply resK2; exact rfl; exact rfl; exact rfl; exact ⟨_, [], rfl, rfl, rfl⟩; exact yC)
end Go.Proofs.YthddoikmgpgakaaDoor.Sw
namespace Go.Proofs.YthddoikmgpgakaaDoor
open Go.RowKit Go.Proofs Go.Shelf
theorem TrueL.symm {s f l : List Int} (h : TrueL s f l) : TrueL f s l := by unfold TrueL at *; rw [dist_comm f l, dist_comm l s, dist_comm f s]; omega
theorem TrueL.ok : ∀ {l s f : List Int}, okN s = true → okN f = true → TrueL s f l → okN l = true
 | [], _, _, _, _, _ => rfl
 | x :: l, s, f, hs, hf, h => by
  induction hm : s.length + f.length using Nat.strongRecOn generalizing s f with
  | _ m ih =>
  rcases h.begins with ⟨_, _, h3⟩ | ⟨a, s', b, f', c, l', h1, h2, h3, hd, hc, ht⟩ | ⟨a, s', h1, hd, ht⟩ | ⟨b, f', h2, hd, ht⟩
  ·cases h3
  ·subst h1; subst h2
   obtain ⟨rfl, rfl⟩ := List.cons.inj h3
   unfold okN at hs hf ⊢
   rw [List.all_cons, Bool.and_eq_true] at hs hf ⊢
   refine ⟨by rcases hc with rfl | rfl; exact hs.1; exact hf.1, TrueL.ok hs.2 hf.2 ht⟩
  ·subst h1
   have hs' := hs
   unfold okN at hs'
   rw [List.all_cons, Bool.and_eq_true] at hs'
   rcases ht with ht | ⟨l', e, ht⟩
   ·exact ih _ (by subst hm; simp) s' f hs'.2 hf ht rfl
   ·obtain ⟨rfl, rfl⟩ := List.cons.inj e
    unfold okN
    rw [List.all_cons, Bool.and_eq_true]
    exact ⟨hs'.1, TrueL.ok hs'.2 hf ht⟩
  ·subst h2
   have hf' := hf
   unfold okN at hf'
   rw [List.all_cons, Bool.and_eq_true] at hf'
   rcases ht with ht | ⟨l', e, ht⟩
   ·exact ih _ (by subst hm; simp) s f' hs hf'.2 ht rfl
   ·obtain ⟨rfl, rfl⟩ := List.cons.inj e
    unfold okN
    rw [List.all_cons, Bool.and_eq_true]
    exact ⟨hf'.1, TrueL.ok hs hf'.2 ht⟩
termination_by l => l.length
theorem TrueL.app {s f l s' f' l' : List Int} (h : TrueL s f l) (k : TrueL s' f' l') (hd : dist (s ++ s') (f ++ f') = dist s f + dist s' f') : TrueL (s ++ s') (f ++ f') (l ++ l') := by
 unfold TrueL at *
 have h1 := dist_append s' l' s l
 have h2 := dist_append l' f' l f
 have h3 := dist_third (s ++ s') (l ++ l') (f ++ f')
 omega
theorem tellT_comm {st fo : List Int} (hs : okN st = true) (hf : okN fo = true) : tellT fo st 0 0 = tellT st fo 0 0 :=
 ((tellT_fst hf hs (Nat.zero_le _) (Nat.zero_le _)).iff fun l => ⟨fun h => by rw [List.drop_zero, List.drop_zero] at *; exact h.symm, fun h => by rw [List.drop_zero, List.drop_zero] at *; exact h.symm⟩).unique (tellT_fst hs hf (Nat.zero_le _) (Nat.zero_le _))
theorem ex_min {P : List Int → Prop} {g : List Int → Int} {M : Int} (hb : ∀ l, P l → -M ≤ g l) : ∀ (n : Nat) (l0 : List Int), P l0 → (g l0 + M).toNat ≤ n → ∃ l, P l ∧ ∀ l', P l' → g l ≤ g l'
 | n, l0, h0, hn => by
  by_cases h : ∃ l', P l' ∧ g l' < g l0
  ·obtain ⟨l', h1, h2⟩ := h
   have b1 := hb l' h1
   match n with
   | 0 => have := hb l0 h0; omega
   | n + 1 => exact ex_min hb n l' h1 (by omega)
  ·exact ⟨l0, h0, fun l' hl' => Int.not_lt.1 fun h2 => h ⟨l', hl', h2⟩⟩
theorem sumW_b {W : Int → Int} (hW : ∀ n, -1000 ≤ W n ∧ W n ≤ 1000) : ∀ l : List Int, -(1000 * (l.length : Int)) ≤ sumW W l ∧ sumW W l ≤ 1000 * (l.length : Int)
 | [] => by simp [sumW]
 | x :: l => by
  have h1 := sumW_b hW l
  have h2 := hW x
  unfold sumW at *
  rw [List.map_cons, List.sum_cons, List.length_cons]
  omega
theorem sumW_app (W : Int → Int) (a b : List Int) : sumW W (a ++ b) = sumW W a + sumW W b := by simp [sumW]
theorem TrueL.left (s f : List Int) : TrueL s f s := by unfold TrueL; rw [dist_self]; omega
theorem TrueL.right (s f : List Int) : TrueL s f f := by unfold TrueL; rw [dist_self]; omega
theorem span_is {W : Int → Int} (hW : ∀ n, -1000 ≤ W n ∧ W n ≤ 1000) (s f : List Int) : IsSpan W (TrueL s f) (spanF W s f).1 (spanF W s f).2 := by
 have hl : ∀ l, TrueL s f l → -(1000 * ((s.length + f.length : Nat) : Int)) ≤ sumW W l ∧ sumW W l ≤ 1000 * ((s.length + f.length : Nat) : Int) := fun l h => by
  have h1 := sumW_b hW l
  have h2 := h.length_le
  omega
 obtain ⟨a, a1, a2⟩ := ex_min (P := TrueL s f) (g := sumW W) (M := 1000 * ((s.length + f.length : Nat) : Int)) (fun l h => (hl l h).1) _ s (TrueL.left s f) (Nat.le_refl _)
 obtain ⟨b, b1, b2⟩ := ex_min (P := TrueL s f) (g := fun l => -sumW W l) (M := 1000 * ((s.length + f.length : Nat) : Int)) (fun l h => by have := (hl l h).2; show _ ≤ -sumW W l; omega) _ s (TrueL.left s f) (Nat.le_refl _)
 have h : IsSpan W (TrueL s f) (sumW W a) (sumW W b) := ⟨⟨a, a1, rfl⟩, ⟨b, b1, rfl⟩, fun l h => ⟨a2 l h, by have := b2 l h; omega⟩⟩
 rw [spanF_eq h]
 exact h
theorem span_b {W : Int → Int} (hW : ∀ n, -1000 ≤ W n ∧ W n ≤ 1000) {s f : List Int} {lo hi : Int} (h : IsSpan W (TrueL s f) lo hi) : -(1000 * ((s.length + f.length : Nat) : Int)) ≤ lo ∧ lo ≤ hi ∧ hi ≤ 1000 * ((s.length + f.length : Nat) : Int) := by
 obtain ⟨a, a1, a2⟩ := h.lo
 obtain ⟨b, b1, b2⟩ := h.hi
 have h1 := sumW_b hW a
 have h2 := sumW_b hW b
 have h3 := a1.length_le
 have h4 := b1.length_le
 have h5 := (h.all b b1).1
 omega
theorem span_app {W : Int → Int} {s f s' f' : List Int} {a b c d x y : Int} (h : IsSpan W (TrueL s f) a b) (k : IsSpan W (TrueL s' f') c d) (g : IsSpan W (TrueL (s ++ s') (f ++ f')) x y) (hd : dist (s ++ s') (f ++ f') = dist s f + dist s' f') : x ≤ a + c ∧ b + d ≤ y := by
 obtain ⟨l1, p1, e1⟩ := h.lo
 obtain ⟨l2, p2, e2⟩ := h.hi
 obtain ⟨l3, p3, e3⟩ := k.lo
 obtain ⟨l4, p4, e4⟩ := k.hi
 have h1 := (g.all _ (p1.app p3 hd)).1
 have h2 := (g.all _ (p2.app p4 hd)).2
 rw [sumW_app] at h1 h2
 omega
theorem IsSpan.one (W : Int → Int) (x : List Int) : IsSpan W (fun l => l = x) (sumW W x) (sumW W x) := ⟨⟨x, rfl, rfl⟩, ⟨x, rfl, rfl⟩, fun l h => by subst h; omega⟩
theorem acc_in (W : Int → Int) : ∀ (L pre : List (List Int)), SpanAcc W (fun l => l ∈ pre) (pre.map fun l => (sumW W l, sumW W l)) → SpanAcc W (fun l => l ∈ pre ++ L) ((pre ++ L).map fun l => (sumW W l, sumW W l))
 | [], pre, h => by rw [List.append_nil]; exact h
 | x :: L, pre, h => by
  have h2 := (h.snoc (IsSpan.one W x)).iff (Q := fun l => l ∈ pre ++ [x]) fun l => by simp
  have h3 := acc_in W L (pre ++ [x]) (by rw [List.map_append]; exact h2)
  rwa [List.append_assoc] at h3
theorem ends_in (W : Int → Int) {L : List (List Int)} (hne : L ≠ []) : IsSpan W (fun l => l ∈ L) (endsL (L.map fun l => (sumW W l, sumW W l))).1 (endsL (L.map fun l => (sumW W l, sumW W l))).2 := by
 have h := acc_in W L [] (SpanAcc.nil fun l h => by cases h)
 rw [List.nil_append] at h
 rcases h with ⟨h, _⟩ | ⟨_, h⟩
 ·exact absurd (List.map_eq_nil_iff.1 h) hne
 ·exact h
theorem tell_all {st fo : List Int} (hs : okN st = true) (hf : okN fo = true) (hl : (tellT st fo 0 0).length ≤ 200) (l : List Int) : TrueL st fo l ↔ l ∈ tellT st fo 0 0 := by
 have h := tellT_fst hs hf (Nat.zero_le st.length) (Nat.zero_le fo.length)
 rw [List.drop_zero, List.drop_zero] at h
 refine ⟨fun hT => ?_, h.sub l⟩
 rcases h.all l hT with g | ⟨g, _⟩
 ·exact g
 ·omega
theorem tell_ne {st fo : List Int} (hs : okN st = true) (hf : okN fo = true) : tellT st fo 0 0 ≠ [] := fun e => by
 have h := tellT_fst hs hf (Nat.zero_le st.length) (Nat.zero_le fo.length)
 rw [List.drop_zero, List.drop_zero] at h
 rcases h.all st (TrueL.left st fo) with g | ⟨g, _⟩
 ·rw [e] at g; cases g
 ·rw [e] at g; cases g
end Go.Proofs.YthddoikmgpgakaaDoor
namespace Go.Proofs.YthddoikmgpgakaaDoor.Sw
open Go.RowKit Go Go.Shelf Go.Proofs
open Go.Proofs.YthddoikmgpgakaaDoor.Ma
theorem Con.pack2 {P : Program} {k : FuncId} {args : List AV} {pre : List HA} {post post' : AV → List HA → Prop} (c : Con P k args pre post) (h : ∀ x y, post x y → ∃ a b r, y = a :: b :: r ∧ post' x (.pack [a, b] :: r)) : Con P k args pre post' := ⟨c.enters, fun G Fp vs w hf hI => (c.calls G Fp vs w hf hI).mono fun en w' ⟨v, av, prod, G', F', h1, h2, h3, h4, h5⟩ => by
 obtain ⟨a, b, r, rfl, h6⟩ := h _ _ h2
 exact ⟨v, av, _, G', F', h1, h6, h3, ⟨h4.gin, h4.nd, h4.own, hsP.pack.2 h4.hs⟩, h5⟩⟩
theorem thaw_tup3 {h : HA} {av av' x y : AV} (k : Thaw h av av') : Thaw h (.tup [av, x, y]) (.tup [av', x, y]) := ⟨fun G F w hh hle v hv => by
 obtain ⟨vs, rfl, hf⟩ := hv
 match vs, hf with
 | [a, b, c], ⟨h1, h2, h3, _⟩ => exact ⟨[a, b, c], rfl, k.out G F w hh hle a h1, x.mono hle h2, y.mono hle h3, trivial⟩⟩
theorem matchF_con (ts : List Tl) (hl : ts.length ≤ 4000) (hs : small3 ts) : Con Tryd.prog 49 [.sl 4 tC ts] [HA.tab] (Is (.tup [.sl 1 iC (ints (matchR ts).1), .val (.int .i64 (matchR ts).2.1), .val (.int .i64 (matchR ts).2.2)]) [HA.tab]) :=
 (match_con ts hl hs).frz (a := fun u : Value => .tup [.val u, .val (.int .i64 (matchR ts).2.1), .val (.int .i64 (matchR ts).2.2)]) (h := fun u => .row u 3 1 iC (ints (matchR ts).1)) (fun x y h => h) fun u => thaw_tup3 (thaw_row _ _ _ _ _)
theorem sureF_con (ts : List Tl) (hl : ts.length ≤ 4000) (hs : small3 ts) : Con Tryd.prog 51 [.sl 4 tC ts] [HA.tab] (Is (.tup [.sl 1 iC (sureR ts).1, .val (.int .i64 (sureR ts).2)]) [HA.tab]) :=
 (sure_con ts hl hs).frz (a := fun u : Value => .tup [.val u, .val (.int .i64 (sureR ts).2)]) (h := fun u => .row u 3 1 iC (sureR ts).1) (fun x y h => h) fun u => thaw_tup (thaw_row _ _ _ _ _)
theorem firstF_con (t : Tl) (h : t.small) : Con Tryd.prog 55 [.agg (tC t)] [HA.tab] (Is (.tup [.sl 1 iC (firstR t).1, .val (.int .i64 (firstR t).2)]) [HA.tab]) :=
 (first_con t h).frz (a := fun u : Value => .tup [.val u, .val (.int .i64 (firstR t).2)]) (h := fun u => .row u 3 1 iC (firstR t).1) (fun x y h => h) fun u => thaw_tup (thaw_row _ _ _ _ _)
theorem sortF_con (ts : List Tl) (hl : ts.length ≤ 4000) (hs : small3 ts) : Con Tryd.prog 53 [.sl 4 tC ts] [HA.tab] (Is (.tup [.sl 4 tC (sortR ts).1, .val (.int .i64 (sortR ts).2)]) [HA.tab]) :=
 ((sort_con ts hl hs).pack2 (post' := fun x y => ∃ i : { i : Value × List TO // i.2.map (·.1) = (sortR ts).1 }, x = .tup [.val i.1.1, .val (.int .i64 (sortR ts).2)] ∧ y = tsOwn i.1.1 i.1.2 :: [HA.tab]) fun x y ⟨u, L, h1, h2, h3⟩ => ⟨_, _, _, h3, ⟨(u, L), h1⟩, h2, rfl⟩).frz
   (a := fun i : { i : Value × List TO // i.2.map (·.1) = (sortR ts).1 } => .tup [.val i.1.1, .val (.int .i64 (sortR ts).2)]) (h := fun i => tsOwn i.1.1 i.1.2) (fun x y h => h) fun i => by
    have := thaw_tup (x := .val (.int .i64 (sortR ts).2)) (ts_thaw i.1.1 i.1.2)
    rwa [i.2] at this
def lsOwn (u : Value) (L : List LO) : HA := .pack [.row u 22 1 loC L, .pack (L.flatMap loR)]
theorem ls_thaw (u : Value) (L : List LO) : Thaw (lsOwn u L) (.val u) (.sl 1 (slC 1 iC) (L.map (·.1))) := ⟨fun G F w h hle v hv => by
 have hv' : v = u := hv
 subst hv'
 obtain ⟨A, B, e, h1, C, D, e2, h2, h3⟩ := h
 have hsub : ∀ b ∈ A, b ∈ F := fun b hb => e.mem_iff.2 (by simp [hb])
 have hsub2 : ∀ b ∈ C, b ∈ F := fun b hb => e.mem_iff.2 (by simp [e2.mem_iff.2 (show b ∈ C ++ D by simp [hb])])
 refine row_view h1 hsub (by rw [List.length_map]) fun i i1 i2 j av' ej => ?_
 rw [List.getElem_map] at ej
 have r1 : HA.row L[i].2.1 3 1 iC L[i].1 ∈ L.flatMap loR := List.mem_flatMap.2 ⟨L[i], List.getElem_mem i1, by simp [loR]⟩
 obtain ⟨F1, s1, q1⟩ := hsP.mem r1 h2
 have v1 := row_view1 q1 (fun b hb => hsub2 b (s1 b hb)) hle
 match j, ej with
 | 0, ej => cases ej; exact ⟨_, rfl, fun u hu => by have hu' : u = L[i].2.1 := hu
                                                    subst hu'; exact v1⟩
 | j + 1, ej => simp [slC] at ej⟩
theorem listsF_con (t : Tl) (h : t.small) : Con Tryd.prog 57 [.agg (tC t)] [HA.tab] (Is (.tup [.sl 1 (slC 1 iC) (listsR t).1, .val (.int .i64 (listsR t).2)]) [HA.tab]) :=
 ((listsP_con t h).pack2 (post' := fun x y => ∃ i : { i : Value × List LO // i.2.map (·.1) = (listsR t).1 }, x = .tup [.val i.1.1, .val (.int .i64 (listsR t).2)] ∧ y = lsOwn i.1.1 i.1.2 :: [HA.tab]) fun x y ⟨u, L, h1, h2, h3⟩ => ⟨_, _, _, h3, ⟨(u, L), h1⟩, h2, rfl⟩).frz
   (a := fun i : { i : Value × List LO // i.2.map (·.1) = (listsR t).1 } => .tup [.val i.1.1, .val (.int .i64 (listsR t).2)]) (h := fun i => lsOwn i.1.1 i.1.2) (fun x y h => h) fun i => by
    have := thaw_tup (x := .val (.int .i64 (listsR t).2)) (ls_thaw i.1.1 i.1.2)
    rwa [i.2] at this
theorem ready_con (t : Tl) (h1 : t.st.length ≤ 1000000) (h2 : t.fo.length ≤ 1000000) : Con Tryd.prog 67 [.agg (tC t)] [] (Is (.val (.bool (!(decide ((30 : Int) < t.st.length) || decide ((30 : Int) < t.fo.length)) && okT t.id t.hs t.st t.fo))) []) := by
 cases hg : (decide ((30 : Int) < t.st.length) || decide ((30 : Int) < t.fo.length)) with
 | true =>
  have GC := great_con t
  rw [hg] at GC
  refine con_of Tryd.func67 rfl (enters_of Tryd.func67 (by kernel_rfl) rfl) rfl ?_; intro n w0 F0 G0
  refine zS ?_;repeat(refine yA ?_;intro p hp;refine zS ?_)
  (first | (apply wl_call (GC); exact rfl; exact rfl) | (apply wl_callR (GC); exact rfl; exact zM; exact rfl))
  refine zS ?_
  (apply res1; exact rfl; exact rfl; exact ⟨rfl, rfl⟩)
 | false =>
  have GC := great_con t
  rw [hg] at GC
  simp only [Bool.or_eq_false_iff, decide_eq_false_iff_not] at hg
  refine con_of Tryd.func67 rfl (enters_of Tryd.func67 (by kernel_rfl) rfl) rfl ?_; intro n w0 F0 G0
  refine zS ?_;repeat(refine yA ?_;intro p hp;refine zS ?_)
  (first | (apply wl_call (GC); exact rfl; exact rfl) | (apply wl_callR (GC); exact rfl; exact zM; exact rfl))
  refine zS ?_
  (first | (apply wl_call (tally_con t (by omega) (by omega)); exact rfl; exact rfl) | (apply wl_callR (tally_con t (by omega) (by omega)); exact rfl; exact zM; exact rfl))
  refine zS ?_
  (apply res1; exact rfl; exact rfl; exact ⟨rfl, rfl⟩)
theorem sameEd_con (xs : List Ed) (hl : xs.length ≤ 1000000) : Con Tryd.prog 38 [.sl 3 edC xs, .sl 3 edC xs] [] (Is (.val (.bool true)) []) := by
 refine con_of Tryd.func38 rfl (enters_of Tryd.func38 (by kernel_rfl) rfl) rfl ?_; intro n w0 F0 G0
 refine zS ?_
 simp only [decide_true, Bool.not_true]
 refine zS ?_
 refine W_loopJ (fun (k : Nat) => ⟨[(0, .sl 3 edC xs), (1, .sl 3 edC xs), (5, .val (.int .i64 k))], []⟩) (fun k => k ≤ xs.length) (fun k => xs.length - k) 0 (fun _ _ st => st_sub2 st zR zP) ?hj0 ?round
 case hj0 => exact Nat.zero_le _
 case round =>
  rintro k hk
  refine zS ?_
  refine w_cond rfl (fun hlt => ?_) (fun hlt => ?_)
  ·have hlt' : k < xs.length := by simpa using hlt
   have hq1 : xs[k]? = some xs[k] := List.getElem?_eq_getElem hlt'
   refine zS ?_
   refine W_run 8 [17, 18, 19, 20, 21, 22, 23, 24] [0, 1, 2, 3, 4, 5, 6, 7] Cut.nil rfl goFlt mixedS (by kernel_rfl) rfl ?_
   refine rpv [] [] ?_
   refine rpv [] [] ?_
   refine rpv [0, 1] [] ?_
   refine rpv [2] [] ?_
   refine rpv [] [] ?_
   refine rpv [] [] ?_
   refine rpv [4, 5] [] ?_
   refine rpv [6] [] ?_
   refine ⟨⟨by kernel_rfl, by kernel_rfl⟩, fun vs => ?_⟩
   apply WL_auto [3, 7]
   ·exact goPk
   ·exact goNrm
   ·kernel_rfl
   ·kernel_rfl
   refine zS ?_
   refine zS ?_
   simp only [eq_self, decide_true, Bool.not_true]
   refine zS ?_
   (refine ⟨k + 1, fun _ _ st => st_sub2 st ?_ ?_, ?_, ?_⟩; exact zR; exact zP)
   ·exact hlt'
   ·omega
  ·refine zS ?_
   (apply res1; exact rfl; exact rfl; exact ⟨rfl, rfl⟩)
theorem spanF_tell {W : Int → Int} {s f : List Int} (o1 : okN s = true) (o2 : okN f = true) (hl : (tellT s f 0 0).length ≤ 200) : spanF W s f = endsL ((tellT s f 0 0).map fun l => (sumW W l, sumW W l)) := by
 rw [spanF_eq ((ends_in W (tell_ne o1 o2)).iff fun l => (tell_all o1 o2 hl l).symm)]
theorem a_false : falseR hT = (2, 0) := by decide +kernel
theorem a_edits : editsR hT = ([⟨3, 1, 2⟩, ⟨3, 2, 3⟩], 0) := by kernel_rfl
theorem a_is1 : isR hT [1, 2, 2, 4] = (true, 0) := by decide +kernel
theorem a_is2 : isR hT [1, 4] = (false, 0) := by decide +kernel
theorem a_tell : tellT [1, 1, 2, 4] [1, 2, 3, 4] 0 0 = [[1, 1, 2, 3, 4], [1, 1, 2, 4], [1, 1, 3, 4], [1, 2, 2, 4], [1, 2, 3, 4], [1, 2, 4]] := by decide +kernel
theorem a_okT : okT hT.id hT.hs hT.st hT.fo = true := by decide +kernel
theorem a_first : firstR hT = ([1, 1, 2, 3, 4], 0) := by
 unfold firstR
 rw [if_pos a_okT, show tellT hT.st hT.fo 0 0 = _ from a_tell]; rfl
theorem a_lists : listsR hT = ([[1, 1, 2, 3, 4], [1, 1, 2, 4], [1, 1, 3, 4], [1, 2, 2, 4], [1, 2, 3, 4], [1, 2, 4]], 0) := by
 unfold listsR
 rw [if_pos a_okT, show tellT hT.st hT.fo 0 0 = _ from a_tell, if_neg (by decide)]
theorem a_span (W : Int → Int) : spanF W hT.st hT.fo = endsL (([[1, 1, 2, 3, 4], [1, 1, 2, 4], [1, 1, 3, 4], [1, 2, 2, 4], [1, 2, 3, 4], [1, 2, 4]] : List (List Int)).map fun l => (sumW W l, sumW W l)) := by
 rw [spanF_tell (by decide +kernel) (by decide +kernel) (by rw [show tellT hT.st hT.fo 0 0 = _ from a_tell]; decide), show tellT hT.st hT.fo 0 0 = _ from a_tell]
theorem a_kinds : kindsR hT 3 = ((0, 1), 0) := by
 unfold kindsR
 rw [if_pos a_okT, if_pos (by decide), a_span]
 decide +kernel
theorem a_sp : spanF (rateW rT) hT.st hT.fo = (-1, 45) := by
 rw [a_span]
 decide +kernel
theorem a_owed : owedR hT rT = ((-1, 45), 0) := by
 unfold owedR owesR owesL
 rw [if_neg (by decide +kernel), if_pos (by decide +kernel)]
 simp only [List.foldl, if_true]
 rw [a_sp]
 rfl
theorem a_owes : owesR [hT, hT] 5 rT = ((-2, 90), 0) := by
 unfold owesR owesL
 rw [if_neg (by decide +kernel), if_pos (by decide +kernel)]
 have e : hT.hs = 5 := rfl
 simp only [List.foldl, e, if_true]
 rw [a_sp]
 rfl
theorem a_where : whereR hT 2 = (1, 0) := whereR_eq (.inr (.inr ⟨by decide +kernel, 2, 1, rfl, by decide, ⟨by decide, by decide +kernel, by decide +kernel⟩, rfl⟩))
theorem a_notch : notchF hT 1 = (⟨1, 5, [1, 1, 2, 4, 1], [1, 2, 3, 4, 1]⟩, 0) := by kernel_rfl
theorem a_split : splitF hT 2 1 = (⟨1, 5, [1, 1], [1]⟩, ⟨1, 5, [2, 4], [2, 3, 4]⟩, 0) := by kernel_rfl
theorem a_join : joinF ⟨1, 5, [1, 1], [1]⟩ ⟨1, 5, [2, 4], [2, 3, 4]⟩ = (hT, 0) := by kernel_rfl
def mT : List Tl := [⟨1, 5, [1, 1], [3]⟩, ⟨1, 5, [3, 3], [1]⟩]
theorem a_match : matchR mT = ([1, 0], 2, 0) := by decide +kernel
theorem a_sure : sureR mT = ([1, 0], 0) := by decide +kernel
theorem a_sort : sortR mT = ([⟨1, 5, [1, 1], [1]⟩, ⟨1, 5, [3, 3], [3]⟩], 0) := by kernel_rfl
theorem alive_con : Con Tryd.prog 60 [] [HA.tab] (Is (.val (.bool true)) [HA.tab]) := by
 have hs1 : hT.small := by constructor <;> decide
 have m3 : small3 mT := fun t ht => by
  rcases List.mem_cons.1 ht with rfl | ht
  ·decide
  ·rcases List.mem_cons.1 ht with rfl | ht
   ·decide
   ·cases ht
 have C1 := falseP_con hT (by decide) (by decide)
 have C2 := editsP_con hT hs1
 have C3 := isP_con hT [1, 2, 2, 4] (by decide) (by decide) (by decide)
 have C4 := isP_con hT [1, 4] (by decide) (by decide) (by decide)
 have C5 := firstF_con hT hs1
 have C6 := listsF_con hT hs1
 have C7 := kinds_con hT 3 (by decide) (by decide)
 have C8 := owed_con hT rT (by decide) (by decide)
 have C9 := whereP_con hT 2 (by decide) (by decide)
 have C10 := notchP_con hT 1 hs1
 have C11 := splitP_con hT 2 1 (by decide)
 have C12 := joinP_con ⟨1, 5, [1, 1], [1]⟩ ⟨1, 5, [2, 4], [2, 3, 4]⟩ (by constructor <;> decide) (by constructor <;> decide)
 have C13 := matchF_con mT (by decide) m3
 have C14 := sureF_con mT (by decide) m3
 have C15 := sortF_con mT (by decide) m3
 have C16 := owes_con [hT, hT] 5 rT (by decide) (fun t ht => by
  rcases List.mem_cons.1 ht with rfl | ht
  ·decide
  ·rcases List.mem_cons.1 ht with rfl | ht
   ·decide
   ·cases ht)
 rw [a_false] at C1; rw [a_edits] at C2; rw [a_is1] at C3; rw [a_is2] at C4; rw [a_first] at C5; rw [a_lists] at C6; rw [a_kinds] at C7; rw [a_owed] at C8; rw [a_where] at C9; rw [a_notch] at C10; rw [a_split] at C11; rw [a_join] at C12; rw [a_match] at C13; rw [a_sure] at C14; rw [a_sort] at C15; rw [a_owes] at C16
 unfold seA at C7 C8 C16
 dsimp only at C1 C2 C3 C4 C5 C6 C7 C8 C9 C10 C11 C12 C13 C14 C15 C16
 have hx0 : 0 < ([⟨1, 5, [1, 1], [1]⟩, ⟨1, 5, [3, 3], [3]⟩] : List Tl).length := by decide
 have H := half_con
 have R := rates_con
 have S1 := same_con hT hT (by decide) (by decide)
 rw [sameTl_self] at S1
 have SE := sameEd_con [⟨3, 1, 2⟩, ⟨3, 2, 3⟩] (by decide)
 have I1 := isL_con [1, 1, 2, 3, 4] [1, 1, 2, 3, 4] (by decide) (by decide)
 have I2 := isL_con [1, 0] [1, 0] (by decide) (by decide)
 have I3 := sameI_con [1] [1] (by decide) (by decide)
 rw [decide_eq_true rfl] at I1 I2 I3
 refine con_of Tryd.func60 rfl (enters_of Tryd.func60 (by kernel_rfl) rfl) rfl ?_; intro n w0 F0 G0
 refine zS ?_;repeat(refine yA ?_;intro p hp;refine zS ?_)
 (first | (apply wl_call (H); exact rfl; exact rfl) | (apply wl_callR (H); exact rfl; exact zM; exact rfl))
 refine zS ?_;repeat(refine yA ?_;intro p hp;refine zS ?_)
 (first | (apply wl_call (C1); exact rfl; exact rfl) | (apply wl_callR (C1); exact rfl; exact zM; exact rfl))
 refine zS ?_;repeat(refine yA ?_;intro p hp;refine zS ?_)
 (first | (apply wl_call (H); exact rfl; exact rfl) | (apply wl_callR (H); exact rfl; exact zM; exact rfl))
 refine zS ?_;repeat(refine yA ?_;intro p hp;refine zS ?_)
 (first | (apply wl_call (C2); exact rfl; exact rfl) | (apply wl_callR (C2); exact rfl; exact zM; exact rfl))
 refine zS ?_;repeat(refine yA ?_;intro p hp;refine zS ?_)
 (first | (apply wl_call (H); exact rfl; exact rfl) | (apply wl_callR (H); exact rfl; exact zM; exact rfl))
 refine zS ?_;repeat(refine yA ?_;intro p hp;refine zS ?_)
 (apply wl_litF iC; exact inferInstance; exact inferInstance; exact inferInstance; exact zE; exact rfl; (first | exact (of_decide_eq_true rfl) | decide | (simp; done) | (simp; omega)); exact rfl)
 refine zS ?_;repeat(refine yA ?_;intro p hp;refine zS ?_)
 (first | (apply wl_call (intsP_con [1, 2, 2, 4]); exact rfl; exact rfl) | (apply wl_callR (intsP_con [1, 2, 2, 4]); exact rfl; exact zM; exact rfl))
 refine zS ?_;repeat(refine yA ?_;intro p hp;refine zS ?_)
 (first | (apply wl_call (C3); exact rfl; exact rfl) | (apply wl_callR (C3); exact rfl; exact zM; exact rfl))
 refine zS ?_;repeat(refine yA ?_;intro p hp;refine zS ?_)
 (first | (apply wl_call (H); exact rfl; exact rfl) | (apply wl_callR (H); exact rfl; exact zM; exact rfl))
 refine zS ?_;repeat(refine yA ?_;intro p hp;refine zS ?_)
 (apply wl_litF iC; exact inferInstance; exact inferInstance; exact inferInstance; exact zE; exact rfl; (first | exact (of_decide_eq_true rfl) | decide | (simp; done) | (simp; omega)); exact rfl)
 refine zS ?_;repeat(refine yA ?_;intro p hp;refine zS ?_)
 (first | (apply wl_call (intsP_con [1, 4]); exact rfl; exact rfl) | (apply wl_callR (intsP_con [1, 4]); exact rfl; exact zM; exact rfl))
 refine zS ?_;repeat(refine yA ?_;intro p hp;refine zS ?_)
 (first | (apply wl_call (C4); exact rfl; exact rfl) | (apply wl_callR (C4); exact rfl; exact zM; exact rfl))
 refine zS ?_;repeat(refine yA ?_;intro p hp;refine zS ?_)
 (first | (apply wl_call (H); exact rfl; exact rfl) | (apply wl_callR (H); exact rfl; exact zM; exact rfl))
 refine zS ?_;repeat(refine yA ?_;intro p hp;refine zS ?_)
 (first | (apply wl_call (C5); exact rfl; exact rfl) | (apply wl_callR (C5); exact rfl; exact zM; exact rfl))
 refine zS ?_;repeat(refine yA ?_;intro p hp;refine zS ?_)
 (first | (apply wl_call (H); exact rfl; exact rfl) | (apply wl_callR (H); exact rfl; exact zM; exact rfl))
 refine zS ?_;repeat(refine yA ?_;intro p hp;refine zS ?_)
 (first | (apply wl_call (C6); exact rfl; exact rfl) | (apply wl_callR (C6); exact rfl; exact zM; exact rfl))
 refine zS ?_;repeat(refine yA ?_;intro p hp;refine zS ?_)
 (first | (apply wl_call (H); exact rfl; exact rfl) | (apply wl_callR (H); exact rfl; exact zM; exact rfl))
 refine zS ?_;repeat(refine yA ?_;intro p hp;refine zS ?_)
 (first | (apply wl_call (C7); exact rfl; exact rfl) | (apply wl_callR (C7); exact rfl; exact zM; exact rfl))
 refine zS ?_;repeat(refine yA ?_;intro p hp;refine zS ?_)
 (first | (apply wl_call (H); exact rfl; exact rfl) | (apply wl_callR (H); exact rfl; exact zM; exact rfl))
 refine zS ?_;repeat(refine yA ?_;intro p hp;refine zS ?_)
 (first | (apply wl_call (R); exact rfl; exact rfl) | (apply wl_callR (R); exact rfl; exact zM; exact rfl))
 refine zS ?_;repeat(refine yA ?_;intro p hp;refine zS ?_)
 (first | (apply wl_call (C8); exact rfl; exact rfl) | (apply wl_callR (C8); exact rfl; exact zM; exact rfl))
 refine zS ?_;repeat(refine yA ?_;intro p hp;refine zS ?_)
 (first | (apply wl_call (H); exact rfl; exact rfl) | (apply wl_callR (H); exact rfl; exact zM; exact rfl))
 refine zS ?_;repeat(refine yA ?_;intro p hp;refine zS ?_)
 (first | (apply wl_call (C9); exact rfl; exact rfl) | (apply wl_callR (C9); exact rfl; exact zM; exact rfl))
 refine zS ?_;repeat(refine yA ?_;intro p hp;refine zS ?_)
 refine W_run 75 [86, 87, 88, 89, 90, 91, 92, 93, 94, 95, 96, 97, 98, 99, 100, 101, 102, 103, 104, 105, 106, 107, 108, 109, 110, 111, 112, 113, 114, 115, 116, 117, 118, 119, 120, 121, 122, 123, 124, 125, 126, 127, 128, 129, 130, 131, 132, 133, 134, 135, 136, 137, 138, 139, 140, 141, 142, 143, 144, 145, 146, 147, 148, 149, 150, 151, 152, 153, 154, 155, 156, 157, 158, 159, 160] [0, 1, 2, 3, 4, 5, 6, 7, 8, 9, 10, 11, 12, 13, 14, 15, 16, 17, 18, 19, 20, 21, 22, 23, 24, 25, 26, 27, 28, 29, 30, 31, 32, 33, 34, 35, 36, 37, 38, 39, 40, 41, 42, 43, 44, 45, 46, 47, 48, 49, 50, 51, 52, 53, 54, 55, 56, 57, 58, 59, 60, 61, 62, 63, 64, 65, 66, 67, 68, 69, 70, 71, 72, 73, 74] Cut.nil rfl goFlt mixedS (by kernel_rfl) rfl ?_
 refine rpv [] [] ?_
 refine rpv [0] [] ?_
 refine rpv [1] [] ?_
 refine ryv [2] ?_
 refine ryv [2, 3] ?_
 refine rpv [2, 4] [] ?_
 refine rpv [5] [] ?_
 refine ryv [6] ?_
 refine ryv [6, 7] ?_
 refine rpv [6, 8] [] ?_
 refine rpv [9] [] ?_
 refine ryv [10] ?_
 refine ryv [10] ?_
 refine ryv [10] ?_
 refine ryx [10, 12, 13] (fun vs => by apply ltr_pk; exact goPk; (refine ltr ?_; apply LT_frz; apply lt_lit (f := edC) (xs := [(⟨3, 1, 2⟩ : Ed), ⟨3, 2, 3⟩]); exact zE; exact rfl; (simp))) ?_
 refine ryx [10, 11, 14] (fun vs => by apply ltr_pk; exact goPk; (refine ltr ?_; refine lt_call ?_ (SE); exact rfl)) ?_
 refine ryv [10, 15] ?_
 refine rpv [10, 16] [] ?_
 refine rpv [17] [] ?_
 refine ryv [18] ?_
 refine ryv [18, 19] ?_
 refine rpv [18, 20] [] ?_
 refine rpv [21] [] ?_
 refine ryv [22] ?_
 refine ryv [22, 23] ?_
 refine rpv [22, 24] [] ?_
 refine rpv [25] [] ?_
 refine ryv [26] ?_
 refine ryv [26, 27] ?_
 refine rpv [26, 28] [] ?_
 refine rpv [29] [] ?_
 refine ryv [30] ?_
 refine rpv [30, 31] [] ?_
 refine rpv [32] [] ?_
 refine ryv [33] ?_
 refine ryv [33] ?_
 refine ryx [33] (fun vs => by apply ltr_pk; exact goPk; (refine ltr ?_; apply LT_frz; apply lt_lit (f := iC); exact zE; exact rfl; (first | exact (of_decide_eq_true rfl) | decide | (simp; done) | (simp; omega)))) ?_
 refine ryx [33, 34, 35, 36] (fun vs => by apply ltr_pk; exact goPk; (refine ltr ?_; refine lt_call ?_ (I1); exact rfl)) ?_
 refine ryv [33, 37] ?_
 refine rpv [33, 38] [] ?_
 refine rpv [39] [] ?_
 refine ryv [40] ?_
 refine ryv [40, 41] ?_
 refine rpv [40, 42] [] ?_
 refine rpv [43] [] ?_
 refine ryv [44] ?_
 refine ryv [44, 45] ?_
 refine ryv [44, 46] ?_
 refine rpv [44, 47] [] ?_
 refine rpv [48] [] ?_
 refine ryv [49] ?_
 refine ryv [49, 50] ?_
 refine rpv [49, 51] [] ?_
 refine rpv [52] [] ?_
 refine ryv [53] ?_
 refine ryx [53] (fun vs => by apply ltr_pk; exact goPk; (refine ltr ?_; refine lt_call ?_ ((span_con 0 1)); exact rfl)) ?_
 refine ryx [53, 54, 55] (fun vs => by apply ltr_pk; exact goPk; (refine ltr ?_; apply lt_neqN (xs := [0, 1]) (ys := [0, 1]); exact rfl; exact rfl; (repeat (first | exact Ints.nil | apply Ints.cons)); (repeat (first | exact Ints.nil | apply Ints.cons)); exact rfl; exact rfl)) ?_
 refine rpv [53, 56] [] ?_
 refine rpv [57] [] ?_
 refine ryv [58] ?_
 refine ryv [58, 59] ?_
 refine rpv [58, 60] [] ?_
 refine rpv [61] [] ?_
 refine ryv [62] ?_
 refine ryx [62] (fun vs => by apply ltr_pk; exact goPk; (refine ltr ?_; refine lt_call ?_ ((span_con (-1) 45)); exact rfl)) ?_
 refine ryx [62, 63, 64] (fun vs => by apply ltr_pk; exact goPk; (refine ltr ?_; apply lt_neqN (xs := [-1, 45]) (ys := [-1, 45]); exact rfl; exact rfl; (repeat (first | exact Ints.nil | apply Ints.cons)); (repeat (first | exact Ints.nil | apply Ints.cons)); exact rfl; exact rfl)) ?_
 refine rpv [62, 65] [] ?_
 refine rpv [66] [] ?_
 refine ryv [67] ?_
 refine ryv [67, 68] ?_
 refine rpv [67, 69] [] ?_
 refine rpv [70] [] ?_
 refine ryv [71] ?_
 refine ryv [71, 72] ?_
 refine rpv [71, 73] [] ?_
 refine ⟨⟨by kernel_rfl, by kernel_rfl⟩, fun vs => ?_⟩
 apply WL_auto [74]
 ·exact goPk
 ·exact goNrm
 ·kernel_rfl
 ·kernel_rfl
 refine zS ?_;repeat(refine yA ?_;intro p hp;refine zS ?_)
 (first | (apply wl_call (H); exact rfl; exact rfl) | (apply wl_callR (H); exact rfl; exact zM; exact rfl))
 refine zS ?_;repeat(refine yA ?_;intro p hp;refine zS ?_)
 (first | (apply wl_call (C10); exact rfl; exact rfl) | (apply wl_callR (C10); exact rfl; exact zM; exact rfl))
 refine zS ?_;repeat(refine yA ?_;intro p hp;refine zS ?_)
 (first | (apply wl_call (H); exact rfl; exact rfl) | (apply wl_callR (H); exact rfl; exact zM; exact rfl))
 refine zS ?_;repeat(refine yA ?_;intro p hp;refine zS ?_)
 (first | (apply wl_call (C11); exact rfl; exact rfl) | (apply wl_callR (C11); exact rfl; exact zM; exact rfl))
 refine zS ?_;repeat(refine yA ?_;intro p hp;refine zS ?_)
 (first | (apply wl_call (C12); exact rfl; exact rfl) | (apply wl_callR (C12); exact rfl; exact zM; exact rfl))
 refine zS ?_;repeat(refine yA ?_;intro p hp;refine zS ?_)
 (apply wl_litF iC; exact inferInstance; exact inferInstance; exact inferInstance; exact zE; exact rfl; (first | exact (of_decide_eq_true rfl) | decide | (simp; done) | (simp; omega)); exact rfl)
 refine zS ?_;repeat(refine yA ?_;intro p hp;refine zS ?_)
 (first | (apply wl_call (intsP_con [1, 1]); exact rfl; exact rfl) | (apply wl_callR (intsP_con [1, 1]); exact rfl; exact zM; exact rfl))
 refine zS ?_;repeat(refine yA ?_;intro p hp;refine zS ?_)
 (apply wl_litF iC; exact inferInstance; exact inferInstance; exact inferInstance; exact zE; exact rfl; (first | exact (of_decide_eq_true rfl) | decide | (simp; done) | (simp; omega)); exact rfl)
 refine zS ?_;repeat(refine yA ?_;intro p hp;refine zS ?_)
 (first | (apply wl_call (intsP_con [3]); exact rfl; exact rfl) | (apply wl_callR (intsP_con [3]); exact rfl; exact zM; exact rfl))
 refine zS ?_;repeat(refine yA ?_;intro p hp;refine zS ?_)
 (first | (apply wl_call (cutP_con [1, 1] [3]); exact rfl; exact rfl) | (apply wl_callR (cutP_con [1, 1] [3]); exact rfl; exact zM; exact rfl))
 refine zS ?_;repeat(refine yA ?_;intro p hp;refine zS ?_)
 (apply wl_litF iC; exact inferInstance; exact inferInstance; exact inferInstance; exact zE; exact rfl; (first | exact (of_decide_eq_true rfl) | decide | (simp; done) | (simp; omega)); exact rfl)
 refine zS ?_;repeat(refine yA ?_;intro p hp;refine zS ?_)
 (first | (apply wl_call (intsP_con [3, 3]); exact rfl; exact rfl) | (apply wl_callR (intsP_con [3, 3]); exact rfl; exact zM; exact rfl))
 refine zS ?_;repeat(refine yA ?_;intro p hp;refine zS ?_)
 (apply wl_litF iC; exact inferInstance; exact inferInstance; exact inferInstance; exact zE; exact rfl; (first | exact (of_decide_eq_true rfl) | decide | (simp; done) | (simp; omega)); exact rfl)
 refine zS ?_;repeat(refine yA ?_;intro p hp;refine zS ?_)
 (first | (apply wl_call (intsP_con [1]); exact rfl; exact rfl) | (apply wl_callR (intsP_con [1]); exact rfl; exact zM; exact rfl))
 refine zS ?_;repeat(refine yA ?_;intro p hp;refine zS ?_)
 (first | (apply wl_call (cutP_con [3, 3] [1]); exact rfl; exact rfl) | (apply wl_callR (cutP_con [3, 3] [1]); exact rfl; exact zM; exact rfl))
 refine zS ?_;repeat(refine yA ?_;intro p hp;refine zS ?_)
 (apply wl_litF tC (xs := mT); exact inferInstance; exact inferInstance; exact inferInstance; exact zE; exact rfl; (simp [mT]); exact rfl)
 refine zS ?_;repeat(refine yA ?_;intro p hp;refine zS ?_)
 (first | (apply wl_call (C13); exact rfl; exact rfl) | (apply wl_callR (C13); exact rfl; exact zM; exact rfl))
 refine zS ?_;repeat(refine yA ?_;intro p hp;refine zS ?_)
 (first | (apply wl_call (C14); exact rfl; exact rfl) | (apply wl_callR (C14); exact rfl; exact zM; exact rfl))
 refine zS ?_;repeat(refine yA ?_;intro p hp;refine zS ?_)
 (first | (apply wl_call (C15); exact rfl; exact rfl) | (apply wl_callR (C15); exact rfl; exact zM; exact rfl))
 refine zS ?_;repeat(refine yA ?_;intro p hp;refine zS ?_)
 (first | (apply wl_call (H); exact rfl; exact rfl) | (apply wl_callR (H); exact rfl; exact zM; exact rfl))
 refine zS ?_;repeat(refine yA ?_;intro p hp;refine zS ?_)
 (first | (apply wl_call (H); exact rfl; exact rfl) | (apply wl_callR (H); exact rfl; exact zM; exact rfl))
 refine zS ?_;repeat(refine yA ?_;intro p hp;refine zS ?_)
 (apply wl_litF tC (xs := [hT, hT]); exact inferInstance; exact inferInstance; exact inferInstance; exact zE; exact rfl; (simp); exact rfl)
 refine zS ?_;repeat(refine yA ?_;intro p hp;refine zS ?_)
 (first | (apply wl_call (R); exact rfl; exact rfl) | (apply wl_callR (R); exact rfl; exact zM; exact rfl))
 refine zS ?_;repeat(refine yA ?_;intro p hp;refine zS ?_)
 (first | (apply wl_call (C16); exact rfl; exact rfl) | (apply wl_callR (C16); exact rfl; exact zM; exact rfl))
 refine zS ?_;repeat(refine yA ?_;intro p hp;refine zS ?_)
 refine W_run 64 [213, 214, 215, 216, 217, 218, 219, 220, 221, 222, 223, 224, 225, 226, 227, 228, 229, 230, 231, 232, 233, 234, 235, 236, 237, 238, 239, 240, 241, 242, 243, 244, 245, 246, 247, 248, 249, 250, 251, 252, 253, 254, 255, 256, 257, 258, 259, 260, 261, 262, 263, 264, 265, 266, 267, 268, 269, 270, 271, 272, 273, 274, 275, 276] [0, 1, 2, 3, 4, 5, 6, 7, 8, 9, 10, 11, 12, 13, 14, 15, 16, 17, 18, 19, 20, 21, 22, 23, 24, 25, 26, 27, 28, 29, 30, 31, 32, 33, 34, 35, 36, 37, 38, 39, 40, 41, 42, 43, 44, 45, 46, 47, 48, 49, 50, 51, 52, 53, 54, 55, 56, 57, 58, 59, 60, 61, 62, 63] Cut.nil rfl goFlt mixedS (by kernel_rfl) rfl ?_
 refine rpv [] [] ?_
 refine rpv [0] [] ?_
 refine rpv [1] [] ?_
 refine ryv [2] ?_
 refine ryv [2, 3] ?_
 refine ryv [2, 4] ?_
 refine ryv [2, 5] ?_
 refine rpv [2, 6] [] ?_
 refine rpv [7] [] ?_
 refine ryv [8] ?_
 refine ryv [8, 9] ?_
 refine rpv [8, 10] [] ?_
 refine rpv [11] [] ?_
 refine ryv [12] ?_
 refine ryv [12, 13] ?_
 refine rpv [12, 14] [] ?_
 refine rpv [15] [] ?_
 refine ryv [16] ?_
 refine ryx [16] (fun vs => by apply ltr_pk; exact goPk; (refine ltr ?_; refine lt_call ?_ (H); exact rfl)) ?_
 refine ryx [16, 17, 18] (fun vs => by apply ltr_pk; exact goPk; (refine ltr ?_; refine lt_call ?_ (S1); exact rfl)) ?_
 refine rpv [16, 19] [] ?_
 refine rpv [20] [] ?_
 refine ryv [21] ?_
 refine ryv [21] ?_
 refine ryx [21] (fun vs => by apply ltr_pk; exact goPk; (refine ltr ?_; apply LT_frz; apply lt_lit (f := iC); exact zE; exact rfl; (first | exact (of_decide_eq_true rfl) | decide | (simp; done) | (simp; omega)))) ?_
 refine ryx [21, 22, 23, 24] (fun vs => by apply ltr_pk; exact goPk; (refine ltr ?_; refine lt_call ?_ (I2); exact rfl)) ?_
 refine rpv [21, 25] [] ?_
 refine rpv [26] [] ?_
 refine ryv [27] ?_
 refine ryv [27, 28] ?_
 refine rpv [27, 29] [] ?_
 refine rpv [30] [] ?_
 refine ryv [31] ?_
 refine ryv [31] ?_
 refine ryx [31] (fun vs => by apply ltr_pk; exact goPk; (refine ltr ?_; apply LT_frz; apply lt_lit (f := iC); exact zE; exact rfl; (first | exact (of_decide_eq_true rfl) | decide | (simp; done) | (simp; omega)))) ?_
 refine ryx [31, 32, 33, 34] (fun vs => by apply ltr_pk; exact goPk; (refine ltr ?_; refine lt_call ?_ (I2); exact rfl)) ?_
 refine rpv [31, 35] [] ?_
 refine rpv [36] [] ?_
 refine ryv [37] ?_
 refine ryv [37, 38] ?_
 refine rpv [37, 39] [] ?_
 refine rpv [40] [] ?_
 refine ryv [41] ?_
 refine ryv [41, 42] ?_
 refine ryv [41, 43] ?_
 refine rpv [41, 44] [] ?_
 refine rpv [45] [] ?_
 refine ryv [46] ?_
 refine ryv [46, 47] ?_
 refine ryv [46, 48] ?_
 refine ryx [46, 49] (fun vs => by apply ltr_pk; exact goPk; (refine ltr ?_; apply lt_loadE1'; exact rfl; exact rfl; exact rfl)) ?_
 refine ryx [46] (fun vs => by apply ltr_pk; exact goPk; (refine ltr ?_; apply LT_frz; apply lt_lit (f := iC); exact zE; exact rfl; (first | exact (of_decide_eq_true rfl) | decide | (simp; done) | (simp; omega)))) ?_
 refine ryx [46, 51] (fun vs => by apply ltr_pk; exact goPk; (refine ltr ?_; refine lt_call ?_ ((intsP_con [1])); exact rfl)) ?_
 refine ryx [46, 50, 52] (fun vs => by apply ltr_pk; exact goPk; (refine ltr ?_; refine lt_call ?_ (I3); exact rfl)) ?_
 refine rpv [46, 53] [] ?_
 refine rpv [54] [] ?_
 refine ryv [55] ?_
 refine ryv [55, 56] ?_
 refine rpv [55, 57] [] ?_
 refine rpv [58] [] ?_
 refine ryv [59] ?_
 refine ryx [59] (fun vs => by apply ltr_pk; exact goPk; (refine ltr ?_; refine lt_call ?_ ((span_con (-2) 90)); exact rfl)) ?_
 refine ryx [59, 60, 61] (fun vs => by apply ltr_pk; exact goPk; (refine ltr ?_; apply lt_eqlN (xs := [-2, 90]) (ys := [-2, 90]); exact rfl; exact rfl; (repeat (first | exact Ints.nil | apply Ints.cons)); (repeat (first | exact Ints.nil | apply Ints.cons)); exact rfl; exact rfl)) ?_
 refine rpv [59, 62] [] ?_
 refine ⟨⟨by kernel_rfl, by kernel_rfl⟩, fun vs => ?_⟩
 apply WL_auto [63]
 ·exact goPk
 ·exact goNrm
 ·kernel_rfl
 ·kernel_rfl
 refine zS ?_;repeat(refine yA ?_;intro p hp;refine zS ?_)
 refine zS ?_;repeat(refine yA ?_;intro p hp;refine zS ?_)
 (apply resK1; exact rfl; exact rfl; exact ⟨rfl, rfl⟩; exact yC)
end Go.Proofs.YthddoikmgpgakaaDoor.Sw
namespace Go.Proofs.YthddoikmgpgakaaDoor.Ma
open Go.Proofs.YthddoikmgpgakaaDoor
def Fit (a : List Int) (q : List Nat) : Prop := ∀ i (h : i < a.length) (h' : i < q.length), a[i] = -1 ∨ a[i] = (q[i] : Int)
end Go.Proofs.YthddoikmgpgakaaDoor.Ma
namespace Go.Proofs.YthddoikmgpgakaaDoor
open Go Go.ChangeShapes Go.WideShapes Go.ChangeAt Go.RowKit
theorem own : ownKnob Tryd.prog.godebug = none := by kernel_rfl
def laidL : List (String × DataW Unit) := [("aguador/tally.checks", Rows.laid_aguador_tally_checks)]
set_option maxRecDepth 100000 in
theorem door_met (os : Os) (args : Array Value) : laidMetH Tryd.prog laidL ((World.doorLaid Tryd.prog 400 os).forCall (fun _ _ => 0) ⟨#[], args, []⟩).memory :=
 laidMetH_of_parts3 (fuel := 8) (laidMet_of_run' 8 (by kernel_rfl) (by kernel_rfl)) (by kernel_rfl) (by kernel_rfl)
end Go.Proofs.YthddoikmgpgakaaDoor
namespace Go.Proofs.YthddoikmgpgakaaDoor.Sw
open Go Go.RowKit Go.ChangeShapes Go.WideShapes Go.ChangeAt
def gh (w : World) : Nat → Option Obj := fun b => w.heap[b]?
theorem cellG_gh {w : World} {b i : Nat} {v : Value} (h : w.cell? ⟨b, i, none⟩ = some v) : cellG (gh w) b i = some v := by
 unfold World.cell? at h
 unfold cellG gh
 cases hb : w.heap[b]? with
 | none => rw [hb] at h; cases h
 | some o => rw [hb] at h; cases o <;> first | exact h | cases h
theorem law_of {P : Program} {k : FuncId} {args : List AV} {pre : List HA} (hc : Con P k args pre (Is (.val (.bool true)) [])) {vs : List Value} {w : World} (hp : hsP pre (gh w) [] w) (hf : Fits (gh w) args vs) :
  Calls P k vs.toArray w fun e w' => e = .returned (.bool true) ∧ Below w.heap.size w w' := by
 refine (hc.calls (gh w) [] vs w hf ⟨fun b o h => h, List.nodup_nil, fun b hb => absurd hb (by simp), hp⟩).mono fun e w' ⟨v, av, prod, G', F', h1, h2, h3, _, h5⟩ => ?_
 obtain ⟨rfl, rfl⟩ := h2
 have h5' : v = _ := h5
 subst h5'
 exact ⟨h1, { os := h3.os, tape := h3.tape, output := h3.output, size := h3.size, block := fun b hb => h3.same b hb (by simp) }⟩
theorem tab_hs {w : World} (h : Tab w) : hsP [HA.tab] (gh w) [] w := ⟨[], [], .refl _, ⟨rfl, cellG_gh h.1, cellG_gh h.2.1, cellG_gh h.2.2⟩, rfl⟩
def Reads (t : TypeId) {α : Type} (f : α → List AV) : Prop := ∀ {H : Type} {enc : TypeId × Value → H} {W : World} {n : Nat} {cs : List Value} {y : DataW H × List MemPlace}, DataW.trod enc Tryd.prog W 0 (fun _ => true) true n t cs = some y → ∃ x, Fits (gh W) (f x) cs
theorem reads_int {t : TypeId} {k : IntKind} (ht : Tryd.prog.underlying t = some (.int k)) : Reads t fun i : Int => [AV.val (.int k i)] := fun h => by
 obtain ⟨n, rfl, _, _⟩ := DataW.trod_int ht h
 exact ⟨n, rfl, trivial⟩
theorem reads_sl {t e : TypeId} {α : Type} {f : α → List AV} {n : Nat} (ht : Tryd.prog.underlying t = some (.slice e)) (hn : Tryd.prog.cellsOf e = n) (h0 : 0 < n) (hf : ∀ x, (f x).length = n) (he : Reads e f) : Reads t fun xs : List α => [AV.sl n f xs] := fun {H enc W m cs y} h => by
 rcases Go.Deep.open_slice ht h with ⟨rfl, _⟩ | ⟨a, len, cap, m', n', D, Pl, rfl, hb, hl, hm, hmm, _, hx⟩
 ·exact ⟨[], ⟨none, 0, rfl, Nat.le_refl _, fun i hi => (by cases hi)⟩, trivial⟩
 ·simp only [if_true] at hmm
  have key : ∀ i, i < len → ∃ x, Fits (gh W) (f x) ((W.cells? 0 (a.add (i * n)) n).getD []) ∧ (W.cells? 0 (a.add (i * n)) n).isSome = true := fun i hi => by
   obtain ⟨cs', h1, h2⟩ := hx i (by omega)
   rw [hn] at h1
   obtain ⟨x, hxx⟩ := he h2
   exact ⟨x, by rw [h1]; exact hxx, by rw [h1]; rfl⟩
  let F : Fin len → α := fun i => (key i.1 i.2).choose
  have hF : ∀ i (hi : i < len), Fits (gh W) (f (F ⟨i, hi⟩)) ((W.cells? 0 (a.add (i * n)) n).getD []) ∧ (W.cells? 0 (a.add (i * n)) n).isSome = true := fun i hi => (key i hi).choose_spec
  refine ⟨List.ofFn F, ⟨some a, cap, by rw [List.length_ofFn], by rw [List.length_ofFn]; exact hl, fun i hi => ?_⟩, trivial⟩
  rw [List.length_ofFn] at hi
  obtain ⟨g1, g2⟩ := hF i hi
  obtain ⟨cs', hcs⟩ := Option.isSome_iff_exists.1 g2
  rw [hcs] at g1
  simp only [Option.getD_some] at g1
  obtain ⟨_, hlen, hcell⟩ := World.cells?_some hcs
  obtain ⟨b, o, spot⟩ := a
  have hspot : spot = none := by
   obtain ⟨k1, k2⟩ := hF 0 (by omega)
   obtain ⟨cs0, hc0⟩ := Option.isSome_iff_exists.1 k2
   obtain ⟨_, hl0, hcell0⟩ := World.cells?_some hc0
   have h1 := hcell0 0 h0
   rw [List.getElem?_eq_getElem (by omega), Go.Deep.add_add] at h1
   simpa [Addr.add] using World.cell?_spot h1
  subst hspot
  refine ⟨b, o, rfl, fun j av hj => ?_⟩
  rw [List.getElem_ofFn] at hj
  obtain ⟨u, h1, h2⟩ := g1.get hj
  have hjn : j < n := by have := (List.getElem?_eq_some_iff.1 hj).1; rw [hf] at this; exact this
  have h3 := hcell j hjn
  rw [h1, Go.Deep.add_add] at h3
  have ea : (⟨b, o, none⟩ : Addr).add (i * n + j) = ⟨b, o + i * n + j, none⟩ := by unfold Addr.add; split <;> simp <;> omega
  rw [ea] at h3
  exact ⟨u, cellG_gh h3, h2⟩
set_option maxRecDepth 100000 in
theorem arg_one {H : Type} {enc : TypeId × Value → H} {W : World} {t : TypeId} {α : Type} {g : α → AV} (hr : Reads t fun x => [g x]) {v : Value} {d : DataW H} {p : List MemPlace} (hc : v.cells.toList = [v]) (h : DataW.Trod enc Tryd.prog W 0 (fun _ => true) true t v d p) : ∃ x, (g x).P (gh W) v := by
 obtain ⟨m, hm⟩ := h
 rw [hc] at hm
 obtain ⟨x, h1, _⟩ := hr hm
 exact ⟨x, h1⟩
set_option maxRecDepth 100000 in
theorem arg_sl {H : Type} {enc : TypeId × Value → H} {W : World} {t e : TypeId} {α : Type} {g : α → AV} (hr : Reads t fun x => [g x]) {v : Value} {d : DataW H} {p : List MemPlace} {base : Nat} (ht : Tryd.prog.underlying t = some (.slice e)) (hv : Value.okWide Tryd.prog W .any base t v) (h : DataW.Trod enc Tryd.prog W 0 (fun _ => true) true t v d p) : ∃ x, (g x).P (gh W) v := by
 obtain ⟨a, n, c, rfl⟩ := okWide_slice ht hv
 exact arg_one hr rfl h
set_option maxRecDepth 100000 in
theorem arg_int {H : Type} {enc : TypeId × Value → H} {W : World} {t : TypeId} {k : IntKind} {v : Value} {d : DataW H} {p : List MemPlace} {base : Nat} (ht : Tryd.prog.underlying t = some (.int k)) (hv : Value.okWide Tryd.prog W .any base t v) (h : DataW.Trod enc Tryd.prog W 0 (fun _ => true) true t v d p) : ∃ i : Int, (AV.val (.int k i)).P (gh W) v ∧ (Lit.int k i).wf = true := by
 obtain ⟨n, rfl, _, _, hw⟩ := open_int ht hv h
 exact ⟨n, rfl, hw⟩
set_option maxRecDepth 100000 in
theorem arg_agg {H : Type} {enc : TypeId × Value → H} {W : World} {t : TypeId} {fs : Array Field} {α : Type} {g : α → List AV} (hr : Reads t g) {v : Value} {d : DataW H} {p : List MemPlace} {base : Nat} (ht : Tryd.prog.underlying t = some (.struct fs)) (hv : Value.okWide Tryd.prog W .any base t v) (h : DataW.Trod enc Tryd.prog W 0 (fun _ => true) true t v d p) : ∃ x, (AV.agg (g x)).P (gh W) v := by
 obtain ⟨cs, rfl, _⟩ := okWide_struct ht hv
 obtain ⟨m, hm⟩ := h
 obtain ⟨x, h1⟩ := hr hm
 exact ⟨x, cs.toList, rfl, h1⟩
set_option maxRecDepth 100000
theorem reads_i : Reads 3 iC := reads_int Tryd.underlying3
theorem reads_is : Reads 22 fun xs : List Int => [AV.sl 1 iC xs] := reads_sl Tryd.underlying22 (n := 1) (by kernel_rfl) Nat.one_pos (fun _ => rfl) reads_i
theorem reads_4 {t : TypeId} {f0 f1 f2 f3 : Field} {α β γ δ : Type} {g0 : α → AV} {g1 : β → AV} {g2 : γ → AV} {g3 : δ → AV} (ht : Tryd.prog.underlying t = some (.struct #[f0, f1, f2, f3])) (hone : Go.Deep.oneCellFields Tryd.prog #[f0, f1, f2, f3] = true) (hC : Tryd.prog.cellsOf t = 4)
  (h0 : Reads f0.type fun x => [g0 x]) (h1 : Reads f1.type fun x => [g1 x]) (h2 : Reads f2.type fun x => [g2 x]) (h3 : Reads f3.type fun x => [g3 x]) : Reads t fun x : α × β × γ × δ => [g0 x.1, g1 x.2.1, g2 x.2.2.1, g3 x.2.2.2] := fun {H enc W n cs y} h => by
 obtain ⟨y0, y1, y2, y3, n, _, hl, k0, k1, k2, k3⟩ := Go.Joins.trod_struct4 ht h
 rw [hC] at hl
 obtain ⟨o0, c0⟩ := Go.Deep.hone_of hone 0 f0 rfl
 obtain ⟨o1, c1⟩ := Go.Deep.hone_of hone 1 f1 rfl
 obtain ⟨o2, c2⟩ := Go.Deep.hone_of hone 2 f2 rfl
 obtain ⟨o3, c3⟩ := Go.Deep.hone_of hone 3 f3 rfl
 match cs, hl with
 | [v0, v1, v2, v3], _ =>
  obtain ⟨x0, e0, _⟩ := h0 (by simpa [o0, c0] using k0)
  obtain ⟨x1, e1, _⟩ := h1 (by simpa [o1, c1] using k1)
  obtain ⟨x2, e2, _⟩ := h2 (by simpa [o2, c2] using k2)
  obtain ⟨x3, e3, _⟩ := h3 (by simpa [o3, c3] using k3)
  exact ⟨⟨x0, x1, x2, x3⟩, e0, e1, e2, e3, trivial⟩
theorem reads_t : Reads 24 tC := fun {H enc W n cs y} h =>
 let ⟨x, hx⟩ := reads_4 Tryd.underlying24 (by kernel_rfl) (by kernel_rfl) reads_i reads_i reads_is reads_is h
 ⟨⟨x.1, x.2.1, x.2.2.1, x.2.2.2⟩, hx⟩
theorem reads_r : Reads 64 rC := fun {H enc W n cs y} h =>
 let ⟨x, hx⟩ := reads_4 Tryd.underlying64 (by kernel_rfl) (by kernel_rfl) reads_i reads_i reads_i reads_i h
 ⟨⟨x.1, x.2.1, x.2.2.1, x.2.2.2⟩, hx⟩
theorem reads_ts : Reads 62 fun xs : List Tl => [AV.sl 4 tC xs] := reads_sl Tryd.underlying62 (n := 4) (by kernel_rfl) (by decide) (fun _ => rfl) reads_t
end Go.Proofs.YthddoikmgpgakaaDoor.Sw
