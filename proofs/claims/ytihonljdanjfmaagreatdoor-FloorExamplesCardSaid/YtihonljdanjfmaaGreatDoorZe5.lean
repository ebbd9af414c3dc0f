/- Proofs for one card: Spans, Pmap2, Comes, All, Owes, Wide, Table, RefC0, Br8, DoorB, FloorV, FloorW, FloorX, FloorY, FloorM, FloorOa. No condition of its own. -/
import Derived.Test.YtihonljdanjfmaaGreatDoorProg
import Derived.Outline
import Derived.RangeFuncNested
import Derived.Shelf.Abstract
import Derived.Deep.QuietTactic
import Derived.BigQuiet
import Derived.Deep.RegionHeld3
import Derived.WalkSmall
import Derived.Laws.EntriesVeiled
import Derived.WalkMore
import Derived.Maps.Views
import Derived.LoopNIn
import Derived.LoopIn
import Derived.Lib.AppendZerosOnto
import Derived.Lib.Walk
import Derived.Lib.SliceRun
import Derived.Laws.MakeOwn
import Derived.Deep.Cut
import Derived.Test.YtihonljdanjfmaaGreatDoorZe4
namespace Go.Proofs.YtihonljdanjfmaaGreatDoor
open Go.RowKit Go.Proofs Go.Shelf
set_option maxRecDepth 20000 in
theorem notches_step (x : St) (w : World) :
  Calls Tryz.prog 147 #[x.val] w fun e w' => ∃ a c, e = .returned (.slice a (notchesL x).length c) ∧ RdI w' a (notchesL x) ∧ Below w.heap.size w w' ∧ ∀ p, a = some p → w.heap.size ≤ p.block := by
 unfold St.val
 go_enter Tryz.func147, Tryz.ntmps147
 by_cases h1 : x.s = x.f
 ·have t1 : (x.s == x.f) = true := by simp [h1]
  have H1 := hid h1; clear h1
  go_wp2_with fail
  go_ret
  refine ⟨_, _, by unfold notchesL; rw [if_pos H1.out]; rfl, ?_, goBl, fun p e => by cases e; simp⟩
  unfold notchesL; rw [if_pos H1.out]
  intro i hi
  match i, hi with
  | 0, _ => exact ⟨_, _, rfl, (Box.at (w := w.alloc _) #[.int .i64 x.s] 3 (by simp)).cell 0⟩
 ·have t1 : (x.s == x.f) = false := by simp [h1]
  have H1 := hid h1; clear h1
  go_wp2_with fail
  go_ret
  refine ⟨_, _, by unfold notchesL; rw [if_neg H1.out]; rfl, ?_, goBl, fun p e => by cases e; simp⟩
  unfold notchesL; rw [if_neg H1.out]
  intro i hi
  match i, hi with
  | 0, _ => exact ⟨_, _, rfl, (Box.at (w := w.alloc _) #[.int .i64 x.s, .int .i64 x.f] 3 (by simp)).cell 0⟩
  | 1, _ => exact ⟨_, _, rfl, (Box.at (w := w.alloc _) #[.int .i64 x.s, .int .i64 x.f] 3 (by simp)).cell 1⟩
theorem spanLo_any (a b : Int) (w : World) : Calls Tryz.prog 149 #[.agg #[.int .i64 a, .int .i64 b]] w fun e w' => e = .returned (.int .i64 a) ∧ Below w.heap.size w w' := by
 go_enter Tryz.func149, Tryz.ntmps149
 go_wp2_with fail
 go_ret
 exact ⟨rfl, goBl⟩
theorem spanHi_any (a b : Int) (w : World) : Calls Tryz.prog 150 #[.agg #[.int .i64 a, .int .i64 b]] w fun e w' => e = .returned (.int .i64 b) ∧ Below w.heap.size w w' := by
 go_enter Tryz.func150, Tryz.ntmps150
 go_wp2_with fail
 go_ret
 exact ⟨rfl, goBl⟩
def endF (s x : Int × Int) : Int × Int := (min s.1 x.1, max s.2 x.2)
def endsL (ss : List (Int × Int)) : Int × Int := ss.foldl endF (ss.headD (0, 0))
theorem endsL_one (s : Int × Int) : endsL [s] = s := by simp [endsL, endF]
theorem endsL_snoc (ss : List (Int × Int)) (hs : ss ≠ []) (x : Int × Int) : endsL (ss ++ [x]) = endF (endsL ss) x := by
 unfold endsL
 rw [List.foldl_append]
 cases ss with
 | nil => exact absurd rfl hs
 | cons a t => rfl
def SpanAcc (W : Int → Int) (P : List Int → Prop) (ss : List (Int × Int)) : Prop := (ss = [] ∧ ∀ l, ¬ P l) ∨ (ss ≠ [] ∧ IsSpan W P (endsL ss).1 (endsL ss).2)
theorem SpanAcc.nil {W : Int → Int} {P : List Int → Prop} (h : ∀ l, ¬ P l) : SpanAcc W P [] := .inl ⟨rfl, h⟩
theorem SpanAcc.snoc {W : Int → Int} {P Q : List Int → Prop} {ss : List (Int × Int)} {a b : Int} (h : SpanAcc W P ss) (k : IsSpan W Q a b) : SpanAcc W (fun l => P l ∨ Q l) (ss ++ [(a, b)]) := by
 refine .inr ⟨by simp, ?_⟩
 rcases h with ⟨rfl, hn⟩ | ⟨hne, hs⟩
 ·rw [List.nil_append, endsL_one]
  exact k.iff (fun x => ⟨.inr, fun h => h.resolve_left (hn x)⟩)
 ·rw [endsL_snoc _ hne]
  exact hs.or k
theorem SpanAcc.iff {W : Int → Int} {P Q : List Int → Prop} {ss : List (Int × Int)} (h : SpanAcc W P ss) (hq : ∀ x, P x ↔ Q x) : SpanAcc W Q ss := by
 rcases h with ⟨h1, h2⟩ | ⟨h1, h2⟩
 ·exact .inl ⟨h1, fun l hl => h2 l ((hq l).2 hl)⟩
 ·exact .inr ⟨h1, h2.iff hq⟩
set_option maxRecDepth 20000 in
set_option maxHeartbeats 4000000 in
theorem ends_any (a : Option Addr) (c : Nat) (ss : List (Int × Int)) (w : World) (hl : ss.length ≤ 4000) (hne : ss ≠ []) (h : RdX spC 2 w a ss) :
  Calls Tryz.prog 148 #[.slice a ss.length c, .func (.func 149) #[] #[], .func (.func 150) #[] #[]] w fun e w' => e = .returned (.agg #[.int .i64 (endsL ss).1, .int .i64 (endsL ss).2]) ∧ Below w.heap.size w w' := by
 have hm := mixedS
 have H := hid h; clear h
 have hlen : 0 < ss.length := List.length_pos_iff.2 hne
 obtain ⟨b, o, rfl, hc⟩ := H.out 0 hlen
 have q0 := hc 0 _ rfl; have q1 := hc 1 _ rfl
 simp only [Nat.zero_mul, Nat.add_zero] at q0 q1
 have lb := cell_lt q0
 clear hc
 go_enter Tryz.func148, Tryz.ntmps148
 go_wp2_with fail
 refine wp_world (fun W => Box W w.heap.size #[.int .i64 0, .int .i64 0] 73 ∧ Below w.heap.size w W) ⟨Box.new _ _ _, goBl⟩ ?_
 rintro W0 ⟨b6, hB0⟩
 refine wp_post (fun a' W => ∃ f : Nat → Value, a' = ⟨((List.range 42).map f).toArray, []⟩ ∧ ∃ P7, f 0 = .slice (some ⟨b, o, none⟩) ss.length c ∧ f 1 = .func (.func 149) #[] #[] ∧ f 2 = .func (.func 150) #[] #[] ∧ f 6 = .pointer (some ⟨w.heap.size, 0, none⟩) ∧ f 7 = .pointer (some ⟨P7, 0, none⟩) ∧ w.heap.size < P7 ∧ Box W P7 #[.int .i64 ss[0].1, .int .i64 ss[0].2] 73 ∧ Box W w.heap.size #[.int .i64 0, .int .i64 0] 73 ∧ Below w.heap.size w W) ?_ ?_
 ·have p0 : W0.cell? ⟨b, o, none⟩ = some (.int .i64 ss[0].1) := (hB0.cell (p := ⟨b, o, none⟩) lb).trans q0
  have p1 : W0.cell? ⟨b, o + 1, none⟩ = some (.int .i64 ss[0].2) := (hB0.cell (p := ⟨b, o + 1, none⟩) lb).trans q1
  have B6 := hid b6; have HB := hid hB0
  clear q0 q1 b6 hB0
  refine wp_region_F [3, 8] (fun w' => w'.cell? ⟨b, o, none⟩ = some (.int .i64 ss[0].1) ∧ w'.cell? ⟨b, o + 1, none⟩ = some (.int .i64 ss[0].2)) hm ⟨p0, p1⟩ ?_
  intro hS0; have hS := hid hS0; clear hS0
  refine anyW (fun W => Box W w.heap.size #[.int .i64 0, .int .i64 0] 73 ∧ Below w.heap.size w W ∧ (W.cell? ⟨b, o, none⟩ = some (.int .i64 ss[0].1) ∧ W.cell? ⟨b, o + 1, none⟩ = some (.int .i64 ss[0].2))) ⟨B6.out.drew, HB.out.drew, hS.out⟩ ?_
  clear B6 HB hS p0 p1
  rintro wc ⟨b6, hB, hs⟩
  have B6 := hid b6; have HB := hid hB; have hS := hid hs; clear b6 hB hs
  (apply wpAnyF_pure (i := 0) rfl (by kernel_rfl) (fun _ _ _ h => h); · first | exact .inr ⟨rfl, rfl⟩ | exact .inl ⟨rfl, fun w' => by go_simp; rfl⟩); simp only [Act.put, List.setIfInBounds_toArray, List.set_cons_succ, List.set_cons_zero, List.getElem_toArray, List.getElem_cons_succ, List.getElem_cons_zero]
  (apply wpAnyF_pure (i := 1) rfl (by kernel_rfl) (fun _ _ _ h => h); · first | exact .inr ⟨rfl, rfl⟩ | exact .inl ⟨rfl, fun w' => by go_simp; rfl⟩); simp only [Act.put, List.setIfInBounds_toArray, List.set_cons_succ, List.set_cons_zero, List.getElem_toArray, List.getElem_cons_succ, List.getElem_cons_zero]
  (apply wpAnyF_pure (i := 2) rfl (by kernel_rfl) (fun _ _ _ h => h); · first | exact .inr ⟨rfl, rfl⟩ | exact .inl ⟨rfl, fun w' => by go_simp; rfl⟩); simp only [Act.put, List.setIfInBounds_toArray, List.set_cons_succ, List.set_cons_zero, List.getElem_toArray, List.getElem_cons_succ, List.getElem_cons_zero]
  (apply wpAnyF_held (i := 3) rfl (by kernel_rfl) (fun _ _ _ h => h) hS.out; · first | exact .inr ⟨rfl, rfl⟩ | exact .inl ⟨rfl, fun w' hS' => by (obtain ⟨s1, s2⟩ := hS'; go_simp; rfl)⟩); simp only [Act.put, List.setIfInBounds_toArray, List.set_cons_succ, List.set_cons_zero, List.getElem_toArray, List.getElem_cons_succ, List.getElem_cons_zero]
  (apply wpAnyF_pure (i := 5) rfl (by kernel_rfl) (fun _ _ _ h => h); · first | exact .inr ⟨rfl, rfl⟩ | exact .inl ⟨rfl, fun w' => by go_simp; rfl⟩); simp only [Act.put, List.setIfInBounds_toArray, List.set_cons_succ, List.set_cons_zero, List.getElem_toArray, List.getElem_cons_succ, List.getElem_cons_zero]
  (apply wpAnyF_pure (i := 6) rfl (by kernel_rfl) (fun _ _ _ h => h); · first | exact .inr ⟨rfl, rfl⟩ | exact .inl ⟨rfl, fun w' => by go_simp; rfl⟩); simp only [Act.put, List.setIfInBounds_toArray, List.set_cons_succ, List.set_cons_zero, List.getElem_toArray, List.getElem_cons_succ, List.getElem_cons_zero]
  (apply wpAnyF_pure (i := 7) rfl (by kernel_rfl) (fun _ _ _ h => h); · first | exact .inr ⟨rfl, rfl⟩ | exact .inl ⟨rfl, fun w' => by go_simp; rfl⟩); simp only [Act.put, List.setIfInBounds_toArray, List.set_cons_succ, List.set_cons_zero, List.getElem_toArray, List.getElem_cons_succ, List.getElem_cons_zero]
  (apply wpAnyF_held (i := 8) rfl (by kernel_rfl) (fun _ _ _ h => h) hS.out; · first | exact .inr ⟨rfl, rfl⟩ | exact .inl ⟨rfl, fun w' hS' => by (obtain ⟨s1, s2⟩ := hS'; go_simp; rfl)⟩); simp only [Act.put, List.setIfInBounds_toArray, List.set_cons_succ, List.set_cons_zero, List.getElem_toArray, List.getElem_cons_succ, List.getElem_cons_zero]
  refine wpAnyF_two (i := 4) (j := 11) rfl rfl ⟨by kernel_rfl, by kernel_rfl, by kernel_rfl⟩ ?_ ?_
  ·
   intro K hK
   go_simp
   refine (spanLo_any _ _ _).mono ?_
   rintro e w4 ⟨rfl, hb4⟩
   refine shutS hK (by obtain ⟨s1, s2⟩ := hS.out; exact ⟨(hb4.cell (cell_lt s1)).trans s1, (hb4.cell (cell_lt s2)).trans s2⟩) (fun hS => ?_)
   refine anyW (fun W => Box W w.heap.size #[.int .i64 0, .int .i64 0] 73 ∧ Below w.heap.size w W ∧ (W.cell? ⟨b, o, none⟩ = some (.int .i64 ss[0].1) ∧ W.cell? ⟨b, o + 1, none⟩ = some (.int .i64 ss[0].2))) ⟨B6.out.below hb4 B6.out.lt, HB.out.trans (hb4.mono HB.out.size), hS.out⟩ ?_
   clear B6 HB hS hb4
   rintro wc ⟨b6, hB, hs⟩
   have B6 := hid b6; have HB := hid hB; have hS := hid hs; clear b6 hB hs
   refine wpAnyF_two (i := 9) (j := 11) rfl rfl ⟨by kernel_rfl, by kernel_rfl, by kernel_rfl⟩ ?_ ?_
   ·
    intro K hK
    go_simp
    refine (spanHi_any _ _ _).mono ?_
    rintro e w9 ⟨rfl, hb9⟩
    refine shutN hK (by kernel_rfl) ?_
    refine anyW (fun W => Box W w.heap.size #[.int .i64 0, .int .i64 0] 73 ∧ Below w.heap.size w W ∧ (W.cell? ⟨b, o, none⟩ = some (.int .i64 ss[0].1) ∧ W.cell? ⟨b, o + 1, none⟩ = some (.int .i64 ss[0].2))) ⟨B6.out.below hb9 B6.out.lt, HB.out.trans (hb9.mono HB.out.size), (by obtain ⟨s1, s2⟩ := hS.out; exact ⟨(hb9.cell (cell_lt s1)).trans s1, (hb9.cell (cell_lt s2)).trans s2⟩)⟩ ?_
    clear B6 HB hS hb9
    rintro wc ⟨b6, hB, hs⟩
    have B6 := hid b6; have HB := hid hB; clear b6 hB
    have hS : Hid ((wc.cell? ⟨b, o, none⟩ = some (.int .i64 ss[0].1)) ∧ (wc.cell? ⟨b, o + 1, none⟩ = some (.int .i64 ss[0].2))) := hs
    (apply wpAnyF_pure (i := 10) rfl (by kernel_rfl) (fun _ _ _ h => h); · first | exact .inr ⟨rfl, rfl⟩ | exact .inl ⟨rfl, fun w' => by go_simp; rfl⟩); simp only [Act.put, List.setIfInBounds_toArray, List.set_cons_succ, List.set_cons_zero, List.getElem_toArray, List.getElem_cons_succ, List.getElem_cons_zero]
    refine wpAnyF_one (i := 11) rfl ⟨by kernel_rfl, by kernel_rfl⟩ ?_
    intro K hK
    go_simp
    refine shutS hK (by obtain ⟨s1, s2⟩ := hS.out; have l1 := cell_lt s1; have l2 := cell_lt s2; exact ⟨by go_simp, by go_simp⟩) (fun hS => ?_)
    obtain ⟨P7, hP7⟩ : ∃ P, P = wc.heap.size := ⟨_, rfl⟩
    have nP7 : w.heap.size < P7 := by have := B6.out.lt; omega
    have B7 := hid (Box.at (w := wc) #[.int .i64 0, .int .i64 0] 73 hP7)
    have B6 := hid (B6.out.alloc (.cells #[.int .i64 0, .int .i64 0] 73))
    have HB := hid (HB.out.alloc HB.out.size (.cells #[.int .i64 0, .int .i64 0] 73))
    rw [← hP7]
    clear hP7
    refine wpAnyF_one (i := 12) rfl ⟨by kernel_rfl, by kernel_rfl⟩ ?_
    intro K hK
    have y0 := B7.out.cell 0; have y1 := B7.out.cell 1; have y2 := B7.out.frozen 0; have y3 := B7.out.frozen 1; have y4 := B7.out.lt
    simp only [List.getElem?_toArray, List.getElem?_cons_zero, List.getElem?_cons_succ] at y0 y1
    go_simp
    refine shutN hK (by kernel_rfl) ?_
    refine wpAnyF_done (by kernel_rfl) ?_ _
    unfold NormP
    refine acts_of rfl ?_
    exact ⟨P7, rfl, rfl, rfl, rfl, rfl, nP7, (B7.out.set 0 _).set 1 _, (B6.out.other _ _ _ (by omega)).other _ _ _ (by omega), (HB.out.setCell (p := ⟨P7, 0, none⟩) (show w.heap.size ≤ P7 by omega) _).setCell (p := ⟨P7, 1, none⟩) (show w.heap.size ≤ P7 by omega) _⟩
   ·
    intro K hK
    go_simp
    refine shutS hK (by obtain ⟨s1, s2⟩ := hS.out; have l1 := cell_lt s1; have l2 := cell_lt s2; exact ⟨by go_simp, by go_simp⟩) (fun hS => ?_)
    obtain ⟨P7, hP7⟩ : ∃ P, P = wc.heap.size := ⟨_, rfl⟩
    have nP7 : w.heap.size < P7 := by have := B6.out.lt; omega
    have B7 := hid (Box.at (w := wc) #[.int .i64 0, .int .i64 0] 73 hP7)
    have B6 := hid (B6.out.alloc (.cells #[.int .i64 0, .int .i64 0] 73))
    have HB := hid (HB.out.alloc HB.out.size (.cells #[.int .i64 0, .int .i64 0] 73))
    rw [← hP7]
    clear hP7
    refine wpAnyF_one (i := 9) rfl ⟨by kernel_rfl, by kernel_rfl⟩ ?_
    intro K hK
    go_simp
    refine (spanHi_any _ _ _).mono ?_
    rintro e w9 ⟨rfl, hb9⟩
    refine shutN hK (by kernel_rfl) ?_
    refine anyW (fun W => Box W w.heap.size #[.int .i64 0, .int .i64 0] 73 ∧ Below w.heap.size w W ∧ Box W P7 #[.int .i64 0, .int .i64 0] 73 ∧ (W.cell? ⟨b, o, none⟩ = some (.int .i64 ss[0].1) ∧ W.cell? ⟨b, o + 1, none⟩ = some (.int .i64 ss[0].2))) ⟨B6.out.below hb9 B6.out.lt, HB.out.trans (hb9.mono HB.out.size), B7.out.below hb9 B7.out.lt, (by obtain ⟨s1, s2⟩ := hS.out; exact ⟨(hb9.cell (cell_lt s1)).trans s1, (hb9.cell (cell_lt s2)).trans s2⟩)⟩ ?_
    clear B6 HB hS hb9 B7
    rintro wc ⟨b6, hB, b7, hs⟩
    have B6 := hid b6; have HB := hid hB; have B7 := hid b7; clear b6 hB
    have hS : Hid ((wc.cell? ⟨b, o, none⟩ = some (.int .i64 ss[0].1)) ∧ (wc.cell? ⟨b, o + 1, none⟩ = some (.int .i64 ss[0].2))) := hs
    (apply wpAnyF_pure (i := 10) rfl (by kernel_rfl) (fun _ _ _ h => h); · first | exact .inr ⟨rfl, rfl⟩ | exact .inl ⟨rfl, fun w' => by go_simp; rfl⟩); simp only [Act.put, List.setIfInBounds_toArray, List.set_cons_succ, List.set_cons_zero, List.getElem_toArray, List.getElem_cons_succ, List.getElem_cons_zero]
    refine wpAnyF_one (i := 12) rfl ⟨by kernel_rfl, by kernel_rfl⟩ ?_
    intro K hK
    have y0 := B7.out.cell 0; have y1 := B7.out.cell 1; have y2 := B7.out.frozen 0; have y3 := B7.out.frozen 1; have y4 := B7.out.lt
    simp only [List.getElem?_toArray, List.getElem?_cons_zero, List.getElem?_cons_succ] at y0 y1
    go_simp
    refine shutN hK (by kernel_rfl) ?_
    refine wpAnyF_done (by kernel_rfl) ?_ _
    unfold NormP
    refine acts_of rfl ?_
    exact ⟨P7, rfl, rfl, rfl, rfl, rfl, nP7, (B7.out.set 0 _).set 1 _, (B6.out.other _ _ _ (by omega)).other _ _ _ (by omega), (HB.out.setCell (p := ⟨P7, 0, none⟩) (show w.heap.size ≤ P7 by omega) _).setCell (p := ⟨P7, 1, none⟩) (show w.heap.size ≤ P7 by omega) _⟩
  ·
   intro K hK
   go_simp
   refine shutS hK (by obtain ⟨s1, s2⟩ := hS.out; have l1 := cell_lt s1; have l2 := cell_lt s2; exact ⟨by go_simp, by go_simp⟩) (fun hS => ?_)
   obtain ⟨P7, hP7⟩ : ∃ P, P = wc.heap.size := ⟨_, rfl⟩
   have nP7 : w.heap.size < P7 := by have := B6.out.lt; omega
   have B7 := hid (Box.at (w := wc) #[.int .i64 0, .int .i64 0] 73 hP7)
   have B6 := hid (B6.out.alloc (.cells #[.int .i64 0, .int .i64 0] 73))
   have HB := hid (HB.out.alloc HB.out.size (.cells #[.int .i64 0, .int .i64 0] 73))
   rw [← hP7]
   clear hP7
   refine wpAnyF_one (i := 4) rfl ⟨by kernel_rfl, by kernel_rfl⟩ ?_
   intro K hK
   go_simp
   refine (spanLo_any _ _ _).mono ?_
   rintro e w4 ⟨rfl, hb4⟩
   refine shutS hK (by obtain ⟨s1, s2⟩ := hS.out; exact ⟨(hb4.cell (cell_lt s1)).trans s1, (hb4.cell (cell_lt s2)).trans s2⟩) (fun hS => ?_)
   refine anyW (fun W => Box W w.heap.size #[.int .i64 0, .int .i64 0] 73 ∧ Below w.heap.size w W ∧ Box W P7 #[.int .i64 0, .int .i64 0] 73 ∧ (W.cell? ⟨b, o, none⟩ = some (.int .i64 ss[0].1) ∧ W.cell? ⟨b, o + 1, none⟩ = some (.int .i64 ss[0].2))) ⟨B6.out.below hb4 B6.out.lt, HB.out.trans (hb4.mono HB.out.size), B7.out.below hb4 B7.out.lt, hS.out⟩ ?_
   clear B6 HB hS hb4 B7
   rintro wc ⟨b6, hB, b7, hs⟩
   have B6 := hid b6; have HB := hid hB; have hS := hid hs; have B7 := hid b7; clear b6 hB hs
   refine wpAnyF_one (i := 9) rfl ⟨by kernel_rfl, by kernel_rfl⟩ ?_
   intro K hK
   go_simp
   refine (spanHi_any _ _ _).mono ?_
   rintro e w9 ⟨rfl, hb9⟩
   refine shutN hK (by kernel_rfl) ?_
   refine anyW (fun W => Box W w.heap.size #[.int .i64 0, .int .i64 0] 73 ∧ Below w.heap.size w W ∧ Box W P7 #[.int .i64 0, .int .i64 0] 73 ∧ (W.cell? ⟨b, o, none⟩ = some (.int .i64 ss[0].1) ∧ W.cell? ⟨b, o + 1, none⟩ = some (.int .i64 ss[0].2))) ⟨B6.out.below hb9 B6.out.lt, HB.out.trans (hb9.mono HB.out.size), B7.out.below hb9 B7.out.lt, (by obtain ⟨s1, s2⟩ := hS.out; exact ⟨(hb9.cell (cell_lt s1)).trans s1, (hb9.cell (cell_lt s2)).trans s2⟩)⟩ ?_
   clear B6 HB hS hb9 B7
   rintro wc ⟨b6, hB, b7, hs⟩
   have B6 := hid b6; have HB := hid hB; have B7 := hid b7; clear b6 hB
   have hS : Hid ((wc.cell? ⟨b, o, none⟩ = some (.int .i64 ss[0].1)) ∧ (wc.cell? ⟨b, o + 1, none⟩ = some (.int .i64 ss[0].2))) := hs
   (apply wpAnyF_pure (i := 10) rfl (by kernel_rfl) (fun _ _ _ h => h); · first | exact .inr ⟨rfl, rfl⟩ | exact .inl ⟨rfl, fun w' => by go_simp; rfl⟩); simp only [Act.put, List.setIfInBounds_toArray, List.set_cons_succ, List.set_cons_zero, List.getElem_toArray, List.getElem_cons_succ, List.getElem_cons_zero]
   refine wpAnyF_one (i := 12) rfl ⟨by kernel_rfl, by kernel_rfl⟩ ?_
   intro K hK
   have y0 := B7.out.cell 0; have y1 := B7.out.cell 1; have y2 := B7.out.frozen 0; have y3 := B7.out.frozen 1; have y4 := B7.out.lt
   simp only [List.getElem?_toArray, List.getElem?_cons_zero, List.getElem?_cons_succ] at y0 y1
   go_simp
   refine shutN hK (by kernel_rfl) ?_
   refine wpAnyF_done (by kernel_rfl) ?_ _
   unfold NormP
   refine acts_of rfl ?_
   exact ⟨P7, rfl, rfl, rfl, rfl, rfl, nP7, (B7.out.set 0 _).set 1 _, (B6.out.other _ _ _ (by omega)).other _ _ _ (by omega), (HB.out.setCell (p := ⟨P7, 0, none⟩) (show w.heap.size ≤ P7 by omega) _).setCell (p := ⟨P7, 1, none⟩) (show w.heap.size ≤ P7 by omega) _⟩
 rintro a' W ⟨f, rfl, P7, f0, f1, f2, f6, f7, nP7, b7, b6', hB⟩
 rw [show (List.range 42).map f = [f 0, f 1, f 2, f 3, f 4, f 5, f 6, f 7, f 8, f 9, f 10, f 11, f 12, f 13, f 14, f 15, f 16, f 17, f 18, f 19, f 20, f 21, f 22, f 23, f 24, f 25, f 26, f 27, f 28, f 29, f 30, f 31, f 32, f 33, f 34, f 35, f 36, f 37, f 38, f 39, f 40, f 41] from rfl, f0, f1, f2, f6, f7]
 clear f0 f1 f2 f6 f7 b6 hB0 q0 q1 lb
 go_wp2_with fail
 go_loopw [23] (fun p W' => ∃ j : Nat, j ≤ ss.length ∧ p = .int .i64 j ∧ Box W' P7 #[.int .i64 ((ss.take j).foldl endF ss[0]).1, .int .i64 ((ss.take j).foldl endF ss[0]).2] 73 ∧ Box W' w.heap.size #[.int .i64 0, .int .i64 0] 73 ∧ Below w.heap.size w W') (fun p _ => ss.length - (intOf p).toNat)
 case atStart => exact ⟨0, by omega, rfl, b7, b6', hB⟩
 case round =>
  obtain ⟨j, hj, rfl, hb7, hb6, hBr⟩ := hrel
  by_cases hlt : j < ss.length
  ·obtain ⟨b', o', e', hc'⟩ := (H.out.below hBr) j hlt
   cases e'
   have r0 := hc' 0 _ rfl; have r1 := hc' 1 _ rfl
   simp only [Nat.add_zero] at r0 r1
   clear hc'
   have B7 := hid hb7; have B6 := hid hb6; have HB := hid hBr
   clear hb7 hb6 hBr
   have hf : (ss.take (j + 1)).foldl endF ss[0] = endF ((ss.take j).foldl endF ss[0]) ss[j] := by rw [List.take_succ_eq_append_getElem hlt, List.foldl_append]; rfl
   have HF := hid hf; clear hf
   obtain ⟨E, hE⟩ : ∃ E, (ss.take j).foldl endF ss[0] = E := ⟨_, rfl⟩
   rw [hE] at B7 HF
   clear hE
   obtain ⟨e1, e2⟩ := E
   obtain ⟨x, hx⟩ : ∃ x, ss[j] = x := ⟨_, rfl⟩
   rw [hx] at r0 r1 HF
   clear hx
   obtain ⟨x1, x2⟩ := x
   dsimp only at r0 r1 B7 HF
   have lr := cell_lt r0
   go_wp2_with fail
   refine wp_world (fun W => Box W P7 #[.int .i64 e1, .int .i64 e2] 73 ∧ Box W wr.heap.size #[.int .i64 x1, .int .i64 x2] 73 ∧ Box W w.heap.size #[.int .i64 0, .int .i64 0] 73 ∧ Below w.heap.size w W) ⟨B7.out.alloc _, Box.at _ _ rfl, B6.out.alloc _, HB.out.alloc HB.out.size _⟩ ?_
   have n79 : P7 ≠ wr.heap.size := by have := B7.out.lt; omega
   obtain ⟨P9, hP9⟩ : ∃ P, P = wr.heap.size := ⟨_, rfl⟩
   rw [← hP9] at n79 ⊢
   clear B7 B6 HB r0 r1 lr hP9
   rintro W1 ⟨b7, b9, b6, hB⟩
   have B7 := hid b7; have B9 := hid b9; have B6 := hid b6; have HB := hid hB
   have y0 : W1.cell? ⟨P7, 0, none⟩ = some (.int .i64 e1) := b7.cell 0
   have y1 : W1.cell? ⟨P7, 1, none⟩ = some (.int .i64 e2) := b7.cell 1
   have z0 : W1.cell? ⟨P9, 0, none⟩ = some (.int .i64 x1) := b9.cell 0
   have z1 : W1.cell? ⟨P9, 1, none⟩ = some (.int .i64 x2) := b9.cell 1
   clear b7 b9 b6 hB
   refine wp_region_F [1, 3, 7, 9] (fun w' => w'.cell? ⟨P7, 0, none⟩ = some (.int .i64 e1) ∧ w'.cell? ⟨P7, 1, none⟩ = some (.int .i64 e2) ∧ w'.cell? ⟨P9, 0, none⟩ = some (.int .i64 x1) ∧ w'.cell? ⟨P9, 1, none⟩ = some (.int .i64 x2)) hm ⟨y0, y1, z0, z1⟩ ?_
   intro hS0; have hS := hid hS0; clear hS0
   (apply wpAnyF_pure (i := 0) rfl (by kernel_rfl) (fun _ _ _ h => h); · first | exact .inr ⟨rfl, rfl⟩ | exact .inl ⟨rfl, fun w' => by go_simp; rfl⟩); simp only [Act.put, List.setIfInBounds_toArray, List.set_cons_succ, List.set_cons_zero, List.getElem_toArray, List.getElem_cons_succ, List.getElem_cons_zero]
   (apply wpAnyF_held (i := 1) rfl (by kernel_rfl) (fun _ _ _ h => h) hS.out; · first | exact .inr ⟨rfl, rfl⟩ | exact .inl ⟨rfl, fun w' hS' => by (obtain ⟨s1, s2, s3, s4⟩ := hS'; go_simp; rfl)⟩); simp only [Act.put, List.setIfInBounds_toArray, List.set_cons_succ, List.set_cons_zero, List.getElem_toArray, List.getElem_cons_succ, List.getElem_cons_zero]
   (apply wpAnyF_pure (i := 2) rfl (by kernel_rfl) (fun _ _ _ h => h); · first | exact .inr ⟨rfl, rfl⟩ | exact .inl ⟨rfl, fun w' => by go_simp; rfl⟩); simp only [Act.put, List.setIfInBounds_toArray, List.set_cons_succ, List.set_cons_zero, List.getElem_toArray, List.getElem_cons_succ, List.getElem_cons_zero]
   (apply wpAnyF_held (i := 3) rfl (by kernel_rfl) (fun _ _ _ h => h) hS.out; · first | exact .inr ⟨rfl, rfl⟩ | exact .inl ⟨rfl, fun w' hS' => by (obtain ⟨s1, s2, s3, s4⟩ := hS'; go_simp; rfl)⟩); simp only [Act.put, List.setIfInBounds_toArray, List.set_cons_succ, List.set_cons_zero, List.getElem_toArray, List.getElem_cons_succ, List.getElem_cons_zero]
   (apply wpAnyF_pure (i := 6) rfl (by kernel_rfl) (fun _ _ _ h => h); · first | exact .inr ⟨rfl, rfl⟩ | exact .inl ⟨rfl, fun w' => by go_simp; rfl⟩); simp only [Act.put, List.setIfInBounds_toArray, List.set_cons_succ, List.set_cons_zero, List.getElem_toArray, List.getElem_cons_succ, List.getElem_cons_zero]
   (apply wpAnyF_held (i := 7) rfl (by kernel_rfl) (fun _ _ _ h => h) hS.out; · first | exact .inr ⟨rfl, rfl⟩ | exact .inl ⟨rfl, fun w' hS' => by (obtain ⟨s1, s2, s3, s4⟩ := hS'; go_simp; rfl)⟩); simp only [Act.put, List.setIfInBounds_toArray, List.set_cons_succ, List.set_cons_zero, List.getElem_toArray, List.getElem_cons_succ, List.getElem_cons_zero]
   (apply wpAnyF_pure (i := 8) rfl (by kernel_rfl) (fun _ _ _ h => h); · first | exact .inr ⟨rfl, rfl⟩ | exact .inl ⟨rfl, fun w' => by go_simp; rfl⟩); simp only [Act.put, List.setIfInBounds_toArray, List.set_cons_succ, List.set_cons_zero, List.getElem_toArray, List.getElem_cons_succ, List.getElem_cons_zero]
   (apply wpAnyF_held (i := 9) rfl (by kernel_rfl) (fun _ _ _ h => h) hS.out; · first | exact .inr ⟨rfl, rfl⟩ | exact .inl ⟨rfl, fun w' hS' => by (obtain ⟨s1, s2, s3, s4⟩ := hS'; go_simp; rfl)⟩); simp only [Act.put, List.setIfInBounds_toArray, List.set_cons_succ, List.set_cons_zero, List.getElem_toArray, List.getElem_cons_succ, List.getElem_cons_zero]
   refine wpAnyF_one (i := 4) rfl ⟨by kernel_rfl, by kernel_rfl⟩ ?_
   intro K hK
   go_simp
   refine (spanLo_any _ _ _).mono ?_
   rintro e w4 ⟨rfl, hb4⟩
   have B7 := hid (B7.out.drew.below hb4 B7.out.lt); have B9 := hid (B9.out.drew.below hb4 B9.out.lt); have B6 := hid (B6.out.drew.below hb4 B6.out.lt); have HB := hid (HB.out.drew.trans (hb4.mono HB.out.size))
   clear hb4
   refine shutS hK ⟨B7.out.cell 0, B7.out.cell 1, B9.out.cell 0, B9.out.cell 1⟩ (fun hS => ?_)
   (apply wpAnyF_pure (i := 5) rfl (by kernel_rfl) (fun _ _ _ h => h); · first | exact .inr ⟨rfl, rfl⟩ | exact .inl ⟨rfl, fun w' => by go_simp; rfl⟩); simp only [Act.put, List.setIfInBounds_toArray, List.set_cons_succ, List.set_cons_zero, List.getElem_toArray, List.getElem_cons_succ, List.getElem_cons_zero]
   refine wpAnyF_one (i := 10) rfl ⟨by kernel_rfl, by kernel_rfl⟩ ?_
   intro K hK
   go_simp
   refine (spanHi_any _ _ _).mono ?_
   rintro e w10 ⟨rfl, hb10⟩
   have B7 := hid (B7.out.below hb10 B7.out.lt); have B9 := hid (B9.out.below hb10 B9.out.lt); have B6 := hid (B6.out.below hb10 B6.out.lt); have HB := hid (HB.out.trans (hb10.mono HB.out.size))
   clear hb10
   refine shutS hK ⟨B7.out.cell 0, B7.out.cell 1, B9.out.cell 0, B9.out.cell 1⟩ (fun hS => ?_)
   (apply wpAnyF_pure (i := 11) rfl (by kernel_rfl) (fun _ _ _ h => h); · first | exact .inr ⟨rfl, rfl⟩ | exact .inl ⟨rfl, fun w' => by go_simp; rfl⟩); simp only [Act.put, List.setIfInBounds_toArray, List.set_cons_succ, List.set_cons_zero, List.getElem_toArray, List.getElem_cons_succ, List.getElem_cons_zero]
   (apply wpAnyF_pure (i := 12) rfl (by kernel_rfl) (fun _ _ _ h => h); · first | exact .inr ⟨rfl, rfl⟩ | exact .inl ⟨rfl, fun w' => by go_simp; rfl⟩); simp only [Act.put, List.setIfInBounds_toArray, List.set_cons_succ, List.set_cons_zero, List.getElem_toArray, List.getElem_cons_succ, List.getElem_cons_zero]
   refine wpAnyF_one (i := 13) rfl ⟨by kernel_rfl, by kernel_rfl⟩ ?_
   intro K hK
   have v2 := B7.out.frozen 0; have v3 := B7.out.frozen 1; have v4 := B7.out.lt; have v0 := B7.out.cell 0; have v1 := B7.out.cell 1
   simp only [List.getElem?_toArray, List.getElem?_cons_zero, List.getElem?_cons_succ] at v0 v1
   go_simp
   refine shutN hK (by kernel_rfl) ?_
   refine wpAnyF_done (by kernel_rfl) ?_ _
   clear hS y0 y1 z0 z1 v0 v1 v2 v3 v4
   go_wp2_with fail
   refine ⟨⟨j + 1, by omega, by go_num, ?_, (B6.out.other _ _ _ (by omega)).other _ _ _ (by omega), (HB.out.setCell (p := ⟨P7, 0, none⟩) (show w.heap.size ≤ P7 by omega) _).setCell (p := ⟨P7, 1, none⟩) (show w.heap.size ≤ P7 by omega) _⟩, by simp [intOf]; omega⟩
   have g := (B7.out.set 0 (.int .i64 (min e1 x1))).set 1 (.int .i64 (max e2 x2))
   have m1 : (if x1 < e1 then x1 else e1) = min e1 x1 := by split <;> omega
   have m2 : (if e2 < x2 then x2 else e2) = max e2 x2 := by split <;> omega
   rw [HF.out]
   first | exact g | (rw [m1, m2]; exact g) | (simp only [m1, m2]; exact g)
  ·have B7 := hid hb7; have B6 := hid hb6; have HB := hid hBr
   have e7 : j = ss.length := by omega
   have y0 := hb7.cell 0; have y1 := hb7.cell 1
   have x2 := hb6.frozen 0; have x3 := hb6.frozen 1; have x4 := hb6.lt; have x0 := hb6.cell 0; have x1 := hb6.cell 1
   simp only [List.getElem?_toArray, List.getElem?_cons_zero, List.getElem?_cons_succ] at y0 y1 x0 x1
   clear hb7 hb6 hBr
   go_wp2_with fail
   subst e7
   rw [List.take_of_length_le (Nat.le_refl _)] at B7
   have he : endsL ss = ss.foldl endF ss[0] := by
    unfold endsL
    cases ss with
    | nil => exact absurd rfl hne
    | cons x t => rfl
   refine bodyPost_ret (v := .agg #[.int .i64 (endsL ss).1, .int .i64 (endsL ss).2]) ?_ rfl ⟨rfl, (HB.out.setCell (p := ⟨w.heap.size, 0, none⟩) (Nat.le_refl _) _).setCell (p := ⟨w.heap.size, 1, none⟩) (Nat.le_refl _) _⟩
   rw [he]
   simp [results, Tryz.results148, go_sem, x0, x1, x2, x3, x4]
end Go.Proofs.YtihonljdanjfmaaGreatDoor
namespace Go.Proofs.YtihonljdanjfmaaGreatDoor
open Go.RowKit Go.Proofs Go.Shelf
open Go.WideElems (Fit)
open Go.ChangeMaps (setBlock heap_setBlock_same heap_setBlock_other)
theorem PMap.store2 {w : World} {b A B : Nat} {V : Nat → Nat → Value → Prop} (h : PMap w b A B V) {t e : TypeId} (ht : (Tryz.prog).underlying t = some (.map 193 e)) {z : Value} (hz : ∀ w, (zeroValue e).run Tryz.prog w = .ok z w) {i k : Nat} (hA : A ≤ 4000) (hB : B ≤ 4000) (hi : i ≤ A) (hk : k ≤ B) {v : Value} (hv : V i k v) :
  ∃ w', (Instr.mapUpdate t (.map (some b)) (plc i k) v).run Tryz.prog w = .ok () w' ∧ PMap w' b A B V ∧ w.grownBy w' (some b) ∧ w'.heap.size = w.heap.size ∧ ∀ w2, w2.heap[b]? = w'.heap[b]? → (Instr.lookup t (.map (some b)) (plc i k) false).run Tryz.prog w2 = .ok v w2 := by
 obtain ⟨es, clock, h1, h2, h3⟩ := h
 have hsz := PMap.size (w := w) (b := b) h2 h3
 have hm : (A + 1) * (B + 1) ≤ 4001 * 4001 := Nat.mul_le_mul (by omega) (by omega)
 have hmax : maxLen = 9223372036854775807 := by rfl
 have hkey := key_place (i := i) (k := k) (by omega) (by omega)
 obtain ⟨es', clock', hr, F', hput, _, _, hw⟩ := Go.Maps.fit_store (R' := anyE) (val := v) keyed_place ht h1 h2 (by omega) (fun _ _ _ z hz => hz) hkey (yv := (.nil, [])) rfl
 refine ⟨_, hr, ⟨es', clock', heap_setBlock_same h1 _, F', fun x hx => ?_⟩, ⟨rfl, rfl, rfl, by simp [setBlock], fun j _ hj => heap_setBlock_other h1 _ (fun e => hj (by rw [e]))⟩, by simp [setBlock], fun w2 hw2 => ?_⟩
 ·rcases hw x hx with ⟨hx', _⟩ | ⟨hk', hv'⟩
  ·exact h3 x hx'
  ·exact ⟨i, k, hi, hk, hk', by rw [hv']; exact hv⟩
 ·rw [heap_setBlock_same h1] at hw2
  rcases Go.Maps.fit_look false keyed_place ht (hz w2) hw2 F' hkey with ⟨_, _, hno⟩ | ⟨e0, y, hm0, hk0, hr0, _⟩
  ·exfalso
   rw [hput] at hno
   have h0 := hno (.lit (.bool true))
   have h4 := Go.Maps.atKey_put_same (D := DataW.map ((es.toList.map (Go.WideElems.rg Tryz.prog 193 anyE)).foldr DataW.insert [])) (k := klit i k) ⟨_, rfl⟩ (keyed_place.key hkey) .nil (.lit (.bool true))
   rw [show DataW.put (DataW.map ((es.toList.map (Go.WideElems.rg Tryz.prog 193 anyE)).foldr DataW.insert [])) (klit i k) .nil = DataW.map (Go.ChangeMaps.putKey (klit i k) .nil ((es.toList.map (Go.WideElems.rg Tryz.prog 193 anyE)).foldr DataW.insert [])) from rfl] at h4
   rw [h4] at h0
   cases h0
  ·rcases hw e0 hm0 with ⟨_, hne⟩ | ⟨_, hv'⟩
   ·exact absurd hk0 hne
   ·rw [hr0, ← hv']; rfl
end Go.Proofs.YtihonljdanjfmaaGreatDoor
namespace Go.Proofs.YtihonljdanjfmaaGreatDoor
open Go.RowKit Go.Proofs Go.Shelf
attribute [local go_sem] Oper.semAt_some
def Worth (S : World → Prop) (fv : Value) (W : Int → Int) : Prop := ∃ k first caps, fv = .func (.func k) first caps ∧ (∀ args w, (callFunc k args).run Tryz.prog w = .ok (.enter k args) w) ∧
 ∀ (n : Int) (w : World), 0 ≤ n → n ≤ 4 → S w → Calls Tryz.prog k (first ++ #[.int .i64 n] ++ caps) w fun e w' => e = .returned (.int .i64 (W n)) ∧ Below w.heap.size w w'
def KnownS (W : Int → Int) (st fo : List Int) (i k : Nat) (v : Value) : Prop := ∃ lo hi, v = .agg #[.int .i64 lo, .int .i64 hi] ∧ IsSpan W (TrueL (st.drop i) (fo.drop k)) lo hi
def tellV (kb xb tb vb : Nat) : Value := .func (.func 145) #[] #[.pointer (some ⟨kb, 0, none⟩), .pointer (some ⟨xb, 0, none⟩), .pointer (some ⟨tb, 0, none⟩), .pointer (some ⟨vb, 0, none⟩)]
structure CB where
 kb : Nat
 xb : Nat
 tb : Nat
 vb : Nat
 pb : Nat
 eb : Nat
 qb : Nat
 M : Nat
 K : Nat
structure Tell (w : World) (c : CB) (a : Tl) (sa fa : Option Addr) (sc fc : Nat) (fv : Value) (W : Int → Int) (S : World → Prop) : Prop where
 known : Box w c.kb #[.map (some c.K)] 205
 x : Box w c.xb (pairC a.id a.hs a.st a.fo sa fa sc fc (leftV c.eb c.qb c.pb)) 180
 tell : Box w c.tb #[tellV c.kb c.xb c.tb c.vb] 206
 worth : Box w c.vb #[fv] 120
 half : Half w c.pb c.eb c.qb c.M a.id a.hs a.st a.fo sa fa sc fc
 map : PMap w c.K a.st.length a.fo.length (KnownS W a.st a.fo)
 s : S w
structure TellC (c : CB) (a : Tl) (fv : Value) (W : Int → Int) (S : World → Prop) (n0 : Nat) : Prop where
 ne : c.M ≠ c.K
 l1 : a.st.length ≤ 1000
 l2 : a.fo.length ≤ 1000
 o1 : okN a.st = true
 o2 : okN a.fo = true
 wf : Worth S fv W
 w0 : W 0 = 0
 wb : ∀ n, -1000 ≤ W n ∧ W n ≤ 1000
 sk : ∀ w w', S w → Keep (fun b => b < n0 ∧ b ≠ c.M ∧ b ≠ c.K) w w' → S w'
theorem sumW_bound {W : Int → Int} (wb : ∀ n, -1000 ≤ W n ∧ W n ≤ 1000) (l : List Int) : -(1000 * l.length : Int) ≤ sumW W l ∧ sumW W l ≤ 1000 * l.length := by
 induction l with
 | nil => simp [sumW]
 | cons x l ih =>
  have := wb x
  have e : sumW W (x :: l) = W x + sumW W l := by simp [sumW]
  rw [e, List.length_cons]
  omega
theorem span_bound {W : Int → Int} (wb : ∀ n, -1000 ≤ W n ∧ W n ≤ 1000) {s f : List Int} (hs : s.length ≤ 1000) (hf : f.length ≤ 1000) {lo hi : Int} (h : IsSpan W (TrueL s f) lo hi) : -2000000 ≤ lo ∧ lo ≤ 2000000 ∧ -2000000 ≤ hi ∧ hi ≤ 2000000 := by
 obtain ⟨l1, p1, e1⟩ := h.lo
 obtain ⟨l2, p2, e2⟩ := h.hi
 have := p1.length_le; have := p2.length_le
 have b1 := sumW_bound wb l1; have b2 := sumW_bound wb l2
 omega
theorem wrap_mid {n : Int} (h0 : -100000000 ≤ n) (h1 : n ≤ 100000000) : IntKind.i64.wrap n = n := by
 simp only [IntKind.wrap, IntKind.signed, IntKind.bits]
 simp
 omega
theorem step_notch {st fo : List Int} (hs : okN st = true) (hf : okN fo = true) {i k : Nat} {x : St} (hx : x ∈ stepsL st fo i k) {n : Int} (hn : n ∈ notchesL x) : 0 ≤ n ∧ n ≤ 4 := by
 have ok : ∀ {xs : List Int}, okN xs = true → ∀ {i : Nat} (hi : i < xs.length), 0 ≤ xs[i] ∧ xs[i] ≤ 4 := fun {xs} h {i} hi => by
  unfold okN at h
  rw [List.all_eq_true] at h
  have := h _ (List.getElem_mem hi)
  simp at this
  omega
 have hb : (0 ≤ x.s ∧ x.s ≤ 4) ∧ (0 ≤ x.f ∧ x.f ≤ 4) := by
  rw [stepsL, List.mem_append, List.mem_append] at hx
  rcases hx with hx | hx | hx
  ·by_cases hh : i < st.length ∧ k < fo.length
   ·rw [step1_yes hh.1 hh.2, List.mem_singleton] at hx
    subst hx
    exact ⟨ok hs hh.1, ok hf hh.2⟩
   ·rw [step1_no hh] at hx; cases hx
  ·by_cases hh : i < st.length
   ·rw [step2_yes k hh, List.mem_singleton] at hx
    subst hx
    exact ⟨ok hs hh, (show (0 : Int) ≤ 0 by omega), (show (0 : Int) ≤ 4 by omega)⟩
   ·rw [step2_no k hh] at hx; cases hx
  ·by_cases hh : k < fo.length
   ·rw [step3_yes i hh, List.mem_singleton] at hx
    subst hx
    exact ⟨⟨(show (0 : Int) ≤ 0 by omega), (show (0 : Int) ≤ 4 by omega)⟩, ok hf hh⟩
   ·rw [step3_no i hh] at hx; cases hx
 unfold notchesL at hn
 split at hn <;> simp at hn
 ·subst hn; exact hb.1
 ·rcases hn with rfl | rfl
  ·exact hb.1
  ·exact hb.2
theorem notchesL_len (x : St) : 1 ≤ (notchesL x).length ∧ (notchesL x).length ≤ 2 := by unfold notchesL; split <;> simp
theorem stepsL_le (st fo : List Int) (i k : Nat) : (stepsL st fo i k).length ≤ 3 := by
 have h1 : (step1 st fo i k).length ≤ 1 := by unfold step1; split <;> simp
 have h2 : (step2 st i k).length ≤ 1 := by unfold step2; split <;> simp
 have h3 : (step3 fo i k).length ≤ 1 := by unfold step3; split <;> simp
 unfold stepsL
 simp only [List.length_append]; omega
theorem Tell.keepZ {w w' : World} {c : CB} {a : Tl} {sa fa : Option Addr} {sc fc : Nat} {fv : Value} {W : Int → Int} {S : World → Prop} {Z : Nat → Prop} (h : Tell w c a sa fa sc fc fv W S) (kp : Keep Z w w') (hz : ∀ b, CellAt w b → Z b) (hM : PMap w' c.M a.st.length a.fo.length (Known a.st a.fo)) (hK : PMap w' c.K a.st.length a.fo.length (KnownS W a.st a.fo)) (hS : S w') :
  Tell w' c a sa fa sc fc fv W S :=
 ⟨kp.box (hz _ h.known.at_) h.known, kp.box (hz _ h.x.at_) h.x, kp.box (hz _ h.tell.at_) h.tell, kp.box (hz _ h.worth.at_) h.worth,
  ⟨kp.box (hz _ h.half.pair.at_) h.half.pair, kp.box (hz _ h.half.fin.at_) h.half.fin, kp.box (hz _ h.half.known.at_) h.half.known, hM, kp.rdI (fun hx _ hp => hz _ (rd_at h.half.s hx hp)) h.half.s, kp.rdI (fun hx _ hp => hz _ (rd_at h.half.f hx hp)) h.half.f⟩, hK, hS⟩
theorem Tell.below {w w' : World} {c : CB} {a : Tl} {sa fa : Option Addr} {sc fc : Nat} {fv : Value} {W : Int → Int} {S : World → Prop} {n0 : Nat} (hc : TellC c a fv W S n0) (h : Tell w c a sa fa sc fc fv W S) (hb : Below w.heap.size w w') : Tell w' c a sa fa sc fc fv W S :=
 h.keepZ (Keep.of_below (Z := fun b => b < w.heap.size) hb (fun _ _ h => h)) (fun b ⟨_, ho, _⟩ => (Array.getElem?_eq_some_iff.1 ho).1) (h.half.map.kept (hb.block _ h.half.map.lt)) (h.map.kept (hb.block _ h.map.lt))
  (hc.sk _ _ h.s (Keep.of_below hb (fun k hk _ => hk)))
def TellP (c : CB) (a : Tl) (W : Int → Int) (i k : Nat) (w : World) (e : Ending) (w' : World) : Prop := ∃ lo hi, e = .returned (.agg #[.int .i64 lo, .int .i64 hi]) ∧ IsSpan W (TrueL (a.st.drop i) (a.fo.drop k)) lo hi ∧ Keep (fun b => b ≠ c.M ∧ b ≠ c.K) w w' ∧ PMap w' c.M a.st.length a.fo.length (Known a.st a.fo) ∧ PMap w' c.K a.st.length a.fo.length (KnownS W a.st a.fo)
def ByS (a : Tl) (xs : List St) (l : List Int) : Prop := ∃ x ∈ xs, ∃ n ∈ notchesL x, ∃ r, TrueL (a.st.drop x.i) (a.fo.drop x.k) r ∧ l = preL n r
def ByN (a : Tl) (x : St) (ns : List Int) (l : List Int) : Prop := ∃ n ∈ ns, ∃ r, TrueL (a.st.drop x.i) (a.fo.drop x.k) r ∧ l = preL n r
theorem byS_snoc (a : Tl) (xs : List St) (x : St) (l : List Int) : ByS a (xs ++ [x]) l ↔ ByS a xs l ∨ ByN a x (notchesL x) l := by
 constructor
 ·rintro ⟨y, hy, h⟩
  rcases List.mem_append.1 hy with hy | hy
  ·exact .inl ⟨y, hy, h⟩
  ·rw [List.mem_singleton] at hy; subst hy; exact .inr h
 ·rintro (⟨y, hy, h⟩ | h)
  ·exact ⟨y, by simp [hy], h⟩
  ·exact ⟨x, by simp, h⟩
theorem byN_snoc (a : Tl) (x : St) (ns : List Int) (n : Int) (l : List Int) : ByN a x (ns ++ [n]) l ↔ ByN a x ns l ∨ ∃ r, TrueL (a.st.drop x.i) (a.fo.drop x.k) r ∧ l = preL n r := by
 constructor
 ·rintro ⟨y, hy, h⟩
  rcases List.mem_append.1 hy with hy | hy
  ·exact .inl ⟨y, hy, h⟩
  ·rw [List.mem_singleton] at hy; subst hy; exact .inr h
 ·rintro (⟨y, hy, h⟩ | h)
  ·exact ⟨y, by simp [hy], h⟩
  ·exact ⟨n, by simp, h⟩
theorem infoSpan : (Tryz.prog.info? 73).map (fun i => (i.zero, i.size, i.bytes)) = some (some (.agg #[.int .i64 0, .int .i64 0]), 2, 16) := by kernel_rfl
structure ComI (c : CB) (a : Tl) (sa fa : Option Addr) (sc fc : Nat) (fv : Value) (W : Int → Int) (S : World → Prop) (i k N : Nat) (w : World) (P : List Int → Prop) (m : Nat) (Q : Nat → Prop) (W' : World) : Prop where
 p5 : Box W' N #[.int .i64 i, .int .i64 k] 193
 p6 : Box W' (N + 1) #[.int .i64 0, .int .i64 0] 73
 l9 : ∃ ss la lc, Box W' (N + 4) #[.slice la ss.length lc] 208 ∧ W'.ownsRow (N + 3) 73 2 (.slice la ss.length lc) ss.length (rowC spC ss) ∧ SpanAcc W P ss ∧ ss.length ≤ m ∧ ∀ g, (Value.slice la ss.length lc).ownBlock = some g → ¬ Q g
 tell : Tell W' c a sa fa sc fc fv W S
 kp : Keep (fun b => b < N ∧ b ≠ c.M ∧ b ≠ c.K) w W'
theorem ComI.keepZ {c : CB} {a : Tl} {sa fa : Option Addr} {sc fc : Nat} {fv : Value} {W : Int → Int} {S : World → Prop} {n0 i k N m : Nat} {w W1 W2 : World} {P : List Int → Prop} {Q Z : Nat → Prop} (hc : TellC c a fv W S n0) (hn : n0 ≤ N) (h : ComI c a sa fa sc fc fv W S i k N w P m Q W1) (kp : Keep Z W1 W2) (hz : ∀ b, CellAt W1 b → Z b) (h0 : ∀ b, b < N → b ≠ c.M → b ≠ c.K → Z b)
  (hM : PMap W2 c.M a.st.length a.fo.length (Known a.st a.fo)) (hK : PMap W2 c.K a.st.length a.fo.length (KnownS W a.st a.fo)) : ComI c a sa fa sc fc fv W S i k N w P m Q W2 := by
 obtain ⟨ss, la, lc, g1, g2, g3, g4⟩ := h.l9
 exact ⟨kp.box (hz _ h.p5.at_) h.p5, kp.box (hz _ h.p6.at_) h.p6, ⟨ss, la, lc, kp.box (hz _ g1.at_) g1, own_kp' g2 kp (fun g hg => hz _ (own_at g2 g hg)), g3, g4⟩,
  h.tell.keepZ kp hz hM hK (hc.sk _ _ h.tell.s (kp.mono (fun b _ hb => h0 b (by have := hb.1; omega) hb.2.1 hb.2.2))), h.kp.trans (kp.mono (fun b _ hb => h0 b hb.1 hb.2.1 hb.2.2))⟩
theorem ComI.iff {c : CB} {a : Tl} {sa fa : Option Addr} {sc fc : Nat} {fv : Value} {W : Int → Int} {S : World → Prop} {i k N m m' : Nat} {w W1 : World} {P P' : List Int → Prop} {Q Q' : Nat → Prop} (h : ComI c a sa fa sc fc fv W S i k N w P m Q W1) (hq : ∀ x, P x ↔ P' x) (hm : m ≤ m') (hQ : ∀ g, N + 3 ≤ g → g < W1.heap.size → ¬ Q g → ¬ Q' g) : ComI c a sa fa sc fc fv W S i k N w P' m' Q' W1 := by
 obtain ⟨ss, la, lc, g1, g2, g3, g4, g5⟩ := h.l9
 exact ⟨h.p5, h.p6, ⟨ss, la, lc, g1, g2, g3.iff hq, by omega, fun g hg => hQ g (g2.lt g hg).1 (g2.lt g hg).2 (g5 g hg)⟩, h.tell, h.kp⟩
theorem ComI.below {c : CB} {a : Tl} {sa fa : Option Addr} {sc fc : Nat} {fv : Value} {W : Int → Int} {S : World → Prop} {n0 i k N m : Nat} {w W1 W2 : World} {P : List Int → Prop} {Q : Nat → Prop} (hc : TellC c a fv W S n0) (hn : n0 ≤ N) (h : ComI c a sa fa sc fc fv W S i k N w P m Q W1) (hN : N ≤ W1.heap.size) (hb : Below W1.heap.size W1 W2) : ComI c a sa fa sc fc fv W S i k N w P m Q W2 :=
 h.keepZ hc hn (Keep.of_below (Z := fun b => b < W1.heap.size) hb (fun _ _ h => h)) (fun b ⟨_, ho, _⟩ => (Array.getElem?_eq_some_iff.1 ho).1) (fun b hb _ _ => show b < W1.heap.size by omega) (h.tell.half.map.kept (hb.block _ h.tell.half.map.lt)) (h.tell.map.kept (hb.block _ h.tell.map.lt))
theorem KpB.of_keepZ {R : Nat → Prop} {M : Nat} {st fo : List Int} {W W' : World} {Z : Nat → Prop} (kp : Keep Z W W') (hz : ∀ b, CellAt W b → Z b) (hR : ∀ b, R b → Z b) (hm : PMap W M st.length fo.length (Known st fo) → PMap W' M st.length fo.length (Known st fo)) : KpB R M st fo W W' :=
 ⟨kp.os, kp.tape, kp.output, kp.size, fun b cs t hb _ => kp.box (hz _ hb.at_) hb, fun k hk hr => kp.block k hk (hR k hr), hm⟩
structure ComB (c : CB) (a : Tl) (sa fa : Option Addr) (sc fc : Nat) (fv : Value) (W : Int → Int) (S : World → Prop) (i k N : Nat) (w : World) (P : List Int → Prop) (m : Nat) (Q : Nat → Prop) (L : Nat) (W1 : World) (p11 : Nat) (lo hi : Int) (na : Option Addr) (ns : List Int) (ss : List (Int × Int)) (la : Option Addr) (lc : Nat) (W' : World) : Prop where
 com : ComI c a sa fa sc fc fv W S i k N w P m Q W'
 b11 : Box W' p11 #[.int .i64 lo, .int .i64 hi] 73
 rn : RdI W' na ns
 kb : KpB (fun b => b < N ∧ b ≠ c.M ∧ b ≠ c.K) c.M a.st a.fo W1 W'
 kf : KeepsFrom L W1 W'
 z : W1.heap.size ≤ W'.heap.size
 g1 : Box W' (N + 4) #[.slice la ss.length lc] 208
 g2 : W'.ownsRow (N + 3) 73 2 (.slice la ss.length lc) ss.length (rowC spC ss)
 g3 : ∀ g, (Value.slice la ss.length lc).ownBlock = some g → ¬ Q g
theorem ComB.below {c : CB} {a : Tl} {sa fa : Option Addr} {sc fc : Nat} {fv : Value} {W : Int → Int} {S : World → Prop} {n0 i k N m L p11 : Nat} {w W1 W2 W3 : World} {P : List Int → Prop} {Q : Nat → Prop} {lo hi : Int} {na : Option Addr} {ns : List Int} {ss : List (Int × Int)} {la : Option Addr} {lc : Nat} (hc : TellC c a fv W S n0) (hn : n0 ≤ N) (h : ComB c a sa fa sc fc fv W S i k N w P m Q L W1 p11 lo hi na ns ss la lc W2) (hN : N ≤ W2.heap.size) (hb : Below W2.heap.size W2 W3) : ComB c a sa fa sc fc fv W S i k N w P m Q L W1 p11 lo hi na ns ss la lc W3 :=
 ⟨h.com.below hc hn hN hb, h.b11.below hb h.b11.lt, h.rn.below hb, h.kb.trans (KpB.of_keepZ (Keep.of_below (Z := fun b => b < W2.heap.size) hb (fun _ _ h => h)) (fun b ⟨_, ho, _⟩ => (Array.getElem?_eq_some_iff.1 ho).1) (fun b hb => by have := hb.1; show b < W2.heap.size; omega) (fun h => h.kept (hb.block _ h.lt))), h.kf.trans (kf_below hb), Nat.le_trans h.z hb.size, h.g1.below hb h.g1.lt, own_below h.g2 hb (Nat.le_refl _), h.g3⟩
structure TellLt (c : CB) (N : Nat) : Prop where
 kb : c.kb < N
 xb : c.xb < N
 tb : c.tb < N
 vb : c.vb < N
 pb : c.pb < N
 eb : c.eb < N
 qb : c.qb < N
 M : c.M < N
 K : c.K < N
theorem Tell.low {w w' : World} {c : CB} {a : Tl} {sa fa : Option Addr} {sc fc : Nat} {fv : Value} {W : Int → Int} {S : World → Prop} {n0 N : Nat} (hc : TellC c a fv W S n0) (hn : n0 ≤ N) (h : Tell w c a sa fa sc fc fv W S) (hlt : TellLt c N) (r3 : a.st ≠ [] → ∀ {p : Addr}, sa = some p → p.block < N) (r4 : a.fo ≠ [] → ∀ {p : Addr}, fa = some p → p.block < N) (kp : Keep (· < N) w w') : Tell w' c a sa fa sc fc fv W S :=
 ⟨kp.box hlt.kb h.known, kp.box hlt.xb h.x, kp.box hlt.tb h.tell, kp.box hlt.vb h.worth,
  ⟨kp.box hlt.pb h.half.pair, kp.box hlt.eb h.half.fin, kp.box hlt.qb h.half.known, kp.pmap hlt.M h.half.map, kp.rdI (fun hx p hp => r3 hx hp) h.half.s, kp.rdI (fun hx p hp => r4 hx hp) h.half.f⟩, kp.pmap hlt.K h.map, hc.sk _ _ h.s (kp.mono (fun b _ hb => by have := hb.1; show b < N; omega))⟩
set_option maxRecDepth 20000 in
set_option maxHeartbeats 4000000 in
theorem tell_step (c : CB) (a : Tl) (sa fa : Option Addr) (sc fc : Nat) (fv : Value) (W : Int → Int) (S : World → Prop) (n0 : Nat) (hc : TellC c a fv W S n0) (i k : Nat) (hi : i ≤ a.st.length) (hk : k ≤ a.fo.length)
  (ih : ∀ i' k' w', i' ≤ a.st.length → k' ≤ a.fo.length → (a.st.length - i') + (a.fo.length - k') < (a.st.length - i) + (a.fo.length - k) → n0 ≤ w'.heap.size → Tell w' c a sa fa sc fc fv W S →
   Calls Tryz.prog 145 #[plc i' k', .pointer (some ⟨c.kb, 0, none⟩), .pointer (some ⟨c.xb, 0, none⟩), .pointer (some ⟨c.tb, 0, none⟩), .pointer (some ⟨c.vb, 0, none⟩)] w' (TellP c a W i' k' w'))
  (w : World) (hn0 : n0 ≤ w.heap.size) (hT : Tell w c a sa fa sc fc fv W S) :
  Calls Tryz.prog 145 #[plc i k, .pointer (some ⟨c.kb, 0, none⟩), .pointer (some ⟨c.xb, 0, none⟩), .pointer (some ⟨c.tb, 0, none⟩), .pointer (some ⟨c.vb, 0, none⟩)] w (TellP c a W i k w) := by
 have hm := mixedS
 obtain ⟨i0, hi0, iz0, iz1, iz2⟩ := info_parts infoSpan
 have IH := hid ih; clear ih
 have hc' := hc
 obtain ⟨kf, first, caps, rfl, eg, hcall⟩ := hc'.wf
 have EG := hid eg; have HC := hid hcall
 clear eg hcall hc'
 have HT := hid hT
 have k0 : w.cell? ⟨c.kb, 0, none⟩ = some (.map (some c.K)) := hT.known.cell 0
 have lk := hT.known.lt
 have hlk := (hT.map.alloc (.cells #[.int .i64 i, .int .i64 k] 193)).alloc (.cells #[.int .i64 0, .int .i64 0] 73)
 have hlk := hlk.look (t := 205) (e := 73) Tryz.underlying205 (z := .agg #[.int .i64 0, .int .i64 0]) (Tryz.zeroValue73 _) (i := i) (k := k) (by have := hc.l1; omega) (by have := hc.l2; omega)
 clear hT
 apply (callsIn_wide (n := 4)).1
 refine callsIn_of_wp_marks Tryz.func145 rfl trivial ?_ rfl
 simp only [Tryz.ntmps145, List.size_toArray, List.length_cons, List.length_nil, Nat.reduceAdd, Nat.reduceSub, Array.replicate_succ, Array.replicate_zero, List.push_toArray, List.append_toArray, List.nil_append, List.cons_append]
 unfold plc at hlk ⊢
 rcases hlk with hrun | ⟨v, ⟨lo, hi2, rfl, hsp⟩, hrun⟩
 ·have x0 : w.cell? ⟨c.xb, 0, none⟩ = some (.int .i64 a.id) := HT.out.x.cell 0
  have x1 : w.cell? ⟨c.xb, 1, none⟩ = some (.int .i64 a.hs) := HT.out.x.cell 1
  have x2 : w.cell? ⟨c.xb, 2, none⟩ = some (.slice sa a.st.length sc) := HT.out.x.cell 2
  have x3 : w.cell? ⟨c.xb, 3, none⟩ = some (.slice fa a.fo.length fc) := HT.out.x.cell 3
  have x4 : w.cell? ⟨c.xb, 4, none⟩ = some (leftV c.eb c.qb c.pb) := HT.out.x.cell 4
  have lx := HT.out.x.lt
  have lx1 : c.xb < w.heap.size + 1 := by omega
  have lx2 : c.xb < w.heap.size + 1 + 1 := by omega
  have lx3 : c.xb < w.heap.size + 1 + 1 + 1 := by omega
  have lx4 : c.xb < w.heap.size + 1 + 1 + 1 + 1 := by omega
  gi_wp2_with (fail)
  refine ⟨trivial, ?_⟩
  gi_at_call 146
  refine (callsIn_wide.2 (best_any #[.int .i64 a.id, .int .i64 a.hs, .slice sa a.st.length sc, .slice fa a.fo.length fc, leftV c.eb c.qb c.pb] i k _ rfl)).mono ?_
  rintro e w3 ⟨rfl, rfl⟩
  gi_wp2_with (fail)
  obtain ⟨N, hN⟩ : ∃ N, N = w.heap.size := ⟨_, rfl⟩
  refine wpIn_world (fun wL => Box wL N #[.int .i64 i, .int .i64 k] 193 ∧ Box wL (N + 1) #[.int .i64 0, .int .i64 0] 73 ∧ wL.ownsRow (N + 3) 73 2 (.slice (some ⟨N + 3, 0, none⟩) 0 0) 0 [] ∧ Box wL (N + 4) #[.slice (some ⟨N + 3, 0, none⟩) 0 0] 208 ∧ Box wL (N + 5) (pairC a.id a.hs a.st a.fo sa fa sc fc (leftV c.eb c.qb c.pb)) 180 ∧ Box wL (N + 6) #[.int .i64 i, .int .i64 k] 193 ∧ Below w.heap.size w wL ∧ N + 7 ≤ wL.heap.size) ⟨?_, ?_, ?_, ?_, ?_, ?_, ?_, ?_⟩ ?_
  ·rw [hN]; exact ((((((Box.at _ _ (by first | omega | (simp; done) | (simp; omega))).alloc _).alloc _).alloc _).alloc _).alloc _).alloc _
  ·rw [hN]; exact (((((Box.at _ _ (by first | omega | (simp; done) | (simp; omega))).alloc _).alloc _).alloc _).alloc _).alloc _
  ·rw [hN]; exact (((own_lit (by first | omega | (simp; done) | (simp; omega)) (Nat.le_refl _) (by omega) rfl rfl).alloc _).alloc _).alloc _
  ·rw [hN]; exact ((Box.at _ _ (by first | omega | (simp; done) | (simp; omega))).alloc _).alloc _
  ·rw [hN]; exact (Box.at _ _ (by first | omega | (simp; done) | (simp; omega))).alloc _
  ·rw [hN]; exact Box.at _ _ (by first | omega | (simp; done) | (simp; omega))
  ·exact goBl
  ·rw [hN]; simp
  rintro wL ⟨b5, b6, o9, b9, bC, bD, hbL, zL⟩
  rw [← hN]
  have hMN : c.M < N := by have := HT.out.half.map.lt; omega
  have hKN : c.K < N := by have := HT.out.map.lt; omega
  have hn : n0 ≤ N := by omega
  have kpL : Keep (fun b => b < N ∧ b ≠ c.M ∧ b ≠ c.K) w wL := Keep.of_below hbL (fun b _ hb => by have := hb.1; omega)
  have tL := HT.out.below hc hbL
  have I0 : ComI c a sa fa sc fc (.func (.func kf) first caps) W S i k N w (fun l => ByS a [] l) 0 (fun _ => False) wL := ⟨b5, b6, ⟨[], _, 0, b9, o9, .nil (fun l ⟨_, h, _⟩ => by cases h), Nat.le_refl _, fun _ _ h => h⟩, tL, kpL⟩
  have hH := tL.half
  clear hrun k0 lk x0 x1 x2 x3 x4 lx lx1 lx2 lx3 lx4 b5 b6 o9 b9 hbL kpL
  have hLT : TellLt c N := ⟨by have := HT.out.known.lt; omega, by have := HT.out.x.lt; omega, by have := HT.out.tell.lt; omega, by have := HT.out.worth.lt; omega, by have := HT.out.half.pair.lt; omega, by have := HT.out.half.fin.lt; omega, by have := HT.out.half.known.lt; omega, hMN, hKN⟩
  have R3 := fun hx {p} => row_lt (p := p) HT.out.half.s hx; have R4 := fun hx {p} => row_lt (p := p) HT.out.half.f hx
  rw [← hN] at R3 R4
  have HN := hid hN
  clear hN
  refine wpIn_range_X rfl (by omega) (gf := 160) (lb := #[.pointer (some ⟨N + 5, 0, none⟩), .pointer (some ⟨N + 6, 0, none⟩)]) rfl trivial (enters_of Tryz.func160 (by kernel_rfl) rfl)
   (best1_stops (N + 5) (N + 6) c.pb c.eb c.qb c.M a.id a.hs a.st a.fo sa fa sc fc i k hi hk (by have := hc.l1; omega) (by have := hc.l2; omega) (fun b => b < N ∧ b ≠ c.M ∧ b ≠ c.K) (fun h => h.2.1 rfl) (fun hx p hp => ⟨R3 hx hp, hH.map.ne_row hH.s hx hp, tL.map.ne_row hH.s hx hp⟩) (fun hx p hp => ⟨R4 hx hp, hH.map.ne_row hH.f hx hp, tL.map.ne_row hH.f hx hp⟩) wL bC bD hH)
   (fun h k => h.trans k) ?kb (Below.refl _ _) (fun _ => rfl) ?hSt
   (fun pre W' => ComI c a sa fa sc fc (.func (.func kf) first caps) W S i k N w (fun l => ByS a (pre.map (·.1)) l) (2 * pre.length) (fun _ => False) W' ∧ wL.heap.size ≤ W'.heap.size)
   (fun _ _ _ => False) ?hI ?hIx ⟨I0, Nat.le_refl _⟩
   (fun x a' W' => ∃ Bx, wL.heap.size ≤ Bx ∧ Box W' Bx #[.int .i64 x.1.i, .int .i64 x.1.k, .int .i64 x.1.s, .int .i64 x.1.f, .int .i64 x.1.wr] 204 ∧ ∃ f : Nat → Value, a' = ⟨((List.range 66).map f).toArray, []⟩ ∧ f 3 = .pointer (some ⟨c.tb, 0, none⟩) ∧ f 4 = .pointer (some ⟨c.vb, 0, none⟩) ∧ f 9 = .pointer (some ⟨N + 4, 0, none⟩) ∧ f 10 = .pointer (some ⟨Bx, 0, none⟩)) ?hAx ?assign ?body ?done ?stop
  case kb =>
   intro W1 l1 o o' hl1 ho hco _
   have k1 : Keep (· ≠ l1) W1 (W1.putObj l1 o') := (Keep.refl _ _).putObj _ _ (fun _ h => h rfl)
   exact KpB.of_keepZ k1 (fun b hb e => by subst e; obtain ⟨o2, h2, h3⟩ := hb; rw [ho] at h2; cases h2; rw [hco] at h3; cases h3) (fun b hb => show b ≠ l1 by have := hb.1; omega) (fun h => h.kept (World.putObj_heap_other (show c.M ≠ l1 by omega)))
  case hSt => exact fun A B h => keepsFrom_of h.1 (show c.M < wL.heap.size by omega)
  case hI =>
   refine ⟨?_, ?_⟩
   ·rintro pre W1 W2 row ⟨I1, z1⟩ hg hr
    have hrc : ∀ r, row = some r → ∃ o : Obj, W1.heap[r]? = some o ∧ o.isCells = false := fun r e => (hr r e).2
    have hlt : ∀ b, b < N → row ≠ some b := fun b hb e => by have := (hr b e).1; omega
    exact ⟨I1.keepZ hc hn (keep_of_grown hg) (fun b hb => cell_not_row hrc hb) (fun b hb _ _ => hlt b hb) (I1.tell.half.map.kept (hg.block c.M I1.tell.half.map.lt (fun e => hlt _ hMN e.symm))) (I1.tell.map.kept (hg.block c.K I1.tell.map.lt (fun e => hlt _ hKN e.symm))), Nat.le_trans z1 hg.size⟩
   ·rintro pre W1 W2 ⟨I1, z1⟩ ⟨hk, hp⟩
    exact ⟨I1.keepZ hc hn hk (fun b hb => map_not_cell I1.tell.half.map hb) (fun b _ hb _ => hb) (hp I1.tell.half.map) (hk.pmap (show c.K ≠ c.M from Ne.symm hc.ne) I1.tell.map), Nat.le_trans z1 hk.size⟩
  case hIx => exact fun _ => ⟨fun _ _ _ _ h _ _ => h, fun _ _ _ h _ => h⟩
  case hAx =>
   rintro x a' _ W1 W2 row ⟨Bx, hB, hb, hf⟩ hg hr
   exact ⟨Bx, hB, box_own hb hg (fun r e => (hr r e).2), hf⟩
  case assign =>
   rintro l2 pre ⟨x, hx⟩ W1 K ⟨I1, z1⟩ hK
   simp only [St.val]
   gi_wp2
   have k1 := (Keep.refl (fun b => b < W1.heap.size) W1).alloc (.cells #[.int .i64 x.i, .int .i64 x.k, .int .i64 x.s, .int .i64 x.f, .int .i64 x.wr] 204)
   refine hK _ _ ((KeepsOthers.alloc _ _).from _) (KpB.of_keepZ k1 (fun b ⟨_, ho, _⟩ => (Array.getElem?_eq_some_iff.1 ho).1) (fun b hb => by have := hb.1; show b < W1.heap.size; omega) (fun h => h.alloc _)) ⟨I1.keepZ hc hn k1 (fun b ⟨_, ho, _⟩ => (Array.getElem?_eq_some_iff.1 ho).1) (fun b hb _ _ => by show b < W1.heap.size; omega) (I1.tell.half.map.alloc _) (I1.tell.map.alloc _), by simp; omega⟩ ⟨W1.heap.size, z1, Box.new _ _ _, ?_⟩
   refine acts_of rfl ?_
   exact ⟨rfl, rfl, rfl, rfl⟩
  case body =>
   rintro l2 pre ⟨x, hx⟩ a' W1 hl' ⟨r, hr⟩ ⟨I1, z1⟩ ⟨Bx, hBx, bX, f, rfl, f3, f4, f9, f10⟩ hlt2
   obtain ⟨b1, b2, b3, b4, b5⟩ := step_bound hx hi hk
   rw [show (List.range 66).map f = [f 0, f 1, f 2, f 3, f 4, f 5, f 6, f 7, f 8, f 9, f 10, f 11, f 12, f 13, f 14, f 15, f 16, f 17, f 18, f 19, f 20, f 21, f 22, f 23, f 24, f 25, f 26, f 27, f 28, f 29, f 30, f 31, f 32, f 33, f 34, f 35, f 36, f 37, f 38, f 39, f 40, f 41, f 42, f 43, f 44, f 45, f 46, f 47, f 48, f 49, f 50, f 51, f 52, f 53, f 54, f 55, f 56, f 57, f 58, f 59, f 60, f 61, f 62, f 63, f 64, f 65] from rfl, f3, f4, f9, f10]
   clear f3 f4 f9 f10
   have y0 : W1.cell? ⟨c.tb, 0, none⟩ = some (tellV c.kb c.xb c.tb c.vb) := I1.tell.tell.cell 0
   have x0 : W1.cell? ⟨Bx, 0, none⟩ = some (.int .i64 x.i) := bX.cell 0
   have x1 : W1.cell? ⟨Bx, 1, none⟩ = some (.int .i64 x.k) := bX.cell 1
   have II := hid I1; have BB := hid bX
   clear I1 bX
   unfold tellV at y0
   gi_wp2_with (fail)
   refine ⟨trivial, ?_⟩
   gi_at_call 145
   refine (CallsIn.inRound l2 (callsIn_wide.2 (IH.out x.i x.k W1 b1 b2 b3 (by omega) II.out.tell))).mono ?_
   rintro e w5 ⟨lo, hi5, rfl, hsp, kp5, hM5, hK5⟩
   have hcel : ∀ b, CellAt W1 b → b ≠ c.M ∧ b ≠ c.K := fun b hb => ⟨map_not_cell II.out.tell.half.map hb, map_not_cell II.out.tell.map hb⟩
   have I5 := hid (II.out.keepZ hc hn kp5 hcel (fun b _ h1 h2 => ⟨h1, h2⟩) hM5 hK5)
   have B5 := hid (kp5.box (hcel _ BB.out.at_) BB.out)
   have KB5 : KpB (fun b => b < N ∧ b ≠ c.M ∧ b ≠ c.K) c.M a.st a.fo W1 w5 := KpB.of_keepZ kp5 hcel (fun b hb => hb.2) (fun _ => hM5)
   have KF5 : KeepsFrom wL.heap.size W1 w5 := ⟨kp5.size, fun q o hB hq _ => (kp5.block q (Array.getElem?_eq_some_iff.1 hq).1 ⟨by omega, by omega⟩).trans hq⟩
   have z5 := kp5.size
   have sb := span_bound hc.wb (by have := hc.l1; simp; omega) (by have := hc.l2; simp; omega) hsp
   clear kp5 hM5 hK5 hcel x0 x1 y0
   obtain ⟨⟨v0, v1, v2, v3, v4⟩, lv⟩ : (w5.cell? ⟨Bx, 0, none⟩ = some (.int .i64 x.i) ∧ w5.cell? ⟨Bx, 1, none⟩ = some (.int .i64 x.k) ∧ w5.cell? ⟨Bx, 2, none⟩ = some (.int .i64 x.s) ∧ w5.cell? ⟨Bx, 3, none⟩ = some (.int .i64 x.f) ∧ w5.cell? ⟨Bx, 4, none⟩ = some (.int .i64 x.wr)) ∧ Bx < w5.heap.size := ⟨⟨B5.out.cell 0, B5.out.cell 1, B5.out.cell 2, B5.out.cell 3, B5.out.cell 4⟩, B5.out.lt⟩
   gi_wp2_with (fail)
   refine ⟨trivial, ?_⟩
   gi_at_call 147
   refine (CallsIn.inRound l2 (callsIn_wide.2 (notches_step x _))).mono ?_
   rintro e w6 ⟨na, nc, rfl, hna, hb6, hnf⟩
   obtain ⟨p11, hp11⟩ : ∃ p, p = w5.heap.size := ⟨_, rfl⟩
   obtain ⟨L6, hL6⟩ : ∃ L, L = w6.heap.size := ⟨_, rfl⟩
   have B11 := hid ((Box.at (w := w5) #[.int .i64 lo, .int .i64 hi5] 73 hp11).below hb6 (by simp; omega))
   have hb65 : Below w5.heap.size w5 w6 := ((Below.refl _ w5).alloc (Nat.le_refl _) _).trans (hb6.mono (by simp))
   have kp6 : Keep (fun b => b < w5.heap.size) w5 w6 := Keep.of_below hb65 (fun _ _ h => h)
   have cel6 : ∀ b, CellAt w5 b → b < w5.heap.size := fun b ⟨_, ho, _⟩ => (Array.getElem?_eq_some_iff.1 ho).1
   have hNW : N + 7 ≤ w5.heap.size := by omega
   have I5q := I5.out.iff (Q' := fun b => p11 ≤ b ∧ b < L6) (fun _ => Iff.rfl) (Nat.le_refl _) (fun g _ hg _ hq => by have := hq.1; omega)
   have I6 := hid (I5q.keepZ hc hn kp6 cel6 (fun b hb _ _ => show b < w5.heap.size by omega) (I5.out.tell.half.map.kept (hb65.block _ I5.out.tell.half.map.lt)) (I5.out.tell.map.kept (hb65.block _ I5.out.tell.map.lt)))
   have KB6 := KB5.trans (KpB.of_keepZ kp6 cel6 (fun b hb => by have := hb.1; show b < w5.heap.size; omega) (fun h => h.kept (hb65.block _ h.lt)))
   have KF6 := KF5.trans (kf_below (B := wL.heap.size) hb65)
   have RN := hid hna
   have np : N + 7 ≤ p11 := by omega
   have pL : p11 < L6 := by have := B11.out.lt; omega
   have pz : W1.heap.size ≤ p11 := by omega
   have hnq : ∀ p, na = some p → p11 ≤ p.block ∧ p.block < L6 := fun p e => ⟨by have := hnf p e; simp at this; omega, by rw [hL6]; exact row_lt hna (List.ne_nil_of_length_pos (by have := notchesL_len x; omega)) e⟩
   have zL6 : L6 ≤ w6.heap.size := by omega
   rw [← hp11]
   clear hp11 hL6 hb6 hb65 kp6 cel6 KB5 KF5 v0 v1 v2 v3 v4 lv hna I5 B5 I5q hnf
   have nl := notchesL_len x
   gi_wp2_with (fail)
   gi_loopw [34] (fun p wr => ∃ j : Nat, j ≤ (notchesL x).length ∧ p = .int .i64 j ∧ ComI c a sa fa sc fc (.func (.func kf) first caps) W S i k N w (fun l => ByS a (pre.map (·.1)) l ∨ ByN a x ((notchesL x).take j) l) (2 * pre.length + j) (fun b => p11 ≤ b ∧ b < L6) wr ∧ Box wr p11 #[.int .i64 lo, .int .i64 hi5] 73 ∧ RdI wr na (notchesL x) ∧ KpB (fun b => b < N ∧ b ≠ c.M ∧ b ≠ c.K) c.M a.st a.fo W1 wr ∧ KeepsFrom wL.heap.size W1 wr ∧ L6 ≤ wr.heap.size) (fun p _ => (notchesL x).length - (intOf p).toNat)
   case atStart => exact ⟨0, Nat.zero_le _, rfl, I6.out.iff (fun l => ⟨.inl, fun h => h.resolve_right (fun ⟨_, h, _⟩ => by simp at h)⟩) (by omega) (fun _ _ _ h => h), B11.out, RN.out, KB6, KF6, zL6⟩
   case round =>
    clear I6 B11 RN KB6 KF6 zL6
    obtain ⟨j, hj, rfl, J, b11, rn, kb, kf', zr⟩ := hrel
    by_cases hlt : j < (notchesL x).length
    ·obtain ⟨bn, on, rfl, cn⟩ := rn j hlt
     have hnn := step_notch hc.o1 hc.o2 hx (List.getElem_mem hlt)
     have JJ := hid J; have B11 := hid b11; have RN := hid rn; have KB := hid kb; have KF := hid kf'
     obtain ⟨ss, la, lc, g1, g2, g3, g4, g5⟩ := J.l9
     have q0 : wr.cell? ⟨N + 4, 0, none⟩ = some (.slice la ss.length lc) := g1.cell 0
     have q1 : wr.cell? ⟨c.vb, 0, none⟩ = some (.func (.func kf) first caps) := J.tell.worth.cell 0
     have q2 : wr.cell? ⟨p11, 0, none⟩ = some (.int .i64 lo) := b11.cell 0
     have q3 : wr.cell? ⟨p11, 1, none⟩ = some (.int .i64 hi5) := b11.cell 1
     have G1 := hid g1; have G2 := hid g2; have G3 := hid g3
     have lcn := cell_lt cn
     clear J b11 rn kb kf' g1 g2 g3
     obtain ⟨n, hne⟩ : ∃ n, (notchesL x)[j] = n := ⟨_, rfl⟩
     rw [hne] at cn hnn
     have wbn := hc.wb n
     have hw1 := wrap_mid (n := W n + lo) (by omega) (by omega)
     have hw2 := wrap_mid (n := W n + hi5) (by omega) (by omega)
     gi_wp2_with (fail)
     refine wpIn_region_G [0, 1, 5, 7, 11] (fun w' => w'.cell? ⟨N + 4, 0, none⟩ = some (.slice la ss.length lc) ∧ w'.cell? ⟨c.vb, 0, none⟩ = some (.func (.func kf) first caps) ∧ w'.cell? ⟨p11, 0, none⟩ = some (.int .i64 lo) ∧ w'.cell? ⟨p11, 1, none⟩ = some (.int .i64 hi5)) hm ⟨by go_simp, by go_simp, by go_simp, by go_simp⟩ ?_
     intro hS0; have hS := hid hS0; clear hS0
     have dr : Below wr.heap.size wr wr.drew := ⟨rfl, rfl, rfl, Nat.le_refl _, fun _ _ => rfl⟩
     have BB0 : ComB c a sa fa sc fc (.func (.func kf) first caps) W S i k N w (fun l => ByS a (pre.map (·.1)) l ∨ ByN a x ((notchesL x).take j) l) (2 * pre.length + j) (fun b => p11 ≤ b ∧ b < L6) wL.heap.size W1 p11 lo hi5 (some ⟨bn, on, none⟩) (notchesL x) ss la lc wr := ⟨JJ.out, B11.out, RN.out, KB.out, KF.out, by omega, G1.out, G2.out, g5⟩
     have BB0 := BB0.below hc hn (by omega) dr
     have zd2 : L6 ≤ wr.drew.heap.size := by show L6 ≤ wr.heap.size; omega
     have zd : W1.heap.size ≤ wr.drew.heap.size := by show W1.heap.size ≤ wr.heap.size; omega
     clear JJ B11 RN KB KF zr G1 G2 q0 q1 q2 q3 cn lcn dr
     refine anyWG (fun W' => ComB c a sa fa sc fc (.func (.func kf) first caps) W S i k N w (fun l => ByS a (pre.map (·.1)) l ∨ ByN a x ((notchesL x).take j) l) (2 * pre.length + j) (fun b => p11 ≤ b ∧ b < L6) wL.heap.size W1 p11 lo hi5 (some ⟨bn, on, none⟩) (notchesL x) ss la lc W' ∧ L6 ≤ W'.heap.size ∧ (W'.cell? ⟨N + 4, 0, none⟩ = some (.slice la ss.length lc) ∧ W'.cell? ⟨c.vb, 0, none⟩ = some (.func (.func kf) first caps) ∧ W'.cell? ⟨p11, 0, none⟩ = some (.int .i64 lo) ∧ W'.cell? ⟨p11, 1, none⟩ = some (.int .i64 hi5))) ⟨BB0, zd2, hS.out⟩ ?_
     clear BB0 hS zd zd2
     rintro wc ⟨cb, zc, hs⟩
     have CB := hid cb; have hS := hid hs
     clear cb hs
     (apply wpAnyG_held (wide_round _) (i := 0) rfl (by kernel_rfl) (fun _ _ _ h => h) hS.out; · first | exact .inr ⟨rfl, rfl⟩ | exact .inl ⟨rfl, fun w' hS' => by (obtain ⟨s1, s2, s3, s4⟩ := hS'; go_simp; rfl)⟩); simp only [Act.put, List.setIfInBounds_toArray, List.set_cons_succ, List.set_cons_zero, List.getElem_toArray, List.getElem_cons_succ, List.getElem_cons_zero]
     (apply wpAnyG_held (wide_round _) (i := 1) rfl (by kernel_rfl) (fun _ _ _ h => h) hS.out; · first | exact .inr ⟨rfl, rfl⟩ | exact .inl ⟨rfl, fun w' hS' => by (obtain ⟨s1, s2, s3, s4⟩ := hS'; go_simp; rfl)⟩); simp only [Act.put, List.setIfInBounds_toArray, List.set_cons_succ, List.set_cons_zero, List.getElem_toArray, List.getElem_cons_succ, List.getElem_cons_zero]
     (apply wpAnyG_pure (wide_round _) (i := 2) rfl (by kernel_rfl) (fun _ _ _ h => h); · first | exact .inr ⟨rfl, rfl⟩ | exact .inl ⟨rfl, fun w' => by go_simp; rfl⟩); simp only [Act.put, List.setIfInBounds_toArray, List.set_cons_succ, List.set_cons_zero, List.getElem_toArray, List.getElem_cons_succ, List.getElem_cons_zero]
     (apply wpAnyG_pure (wide_round _) (i := 4) rfl (by kernel_rfl) (fun _ _ _ h => h); · first | exact .inr ⟨rfl, rfl⟩ | exact .inl ⟨rfl, fun w' => by go_simp; rfl⟩); simp only [Act.put, List.setIfInBounds_toArray, List.set_cons_succ, List.set_cons_zero, List.getElem_toArray, List.getElem_cons_succ, List.getElem_cons_zero]
     (apply wpAnyG_held (wide_round _) (i := 5) rfl (by kernel_rfl) (fun _ _ _ h => h) hS.out; · first | exact .inr ⟨rfl, rfl⟩ | exact .inl ⟨rfl, fun w' hS' => by (obtain ⟨s1, s2, s3, s4⟩ := hS'; go_simp; rfl)⟩); simp only [Act.put, List.setIfInBounds_toArray, List.set_cons_succ, List.set_cons_zero, List.getElem_toArray, List.getElem_cons_succ, List.getElem_cons_zero]
     (apply wpAnyG_held (wide_round _) (i := 7) rfl (by kernel_rfl) (fun _ _ _ h => h) hS.out; · first | exact .inr ⟨rfl, rfl⟩ | exact .inl ⟨rfl, fun w' hS' => by (obtain ⟨s1, s2, s3, s4⟩ := hS'; go_simp; rfl)⟩); simp only [Act.put, List.setIfInBounds_toArray, List.set_cons_succ, List.set_cons_zero, List.getElem_toArray, List.getElem_cons_succ, List.getElem_cons_zero]
     (apply wpAnyG_pure (wide_round _) (i := 8) rfl (by kernel_rfl) (fun _ _ _ h => h); · first | exact .inr ⟨rfl, rfl⟩ | exact .inl ⟨rfl, fun w' => by go_simp; rfl⟩); simp only [Act.put, List.setIfInBounds_toArray, List.set_cons_succ, List.set_cons_zero, List.getElem_toArray, List.getElem_cons_succ, List.getElem_cons_zero]
     (apply wpAnyG_pure (wide_round _) (i := 10) rfl (by kernel_rfl) (fun _ _ _ h => h); · first | exact .inr ⟨rfl, rfl⟩ | exact .inl ⟨rfl, fun w' => by go_simp; rfl⟩); simp only [Act.put, List.setIfInBounds_toArray, List.set_cons_succ, List.set_cons_zero, List.getElem_toArray, List.getElem_cons_succ, List.getElem_cons_zero]
     (apply wpAnyG_held (wide_round _) (i := 11) rfl (by kernel_rfl) (fun _ _ _ h => h) hS.out; · first | exact .inr ⟨rfl, rfl⟩ | exact .inl ⟨rfl, fun w' hS' => by (obtain ⟨s1, s2, s3, s4⟩ := hS'; go_simp; rfl)⟩); simp only [Act.put, List.setIfInBounds_toArray, List.set_cons_succ, List.set_cons_zero, List.getElem_toArray, List.getElem_cons_succ, List.getElem_cons_zero]
     refine wpAnyG_one (i := 3) rfl ⟨by kernel_rfl, by kernel_rfl⟩ ?_
     intro K hK
     have eg := EG.out
     go_simp
     clear eg
     refine ⟨trivial, ?_⟩
     refine (CallsIn.inRound l2 (callsIn_wide.2 (HC.out n wc hnn.1 hnn.2 CB.out.com.tell.s))).mono ?_
     rintro e w7 ⟨rfl, hb7⟩
     have CB := hid (CB.out.below hc hn (by have := CB.out.z; omega) hb7)
     refine shutSG hK ⟨CB.out.g1.cell 0, CB.out.com.tell.worth.cell 0, CB.out.b11.cell 0, CB.out.b11.cell 1⟩ (fun hS => ?_)
     clear hK K
     (apply wpAnyG_pure (wide_round _) (i := 6) rfl (by kernel_rfl) (fun _ _ _ h => h); · first | exact .inr ⟨rfl, rfl⟩ | exact .inl ⟨rfl, fun w' => by go_simp; rfl⟩); simp only [Act.put, List.setIfInBounds_toArray, List.set_cons_succ, List.set_cons_zero, List.getElem_toArray, List.getElem_cons_succ, List.getElem_cons_zero]
     refine wpAnyG_one (i := 9) rfl ⟨by kernel_rfl, by kernel_rfl⟩ ?_
     intro K hK
     have eg := EG.out
     go_simp
     clear eg
     refine ⟨trivial, ?_⟩
     refine (CallsIn.inRound l2 (callsIn_wide.2 (HC.out n w7 hnn.1 hnn.2 CB.out.com.tell.s))).mono ?_
     rintro e w8 ⟨rfl, hb8⟩
     have CB := hid (CB.out.below hc hn (by have := CB.out.z; omega) hb8)
     refine shutSG hK ⟨CB.out.g1.cell 0, CB.out.com.tell.worth.cell 0, CB.out.b11.cell 0, CB.out.b11.cell 1⟩ (fun hS => ?_)
     clear hK K
     (apply wpAnyG_pure (wide_round _) (i := 12) rfl (by kernel_rfl) (fun _ _ _ h => h); · first | exact .inr ⟨rfl, rfl⟩ | exact .inl ⟨rfl, fun w' => by go_simp; rfl⟩); simp only [Act.put, List.setIfInBounds_toArray, List.set_cons_succ, List.set_cons_zero, List.getElem_toArray, List.getElem_cons_succ, List.getElem_cons_zero]
     (apply wpAnyG_pure (wide_round _) (i := 13) rfl (by kernel_rfl) (fun _ _ _ h => h); · first | exact .inr ⟨rfl, rfl⟩ | exact .inl ⟨rfl, fun w' => by go_simp; rfl⟩); simp only [Act.put, List.setIfInBounds_toArray, List.set_cons_succ, List.set_cons_zero, List.getElem_toArray, List.getElem_cons_succ, List.getElem_cons_zero]
     refine wpAnyG_one (i := 14) rfl ⟨by kernel_rfl, by kernel_rfl⟩ ?_
     intro K hK
     go_simp
     have ba : Below w8.heap.size w8 (w8.alloc (.cells #[.int .i64 (W n + lo), .int .i64 (W n + hi5)] 73)) := (Below.refl _ _).alloc (Nat.le_refl _) _
     have CB8 := CB
     have CB := hid (CB.out.below hc hn (by have := CB.out.z; omega) ba)
     refine shutSG hK ⟨CB.out.g1.cell 0, CB.out.com.tell.worth.cell 0, CB.out.b11.cell 0, CB.out.b11.cell 1⟩ (fun hS => ?_)
     clear hK K
     refine wpAnyG_one (i := 15) rfl ⟨by kernel_rfl, by kernel_rfl⟩ ?_
     intro K hK
     refine stepIn_append_any _ rfl _ _ _ rfl (N + 3) 73 i0 _ 2 16 Tryz.underlying208 hi0 iz0 iz1 iz2 rfl (by decide) (.slice la ss.length lc) ss.length (rowC spC ss) rfl CB.out.g2 (some ⟨w8.heap.size, 0, none⟩) 1 1 [.int .i64 (W n + lo), .int .i64 (W n + hi5)] rfl rfl (fun h => by cases h) (box_news (Box.new _ _ _) rfl) (by simp [Value.oneCell']) (by omega) (by omega) (by have := CB.out.z; omega) ?_
     intro la2 lc2 w9 own9 gr9 pl9
     refine shutNG hK (by kernel_rfl) ?_
     clear hK K
     refine wpAnyG_one (i := 16) rfl ⟨by kernel_rfl, by kernel_rfl⟩ ?_
     intro K hK
     have Q9 := hid (CB.out.g1.grown gr9 (own_ne' CB.out.g2 CB.out.g1 (by decide)))
     have u0 := Q9.out.cell 0; have u1 := Q9.out.frozen 0; have u2 := Q9.out.lt
     simp only [List.getElem?_toArray, List.getElem?_cons_zero, List.getElem?_cons_succ] at u0
     go_simp
     clear u0 u1 u2
     refine shutNG hK (by kernel_rfl) ?_
     clear hK K
     refine wpAnyG_done (by kernel_rfl) ?_ _
     have hsn : (notchesL x).take (j + 1) = (notchesL x).take j ++ [n] := by rw [List.take_succ_eq_append_getElem hlt, hne]
     obtain ⟨X8, hX8⟩ : ∃ X, X = (w8.alloc (.cells #[.int .i64 (W n + lo), .int .i64 (W n + hi5)] 73)) := ⟨_, rfl⟩
     rw [← hX8] at gr9 CB pl9
     have rl := fun g hg => CB.out.g2.lt g hg
     have kpF : Keep (· < N + 3) X8 (w9.setCell ⟨N + 4, 0, none⟩ (.slice la2 (ss.length + 1) lc2)) := ((Keep.refl _ _).grown gr9 (fun r e _ hz => by have := (rl r e).1; have : r < N + 3 := hz; omega)).setCell _ _ (fun _ h => by have : N + 4 < N + 3 := h; omega)
     have kpQ : Keep (fun b => p11 ≤ b ∧ b < L6) X8 (w9.setCell ⟨N + 4, 0, none⟩ (.slice la2 (ss.length + 1) lc2)) := ((Keep.refl _ _).grown gr9 (fun r e _ hz => CB.out.g3 r e hz)).setCell _ _ (fun _ h => by have : p11 ≤ N + 4 := h.1; omega)
     have kfF : KeepsFrom wL.heap.size X8 (w9.setCell ⟨N + 4, 0, none⟩ (.slice la2 (ss.length + 1) lc2)) := (kf_own CB.out.g2 gr9).trans ((KeepsOthers.setCell _ _ _).from _)
     have kbF : KpB (fun b => b < N ∧ b ≠ c.M ∧ b ≠ c.K) c.M a.st a.fo X8 (w9.setCell ⟨N + 4, 0, none⟩ (.slice la2 (ss.length + 1) lc2)) := by
      refine ⟨kpF.os, kpF.tape, kpF.output, kpF.size, fun b cs t hb ht => ?_, fun k hk hr => kpF.block k hk (by have := hr.1; show k < N + 3; omega), fun h => kpF.pmap (show c.M < N + 3 by omega) h⟩
      have n1 : b ≠ N + 4 := fun e => by
       subst e
       have h1 := CB.out.g1
       unfold Box at h1 hb
       rw [h1] at hb
       simp at hb
       obtain ⟨_, rfl⟩ := hb
       rcases ht with h | h | h | h <;> cases h
      have hg := hb.grown gr9 (own_ne' CB.out.g2 hb (by rcases ht with h | h | h | h <;> (rw [h]; decide)))
      exact hg.other _ _ _ n1
     have z9 := gr9.size
     have zx : L6 ≤ X8.heap.size := by have h7 := hb7.size; have h8 := hb8.size; rw [hX8]; simp; omega
     have hcom := CB.out.com
     have hsp2 := G3.out.snoc (hsp.pre hc.w0 hnn.1)
     gi_wp2_with (fail)
     refine ⟨⟨j + 1, by omega, by go_num, ⟨kpF.box (show N < N + 3 by omega) hcom.p5, kpF.box (show N + 1 < N + 3 by omega) hcom.p6, ⟨ss ++ [(W n + lo, W n + hi5)], la2, lc2, ?_, ?_, ?_, by rw [List.length_append]; simp only [List.length_cons, List.length_nil]; omega, ?_⟩, hcom.tell.low hc hn hLT R3 R4 (kpF.mono (fun b _ hb => by have : b < N := hb; show b < N + 3; omega)), hcom.kp.trans (kpF.mono (fun b _ hb => by have := hb.1; show b < N + 3; omega))⟩, kpQ.box ⟨Nat.le_refl _, pL⟩ CB.out.b11, kpQ.rdI (fun _ p hp => hnq p hp) CB.out.rn, CB.out.kb.trans kbF, CB.out.kf.trans kfF, by rw [World.size_setCell]; omega⟩, by simp [intOf]; omega⟩
     ·rw [List.length_append]; exact Q9.out.set 0 _
     ·rw [List.length_append, rowC_append, rowC_one]; exact own_kp' own9 ((Keep.refl (· ≠ N + 4) _).setCell _ _ (fun _ h => h rfl)) (fun g hg e => own_ne' own9 Q9.out (by decide) (e ▸ hg))
     ·refine hsp2.iff (fun l => ?_)
      rw [hsn]
      show (ByS a (pre.map (·.1)) l ∨ ByN a x ((notchesL x).take j) l) ∨ (∃ r, TrueL (a.st.drop x.i) (a.fo.drop x.k) r ∧ l = preL n r) ↔ _
      rw [byN_snoc, or_assoc]
     ·intro g hg
      rw [List.length_append] at hg
      rcases pl9 with h | h
      ·exact CB.out.g3 g (h ▸ hg)
      ·intro hq
       have h2 : g = X8.heap.size := by
        have h3 := h.symm.trans hg
        simpa using h3.symm
       omega
    ·gi_wp2_with (fail)
     have hje : j = (notchesL x).length := by omega
     rw [List.take_of_length_le (by omega)] at J
     refine ⟨kf', kb, J.iff (fun l => ?_) (by simp; omega) (fun _ _ _ _ h => h), by omega⟩
     rw [List.map_append]
     exact (byS_snoc a (pre.map (·.1)) x l).symm
  case done =>
   rintro D ys W1 hD hall ⟨I1, z1⟩ hKD
   obtain ⟨ss, la, lc, g1, g2, g3, g4, -⟩ := I1.l9
   have q0 : W1.cell? ⟨N + 4, 0, none⟩ = some (.slice la ss.length lc) := g1.cell 0
   have hall' : ys.map (·.1) = bestL a.st a.fo i k := hall
   rw [hall'] at g3
   have y5 : ys.length ≤ 3 := by
    have h1 := congrArg List.length hall'
    have h2 := List.length_filter_le (isBest a.st a.fo i k) (stepsL a.st a.fo i k)
    have h3 := stepsL_le a.st a.fo i k
    simp only [List.length_map] at h1
    unfold bestL at h1
    omega
   have hDN : N + 7 ≤ D := by omega
   have a0 := I1.p5.cell 0; have a1 := I1.p5.cell 1
   simp only [List.getElem?_toArray, List.getElem?_cons_zero, List.getElem?_cons_succ] at a0 a1
   have c0 := I1.p6.cell 0; have c1 := I1.p6.cell 1; have c2 := I1.p6.frozen 0; have c3 := I1.p6.frozen 1; have c4 := I1.p6.lt
   simp only [List.getElem?_toArray, List.getElem?_cons_zero, List.getElem?_cons_succ] at c0 c1
   have k0 : W1.cell? ⟨c.kb, 0, none⟩ = some (.map (some c.K)) := I1.tell.known.cell 0
   have II := hid I1; have G2 := hid g2; have G3 := hid g3
   clear I1 g1 g2 g3 hall hall' I0 bC bD hH tL
   by_cases hend : i = a.st.length ∧ k = a.fo.length
   ·have hss : ss = [] := by
     rcases G3.out with ⟨h, _⟩ | ⟨h, h2⟩
     ·exact h
     ·obtain ⟨l, ⟨x, hx, _⟩, _⟩ := h2.lo
      have hb := (mem_best.1 hx).1
      have := (step_bound hb hi hk).2.2.1
      omega
    subst hss
    have HE := hid hend; clear hend
    gi_wp2_with (fail)
    have hKD2 := ((KeepsOthers.setCell W1 ⟨N + 1, 0, none⟩ (.int .i64 0)).trans (KeepsOthers.setCell _ ⟨N + 1, 1, none⟩ (.int .i64 0))).same D _ hKD rfl
    have kV : Keep (fun b => b ≠ N + 1 ∧ b ≠ D) W1 (((W1.setCell ⟨N + 1, 0, none⟩ (.int .i64 0)).setCell ⟨N + 1, 1, none⟩ (.int .i64 0)).putObj D (.deferred none)) := (((Keep.refl _ _).setCell _ _ (fun _ h => h.1 rfl)).setCell _ _ (fun _ h => h.1 rfl)).putObj _ _ (fun _ h => h.2 rfl)
    have bV : Box (((W1.setCell ⟨N + 1, 0, none⟩ (.int .i64 0)).setCell ⟨N + 1, 1, none⟩ (.int .i64 0)).putObj D (.deferred none)) (N + 1) #[.int .i64 0, .int .i64 0] 73 := ((Keep.refl (· ≠ D) _).putObj _ _ (fun _ h => h rfl)).box (show N + 1 ≠ D by omega) ((II.out.p6.set 0 _).set 1 _)
    refine ⟨by simp, .inl ⟨D, _, rfl, run_takeDeferred hKD2, ?_⟩⟩
    generalize (((W1.setCell ⟨N + 1, 0, none⟩ (.int .i64 0)).setCell ⟨N + 1, 1, none⟩ (.int .i64 0)).putObj D (.deferred none)) = V at kV bV ⊢
    have r0 := bV.cell 0; have r1 := bV.cell 1
    simp only [List.getElem?_toArray, List.getElem?_cons_zero, List.getElem?_cons_succ] at r0 r1
    refine ⟨.agg #[.int .i64 0, .int .i64 0], by simp [results, Tryz.results145, go_sem, r0, r1], 0, 0, rfl, ?_, ?_, kV.pmap ⟨by omega, by omega⟩ II.out.tell.half.map, kV.pmap ⟨by omega, by omega⟩ II.out.tell.map⟩
    ·rw [HE.out.1, HE.out.2]
     exact IsSpan.nil.iff (fun x => (true_end x).symm)
    ·exact (II.out.kp.trans (kV.mono (fun b _ hz => ⟨by have := hz.1; omega, by have := hz.1; omega⟩))).mono (fun b hb hz => ⟨by have := HN.out; omega, hz⟩)
   ·have hss : 0 < ss.length := by
     rcases G3.out with ⟨_, h⟩ | ⟨h, _⟩
     ·exfalso
      exact h (a.st.drop i) ((true_iff hc.o1 hc.o2 hi hk hend _).1 (by unfold TrueL; rw [dist_self]; omega))
     ·exact List.length_pos_iff.2 h
    have hsz : (((ss.length : Nat) : Int) == 0) = false := by rw [beq_eq_false_iff_ne]; omega
    have hsp : IsSpan W (TrueL (a.st.drop i) (a.fo.drop k)) (endsL ss).1 (endsL ss).2 := by
     rcases G3.out with ⟨h, _⟩ | ⟨_, h⟩
     ·subst h; cases hss
     ·exact h.iff (fun l => (true_iff hc.o1 hc.o2 hi hk hend l).symm)
    have HSP := hid hsp; clear hsp
    gi_wp2_with (fail)
    obtain ⟨E, hE⟩ : ∃ E, endsL ss = E := ⟨_, rfl⟩
    rw [hE] at HSP
    have HE2 := hid hE; clear hE
    obtain ⟨lo, hi2⟩ := E
    dsimp only at HSP
    refine wpIn_post (fun a' W' => ∃ f : Nat → Value, a' = ⟨((List.range 66).map f).toArray, [{ target := .collected D, args := #[] }]⟩ ∧ f 1 = .pointer (some ⟨c.kb, 0, none⟩) ∧ f 5 = .pointer (some ⟨N, 0, none⟩) ∧ f 6 = .pointer (some ⟨N + 1, 0, none⟩) ∧ Box W' c.kb #[.map (some c.K)] 205 ∧ Box W' N #[.int .i64 i, .int .i64 k] 193 ∧ Box W' (N + 1) #[.int .i64 0, .int .i64 0] 73 ∧ W'.heap[D]? = some (.deferred (some [])) ∧ PMap W' c.M a.st.length a.fo.length (Known a.st a.fo) ∧ PMap W' c.K a.st.length a.fo.length (KnownS W a.st a.fo) ∧ Keep (fun b => b < N ∧ b ≠ c.M ∧ b ≠ c.K) w W' ∧
     (Instr.lookup 205 (.map (some c.K)) (.agg #[.int .i64 i, .int .i64 k]) false).run Tryz.prog W' = .ok (.agg #[.int .i64 lo, .int .i64 hi2]) W') ?reg ?rest
    ·refine wpIn_region_G [0, 1, 2] (fun w' => w'.cell? ⟨c.kb, 0, none⟩ = some (.map (some c.K)) ∧ w'.cell? ⟨N, 0, none⟩ = some (.int .i64 i) ∧ w'.cell? ⟨N, 1, none⟩ = some (.int .i64 k) ∧ w'.cell? ⟨N + 4, 0, none⟩ = some (.slice la ss.length lc)) hm ⟨by go_simp, by go_simp, by go_simp, by go_simp⟩ ?_
     intro hS0; have hS := hid hS0; clear hS0
     have hne : ss ≠ [] := List.length_pos_iff.1 hss
     (apply wpAnyG_held wide_wide (i := 0) rfl (by kernel_rfl) (fun _ _ _ h => h) hS.out; · first | exact .inr ⟨rfl, rfl⟩ | exact .inl ⟨rfl, fun w' hS' => by (obtain ⟨s1, s2, s3, s4⟩ := hS'; go_simp; rfl)⟩); simp only [Act.put, List.setIfInBounds_toArray, List.set_cons_succ, List.set_cons_zero, List.getElem_toArray, List.getElem_cons_succ, List.getElem_cons_zero]
     (apply wpAnyG_held wide_wide (i := 1) rfl (by kernel_rfl) (fun _ _ _ h => h) hS.out; · first | exact .inr ⟨rfl, rfl⟩ | exact .inl ⟨rfl, fun w' hS' => by (obtain ⟨s1, s2, s3, s4⟩ := hS'; go_simp; rfl)⟩); simp only [Act.put, List.setIfInBounds_toArray, List.set_cons_succ, List.set_cons_zero, List.getElem_toArray, List.getElem_cons_succ, List.getElem_cons_zero]
     (apply wpAnyG_held wide_wide (i := 2) rfl (by kernel_rfl) (fun _ _ _ h => h) hS.out; · first | exact .inr ⟨rfl, rfl⟩ | exact .inl ⟨rfl, fun w' hS' => by (obtain ⟨s1, s2, s3, s4⟩ := hS'; go_simp; rfl)⟩); simp only [Act.put, List.setIfInBounds_toArray, List.set_cons_succ, List.set_cons_zero, List.getElem_toArray, List.getElem_cons_succ, List.getElem_cons_zero]
     refine wpAnyG_one (i := 3) rfl ⟨by kernel_rfl, by kernel_rfl⟩ ?_
     intro K hK
     go_simp
     refine ⟨trivial, ?_⟩
     refine (callsIn_wide.2 (ends_any la lc ss W1.drew (by omega) hne (RdX.of_own spC_len (by decide) G2.out).drew)).mono ?_
     rintro e w5 ⟨rfl, hb5'⟩
     rw [HE2.out]
     dsimp only
     have hb5 : Below W1.heap.size W1 w5 := ⟨hb5'.os, hb5'.tape, hb5'.output, hb5'.size, hb5'.block⟩
     have I5 := II.out.below hc hn (by omega) hb5
     have KD5 := (hb5.block D (Array.getElem?_eq_some_iff.1 hKD).1).trans hKD
     obtain ⟨w6, hrun6, hp6, hg6, hz6, hlk6⟩ := I5.tell.map.store2 (t := 205) (e := 73) Tryz.underlying205 (fun w => Tryz.zeroValue73 w) (by have := hc.l1; omega) (by have := hc.l2; omega) hi hk (v := .agg #[.int .i64 lo, .int .i64 hi2]) ⟨lo, hi2, rfl, HSP.out⟩
     have hlk := hlk6 w6 rfl
     unfold plc at hrun6 hlk
     have kM6 : Keep (· ≠ c.K) w5 w6 := keep_of_grown hg6 |>.mono (fun b _ h e => h (by cases e; rfl))
     clear hlk6 hg6 hb5'
     refine shutSG hK ⟨I5.tell.known.cell 0, I5.p5.cell 0, I5.p5.cell 1, (by obtain ⟨ss', la', lc', h1, _⟩ := I5.l9; exact (hb5.cell (cell_lt q0)).trans q0)⟩ (fun hS => ?_)
     clear hK K
     refine wpAnyG_one (i := 4) rfl ⟨by kernel_rfl, by kernel_rfl⟩ ?_
     intro K hK
     go_simp
     clear hrun6
     refine shutNG hK (by kernel_rfl) ?_
     clear hK K
     refine wpAnyG_done (by kernel_rfl) ?_ _
     have K0 := kM6.box (map_not_cell I5.tell.map I5.tell.known.at_) I5.tell.known
     have P5 := kM6.box (map_not_cell I5.tell.map I5.p5.at_) I5.p5
     have P6 := kM6.box (map_not_cell I5.tell.map I5.p6.at_) I5.p6
     have KD6 := (kM6.block D (Array.getElem?_eq_some_iff.1 KD5).1 (show D ≠ c.K by omega)).trans KD5
     refine acts_of' rfl ?_
     exact ⟨rfl, rfl, rfl, K0, P5, P6, KD6, kM6.pmap hc.ne I5.tell.half.map, hp6, I5.kp.trans (kM6.mono (fun b _ hz => hz.2.2)), hlk⟩
    ·rintro a' w6 ⟨f, rfl, f1, f5, f6, K0, P5, P6, KD6, hpM, hp6, kp6, hlk⟩
     rw [show (List.range 66).map f = [f 0, f 1, f 2, f 3, f 4, f 5, f 6, f 7, f 8, f 9, f 10, f 11, f 12, f 13, f 14, f 15, f 16, f 17, f 18, f 19, f 20, f 21, f 22, f 23, f 24, f 25, f 26, f 27, f 28, f 29, f 30, f 31, f 32, f 33, f 34, f 35, f 36, f 37, f 38, f 39, f 40, f 41, f 42, f 43, f 44, f 45, f 46, f 47, f 48, f 49, f 50, f 51, f 52, f 53, f 54, f 55, f 56, f 57, f 58, f 59, f 60, f 61, f 62, f 63, f 64, f 65] from rfl, f1, f5, f6]
     clear f1 f5 f6
     have m0 : w6.cell? ⟨c.kb, 0, none⟩ = some (.map (some c.K)) := K0.cell 0
     have m1 : w6.cell? ⟨N, 0, none⟩ = some (.int .i64 i) := P5.cell 0
     have m2 : w6.cell? ⟨N, 1, none⟩ = some (.int .i64 k) := P5.cell 1
     have d0 : w6.cell? ⟨N + 1, 0, none⟩ = some (.int .i64 0) := P6.cell 0
     have d1 : w6.cell? ⟨N + 1, 1, none⟩ = some (.int .i64 0) := P6.cell 1
     have d2 := P6.frozen 0; have d3 := P6.frozen 1; have d4 := P6.lt
     have HP6 := hid P6
     clear K0 P5 P6 q0 a0 a1 c0 c1 c2 c3 c4 k0
     gi_wp2_with (fail)
     have hKD2 := ((KeepsOthers.setCell w6 ⟨N + 1, 0, none⟩ (.int .i64 lo)).trans (KeepsOthers.setCell _ ⟨N + 1, 1, none⟩ (.int .i64 hi2))).same D _ KD6 rfl
     have kV : Keep (fun b => b ≠ N + 1 ∧ b ≠ D) w6 (((w6.setCell ⟨N + 1, 0, none⟩ (.int .i64 lo)).setCell ⟨N + 1, 1, none⟩ (.int .i64 hi2)).putObj D (.deferred none)) := (((Keep.refl _ _).setCell _ _ (fun _ h => h.1 rfl)).setCell _ _ (fun _ h => h.1 rfl)).putObj _ _ (fun _ h => h.2 rfl)
     have bV : Box (((w6.setCell ⟨N + 1, 0, none⟩ (.int .i64 lo)).setCell ⟨N + 1, 1, none⟩ (.int .i64 hi2)).putObj D (.deferred none)) (N + 1) #[.int .i64 lo, .int .i64 hi2] 73 := ((Keep.refl (· ≠ D) _).putObj _ _ (fun _ h => h rfl)).box (show N + 1 ≠ D by omega) ((HP6.out.set 0 _).set 1 _)
     refine ⟨by simp, .inl ⟨D, _, rfl, run_takeDeferred hKD2, ?_⟩⟩
     generalize (((w6.setCell ⟨N + 1, 0, none⟩ (.int .i64 lo)).setCell ⟨N + 1, 1, none⟩ (.int .i64 hi2)).putObj D (.deferred none)) = V at kV bV ⊢
     have r0 := bV.cell 0; have r1 := bV.cell 1
     simp only [List.getElem?_toArray, List.getElem?_cons_zero, List.getElem?_cons_succ] at r0 r1
     refine ⟨.agg #[.int .i64 lo, .int .i64 hi2], by simp [results, Tryz.results145, go_sem, r0, r1], lo, hi2, rfl, HSP.out, ?_, kV.pmap ⟨by omega, by omega⟩ hpM, kV.pmap ⟨by omega, by omega⟩ hp6⟩
     exact (kp6.trans (kV.mono (fun b _ hz => ⟨by have := hz.1; omega, by have := hz.1; omega⟩))).mono (fun b hb hz => ⟨by have := HN.out; omega, hz⟩)
  case stop =>
   rintro D c pre W1 _ _ h _
   exact h.elim
 ·gi_wp2_with (fail)
  refine ⟨.agg #[.int .i64 lo, .int .i64 hi2], by simp [results, Tryz.results145, go_sem], lo, hi2, rfl, hsp, ((Keep.refl _ _).alloc _).alloc _ |>.alloc _, ((HT.out.half.map.alloc _).alloc _).alloc _, ((HT.out.map.alloc _).alloc _).alloc _⟩
theorem tell_any (c : CB) (a : Tl) (sa fa : Option Addr) (sc fc : Nat) (fv : Value) (W : Int → Int) (S : World → Prop) (n0 : Nat) (hc : TellC c a fv W S n0) (i k : Nat) (w : World) (hi : i ≤ a.st.length) (hk : k ≤ a.fo.length) (hn0 : n0 ≤ w.heap.size) (hT : Tell w c a sa fa sc fc fv W S) :
  Calls Tryz.prog 145 #[plc i k, .pointer (some ⟨c.kb, 0, none⟩), .pointer (some ⟨c.xb, 0, none⟩), .pointer (some ⟨c.tb, 0, none⟩), .pointer (some ⟨c.vb, 0, none⟩)] w (TellP c a W i k w) := by
 have h : ∀ m i k w, (a.st.length - i) + (a.fo.length - k) < m → i ≤ a.st.length → k ≤ a.fo.length → n0 ≤ w.heap.size → Tell w c a sa fa sc fc fv W S →
   Calls Tryz.prog 145 #[plc i k, .pointer (some ⟨c.kb, 0, none⟩), .pointer (some ⟨c.xb, 0, none⟩), .pointer (some ⟨c.tb, 0, none⟩), .pointer (some ⟨c.vb, 0, none⟩)] w (TellP c a W i k w) := by
  intro m
  induction m with
  | zero => intro i k w h; omega
  | succ m ih =>
   intro i k w hm hi hk hn0 hT
   exact tell_step c a sa fa sc fc fv W S n0 hc i k hi hk (fun i' k' w' hi' hk' hlt hn' hT' => ih i' k' w' (by omega) hi' hk' hn' hT') w hn0 hT
 exact h _ i k w (Nat.lt_succ_self _) hi hk hn0 hT
theorem wp_calls_world {P : Program} {f : Nat} {args : Array Value} {w : World} {R : Ending → World → Prop} (T : World → Prop) (hT : T w) (h : ∀ w', T w' → Calls P f args w' R) : Calls P f args w R := h w hT
set_option maxRecDepth 20000 in
set_option maxHeartbeats 4000000 in
theorem comes_any (pb eb qb M : Nat) (a : Tl) (sa fa : Option Addr) (sc fc : Nat) (fv : Value) (W : Int → Int) (S : World → Prop) (w : World) (l1 : a.st.length ≤ 1000) (l2 : a.fo.length ≤ 1000) (o1 : okN a.st = true) (o2 : okN a.fo = true) (wf : Worth S fv W) (w0 : W 0 = 0) (wb : ∀ n, -1000 ≤ W n ∧ W n ≤ 1000)
  (sk : ∀ w1 w2, S w1 → Keep (fun b => b < w.heap.size ∧ b ≠ M) w1 w2 → S w2) (hs : S w) (hH : Half w pb eb qb M a.id a.hs a.st a.fo sa fa sc fc) :
  Calls Tryz.prog 128 #[.agg (pairC a.id a.hs a.st a.fo sa fa sc fc (leftV eb qb pb)), fv] w fun e w' => ∃ lo hi, e = .returned (.agg #[.int .i64 lo, .int .i64 hi]) ∧ IsSpan W (TrueL a.st a.fo) lo hi ∧ Keep (fun b => b ≠ M) w w' := by
 have hmm := @run_makeMap Tryz.prog
 have HH := hid hH; have SK := hid sk; have HS := hid hs
 have wf' := wf
 obtain ⟨kf, first, caps, rfl, -, -⟩ := wf'
 clear hH sk hs
 unfold pairC leftV
 go_enter Tryz.func128, Tryz.ntmps128
 go_wp2_with fail
 refine wp_calls_world (fun W0 => Tell W0 ⟨w.heap.size + 1 + 1 + 1 + 1, w.heap.size, w.heap.size + 1 + 1 + 1 + 1 + 1, w.heap.size + 1, pb, eb, qb, M, w.heap.size + 1 + 1 + 1⟩ a sa fa sc fc (.func (.func kf) first caps) W S ∧ Box W0 (w.heap.size + 1 + 1) #[.int .i64 0, .int .i64 0] 73 ∧ Below w.heap.size w W0 ∧ w.heap.size + 6 ≤ W0.heap.size) ⟨⟨?_, ?_, ?_, ?_, ?_, ?_, ?_⟩, ?_, ?_, ?_⟩ ?_
 ·exact (Box.at _ _ (by first | omega | (simp; done) | (simp; omega))).alloc _
 ·exact (((((Box.new _ _ _).alloc _).alloc _).alloc _).alloc _).alloc _
 ·exact Box.at _ _ (by first | omega | (simp; done) | (simp; omega))
 ·exact ((((Box.at _ _ (by first | omega | (simp; done) | (simp; omega))).alloc _).alloc _).alloc _).alloc _
 ·exact HH.out.keep ((((((Keep.refl _ _).alloc _).alloc _).alloc _).alloc _).alloc _ |>.alloc _) ((((((HH.out.map.alloc _).alloc _).alloc _).alloc _).alloc _).alloc _)
 ·exact ((PMap.at _ _ _ (by first | omega | (simp; done) | (simp; omega))).alloc _).alloc _
 ·exact SK.out _ _ HS.out ((((((Keep.refl _ _).alloc _).alloc _).alloc _).alloc _).alloc _ |>.alloc _)
 ·exact (((Box.at _ _ (by first | omega | (simp; done) | (simp; omega))).alloc _).alloc _).alloc _
 ·exact goBl
 ·simp
 rintro W0 ⟨hT, b4, hb, z0⟩
 have lM := HH.out.map.lt
 have hc : TellC ⟨w.heap.size + 1 + 1 + 1 + 1, w.heap.size, w.heap.size + 1 + 1 + 1 + 1 + 1, w.heap.size + 1, pb, eb, qb, M, w.heap.size + 1 + 1 + 1⟩ a (.func (.func kf) first caps) W S w.heap.size :=
  ⟨by show M ≠ w.heap.size + 1 + 1 + 1; omega, l1, l2, o1, o2, wf, w0, wb, fun w1 w2 h k => SK.out w1 w2 h (k.mono (fun b _ hb => ⟨hb.1, hb.2, by have := hb.1; show b ≠ w.heap.size + 1 + 1 + 1; omega⟩))⟩
 refine (tell_any _ a sa fa sc fc _ W S w.heap.size hc 0 0 W0 (Nat.zero_le _) (Nat.zero_le _) hb.size hT).mono ?_
 rintro e w5 ⟨lo, hi, rfl, hsp, kp, hM5, hK5⟩
 dsimp only at kp hM5 hK5
 rw [List.drop_zero, List.drop_zero] at hsp
 have b5 := kp.box ⟨by omega, by omega⟩ b4
 have r0 := b5.cell 0; have r1 := b5.cell 1; have r2 := b5.frozen 0; have r3 := b5.frozen 1; have r4 := b5.lt
 simp only [List.getElem?_toArray, List.getElem?_cons_zero, List.getElem?_cons_succ] at r0 r1
 have KP := hid kp; have HB := hid hb; have HSP := hid hsp; have z5 := kp.size
 clear kp hM5 hK5 hT b4 hb hsp b5
 go_wp2_with fail
 refine bodyPost_ret (v := .agg #[.int .i64 lo, .int .i64 hi]) (by simp [results, Tryz.results128, go_sem, r0, r1, r2, r3, r4]) rfl ⟨lo, hi, rfl, HSP.out, ?_⟩
 have k1 : Keep (fun b => b < w.heap.size ∧ b ≠ M) w W0 := Keep.of_below HB.out (fun b _ h => h.1)
 have k2 : Keep (fun b => b < w.heap.size ∧ b ≠ M) W0 w5 := KP.out.mono (fun b _ h => ⟨h.2, by have := h.1; omega⟩)
 have k3 := ((k1.trans k2).setCell ⟨w.heap.size + 1 + 1, 0, none⟩ (.int .i64 lo) (fun _ h => by have : w.heap.size + 1 + 1 < w.heap.size := h.1; omega)).setCell ⟨w.heap.size + 1 + 1, 1, none⟩ (.int .i64 hi) (fun _ h => by have : w.heap.size + 1 + 1 < w.heap.size := h.1; omega)
 exact k3.mono (fun b hb h => ⟨hb, h⟩)
end Go.Proofs.YtihonljdanjfmaaGreatDoor
namespace Go.Proofs.YtihonljdanjfmaaGreatDoor
open Go.RowKit Go.Proofs Go.Shelf
def errAll (ts : List Tl) : Int := if 6 < ts.length then 2 else if ts.all Tl.ok then 0 else 70
set_option maxRecDepth 20000 in
theorem all_any (a : Option Addr) (c : Nat) (ts : List Tl) (w : World) (hl : ts.length ≤ 4000) (ht : Tab w) (hs : ∀ t ∈ ts, t.small) (h : RdT w a ts) :
  Calls Tryz.prog 102 #[.slice a ts.length c] w fun e w' => e = .returned (.int .i64 (errAll ts)) ∧ Below w.heap.size w w' := by
 have H := hid h; clear h
 have HT := hid ht; clear ht
 have HS := hid hs; clear hs
 by_cases h6 : (6 : Int) < (ts.length : Int)
 ·go_enter Tryz.func102, Tryz.ntmps102
  go_wp2_with fail
  go_ret
  exact ⟨(congrArg (fun b => Ending.returned (Value.int .i64 b)) (by unfold errAll; rw [if_pos (by omega)])), Below.refl _ _⟩
 ·have E : Hid (¬ 6 < ts.length) := by show ¬ 6 < ts.length; omega
  go_enter Tryz.func102, Tryz.ntmps102
  go_wp2_with fail
  go_loopw [11] (fun i wr => ∃ k : Nat, k ≤ ts.length ∧ i = .int .i64 k ∧ (ts.take k).all Tl.ok = true ∧ Below w.heap.size w wr) (fun i _ => (ts.length - (intOf i).toNat))
  case atStart => exact ⟨0, by omega, rfl, by simp, Below.refl _ _⟩
  case round =>
   obtain ⟨k, hk, rfl, hno, hb⟩ := hrel
   have Hno := hid hno; clear hno
   by_cases hlt : k < ts.length
   ·obtain ⟨b, o, sa, sc, fa, fc, rfl, g0, g1, g2, g3, g4, g5⟩ := H.out.below hb k hlt
    have hbl := cell_lt g0
    have hsz := hb.size
    have HG4 := hid g4; have HG5 := hid g5; clear g4 g5
    go_wp2_with fail
    refine (check_any _ _ _ _ _ _ _ _ _ (HT.out.below goBl) (HS.out _ (List.getElem_mem hlt)).1 (HS.out _ (List.getElem_mem hlt)).2 (HG4.out.below goBl) (HG5.out.below goBl)).mono ?_
    rintro e w1 ⟨rfl, hb1⟩
    have hz1 := hb1.size; (try simp only [World.size_alloc] at hz1)
    by_cases hok : okT ts[k].id ts[k].hs ts[k].st ts[k].fo = true
    ·have t1 : (errT (okT ts[k].id ts[k].hs ts[k].st ts[k].fo) != 0) = false := by rw [hok]; rfl
     have HK := hid hok; clear hok
     go_wp2_with fail
     go_roundw
     case rel =>
      refine ⟨k + 1, by omega, by go_num, ?_, goBl⟩
      rw [List.take_succ_eq_append_getElem hlt, List.all_append, Hno.out]
      simpa [Tl.ok] using HK.out
     case measure => simp [intOf]; omega
    ·have hok' : okT ts[k].id ts[k].hs ts[k].st ts[k].fo = false := by simpa using hok
     have t1 : (errT (okT ts[k].id ts[k].hs ts[k].st ts[k].fo) != 0) = true := by rw [hok']; rfl
     have HK := hid hok'; clear hok hok'
     go_wp2_with fail
     go_ret
     refine ⟨(congrArg (fun b => Ending.returned (Value.int .i64 b)) ?_), goBl⟩
     have h2 : ts.all Tl.ok = false := List.all_eq_false.2 ⟨_, List.getElem_mem hlt, by simp [Tl.ok, HK.out]⟩
     rw [HK.out]; unfold errAll; rw [if_neg E.out, h2]; rfl
   ·go_wp2_with fail
    go_ret
    refine ⟨(congrArg (fun b => Ending.returned (Value.int .i64 b)) ?_), hb⟩
    have : k = ts.length := by omega
    subst this
    have h2 := Hno.out
    rw [List.take_of_length_le (Nat.le_refl _)] at h2
    unfold errAll; rw [if_neg E.out, h2]; rfl
end Go.Proofs.YtihonljdanjfmaaGreatDoor
namespace Go.Proofs.YtihonljdanjfmaaGreatDoor
open Go.RowKit Go.Proofs Go.Shelf
structure Rt where
 skin : Int
 half : Int
 barrel : Int
 paid : Int
def Rt.val (r : Rt) : Value := .agg #[.int .i64 r.skin, .int .i64 r.half, .int .i64 r.barrel, .int .i64 r.paid]
def Rt.ok (r : Rt) : Bool := (decide (0 ≤ r.skin) && decide (r.skin ≤ 1000)) && ((decide (0 ≤ r.half) && decide (r.half ≤ 1000)) && ((decide (0 ≤ r.barrel) && decide (r.barrel ≤ 1000)) && (decide (0 ≤ r.paid) && decide (r.paid ≤ 1000))))
def rateW (r : Rt) (n : Int) : Int := if n = 1 then r.skin else if n = 2 then r.half else if n = 3 then r.barrel else if n = 4 then -r.paid else 0
theorem Rt.ok_iff {r : Rt} (h : r.ok = true) : (0 ≤ r.skin ∧ r.skin ≤ 1000) ∧ (0 ≤ r.half ∧ r.half ≤ 1000) ∧ (0 ≤ r.barrel ∧ r.barrel ≤ 1000) ∧ (0 ≤ r.paid ∧ r.paid ≤ 1000) := by
 unfold Rt.ok at h
 simpa using h
theorem rateW_b {r : Rt} (h : r.ok = true) (n : Int) : -1000 ≤ rateW r n ∧ rateW r n ≤ 1000 := by
 obtain ⟨h1, h2, h3, h4⟩ := Rt.ok_iff h
 unfold rateW
 split
 ·omega
 ·split
  ·omega
  ·split
   ·omega
   ·split <;> omega
set_option maxRecDepth 20000 in
theorem valid_any (r : Rt) (w : World) :
  Calls Tryz.prog 125 #[r.val] w fun e w' => e = .returned (.bool r.ok) ∧ Below w.heap.size w w' := by
 unfold Rt.val
 go_enter Tryz.func125, Tryz.ntmps125
 go_wp2_with fail
 refine (in_any 0 1000 _ _ [r.skin, r.half, r.barrel, r.paid] _ (by simp) ?_).mono ?_
 ·intro i hi
  match i, hi with
  | 0, _ => exact ⟨_, _, rfl, by simp [go_sem]⟩
  | 1, _ => exact ⟨_, _, rfl, by simp [go_sem]⟩
  | 2, _ => exact ⟨_, _, rfl, by simp [go_sem]⟩
  | 3, _ => exact ⟨_, _, rfl, by simp [go_sem]⟩
 rintro e w1 ⟨rfl, hb1⟩
 go_wp2_with fail
 go_ret
 exact ⟨(congrArg (fun b => Ending.returned (Value.bool b)) (by simp [Rt.ok])), goBl⟩
theorem idx5_0 (v0 v1 v2 v3 v4 : Int) (w : World) : (Instr.index 198 (.agg #[.int .i64 v0, .int .i64 v1, .int .i64 v2, .int .i64 v3, .int .i64 v4]) (.int .i64 0)).run Tryz.prog w = .ok (.int .i64 v0) w := by kernel_rfl
theorem idx5_1 (v0 v1 v2 v3 v4 : Int) (w : World) : (Instr.index 198 (.agg #[.int .i64 v0, .int .i64 v1, .int .i64 v2, .int .i64 v3, .int .i64 v4]) (.int .i64 1)).run Tryz.prog w = .ok (.int .i64 v1) w := by kernel_rfl
theorem idx5_2 (v0 v1 v2 v3 v4 : Int) (w : World) : (Instr.index 198 (.agg #[.int .i64 v0, .int .i64 v1, .int .i64 v2, .int .i64 v3, .int .i64 v4]) (.int .i64 2)).run Tryz.prog w = .ok (.int .i64 v2) w := by kernel_rfl
theorem idx5_3 (v0 v1 v2 v3 v4 : Int) (w : World) : (Instr.index 198 (.agg #[.int .i64 v0, .int .i64 v1, .int .i64 v2, .int .i64 v3, .int .i64 v4]) (.int .i64 3)).run Tryz.prog w = .ok (.int .i64 v3) w := by kernel_rfl
theorem idx5_4 (v0 v1 v2 v3 v4 : Int) (w : World) : (Instr.index 198 (.agg #[.int .i64 v0, .int .i64 v1, .int .i64 v2, .int .i64 v3, .int .i64 v4]) (.int .i64 4)).run Tryz.prog w = .ok (.int .i64 v4) w := by kernel_rfl
set_option maxRecDepth 20000 in
theorem worth_any (r : Rt) (hr : r.ok = true) (n : Int) (w : World) (h0 : 0 ≤ n) (h4 : n ≤ 4) :
  Calls Tryz.prog 126 #[r.val, .int .i64 n] w fun e w' => e = .returned (.int .i64 (rateW r n)) ∧ Below w.heap.size w w' := by
 obtain ⟨r1, r2, r3, r4⟩ := Rt.ok_iff hr
 have hw := wrap_mid (n := -r.paid) (by omega) (by omega)
 unfold Rt.val
 have hn : n = 0 ∨ n = 1 ∨ n = 2 ∨ n = 3 ∨ n = 4 := by omega
 go_enter Tryz.func126, Tryz.ntmps126
 rcases hn with rfl | rfl | rfl | rfl | rfl
 ·have hx := idx5_0
  go_wp2_with fail
  go_ret
  exact ⟨rfl, goBl⟩
 ·have hx := idx5_1
  go_wp2_with fail
  go_ret
  exact ⟨rfl, goBl⟩
 ·have hx := idx5_2
  go_wp2_with fail
  go_ret
  exact ⟨rfl, goBl⟩
 ·have hx := idx5_3
  go_wp2_with fail
  go_ret
  exact ⟨rfl, goBl⟩
 ·have hx := idx5_4
  go_wp2_with fail
  go_ret
  exact ⟨rfl, goBl⟩
theorem rates_worth (r : Rt) (hr : r.ok = true) : Worth (fun _ => True) (.func (.func 126) #[r.val] #[]) (rateW r) :=
 ⟨_, _, _, rfl, enters_of Tryz.func126 (by kernel_rfl) rfl, fun n w h0 h4 _ => worth_any r hr n w h0 h4⟩
theorem okT_okN' {id hs : Int} {st fo : List Int} (h : okT id hs st fo = true) : okN st = true ∧ okN fo = true := by
 unfold okT at h
 simp only [Bool.and_eq_true] at h
 exact ⟨h.1.2, h.2⟩
noncomputable def spanF (W : Int → Int) (s f : List Int) : Int × Int := @Classical.epsilon (Int × Int) ⟨(0, 0)⟩ (fun p => IsSpan W (TrueL s f) p.1 p.2)
theorem spanF_eq {W : Int → Int} {s f : List Int} {lo hi : Int} (h : IsSpan W (TrueL s f) lo hi) : spanF W s f = (lo, hi) := by
 have h1 := @Classical.epsilon_spec (Int × Int) (fun p => IsSpan W (TrueL s f) p.1 p.2) ⟨(lo, hi), h⟩
 have h2 := h1.unique h
 exact Prod.ext h2.1 h2.2
noncomputable def owesL (W : Int → Int) (house : Int) (ts : List Tl) : Int × Int := ts.foldl (fun s t => if t.hs = house then (s.1 + (spanF W t.st t.fo).1, s.2 + (spanF W t.st t.fo).2) else s) (0, 0)
noncomputable def owesR (ts : List Tl) (house : Int) (r : Rt) : (Int × Int) × Int := if errAll ts ≠ 0 then ((0, 0), errAll ts) else if r.ok = true then (owesL (rateW r) house ts, 0) else ((0, 0), 71)
set_option maxRecDepth 20000 in
set_option maxHeartbeats 4000000 in
theorem owes_any (ts : List Tl) (house : Int) (r : Rt) (la : Option Addr) (lc : Nat) (w : World) (ht : Tab w) (hl : ts.length ≤ 4000) (hs : ∀ t ∈ ts, t.st.length ≤ 1000 ∧ t.fo.length ≤ 1000) (h : RdT w la ts) :
  Calls Tryz.prog 83 #[.slice la ts.length lc, .int .i64 house, r.val] w
   fun e w' => e = .returned (.tuple #[.agg #[.int .i64 (owesR ts house r).1.1, .int .i64 (owesR ts house r).1.2], .int .i64 (owesR ts house r).2]) ∧ Below w.heap.size w w' := by
 have H := hid h; clear h
 have HT := hid ht; clear ht
 have HS := hid hs; clear hs
 unfold Rt.val
 go_enter Tryz.func83, Tryz.ntmps83
 go_wp2_with fail
 refine (all_any la lc ts _ hl (HT.out.below goBl) (fun t h => ⟨by have := (HS.out t h).1; omega, by have := (HS.out t h).2; omega⟩) (H.out.below goBl)).mono ?_
 rintro e w1 ⟨rfl, hb1⟩
 have B5 := hid (((Box.new w #[.int .i64 r.skin, .int .i64 r.half, .int .i64 r.barrel, .int .i64 r.paid] 69).alloc (.cells #[.int .i64 0, .int .i64 0] 73)).below hb1 (by simp; omega))
 have B6 := hid ((Box.at (w := w.alloc (.cells #[.int .i64 r.skin, .int .i64 r.half, .int .i64 r.barrel, .int .i64 r.paid] 69)) (n := w.heap.size + 1) #[.int .i64 0, .int .i64 0] 73 (by simp)).below hb1 (by simp))
 have WB := hid (show Below w.heap.size w w1 from goBl)
 clear hb1
 by_cases he : errAll ts = 0
 ·have t1 : (errAll ts != 0) = false := by rw [he]; rfl
  have HE := hid he; clear he
  obtain ⟨⟨c0, c1, c2, c3⟩, _, lx⟩ := box_quad B5.out
  go_wp2_with fail
  refine (valid_any r w1).mono ?_
  rintro e w2 ⟨rfl, hb2⟩
  have B5 := hid (B5.out.below hb2 B5.out.lt); have B6 := hid (B6.out.below hb2 B6.out.lt); have WB := hid (WB.out.trans (hb2.mono WB.out.size))
  clear hb2 c0 c1 c2 c3 lx
  obtain ⟨⟨c0, c1, c2, c3⟩, _, lx⟩ := box_quad B5.out
  by_cases hr : r.ok = true
  ·rw [hr]
   have HR := hid hr; clear hr
   have hl6 : ts.length ≤ 6 := by
    have h := HE.out
    unfold errAll at h
    split at h
    ·cases h
    ·omega
   have hok : ∀ t ∈ ts, okT t.id t.hs t.st t.fo = true := by
    have h := HE.out
    unfold errAll at h
    split at h
    ·cases h
    ·split at h
     ·rename_i h2; exact fun t ht => List.all_eq_true.1 h2 t ht
     ·cases h
   have HOK := hid hok; clear hok
   go_wp2_with fail
   refine wp_world (fun W => Box W w2.heap.size #[.int .i64 0, .int .i64 0] 73 ∧ Box W (w.heap.size + 1) #[.int .i64 0, .int .i64 0] 73 ∧ Below w.heap.size w W) ⟨Box.new _ _ _, B6.out.alloc _, WB.out.alloc WB.out.size _⟩ ?_
   obtain ⟨P, hP⟩ : ∃ P, P = w2.heap.size := ⟨_, rfl⟩
   have nP : w.heap.size + 1 < P := by have := B6.out.lt; omega
   rw [← hP]
   clear hP c0 c1 c2 c3 lx t1 B5 B6 WB
   rintro W0 ⟨bP, b6, hB⟩
   go_loopw [30] (fun p wr => ∃ k : Nat, k ≤ ts.length ∧ p = .int .i64 k ∧ Box wr P #[.int .i64 (owesL (rateW r) house (ts.take k)).1, .int .i64 (owesL (rateW r) house (ts.take k)).2] 73 ∧ Box wr (w.heap.size + 1) #[.int .i64 0, .int .i64 0] 73 ∧ Below w.heap.size w wr ∧ (-(2000000 * k : Int) ≤ (owesL (rateW r) house (ts.take k)).1 ∧ (owesL (rateW r) house (ts.take k)).1 ≤ 2000000 * k ∧ -(2000000 * k : Int) ≤ (owesL (rateW r) house (ts.take k)).2 ∧ (owesL (rateW r) house (ts.take k)).2 ≤ 2000000 * k)) (fun p _ => ts.length - (intOf p).toNat)
   case atStart => exact ⟨0, by omega, rfl, bP, b6, hB, by simp [owesL]⟩
   case round =>
    obtain ⟨k, hk, rfl, hbP, hb6, hBr, hbd⟩ := hrel
    have BP := hid hbP; have B6 := hid hb6; have WB := hid hBr
    clear bP b6 hB
    by_cases hlt : k < ts.length
    ·obtain ⟨b, o, sa, sc, fa, fc, rfl, g0, g1, g2, g3, g4, g5⟩ := H.out.below hBr k hlt
     have G4 := hid g4; have G5 := hid g5
     have lb := cell_lt g0
     have hsn : owesL (rateW r) house (ts.take (k + 1)) = (if ts[k].hs = house then ((owesL (rateW r) house (ts.take k)).1 + (spanF (rateW r) ts[k].st ts[k].fo).1, (owesL (rateW r) house (ts.take k)).2 + (spanF (rateW r) ts[k].st ts[k].fo).2) else owesL (rateW r) house (ts.take k)) := by
      rw [List.take_succ_eq_append_getElem hlt]
      unfold owesL
      rw [List.foldl_append]
      rfl
     have HSN := hid hsn; clear hsn
     have hts := HOK.out _ (List.getElem_mem hlt)
     have hln := HS.out _ (List.getElem_mem hlt)
     obtain ⟨E, hE⟩ : ∃ E, owesL (rateW r) house (ts.take k) = E := ⟨_, rfl⟩
     rw [hE] at BP HSN hbd
     obtain ⟨e1, e2⟩ := E
     obtain ⟨t, hT⟩ : ∃ t, ts[k] = t := ⟨_, rfl⟩
     rw [hT] at g0 g1 g2 g3 G4 G5 HSN hts hln
     have HTS := hid hts
     clear hE hT hts hbP hb6 hBr g4 g5
     dsimp only at BP HSN hbd
     by_cases hh : t.hs = house
     ·have hq : (t.hs == house) = true := by simp [hh]
      have HH := hid hh; clear hh
      go_wp2_with fail
      refine (halves_any t.id t.hs t.st t.fo sa fa sc fc _ (by omega) (by omega) (G4.out.alloc _) (G5.out.alloc _)).mono ?_
      rintro e w3 ⟨pb, eb, qb, M, rfl, hb3, hM, hH⟩
      have hb := ((Below.refl _ wr).alloc (Nat.le_refl _) (.cells #[.int .i64 t.id, .int .i64 t.hs, .slice sa t.st.length sc, .slice fa t.fo.length fc] 67)).trans (hb3.mono (by simp))
      have hM' : wr.heap.size < M := by simp at hM; omega
      have swr := WB.out.size
      have lP := BP.out.lt; have l6 := B6.out.lt
      have BP := hid (BP.out.below hb lP); have B6 := hid (B6.out.below hb l6); have WB := hid (WB.out.trans (hb.mono swr))
      have HH2 := hid hH
      clear hb hb3 hH hM g0 g1 g2 g3 lb
      unfold pairC leftV
      go_wp2_with fail
      refine (comes_any pb eb qb M t sa fa sc fc _ (rateW r) (fun _ => True) w3 hln.1 hln.2 (okT_okN' HTS.out).1 (okT_okN' HTS.out).2 (rates_worth r HR.out) (by simp [rateW]) (rateW_b HR.out) (fun _ _ _ _ => trivial) trivial HH2.out).mono ?_
      rintro e w4 ⟨lo, hi, rfl, hsp, kp⟩
      have hsf := spanF_eq hsp
      have sb := span_bound (rateW_b HR.out) hln.1 hln.2 hsp
      have BP := hid (kp.box (show P ≠ M by omega) BP.out); have B6 := hid (kp.box (show w.heap.size + 1 ≠ M by omega) B6.out)
      have WB := hid (WB.out.trans (kp.below (B := w.heap.size) (fun b hb => show b ≠ M by omega) WB.out.size))
      have HSF := hid hsf
      have y0 : w4.cell? ⟨P, 0, none⟩ = some (.int .i64 e1) := BP.out.cell 0
      have y1 : w4.cell? ⟨P, 1, none⟩ = some (.int .i64 e2) := BP.out.cell 1
      have y2 := BP.out.frozen 0; have y3 := BP.out.frozen 1; have y4 := BP.out.lt
      have hw1 := wrap_mid (n := e1 + lo) (by omega) (by omega)
      have hw2 := wrap_mid (n := e2 + hi) (by omega) (by omega)
      have hP6 : w.heap.size ≤ P := by omega
      clear hsp kp hsf
      go_wp2_with fail
      have k7 := WB.out.alloc WB.out.size (.cells #[.int .i64 lo, .int .i64 hi] 73)
      refine ⟨⟨k + 1, by omega, by go_num, ?_, ?_, ?_, ?_⟩, by simp [intOf]; omega⟩
      ·rw [HSN.out, if_pos HH.out, HSF.out]
       first | exact (((BP.out.alloc _).set 0 _).set 1 _) | exact (((BP.out.set 0 _).set 1 _).alloc _)
      ·first | exact ((B6.out.alloc _).other _ _ _ (by omega)).other _ _ _ (by omega) | exact (((B6.out.other _ _ _ (by omega)).other _ _ _ (by omega)).alloc _)
      ·first | exact ((k7.setCell (p := ⟨P, 0, none⟩) hP6 _).setCell (p := ⟨P, 1, none⟩) hP6 _) | exact (((WB.out.setCell (p := ⟨P, 0, none⟩) hP6 _).setCell (p := ⟨P, 1, none⟩) hP6 _).alloc (by simp; exact WB.out.size) _)
      ·rw [HSN.out, if_pos HH.out, HSF.out]
       dsimp only
       omega
     ·have hq : (t.hs == house) = false := by simp [hh]
      have HH := hid hh; clear hh
      go_wp2_with fail
      exact ⟨⟨k + 1, by omega, by go_num, by rw [HSN.out, if_neg HH.out]; exact BP.out.alloc _, B6.out.alloc _, WB.out.alloc WB.out.size _, by rw [HSN.out, if_neg HH.out]; dsimp only; omega⟩, by simp [intOf]; omega⟩
    ·have hkk : k = ts.length := by omega
     subst hkk
     rw [List.take_of_length_le (Nat.le_refl _)] at BP
     obtain ⟨E, hE⟩ : ∃ E, owesL (rateW r) house ts = E := ⟨_, rfl⟩
     rw [hE] at BP
     obtain ⟨e1, e2⟩ := E
     have y0 : wr.cell? ⟨P, 0, none⟩ = some (.int .i64 e1) := BP.out.cell 0
     have y1 : wr.cell? ⟨P, 1, none⟩ = some (.int .i64 e2) := BP.out.cell 1
     have r0 := hb6.cell 0; have r1 := hb6.cell 1; have r2 := hb6.frozen 0; have r3 := hb6.frozen 1; have r4 := hb6.lt
     simp only [List.getElem?_toArray, List.getElem?_cons_zero, List.getElem?_cons_succ] at r0 r1
     have HE3 := hid hE
     clear hbP hb6 hBr hE hbd
     go_wp2_with fail
     refine bodyPost_ret (v := .tuple #[.agg #[.int .i64 e1, .int .i64 e2], .int .i64 0]) (by simp [results, Tryz.results83, go_sem, r0, r1, r2, r3, r4]) rfl ⟨?_, (((WB.out).setCell (p := ⟨w.heap.size + 1, 0, none⟩) (show w.heap.size ≤ w.heap.size + 1 by omega) _).setCell (p := ⟨w.heap.size + 1, 1, none⟩) (show w.heap.size ≤ w.heap.size + 1 by omega) _)⟩
     have h1 : owesR ts house r = ((e1, e2), 0) := by unfold owesR; rw [if_neg (by rw [HE.out]; simp), if_pos HR.out, HE3.out]
     rw [h1]
  ·have hr' : r.ok = false := by simpa using hr
   have HR := hid hr; clear hr
   rw [hr']
   have r0 := B6.out.cell 0; have r1 := B6.out.cell 1; have r2 := B6.out.frozen 0; have r3 := B6.out.frozen 1; have r4 := B6.out.lt
   simp only [List.getElem?_toArray, List.getElem?_cons_zero, List.getElem?_cons_succ] at r0 r1
   go_wp2_with fail
   refine bodyPost_ret (v := .tuple #[.agg #[.int .i64 0, .int .i64 0], .int .i64 71]) (by simp [results, Tryz.results83, go_sem, r0, r1, r2, r3, r4]) rfl ⟨?_, (((WB.out).setCell (p := ⟨w.heap.size + 1, 0, none⟩) (show w.heap.size ≤ w.heap.size + 1 by omega) _).setCell (p := ⟨w.heap.size + 1, 1, none⟩) (show w.heap.size ≤ w.heap.size + 1 by omega) _)⟩
   have h1 : owesR ts house r = ((0, 0), 71) := by unfold owesR; rw [if_neg (by rw [HE.out]; simp), if_neg HR.out]
   rw [h1]
 ·have t1 : (errAll ts != 0) = true := by simpa using he
  have HE := hid he; clear he
  have r0 := B6.out.cell 0; have r1 := B6.out.cell 1; have r2 := B6.out.frozen 0; have r3 := B6.out.frozen 1; have r4 := B6.out.lt
  simp only [List.getElem?_toArray, List.getElem?_cons_zero, List.getElem?_cons_succ] at r0 r1
  go_wp2_with fail
  refine bodyPost_ret (v := .tuple #[.agg #[.int .i64 0, .int .i64 0], .int .i64 (errAll ts)]) (by simp [results, Tryz.results83, go_sem, r0, r1, r2, r3, r4]) rfl ⟨?_, (((WB.out).setCell (p := ⟨w.heap.size + 1, 0, none⟩) (show w.heap.size ≤ w.heap.size + 1 by omega) _).setCell (p := ⟨w.heap.size + 1, 1, none⟩) (show w.heap.size ≤ w.heap.size + 1 by omega) _)⟩
  have h1 : owesR ts house r = ((0, 0), errAll ts) := by unfold owesR; rw [if_pos HE.out]
  rw [h1]
noncomputable def owedR (a : Tl) (r : Rt) : (Int × Int) × Int := owesR [a] a.hs r
set_option maxRecDepth 20000 in
theorem owed_any (a : Tl) (r : Rt) (sa fa : Option Addr) (sc fc : Nat) (w : World) (ht : Tab w) (hl : a.st.length ≤ 1000) (hl2 : a.fo.length ≤ 1000) (h1 : RdI w sa a.st) (h2 : RdI w fa a.fo) :
  Calls Tryz.prog 37 #[.agg #[.int .i64 a.id, .int .i64 a.hs, .slice sa a.st.length sc, .slice fa a.fo.length fc], r.val] w
   fun e w' => e = .returned (.tuple #[.agg #[.int .i64 (owedR a r).1.1, .int .i64 (owedR a r).1.2], .int .i64 (owedR a r).2]) ∧ Below w.heap.size w w' := by
 have H1 := hid h1; have H2 := hid h2; clear h1 h2
 have HT := hid ht; clear ht
 have hou := fun W hT hR => owes_any [a] a.hs r (some ⟨w.heap.size + 1 + 1 + 1, 0, none⟩) 1 W hT (by simp) (fun t ht => by rw [List.mem_singleton] at ht; subst ht; exact ⟨hl, hl2⟩) hR
 have HO := hid hou; clear hou
 unfold Rt.val at HO ⊢
 go_enter Tryz.func37, Tryz.ntmps37
 go_wp2_with fail
 refine (HO.out _ (HT.out.below goBl) ?_).mono ?_
 ·intro i hi
  match i, hi with
  | 0, _ =>
   have bx := Box.at (w := ((w.alloc (.cells #[.int .i64 a.id, .int .i64 a.hs, .slice sa a.st.length sc, .slice fa a.fo.length fc] 67)).alloc (.cells #[.int .i64 r.skin, .int .i64 r.half, .int .i64 r.barrel, .int .i64 r.paid] 69)).alloc (.cells #[.int .i64 0, .int .i64 0] 73)) (n := w.heap.size + 1 + 1 + 1) (#[.int .i64 a.id, .int .i64 a.hs, .slice sa a.st.length sc, .slice fa a.fo.length fc]) 67 (by simp)
   exact ⟨w.heap.size + 1 + 1 + 1, 0, sa, sc, fa, fc, rfl, bx.cell 0, bx.cell 1, bx.cell 2, bx.cell 3, H1.out.below goBl, H2.out.below goBl⟩
 rintro e w1 ⟨rfl, hb1⟩
 have b4 := hid (((Box.at (w := (w.alloc (.cells #[.int .i64 a.id, .int .i64 a.hs, .slice sa a.st.length sc, .slice fa a.fo.length fc] 67)).alloc (.cells #[.int .i64 r.skin, .int .i64 r.half, .int .i64 r.barrel, .int .i64 r.paid] 69)) (n := w.heap.size + 1 + 1) #[.int .i64 0, .int .i64 0] 73 (by simp)).alloc (.cells #[.int .i64 a.id, .int .i64 a.hs, .slice sa a.st.length sc, .slice fa a.fo.length fc] 67)).below hb1 (by simp))
 have WB : Below w.heap.size w w1 := goBl
 have r0 := b4.out.cell 0; have r1 := b4.out.cell 1; have r2 := b4.out.frozen 0; have r3 := b4.out.frozen 1; have r4 := b4.out.lt
 simp only [List.getElem?_toArray, List.getElem?_cons_zero, List.getElem?_cons_succ] at r0 r1
 obtain ⟨O, hO⟩ : ∃ O, owesR [a] a.hs r = O := ⟨_, rfl⟩
 rw [hO]
 have HOO := hid hO
 clear hO HO
 obtain ⟨⟨o1, o2⟩, o3⟩ := O
 dsimp only
 have WBB := hid WB
 clear WB hb1 b4
 go_wp2_with fail
 refine bodyPost_ret (v := .tuple #[.agg #[.int .i64 o1, .int .i64 o2], .int .i64 o3]) (by simp [results, Tryz.results37, go_sem, r0, r1, r2, r3, r4]) rfl ⟨by unfold owedR; rw [HOO.out], (WBB.out.setCell (p := ⟨w.heap.size + 1 + 1, 0, none⟩) (show w.heap.size ≤ w.heap.size + 1 + 1 by omega) _).setCell (p := ⟨w.heap.size + 1 + 1, 1, none⟩) (show w.heap.size ≤ w.heap.size + 1 + 1 by omega) _⟩
end Go.Proofs.YtihonljdanjfmaaGreatDoor
namespace Go.Proofs.YtihonljdanjfmaaGreatDoor
open Go.RowKit Go.Proofs Go.Shelf
def wideF (s t : Int × Int) (a b : Int) (first : Bool) : Int × Int := if first then (t.1 + min a b, t.2 + max a b) else endF s (t.1 + min a b, t.2 + max a b)
def AccW (W : Int → Int) (P : List Int → Prop) (s : Int × Int) (first : Bool) : Prop := (first = true ∧ s = (0, 0) ∧ ∀ l, ¬ P l) ∨ (first = false ∧ IsSpan W P s.1 s.2)
theorem AccW.iff {W : Int → Int} {P Q : List Int → Prop} {s : Int × Int} {first : Bool} (h : AccW W P s first) (hq : ∀ x, P x ↔ Q x) : AccW W Q s first := by
 rcases h with ⟨h1, h0, h2⟩ | ⟨h1, h2⟩
 ·exact .inl ⟨h1, h0, fun l hl => h2 l ((hq l).2 hl)⟩
 ·exact .inr ⟨h1, h2.iff hq⟩
theorem byN_span {W : Int → Int} (h0 : W 0 = 0) {a : Tl} {x : St} (hn : ∀ n ∈ notchesL x, 0 ≤ n) {lo hi : Int} (h : IsSpan W (TrueL (a.st.drop x.i) (a.fo.drop x.k)) lo hi) : IsSpan W (ByN a x (notchesL x)) (lo + min (W x.s) (W x.f)) (hi + max (W x.s) (W x.f)) := by
 have hs : 0 ≤ x.s := hn _ (by unfold notchesL; split <;> simp)
 have hf : 0 ≤ x.f := hn _ (by unfold notchesL; split <;> simp_all)
 have g1 := h.pre h0 hs
 have g2 := h.pre h0 hf
 have g := (g1.or g2).iff (Q := ByN a x (notchesL x)) (fun l => by
  unfold ByN notchesL
  by_cases e : x.s = x.f
  ·rw [if_pos e]
   simp only [List.mem_singleton, exists_eq_left]
   rw [e]
   exact ⟨fun h => h.elim id id, .inl⟩
  ·rw [if_neg e]
   simp only [List.mem_cons, List.not_mem_nil, or_false]
   constructor
   ·rintro (h | h)
    ·exact ⟨_, .inl rfl, h⟩
    ·exact ⟨_, .inr rfl, h⟩
   ·rintro ⟨n, rfl | rfl, h⟩
    ·exact .inl h
    ·exact .inr h)
 have e1 : min (W x.s + lo) (W x.f + lo) = lo + min (W x.s) (W x.f) := by omega
 have e2 : max (W x.s + hi) (W x.f + hi) = hi + max (W x.s) (W x.f) := by omega
 rw [e1, e2] at g
 exact g
theorem AccW.snoc {W : Int → Int} (h0 : W 0 = 0) {a : Tl} {xs : List St} {x : St} {s : Int × Int} {first : Bool} (h : AccW W (ByS a xs) s first) (hn : ∀ n ∈ notchesL x, 0 ≤ n) {t : Int × Int} (k : IsSpan W (TrueL (a.st.drop x.i) (a.fo.drop x.k)) t.1 t.2) : AccW W (ByS a (xs ++ [x])) (wideF s t (W x.s) (W x.f) first) false := by
 have hb := byN_span h0 hn k
 refine .inr ⟨rfl, ?_⟩
 rcases h with ⟨rfl, -, hnone⟩ | ⟨rfl, hs⟩
 ·exact hb.iff (fun l => ⟨fun g => (byS_snoc a xs x l).2 (.inr g), fun g => ((byS_snoc a xs x l).1 g).resolve_left (hnone l)⟩)
 ·exact (hs.or hb).iff (fun l => (byS_snoc a xs x l).symm)
end Go.Proofs.YtihonljdanjfmaaGreatDoor
namespace Go.Proofs.YtihonljdanjfmaaGreatDoor
open Go.RowKit Go.Proofs Go.Shelf
def RowAt (W : World) (cs : Array Value) (a b : List Int) (O X : Nat) (r : Nat) : Prop := ∃ R rs, cs[r]? = some (.slice (some ⟨R, 0, none⟩) (b.length + 1) (b.length + 1)) ∧ R < X ∧ R ≠ O ∧ Box W R rs 3 ∧ rs.size = b.length + 1 ∧ ∀ k, k ≤ b.length → rs[k]? = some (.int .i64 (dd a b r k : Int))
theorem RowAt.keep {W W' : World} {cs cs' : Array Value} {a b : List Int} {O X X' r : Nat} (h : RowAt W cs a b O X r) (hc : cs'[r]? = cs[r]?) (hX : X ≤ X') (hk : ∀ k, k < X → k ≠ O → W'.heap[k]? = W.heap[k]?) : RowAt W' cs' a b O X' r := by
 obtain ⟨R, rs, h1, h2, h3, h4, h5, h6⟩ := h
 exact ⟨R, rs, hc.trans h1, by omega, h3, (hk R h2 h3).trans h4, h5, h6⟩
def Same (a b : World) : Prop := b.heap = a.heap ∧ b.os = a.os ∧ b.tape = a.tape ∧ b.output = a.output
theorem Same.box {a b : World} (h : Same a b) {k : Nat} {cs : Array Value} {t : TypeId} (hb : Box a k cs t) : Box b k cs t := by unfold Box at *; rw [h.1]; exact hb
theorem Same.below {w a b : World} {B : Nat} (h : Same a b) (hb : Below B w a) : Below B w b := ⟨h.2.1.trans hb.os, h.2.2.1.trans hb.tape, h.2.2.2.trans hb.output, by rw [h.1]; exact hb.size, fun k hk => by rw [h.1]; exact hb.block k hk⟩
end Go.Proofs.YtihonljdanjfmaaGreatDoor
namespace Go.Proofs.YtihonljdanjfmaaGreatDoor
open Go.RowKit Go.Proofs Go.Shelf
def SRow (sp : Nat → Nat → Int × Int) (W : World) (cs : Array Value) (m O X : Nat) (r : Nat) : Prop := ∃ R rs, cs[r]? = some (.slice (some ⟨R, 0, none⟩) (m + 1) (m + 1)) ∧ R < X ∧ R ≠ O ∧ Box W R rs 73 ∧ rs.size = 2 * (m + 1) ∧ ∀ k, k ≤ m → rs[k * 2]? = some (.int .i64 (sp r k).1) ∧ rs[k * 2 + 1]? = some (.int .i64 (sp r k).2)
theorem SRow.keep {sp : Nat → Nat → Int × Int} {W W' : World} {cs cs' : Array Value} {m O X X' r : Nat} (h : SRow sp W cs m O X r) (hc : cs'[r]? = cs[r]?) (hX : X ≤ X') (hk : ∀ k, k < X → k ≠ O → k < W.heap.size → W'.heap[k]? = W.heap[k]?) : SRow sp W' cs' m O X' r := by
 obtain ⟨R, rs, h1, h2, h3, h4, h5, h6⟩ := h
 exact ⟨R, rs, hc.trans h1, by omega, h3, (hk R h2 h3 h4.lt).trans h4, h5, h6⟩
structure RcI (sp : Nat → Nat → Int × Int) (w1 : World) (n m O X i : Nat) (cs : Array Value) (rs : Array Value) (l : Nat) (V : World) : Prop where
 o : Box V O cs 208
 rows : ∀ r, i + 1 ≤ r → r ≤ n → SRow sp V cs m O X r
 bel : Below w1.heap.size w1 V
 x : Box V X rs 73
 sz : rs.size = 2 * (m + 1)
 got : ∀ k, l ≤ k → k ≤ m → rs[k * 2]? = some (.int .i64 (sp i k).1) ∧ rs[k * 2 + 1]? = some (.int .i64 (sp i k).2)
theorem RcI.keep {sp : Nat → Nat → Int × Int} {w1 V V' : World} {n m O X i l Y : Nat} {cs rs : Array Value} (h : RcI sp w1 n m O X i cs rs l V) (hO : O < Y) (hX : X < Y) (h1 : w1.heap.size ≤ Y) (kp : Keep (· < Y) V V') : RcI sp w1 n m O X i cs rs l V' :=
 ⟨kp.box hO h.o, fun r g1 g2 => (h.rows r g1 g2).keep rfl (Nat.le_refl _) (fun k hk _ hv => kp.block k hv (show k < Y by omega)), h.bel.trans (kp.below (fun b hb => show b < Y by omega) h.bel.size), kp.box hX h.x, h.sz, h.got⟩
theorem RcI.same {sp : Nat → Nat → Int × Int} {w1 V V' : World} {n m O X i l : Nat} {cs rs : Array Value} (h : RcI sp w1 n m O X i cs rs l V) (k : Keep (fun _ => True) V V') : RcI sp w1 n m O X i cs rs l V' :=
 ⟨k.box trivial h.o, fun r g1 g2 => (h.rows r g1 g2).keep rfl (Nat.le_refl _) (fun k' _ _ hv => k.block k' hv trivial), h.bel.trans (k.below (fun b hb => trivial) h.bel.size), k.box trivial h.x, h.sz, h.got⟩
end Go.Proofs.YtihonljdanjfmaaGreatDoor
namespace Go.Proofs.YtihonljdanjfmaaGreatDoor.Sw
open Go.RowKit Go
def tC (t : Tl) : List AV := [.val (.int .i64 t.id), .val (.int .i64 t.hs), .sl 1 iC t.st, .sl 1 iC t.fo]
def rC (r : Rt) : List AV := [.val (.int .i64 r.skin), .val (.int .i64 r.half), .val (.int .i64 r.barrel), .val (.int .i64 r.paid)]
def pC (s : Int × Int) : List AV := [.val (.int .i64 s.1), .val (.int .i64 s.2)]
instance {t : Int × Int} : OneL (pC t) := inferInstanceAs (OneL [_, _])
theorem rdI_of {G : Nat → Option Obj} {w : World} (hG : Gin G w) {a : Option Addr} {xs : List Int} (h : SlP G 1 iC a xs) : RdI w a xs := fun i hi => by
 obtain ⟨b, o, e, h1⟩ := h i hi
 obtain ⟨u, h2, h3⟩ := h1 0 _ rfl
 refine ⟨b, o, e, ?_⟩
 have h3' : u = .int .i64 xs[i] := h3
 have := cellG.cell hG h2
 rw [h3'] at this
 simpa using this
theorem fits_tl {G : Nat → Option Obj} {w : World} (hG : Gin G w) {t : Tl} {v : Value} (h : (AV.agg (tC t)).P G v) : ∃ sa sc fa fc, v = .agg #[.int .i64 t.id, .int .i64 t.hs, .slice sa t.st.length sc, .slice fa t.fo.length fc] ∧ RdI w sa t.st ∧ RdI w fa t.fo := by
 obtain ⟨us, e, hu⟩ := h
 match us, hu with
 | [v0, v1, v2, v3], ⟨h0, h1, ⟨a1, c1, h2, _, h4⟩, ⟨a2, c2, h3, _, h5⟩, _⟩ =>
  have h0' : v0 = _ := h0
  have h1' : v1 = _ := h1
  subst e h0' h1' h2 h3
  exact ⟨a1, c1, a2, c2, rfl, rdI_of hG h4, rdI_of hG h5⟩
theorem fits_rt {G : Nat → Option Obj} {r : Rt} {v : Value} (h : (AV.agg (rC r)).P G v) : v = r.val := by
 obtain ⟨us, e, hu⟩ := h
 match us, hu with
 | [v0, v1, v2, v3], ⟨h0, h1, h2, h3, _⟩ =>
  have h0' : v0 = _ := h0
  have h1' : v1 = _ := h1
  have h2' : v2 = _ := h2
  have h3' : v3 = _ := h3
  subst e h0' h1' h2' h3'
  rfl
def TabG (G : Nat → Option Obj) : Prop := cellG G 1 0 = some (.func (.func 210) #[] #[]) ∧ cellG G 1 1 = some (.func (.func 211) #[] #[]) ∧ cellG G 1 2 = some (.func (.func 212) #[] #[])
def HA.tab : HA := ⟨fun G F _ => F = [] ∧ TabG G, fun h k => ⟨k.1, cellG.le h k.2.1, cellG.le h k.2.2.1, cellG.le h k.2.2.2⟩, fun _ k => k⟩
theorem con_tab {P : Program} {k : FuncId} {args : List AV} {av : AV} (he : ∀ args w, (callFunc k args).run P w = .ok (.enter k args) w)
  (h : ∀ (G : Nat → Option Obj) (vs : List Value) (w : World), Fits G args vs → Gin G w → Tab w → Calls P k vs.toArray w fun e w' => ∃ v, e = .returned v ∧ av.P G v ∧ Below w.heap.size w w') : Con P k args [HA.tab] (Is av [HA.tab]) :=
 ⟨he, fun G Fp vs w hf hi => by
  obtain ⟨F1, F2, ep, ⟨hF1, hT⟩, hF2⟩ := hi.hs
  have hF2' : F2 = [] := hF2
  subst hF1 hF2'
  obtain rfl : Fp = [] := List.Perm.eq_nil (by simpa using ep)
  refine (h G vs w hf hi.gin ⟨cellG.cell hi.gin hT.1, cellG.cell hi.gin hT.2.1, cellG.cell hi.gin hT.2.2⟩).mono fun e w' ⟨v, h1, h2, h3⟩ => ?_
  exact ⟨v, av, [HA.tab], G, [], h1, ⟨rfl, rfl⟩, ⟨h3.os, h3.tape, h3.output, h3.size, fun b hb _ => h3.block b hb, fun _ h => .inl h, Gle.refl _, fun _ _ h => .inl h⟩, ⟨fun b o e => (h3.block b (hi.gin.lt e)).trans (hi.gin b o e), by simp, fun b hb => (by cases hb), [], [], .refl _, ⟨rfl, hT⟩, rfl⟩, h2⟩⟩
def seA (s : (Int × Int) × Int) : AV := .tup [.agg (pC s.1), .val (.int .i64 s.2)]
theorem seA_ok (s : (Int × Int) × Int) (G : Nat → Option Obj) : (seA s).P G (.tuple #[.agg #[.int .i64 s.1.1, .int .i64 s.1.2], .int .i64 s.2]) := ⟨[_, _], rfl, ⟨[_, _], rfl, rfl, rfl, trivial⟩, rfl, trivial⟩
theorem owed_con (t : Tl) (r : Rt) (h1 : t.st.length ≤ 1000) (h2 : t.fo.length ≤ 1000) : Con Tryz.prog 37 [.agg (tC t), .agg (rC r)] [HA.tab] (Is (seA (owedR t r)) [HA.tab]) := by
 refine con_tab (enters_of Tryz.func37 (by kernel_rfl) rfl) fun G vs w hf hG hT => ?_
 match vs, hf with
 | [v, v'], ⟨h, h', _⟩ =>
  obtain ⟨sa, sc, fa, fc, rfl, g1, g2⟩ := fits_tl hG h
  obtain rfl := fits_rt h'
  exact (owed_any t r sa fa sc fc w hT h1 h2 g1 g2).mono fun e w' ⟨h, hb⟩ => ⟨_, h, seA_ok _ G, hb⟩
theorem owedR_eq (a : Tl) (r : Rt) : owedR a r = if okT a.id a.hs a.st a.fo = true then (if r.ok = true then (spanF (rateW r) a.st a.fo, 0) else ((0, 0), 71)) else ((0, 0), 70) := by
 unfold owedR owesR errAll owesL
 simp [Tl.ok]
 split <;> simp_all
end Go.Proofs.YtihonljdanjfmaaGreatDoor.Sw
namespace Go.Proofs.YtihonljdanjfmaaGreatDoor
open Go Go.ChangeShapes Go.WideShapes Go.ChangeAt Go.RowKit
def laidB : List (String × DataW Unit) := [("aguador/tally.checks", Rows.laid_aguador_tally_checks), ("aguador/floor.checks", Rows.laid_aguador_floor_checks)]
set_option maxRecDepth 100000 in
theorem door_metB (os : Os) (args : Array Value) : laidMetH Tryz.prog laidB ((World.doorLaid Tryz.prog 400 os).forCall (fun _ _ => 0) ⟨#[], args, []⟩).memory :=
 laidMetH_of_parts3 (fuel := 8) (laidMet_of_run' 8 (by kernel_rfl) (by kernel_rfl)) (by kernel_rfl) (by kernel_rfl)
set_option maxRecDepth 100000 in
theorem tab_ofT {W : World} {L : List (String × DataW Unit)} (hm : ("aguador/tally.checks", Rows.laid_aguador_tally_checks) ∈ L) (h : laidMetH Tryz.prog L W) : Tab W := by
 obtain ⟨g, t, cs, fuel, p, hg, ht, hv, hd⟩ := h.funcs (n := "aguador/tally.checks") hm
 obtain rfl := Option.some.inj ((show Tryz.prog.globalNamed "aguador/tally.checks" = some 1 by kernel_rfl).symm.trans hg)
 obtain rfl := Option.some.inj ((show (Tryz.prog.globals[1]?).map (·.type) = some 192 by kernel_rfl).symm.trans ht)
 have hd' : DataW.trod (funcToken Tryz.prog) Tryz.prog W 0 (fun _ => true) true fuel 192 cs.toList = some (.agg [.agg [.held [97, 103, 117, 97, 100, 111, 114, 47, 116, 97, 108, 108, 121, 46, 99, 104, 101, 99, 107, 115, 36, 49]], .agg [.held [97, 103, 117, 97, 100, 111, 114, 47, 116, 97, 108, 108, 121, 46, 99, 104, 101, 99, 107, 115, 36, 50]], .agg [.held [97, 103, 117, 97, 100, 111, 114, 47, 116, 97, 108, 108, 121, 46, 99, 104, 101, 99, 107, 115, 36, 51]]], p) := hd
 obtain ⟨xs, m, rfl, hx, hlen, hn, hel⟩ := DataW.trod_array Tryz.underlying192 hd'
 rw [show Tryz.prog.cellsOf 191 = 1 by kernel_rfl] at hel
 rw [show Tryz.prog.cellsOf 192 = 3 by kernel_rfl] at hlen
 obtain ⟨cl⟩ := cs
 match cl, hlen, xs, hn with
 | [v0, v1, v2], _, [x0, x1, x2], _ =>
  simp only [Prod.mk.injEq, DataW.agg.injEq, List.map_cons, List.map_nil, List.cons.injEq] at hx
  have h0 := hel 0 (by decide); have h1 := hel 1 (by decide); have h2 := hel 2 (by decide)
  simp at h0 h1 h2
  have go : ∀ (v : Value) (x : DataW (List UInt8) × List MemPlace) (b : UInt8) (r : List UInt8) (f0 : FuncId), ((List.range Tryz.prog.funcs.size).filter fun f => (Tryz.prog.funcs[f]?).any (·.name.toUTF8.data.toList == b :: r)) = [f0] →
    DataW.trod (funcToken Tryz.prog) Tryz.prog W 0 (fun _ => true) true m 191 [v] = some x → x.1 = .agg [.held (b :: r)] → v = .func (.func f0) #[] #[] := by
   intro v x b r f0 hone h hx
   obtain ⟨y, n, rfl, _, hy⟩ := trod_struct1 Tryz.underlying191 h
   simp only [DataW.agg.injEq, List.cons.injEq, and_true] at hx
   obtain ⟨y1, y2⟩ := y
   simp only at hx
   subst hx
   exact func_of_trod (P := Tryz.prog) Tryz.underlying70 hone (by simpa [show Tryz.prog.cellsOf 70 = 1 by kernel_rfl] using hy)
  have e0 := go v0 x0 _ _ 210 (by kernel_rfl) h0 hx.1.1.symm
  have e1 := go v1 x1 _ _ 211 (by kernel_rfl) h1 hx.1.2.1.symm
  have e2 := go v2 x2 _ _ 212 (by kernel_rfl) h2 hx.1.2.2.1.symm
  subst e0; subst e1; subst e2
  have c0 := World.var?_cell hg hv 0; have c1 := World.var?_cell hg hv 1; have c2 := World.var?_cell hg hv 2
  exact ⟨by simpa using c0, by simpa using c1, by simpa using c2⟩
end Go.Proofs.YtihonljdanjfmaaGreatDoor
namespace Go.Proofs.YtihonljdanjfmaaGreatDoor.Sw
open Go Go.RowKit Go.ChangeShapes Go.WideShapes Go.ChangeAt
set_option maxRecDepth 100000
theorem tab_hsT {w : World} (h : Tab w) : hsP [HA.tab] (gh w) [] w := ⟨[], [], .refl _, ⟨rfl, cellG_gh h.1, cellG_gh h.2.1, cellG_gh h.2.2⟩, rfl⟩
theorem tabs_of {W : World} (h : laidMetH Tryz.prog laidB W) : hsP [tab8, HA.tab] (gh W) [] W :=
 hsP.append (tab_of8 (List.mem_cons_of_mem _ (List.mem_cons_self ..)) h) (tab_hsT (tab_ofT (List.mem_cons_self ..) h))
end Go.Proofs.YtihonljdanjfmaaGreatDoor.Sw
namespace Go.Proofs.YtihonljdanjfmaaGreatDoor.Sw
open Go.RowKit Go Go.Shelf Go.Proofs
def sumPt : List Stk → Int
 | [] => 0
 | s :: t => s.pt + sumPt t
def addAt (l : List Int) (i : Nat) (d : Int) : List Int := l.set i (l[i]?.getD 0 + d)
def putAll (ids : List Int) (pe all : Int) : List Stk → List Int → List Int
 | [], l => l
 | s :: t, l => putAll ids pe all t (l.set (ids.idxOf s.fl) (pe * s.pt / all))
def incAll (ids : List Int) : List Stk → List Int → List Int
 | [], l => l
 | s :: t, l => incAll ids t (addAt l (ids.idxOf s.fl) 1)
def leftQ (pe all : Int) : List Stk → Int → Int
 | [], n => n
 | s :: t, n => leftQ pe all t (n - pe * s.pt / all)
def sharesR (ids : List Int) (x : Bil) : List Int := incAll ids (x.st.take (leftQ x.pe (sumPt x.st) x.st x.pe).toNat) (putAll ids x.pe (sumPt x.st) x.st (List.replicate ids.length 0))
def subL (l m : List Int) : List Int := List.zipWith (· - ·) l m
def bilFold (ids : List Int) : List Bil → List Int → List Int
 | [], l => l
 | x :: t, l => bilFold ids t (subL (addAt l (ids.idxOf x.py) x.pe) (sharesR ids x))
def payStep (ids : List Int) (x : Pay) (l : List Int) : List Int := addAt (addAt l (ids.idxOf x.a) x.p) (ids.idxOf x.b) (-x.p)
def payFold (ids : List Int) : List Pay → List Int → List Int
 | [], l => l
 | x :: t, l => payFold ids t (payStep ids x l)
def owed8 (f : Flo) : List Int := payFold f.ids f.ps (bilFold f.ids f.bs (List.replicate f.ids.length 0))
theorem stks_all {ids : List Int} : ∀ {t : List Stk} {last : Int}, stksOk ids last t = true → ∀ s ∈ t, s.fl ∈ ids ∧ 1 ≤ s.pt ∧ s.pt ≤ 9
 | [], _, _, s, hs => by cases hs
 | x :: t, last, h, s, hs => by
  simp only [stksOk, Bool.and_eq_true, decide_eq_true_eq] at h
  rcases List.mem_cons.1 hs with rfl | hs
  ·exact ⟨h.1.1.2, h.1.2.1, h.1.2.2⟩
  ·exact stks_all h.2 s hs
structure BilF (ids : List Int) (x : Bil) : Prop where
 py : x.py ∈ ids
 pe0 : 1 ≤ x.pe
 pe1 : x.pe ≤ 1000000
 ne : x.st ≠ []
 st : ∀ s ∈ x.st, s.fl ∈ ids ∧ 1 ≤ s.pt ∧ s.pt ≤ 9
theorem bil_f {ids : List Int} {x : Bil} (h : bilOk ids x = true) : BilF ids x := by
 simp only [bilOk, Bool.and_eq_true, decide_eq_true_eq] at h
 exact ⟨h.1.1.1, h.1.1.2.1, h.1.1.2.2, h.1.2, stks_all h.2⟩
theorem bils_all {ids : List Int} : ∀ {t : List Bil} {last : Int}, bilsOk ids last t = true → ∀ x ∈ t, BilF ids x
 | [], _, _, s, hs => by cases hs
 | x :: t, last, h, s, hs => by
  simp only [bilsOk, Bool.and_eq_true, decide_eq_true_eq] at h
  rcases List.mem_cons.1 hs with rfl | hs
  ·exact bil_f h.1.2
  ·exact bils_all h.2 s hs
theorem pay_f {ids : List Int} {x : Pay} (h : payOk ids x = true) : x.a ∈ ids ∧ x.b ∈ ids ∧ x.a ≠ x.b ∧ 1 ≤ x.p ∧ x.p ≤ 1000000 := by
 simp only [payOk, Bool.and_eq_true, decide_eq_true_eq] at h
 exact ⟨h.1.1.1, h.1.1.2, h.1.2, h.2.1, h.2.2⟩
theorem pays_all {ids : List Int} : ∀ {t : List Pay}, paysOk ids t = true → ∀ x ∈ t, x.a ∈ ids ∧ x.b ∈ ids ∧ x.a ≠ x.b ∧ 1 ≤ x.p ∧ x.p ≤ 1000000
 | [], _, s, hs => by cases hs
 | x :: t, h, s, hs => by
  simp only [paysOk, Bool.and_eq_true] at h
  rcases List.mem_cons.1 hs with rfl | hs
  ·exact pay_f h.1
  ·exact pays_all h.2 s hs
structure FloF (f : Flo) : Prop where
 ids : f.ids.length ≤ 6
 bs : f.bs.length ≤ 10
 ps : f.ps.length ≤ 12
 bil : ∀ x ∈ f.bs, BilF f.ids x
 pay : ∀ x ∈ f.ps, x.a ∈ f.ids ∧ x.b ∈ f.ids ∧ x.a ≠ x.b ∧ 1 ≤ x.p ∧ x.p ≤ 1000000
theorem flo_f {f : Flo} (h : floOk f = true) : FloF f := by
 simp only [floOk, Bool.and_eq_true, decide_eq_true_eq] at h
 exact ⟨h.1.1.1.1.1.1, h.1.1.1.1.1.2, h.1.1.1.1.2, bils_all h.1.2, pays_all h.2⟩
theorem sumPt_bounds {t : List Stk} (h : ∀ s ∈ t, 1 ≤ s.pt ∧ s.pt ≤ 9) : (t.length : Int) ≤ sumPt t ∧ sumPt t ≤ 9 * t.length := by
 induction t with
 | nil => simp [sumPt]
 | cons s t ih =>
  have h1 := h s (by simp)
  have h2 := ih fun u hu => h u (by simp [hu])
  simp only [sumPt, List.length_cons]
  omega
def quots (pe all : Int) : List Stk → Int
 | [] => 0
 | s :: t => pe * s.pt / all + quots pe all t
theorem leftQ_eq (pe all : Int) : ∀ (t : List Stk) (n : Int), leftQ pe all t n = n - quots pe all t
 | [], n => by simp [leftQ, quots]
 | s :: t, n => by rw [leftQ, leftQ_eq pe all t, quots]; omega
theorem quots_bounds {pe all : Int} (ha : 0 < all) : ∀ (t : List Stk), quots pe all t * all ≤ pe * sumPt t ∧ pe * sumPt t ≤ quots pe all t * all + t.length * (all - 1)
 | [] => by simp [quots, sumPt]
 | s :: t => by
  have ⟨h1, h2⟩ := quots_bounds (pe := pe) ha t
  have e := Int.mul_ediv_add_emod (pe * s.pt) all
  have r0 := Int.emod_nonneg (pe * s.pt) (show all ≠ 0 by omega)
  have r1 := Int.emod_lt_of_pos (pe * s.pt) ha
  simp only [quots, sumPt, List.length_cons]
  have e1 : (pe * s.pt / all + quots pe all t) * all = all * (pe * s.pt / all) + quots pe all t * all := by rw [Int.add_mul, Int.mul_comm (pe * s.pt / all)]
  have e2 : pe * (s.pt + sumPt t) = pe * s.pt + pe * sumPt t := Int.mul_add _ _ _
  have e3 : ((t.length + 1 : Nat) : Int) * (all - 1) = t.length * (all - 1) + (all - 1) := by rw [Int.natCast_add, Int.add_mul]; simp
  rw [e1, e2, e3]
  omega
theorem left_bounds {ids : List Int} {x : Bil} (h : BilF ids x) : 0 ≤ leftQ x.pe (sumPt x.st) x.st x.pe ∧ leftQ x.pe (sumPt x.st) x.st x.pe ≤ x.st.length := by
 have hb := sumPt_bounds fun s hs => (h.st s hs).2
 have hl : 0 < x.st.length := List.length_pos_iff.2 h.ne
 have ha : 0 < sumPt x.st := by omega
 obtain ⟨h1, h2⟩ := quots_bounds (pe := x.pe) ha x.st
 rw [leftQ_eq]
 have k1 : quots x.pe (sumPt x.st) x.st ≤ x.pe := Int.le_of_mul_le_mul_right h1 ha
 have k2 : x.pe ≤ quots x.pe (sumPt x.st) x.st + x.st.length := by
  refine Int.le_of_mul_le_mul_right (a := sumPt x.st) ?_ ha
  rw [Int.add_mul]
  have : (x.st.length : Int) * (sumPt x.st - 1) ≤ x.st.length * sumPt x.st := Int.mul_le_mul_of_nonneg_left (by omega) (by omega)
  omega
 omega
theorem quot_bounds {ids : List Int} {x : Bil} (h : BilF ids x) {s : Stk} (hs : s ∈ x.st) : 0 ≤ x.pe * s.pt ∧ x.pe * s.pt ≤ 9000000 ∧ 0 < sumPt x.st ∧ sumPt x.st ≤ 9 * x.st.length ∧ 0 ≤ x.pe * s.pt / sumPt x.st ∧ x.pe * s.pt / sumPt x.st ≤ 9000000 := by
 have hb := sumPt_bounds fun s hs => (h.st s hs).2
 have hl : 0 < x.st.length := List.length_pos_iff.2 h.ne
 have h1 := h.st s hs
 have h2 := h.pe0
 have h3 := h.pe1
 have a1 : 0 ≤ x.pe * s.pt := Int.mul_nonneg (by omega) (by omega)
 have a2 : x.pe * s.pt ≤ 1000000 * 9 := Int.mul_le_mul h3 h1.2.2 (by omega) (by omega)
 refine ⟨a1, by omega, by omega, hb.2, Int.ediv_nonneg a1 (by omega), ?_⟩
 have := Int.ediv_le_self (sumPt x.st) a1
 omega
def Btw (lo hi : Int) (l : List Int) : Prop := ∀ e ∈ l, lo ≤ e ∧ e ≤ hi
theorem Btw.set {lo hi : Int} {l : List Int} (h : Btw lo hi l) (i : Nat) {v : Int} (h1 : lo ≤ v) (h2 : v ≤ hi) : Btw lo hi (l.set i v) := fun e he => by
 rcases List.mem_or_eq_of_mem_set he with he | rfl
 ·exact h e he
 ·exact ⟨h1, h2⟩
theorem Btw.mono {lo hi lo' hi' : Int} {l : List Int} (h : Btw lo hi l) (h1 : lo' ≤ lo) (h2 : hi ≤ hi') : Btw lo' hi' l := fun e he => by have := h e he; omega
theorem Btw.getD {lo hi : Int} {l : List Int} (h : Btw lo hi l) (h1 : lo ≤ 0) (h2 : 0 ≤ hi) (i : Nat) : lo ≤ l[i]?.getD 0 ∧ l[i]?.getD 0 ≤ hi := by
 cases e : l[i]? with
 | none => exact ⟨h1, h2⟩
 | some v => exact h v (List.mem_of_getElem? e)
theorem Btw.addAt {lo hi : Int} {l : List Int} (h : Btw lo hi l) (i : Nat) {d a b : Int} (h1 : lo ≤ 0) (h2 : 0 ≤ hi) (ha : a ≤ d) (hb : d ≤ b) (ha0 : a ≤ 0) (hb0 : 0 ≤ b) : Btw (lo + a) (hi + b) (addAt l i d) := by
 have := h.getD h1 h2 i
 exact (h.mono (lo' := lo + a) (hi' := hi + b) (by omega) (by omega)).set i (by omega) (by omega)
theorem Btw.rep (n : Nat) {lo hi : Int} (h1 : lo ≤ 0) (h2 : 0 ≤ hi) : Btw lo hi (List.replicate n 0) := fun e he => by rw [List.eq_of_mem_replicate he]; exact ⟨h1, h2⟩
theorem Btw.at {lo hi : Int} {l : List Int} (h : Btw lo hi l) {i : Nat} (hi' : i < l.length) : lo ≤ l[i] ∧ l[i] ≤ hi := h _ (List.getElem_mem hi')
theorem addAt_len (l : List Int) (i : Nat) (d : Int) : (addAt l i d).length = l.length := by unfold addAt; simp
theorem addAt_at {l : List Int} {i : Nat} (h : i < l.length) (d : Int) : addAt l i d = l.set i (l[i] + d) := by unfold addAt; rw [List.getElem?_eq_getElem h]; rfl
theorem putAll_len {ids : List Int} {pe all : Int} : ∀ (t : List Stk) (l : List Int), (putAll ids pe all t l).length = l.length
 | [], l => rfl
 | s :: t, l => by rw [putAll, putAll_len t]; simp
theorem incAll_len {ids : List Int} : ∀ (t : List Stk) (l : List Int), (incAll ids t l).length = l.length
 | [], l => rfl
 | s :: t, l => by rw [incAll, incAll_len t, addAt_len]
theorem shares_len (ids : List Int) (x : Bil) : (sharesR ids x).length = ids.length := by unfold sharesR; rw [incAll_len, putAll_len]; simp
theorem putAll_btw {ids : List Int} {pe all hi : Int} : ∀ (t : List Stk) (l : List Int), (∀ s ∈ t, 0 ≤ pe * s.pt / all ∧ pe * s.pt / all ≤ hi) → Btw 0 hi l → Btw 0 hi (putAll ids pe all t l)
 | [], l, _, h => h
 | s :: t, l, hq, h => putAll_btw t _ (fun u hu => hq u (by simp [hu])) (h.set _ (hq s (by simp)).1 (hq s (by simp)).2)
theorem incAll_btw {ids : List Int} : ∀ (t : List Stk) (l : List Int) {hi : Int}, 0 ≤ hi → Btw 0 hi l → Btw 0 (hi + t.length) (incAll ids t l)
 | [], l, hi, _, h => by simpa [incAll] using h
 | s :: t, l, hi, h0, h => by
  have := incAll_btw (ids := ids) t (addAt l (ids.idxOf s.fl) 1) (hi := hi + 1) (by omega) (by simpa using h.addAt (ids.idxOf s.fl) (d := 1) (a := 0) (b := 1) (by omega) h0 (by omega) (by omega) (by omega) (by omega))
  rw [incAll]
  exact this.mono (by omega) (by simp only [List.length_cons]; omega)
theorem shares_btw {ids : List Int} {x : Bil} (h : BilF ids x) (hl : x.st.length ≤ 1000) : Btw 0 9001000 (sharesR ids x) := by
 have h1 := putAll_btw (ids := ids) (pe := x.pe) (all := sumPt x.st) (hi := 9000000) x.st (List.replicate ids.length 0) (fun s hs => (quot_bounds h hs).2.2.2.2) (Btw.rep _ (by omega) (by omega))
 have h2 := incAll_btw (ids := ids) (x.st.take (leftQ x.pe (sumPt x.st) x.st x.pe).toNat) _ (by omega) h1
 have h3 := List.length_take_le (leftQ x.pe (sumPt x.st) x.st x.pe).toNat x.st
 have h4 : (x.st.take (leftQ x.pe (sumPt x.st) x.st x.pe).toNat).length ≤ x.st.length := by rw [List.length_take]; omega
 exact h2.mono (by omega) (by omega)
end Go.Proofs.YtihonljdanjfmaaGreatDoor.Sw
namespace Go.Proofs.YtihonljdanjfmaaGreatDoor.Sw
open Go.RowKit Go Go.Shelf Go.Proofs
theorem zeroF {α : Type} {P : Program} {e : TypeId} {f : α → List AV} {x0 : α} {n b : Nat} {z : Value} (h2 : (P.info? e).map (fun i => (i.zero, i.size, i.bytes)) = some (some z, n, b)) {zs : List Value} (h3 : z.cells = zs.toArray) (h4 : ∀ G, Fits G (f x0) zs) : ZeroF P e f x0 := by
 obtain ⟨i, hi, e1, _, _⟩ := info_parts h2
 exact ⟨z, ⟨i, hi, e1⟩, zs, h3, h4⟩
instance zeroI : ZeroF Tryz.prog 3 iC 0 := zeroF (z := .int .i64 0) (n := 1) (b := 8) (zs := [.int .i64 0]) (by kernel_rfl) rfl (fun _ => ⟨rfl, trivial⟩)
end Go.Proofs.YtihonljdanjfmaaGreatDoor.Sw
namespace Go.Proofs.YtihonljdanjfmaaGreatDoor.Sw
open Go.RowKit Go Go.Shelf Go.Proofs
theorem subL_len {l m : List Int} (h : l.length = m.length) : (subL l m).length = l.length := by unfold subL; simp; omega
def subTo (l m : List Int) (k : Nat) : List Int := (subL l m).take k ++ l.drop k
theorem subTo_len {l m : List Int} (h : l.length = m.length) (k : Nat) : (subTo l m k).length = l.length := by
 unfold subTo; rw [List.length_append, List.length_take, List.length_drop, subL_len h]; omega
theorem subTo_get {l m : List Int} {k : Nat} (h : l.length = m.length) (hk : k < l.length) : (subTo l m k)[k]? = some l[k] := by
 unfold subTo
 rw [List.getElem?_append_right (by rw [List.length_take, subL_len h]; omega), List.length_take, subL_len h, List.getElem?_drop]
 rw [show k + (k - min k l.length) = k by omega]; exact List.getElem?_eq_getElem hk
theorem subTo_set {l m : List Int} {k : Nat} (h : l.length = m.length) (hk : k < l.length) : (subTo l m k).set k (l[k] - m[k]) = subTo l m (k + 1) := by
 have hs := subL_len h
 have hk2 : k < (subL l m).length := by omega
 unfold subTo
 rw [List.set_append_right _ _ (by rw [List.length_take]; omega), List.length_take, hs, show k - min k l.length = 0 by omega, List.drop_eq_getElem_cons hk, List.set_cons_zero, List.take_succ_eq_append_getElem hk2, List.append_assoc]
 congr 1
 simp [subL]
theorem subTo_all {l m : List Int} (h : l.length = m.length) : subTo l m l.length = subL l m := by
 unfold subTo
 rw [List.drop_length, List.append_nil, List.take_of_length_le (by rw [subL_len h]; omega)]
theorem Btw.subL {lo hi a b : Int} {l m : List Int} (h : Btw lo hi l) (k : Btw a b m) : Btw (lo - b) (hi - a) (subL l m) := fun e he => by
 unfold Sw.subL at he
 rw [List.zipWith_eq_zipWith_take_min] at he
 obtain ⟨i, hi', rfl⟩ := List.getElem_of_mem he
 rw [List.getElem_zipWith]
 have h1 := h.at (i := i) (by simp at hi'; omega)
 have h2 := k.at (i := i) (by simp at hi'; omega)
 simp only [List.getElem_take] at *
 omega
end Go.Proofs.YtihonljdanjfmaaGreatDoor.Sw
namespace Go.Proofs.YtihonljdanjfmaaGreatDoor.Sw
open Go.RowKit Go Go.Shelf Go.Proofs
def hits (a b : Int) (q : Qu) : Bool := decide (q.a = min a b) && decide (q.b = max a b)
def speakR (qs : List Qu) (a b : Int) : Bool := !(qs.any (hits a b)) && decide (a ≠ b)
def judgeGo (ids : List Int) (qs : List Qu) : Int → List Pay → List Int → List Int × Int × Int
 | _, [], cur => (cur, 0, 0)
 | k, x :: t, cur => if (payOk ids x && speakR qs x.a x.b) = true then judgeGo ids qs (k + 1) t (payStep ids x cur) else ([], k, 82)
def judgeR (f : Flo) (l : List Pay) : List Int × Int × Int :=
 if floOk f = true then (if l.length ≤ 12 then judgeGo f.ids f.qs 0 l (owed8 f) else ([], 0, 9)) else ([], 0, 80)
def jAV (r : List Int × Int × Int) : AV := .tup [.sl 1 iC r.1, .val (.int .i64 r.2.1), .val (.int .i64 r.2.2)]
theorem bilFold_len {ids : List Int} : ∀ (t : List Bil) (l : List Int), l.length = ids.length → (bilFold ids t l).length = ids.length
 | [], l, h => h
 | x :: t, l, h => by
  rw [bilFold]
  refine bilFold_len t _ ?_
  rw [subL_len (by rw [addAt_len, shares_len, h]), addAt_len, h]
theorem payFold_len {ids : List Int} : ∀ (t : List Pay) (l : List Int), (payFold ids t l).length = l.length
 | [], l => rfl
 | x :: t, l => by rw [payFold, payFold_len t]; unfold payStep; rw [addAt_len, addAt_len]
theorem owed8_len (f : Flo) : (owed8 f).length = f.ids.length := by unfold owed8; rw [payFold_len, bilFold_len _ _ (by simp)]
theorem bilFold_btw {ids : List Int} : ∀ (t : List Bil) (l : List Int) {c : Int}, 0 ≤ c → (∀ x ∈ t, BilF ids x ∧ x.st.length ≤ 1000) → Btw (-c) c l → Btw (-(c + 10000000 * t.length)) (c + 10000000 * t.length) (bilFold ids t l)
 | [], l, c, _, _, h => by simpa [bilFold] using h
 | x :: t, l, c, hc, hB, h => by
  have hx := hB x (by simp)
  have h1 := h.addAt (ids.idxOf x.py) (d := x.pe) (a := 0) (b := 1000000) (by omega) (by omega) (by have := hx.1.pe0; omega) hx.1.pe1 (by omega) (by omega)
  have h2 := (h1.subL (shares_btw hx.1 hx.2)).mono (lo' := -(c + 10000000)) (hi' := c + 10000000) (by omega) (by omega)
  have h3 := bilFold_btw (ids := ids) t _ (c := c + 10000000) (by omega) (fun y hy => hB y (by simp [hy])) h2
  rw [bilFold]
  exact h3.mono (by simp only [List.length_cons]; omega) (by simp only [List.length_cons]; omega)
theorem payStep_btw {ids : List Int} {x : Pay} {l : List Int} {c : Int} (hc : 0 ≤ c) (h1 : 1 ≤ x.p) (h2 : x.p ≤ 1000000) (h : Btw (-c) c l) : Btw (-(c + 1000000)) (c + 1000000) (payStep ids x l) := by
 have k1 := h.addAt (ids.idxOf x.a) (d := x.p) (a := 0) (b := 1000000) (by omega) (by omega) (by omega) h2 (by omega) (by omega)
 have k2 := k1.addAt (ids.idxOf x.b) (d := -x.p) (a := -1000000) (b := 0) (by omega) (by omega) (by omega) (by omega) (by omega) (by omega)
 exact k2.mono (by omega) (by omega)
theorem payFold_btw {ids : List Int} : ∀ (t : List Pay) (l : List Int) {c : Int}, 0 ≤ c → (∀ x ∈ t, 1 ≤ x.p ∧ x.p ≤ 1000000) → Btw (-c) c l → Btw (-(c + 1000000 * t.length)) (c + 1000000 * t.length) (payFold ids t l)
 | [], l, c, _, _, h => by simpa [payFold] using h
 | x :: t, l, c, hc, hB, h => by
  have hx := hB x (by simp)
  have h3 := payFold_btw (ids := ids) t _ (c := c + 1000000) (by omega) (fun y hy => hB y (by simp [hy])) (payStep_btw (ids := ids) hc hx.1 hx.2 h)
  rw [payFold]
  exact h3.mono (by simp only [List.length_cons]; omega) (by simp only [List.length_cons]; omega)
theorem owed8_btw {f : Flo} (hF : FloF f) (hS : Sml f) : Btw (-200000000) 200000000 (owed8 f) := by
 have h1 := bilFold_btw (ids := f.ids) f.bs (List.replicate f.ids.length 0) (c := 0) (by omega) (fun x hx => ⟨hF.bil x hx, hS.st x hx⟩) (Btw.rep _ (by omega) (by omega))
 have h2 := payFold_btw (ids := f.ids) f.ps _ (c := 0 + 10000000 * f.bs.length) (by omega) (fun x hx => (hF.pay x hx).2.2.2) h1
 have := hF.bs
 have := hF.ps
 exact h2.mono (by omega) (by omega)
end Go.Proofs.YtihonljdanjfmaaGreatDoor.Sw
namespace Go.Proofs.YtihonljdanjfmaaGreatDoor.Sw
open Go.RowKit Go Go.Shelf Go.Proofs
abbrev hsB (ph : Value) (f : Flo) (v : Value) : HA := .box ph (flC f ++ [.val v]) 104
set_option maxRecDepth 20000 in
theorem index_con (ph v : Value) (f : Flo) (id : Int) (hl : f.ids.length ≤ 1000000) : Con Tryz.prog 69 [.val ph, .val (.int .i64 id)] [hsB ph f v] (Is (.val (.int .i64 (ixOf f.ids id))) [hsB ph f v]) := by
 refine con_of Tryz.func69 rfl (enters_of Tryz.func69 (by kernel_rfl) rfl) rfl ?_; intro n w0 F0 G0
 refine goSt ?_
 (first | (apply wl_call (indexI_con f.ids id hl); exact rfl; exact rfl) | (apply wl_callR (indexI_con f.ids id hl); exact rfl; exact goAtm; exact rfl))
 refine goSt ?_
 (apply resK; exact rfl; exact rfl; (apply Cut.cons (h := hsB ph f v); exact goRm; exact Cut.nil); exact ⟨rfl, rfl⟩)
theorem indexAt_con (ph v : Value) (f : Flo) (id : Int) (hl : f.ids.length ≤ 1000000) (hm : id ∈ f.ids) : Con Tryz.prog 69 [.val ph, .val (.int .i64 id)] [hsB ph f v] (Is (.val (.int .i64 ((f.ids.idxOf id : Nat) : Int))) [hsB ph f v]) := by
 have := index_con ph v f id hl
 rwa [show ixOf f.ids id = ((f.ids.idxOf id : Nat) : Int) from if_pos hm] at this
end Go.Proofs.YtihonljdanjfmaaGreatDoor.Sw
namespace Go.Proofs.YtihonljdanjfmaaGreatDoor.Sw
open Go.RowKit Go Go.Shelf Go.Proofs
def TokW {α : Type} (e : TypeId) (n : Nat) (f : α → List AV) (xs : List α) (r : List HA) : AV → List HA → Prop := fun x y => ∃ u, x = .val u ∧ y = .row u e n f xs :: r
set_option maxRecDepth 20000 in
set_option maxHeartbeats 2000000 in
theorem shares_con (ph ow : Value) (f : Flo) (x : Bil) (hl : f.ids.length ≤ 6) (hs : x.st.length ≤ 1000) (hB : BilF f.ids x) : Con Tryz.prog 67 [.val ph, .agg (biC x)] [hsB ph f ow] (TokW 3 1 iC (sharesR f.ids x) [hsB ph f ow]) := by
 have hsum := sumPt_bounds fun s hs => (hB.st s hs).2
 have hlb := left_bounds hB
 have hpe0 := hB.pe0
 have hpe1 := hB.pe1
 refine con_of Tryz.func67 rfl (enters_of Tryz.func67 (by kernel_rfl) rfl) rfl ?_; intro n w0 F0 G0
 (refine goSt ?_; (repeat (refine goAl ?_; intro p hp; refine goSt ?_)))
 refine W_run 3 [15, 16, 5] [0, 1, 2] Cut.nil rfl goFlt mixedS (by kernel_rfl) rfl ?_
 refine rpv [] [] ?_
 refine rpv [0] [] ?_
 refine rpv [] [] ?_
 refine ⟨⟨by kernel_rfl, by kernel_rfl⟩, fun vs => ?_⟩
 apply WL_auto [1, 2]
 ·exact goPk
 ·exact goNrm
 ·kernel_rfl
 ·kernel_rfl
 (refine goSt ?_; (repeat (refine goAl ?_; intro p hp; refine goSt ?_)))
 (refine goSt ?_; (repeat (refine goAl ?_; intro p hp; refine goSt ?_)))
 refine W_loopJ (fun (b : Nat × Int) => ⟨[(0, .val ph), (3, .val p), (5, .val (.int .i64 b.2)), (6, .val (.int .i64 x.pe)), (18, .sl 2 stC x.st), (19, .val (.int .i64 x.st.length)), (20, .val (.int .i64 b.1))], [hsB ph f ow, .box p (biC x) 49]⟩) (fun b => b.1 ≤ x.st.length ∧ b.2 + sumPt (x.st.drop b.1) = sumPt x.st ∧ 0 ≤ b.2 ∧ b.2 ≤ 9 * b.1) (fun b => x.st.length - b.1) (0, 0) (fun _ _ st => st_sub2 st goSubr goSubp) ?hj0 ?round
 case hj0 => simp
 case round =>
  rintro ⟨k, acc⟩ ⟨hk, hno, ha0, ha1⟩
  dsimp only at hk hno ha0 ha1 ⊢
  (refine goSt ?_; (repeat (refine goAl ?_; intro p hp; refine goSt ?_)))
  refine w_cond rfl (fun hlt => ?_) (fun hlt => ?_)
  ·have hlt' : k < x.st.length := by simpa using hlt
   have hp := (hB.st _ (List.getElem_mem hlt')).2
   rw [drop_step hlt', sumPt] at hno
   (refine goSt ?_; (repeat (refine goAl ?_; intro p hp; refine goSt ?_)))
   (refine ⟨(k + 1, acc + x.st[k].pt), fun _ _ st => st_sub2 st ?_ ?_, ?_, ?_⟩; exact goSubr; exact goSubp)
   ·exact ⟨hlt', by dsimp only; omega, by dsimp only; omega, by dsimp only; omega⟩
   ·dsimp only; omega
  ·have hkk : k = x.st.length := by simp at hlt; omega
   subst hkk
   rw [List.drop_length, sumPt, Int.add_zero] at hno
   subst hno
   clear hlt hk ha0 ha1
   (refine goSt ?_; (repeat (refine goAl ?_; intro p hp; refine goSt ?_)))
   (apply wl_make iC; exact inferInstance; exact inferInstance; exact inferInstance; exact inferInstance; exact rfl; exact rfl; exact rfl; (first | omega | (simp; omega)); exact rfl)
   intro v
   (refine goSt ?_; (repeat (refine goAl ?_; intro p hp; refine goSt ?_)))
   refine W_loopJ (fun (b : Nat × Int × List Int) => ⟨[(0, .val ph), (3, .val p), (5, .val (.int .i64 (sumPt x.st))), (9, .val v), (6, .val (.int .i64 b.2.1)), (37, .sl 2 stC x.st), (38, .val (.int .i64 x.st.length)), (39, .val (.int .i64 b.1))], [.row v 3 1 iC b.2.2, hsB ph f ow, .box p (biC x) 49]⟩)
    (fun b => b.1 ≤ x.st.length ∧ b.2.2.length = f.ids.length ∧ putAll f.ids x.pe (sumPt x.st) (x.st.drop b.1) b.2.2 = putAll f.ids x.pe (sumPt x.st) x.st (List.replicate f.ids.length 0) ∧ leftQ x.pe (sumPt x.st) (x.st.drop b.1) b.2.1 = leftQ x.pe (sumPt x.st) x.st x.pe ∧ -9000000 * (b.1 : Int) ≤ b.2.1 ∧ b.2.1 ≤ 1000000) (fun b => x.st.length - b.1) (0, x.pe, List.replicate f.ids.length 0) (fun _ _ st => st_sub2 st (by exact goSubr) (by exact goSubp)) ⟨Nat.zero_le _, by simp, rfl, rfl, by dsimp only; omega, by dsimp only; omega⟩ ?_
   rintro ⟨k, left, cur⟩ ⟨hk, hcl, hno, hlf, hl0, hl1⟩
   dsimp only at hk hcl hno hlf hl0 hl1 ⊢
   (refine goSt ?_; (repeat (refine goAl ?_; intro p hp; refine goSt ?_)))
   refine w_cond rfl (fun hlt => ?_) (fun hlt => ?_)
   ·have hlt' : k < x.st.length := by simpa using hlt
    have hsk := hB.st _ (List.getElem_mem hlt')
    have hq := quot_bounds hB (List.getElem_mem hlt')
    have hix : f.ids.idxOf x.st[k].fl < cur.length := by rw [hcl]; exact List.idxOf_lt_length_of_mem hsk.1
    rw [drop_step hlt', putAll] at hno
    rw [drop_step hlt', leftQ] at hlf
    (refine goSt ?_; (repeat (refine goAl ?_; intro p hp; refine goSt ?_)))
    (first | (apply wl_call (indexAt_con ph ow f _ (by omega) hsk.1); exact rfl; exact rfl) | (apply wl_callR (indexAt_con ph ow f _ (by omega) hsk.1); exact rfl; exact goAtm; exact rfl))
    (refine goSt ?_; (repeat (refine goAl ?_; intro p hp; refine goSt ?_)))
    (refine ⟨(k + 1, left - x.pe * x.st[k].pt / sumPt x.st, cur.set (f.ids.idxOf x.st[k].fl) (x.pe * x.st[k].pt / sumPt x.st)), fun _ _ st => st_sub2 st ?_ ?_, ?_, ?_⟩; exact goSubr; exact goSubp)
    ·exact ⟨hlt', by dsimp only; rw [List.length_set]; exact hcl, hno, hlf, by dsimp only; omega, by dsimp only; omega⟩
    ·dsimp only; omega
   ·have hkk : k = x.st.length := by simp at hlt; omega
    subst hkk
    rw [List.drop_length, putAll] at hno
    rw [List.drop_length, leftQ] at hlf
    obtain ⟨m, hm⟩ : ∃ m : Nat, left = (m : Int) := ⟨left.toNat, by omega⟩
    have hml : m ≤ x.st.length := by omega
    have hW : sharesR f.ids x = incAll f.ids (x.st.take m) cur := by unfold sharesR; rw [← hlf, ← hno, hm]; rfl
    have hbt : Btw 0 9000000 cur := by
     rw [hno]
     exact putAll_btw _ _ (fun s hs => (quot_bounds hB hs).2.2.2.2) (Btw.rep _ (by omega) (by omega))
    subst hm
    rw [hW]
    clear hW hno hlf hlt hk hl0 hl1 hlb
    (refine goSt ?_; (repeat (refine goAl ?_; intro p hp; refine goSt ?_)))
    (apply wl_slTo (h := m); exact inferInstance; exact rfl; exact rfl; (first | exact rfl | omega | (simp; omega)); exact hml; exact rfl)
    have htl : (x.st.take m).length = m := by rw [List.length_take]; omega
    (refine goSt ?_; (repeat (refine goAl ?_; intro p hp; refine goSt ?_)))
    refine W_loopJ (fun (b : Nat × List Int) => ⟨[(0, .val ph), (3, .val p), (9, .val v), (64, .sl 2 stC (x.st.take m)), (65, .val (.int .i64 (x.st.take m).length)), (66, .val (.int .i64 b.1))], [.row v 3 1 iC b.2, hsB ph f ow, .box p (biC x) 49]⟩)
     (fun b => b.1 ≤ m ∧ b.2.length = f.ids.length ∧ incAll f.ids ((x.st.take m).drop b.1) b.2 = incAll f.ids (x.st.take m) cur ∧ Btw 0 (9000000 + b.1) b.2) (fun b => m - b.1) (0, cur) (fun _ _ st => st_sub2 st (by exact goSubr) (by exact goSubp)) ⟨Nat.zero_le _, hcl, rfl, hbt.mono (by omega) (by dsimp only; omega)⟩ ?_
    rintro ⟨i, cu⟩ ⟨hi, hcl2, hno, hbt2⟩
    dsimp only at hi hcl2 hno hbt2 ⊢
    (refine goSt ?_; (repeat (refine goAl ?_; intro p hp; refine goSt ?_)))
    refine w_cond rfl (fun hlt => ?_) (fun hlt => ?_)
    ·have hlt' : i < m := by simp at hlt; omega
     have hil : i < x.st.length := by omega
     have hitl : i < (x.st.take m).length := by omega
     have hsk := hB.st _ (List.getElem_mem hil)
     have hge : (x.st.take m)[i] = x.st[i] := List.getElem_take
     have hix : f.ids.idxOf x.st[i].fl < cu.length := by rw [hcl2]; exact List.idxOf_lt_length_of_mem hsk.1
     have hce := hbt2.at hix
     rw [drop_step (by rw [List.length_take]; omega), incAll, hge, addAt_at hix] at hno
     (refine goSt ?_; (repeat (refine goAl ?_; intro p hp; refine goSt ?_)))
     rw [hge]
     (first | (apply wl_call (indexAt_con ph ow f _ (by omega) hsk.1); exact rfl; exact rfl) | (apply wl_callR (indexAt_con ph ow f _ (by omega) hsk.1); exact rfl; exact goAtm; exact rfl))
     (refine goSt ?_; (repeat (refine goAl ?_; intro p hp; refine goSt ?_)))
     (refine ⟨(i + 1, cu.set (f.ids.idxOf x.st[i].fl) (cu[f.ids.idxOf x.st[i].fl] + 1)), fun _ _ st => st_sub2 st ?_ ?_, ?_, ?_⟩; exact goSubr; exact goSubp)
     ·exact ⟨hlt', by dsimp only; rw [List.length_set]; exact hcl2, hno, (hbt2.mono (by omega) (by dsimp only; omega)).set _ (by omega) (by dsimp only; omega)⟩
     ·dsimp only; omega
    ·have hkk : i = m := by simp at hlt; omega
     subst hkk
     rw [List.drop_of_length_le (by rw [List.length_take]; omega), incAll] at hno
     rw [← hno]
     (refine goSt ?_; (repeat (refine goAl ?_; intro p hp; refine goSt ?_)))
     (apply resK; exact rfl; exact rfl; (apply Cut.cons; exact goRm; apply Cut.cons (h := hsB ph f ow); exact goRm; exact Cut.nil); exact ⟨_, rfl, rfl⟩)
end Go.Proofs.YtihonljdanjfmaaGreatDoor.Sw
namespace Go.Proofs.YtihonljdanjfmaaGreatDoor.Sw
open Go.RowKit Go Go.Shelf Go.Proofs
set_option maxRecDepth 20000 in
set_option maxHeartbeats 2000000 in
theorem paid_con (ph ow : Value) (f : Flo) (x : Pay) (cu : List Int) {c : Int} (hl : f.ids.length ≤ 6) (hP : x.a ∈ f.ids ∧ x.b ∈ f.ids ∧ x.a ≠ x.b ∧ 1 ≤ x.p ∧ x.p ≤ 1000000) (hcl : cu.length = f.ids.length) (hbt : Btw (-c) c cu) (hc0 : 0 ≤ c) (hc : c ≤ 1000000000000) : Con Tryz.prog 90 [.val ph, .agg (payC x)] [hsB ph f ow, .row ow 3 1 iC cu] (Is (.tup []) [hsB ph f ow, .row ow 3 1 iC (payStep f.ids x cu)]) := by
 have hix : f.ids.idxOf x.a < cu.length := by rw [hcl]; exact List.idxOf_lt_length_of_mem hP.1
 have hq2 : cu[f.ids.idxOf x.a]? = some cu[f.ids.idxOf x.a] := List.getElem?_eq_getElem hix
 have hce := hbt.at hix
 have hb1 := hbt.addAt (f.ids.idxOf x.a) (d := x.p) (a := 0) (b := 1000000) (by omega) (by omega) (by omega) (by omega) (by omega) (by omega)
 rw [payStep]
 rw [addAt_at hix] at hb1 ⊢
 refine con_of Tryz.func90 rfl (enters_of Tryz.func90 (by kernel_rfl) rfl) rfl ?_; intro n w0 F0 G0
 (refine goSt ?_; (repeat (refine goAl ?_; intro p hp; refine goSt ?_)))
 refine W_run 12 [4, 5, 6, 7, 8, 9, 10, 11, 12, 13, 14, 15] [0, 1, 2, 3, 4, 5, 6, 7, 8, 9, 10, 11] Cut.nil rfl goFlt mixedS (by kernel_rfl) rfl ?_
 refine rpv [] [] ?_
 refine rpv [0] [] ?_
 refine rpv [1] [] ?_
 refine rpv [2] [] ?_
 refine rpv [] [] ?_
 refine rpv [] [] ?_
 refine rpv [5] [] ?_
 refine Run.pv [4, 6] [] rfl (fun vs => by apply ltr_pk; exact goPk; (apply ltr_callR ((indexAt_con ph ow f _ (by omega) hP.1)); exact rfl; exact goAtm)) goApp ?_
 refine rpv [3, 7] [] ?_
 refine rpv [8] [] ?_
 refine rpv [] [] ?_
 refine rpv [10] [] ?_
 refine ⟨⟨by kernel_rfl, by kernel_rfl⟩, fun vs => ?_⟩
 apply WL_auto [3, 7, 9, 11]
 ·exact goPk
 ·exact goNrm
 ·kernel_rfl
 ·kernel_rfl
 refine goSt ?_
 generalize hc1 : cu.set (f.ids.idxOf x.a) (cu[f.ids.idxOf x.a] + x.p) = c1 at *
 have hc1l : c1.length = f.ids.length := by rw [← hc1, List.length_set, hcl]
 have hix2 : f.ids.idxOf x.b < c1.length := by rw [hc1l]; exact List.idxOf_lt_length_of_mem hP.2.1
 have hq3 : c1[f.ids.idxOf x.b]? = some c1[f.ids.idxOf x.b] := List.getElem?_eq_getElem hix2
 have hce2 := hb1.at hix2
 rw [addAt_at hix2, ← Int.sub_eq_add_neg]
 refine goSt ?_
 refine W_run 12 [18, 19, 20, 21, 22, 23, 24, 25, 26, 27, 28, 29] [0, 1, 2, 3, 4, 5, 6, 7, 8, 9, 10, 11] Cut.nil rfl goFlt mixedS (by kernel_rfl) rfl ?_
 refine rpv [] [] ?_
 refine rpv [0] [] ?_
 refine rpv [1] [] ?_
 refine rpv [2] [] ?_
 refine rpv [] [] ?_
 refine rpv [] [] ?_
 refine rpv [5] [] ?_
 refine Run.pv [4, 6] [] rfl (fun vs => by apply ltr_pk; exact goPk; (apply ltr_callR ((indexAt_con ph ow f _ (by omega) hP.2.1)); exact rfl; exact goAtm)) goApp ?_
 refine rpv [3, 7] [] ?_
 refine rpv [8] [] ?_
 refine rpv [] [] ?_
 refine rpv [10] [] ?_
 refine ⟨⟨by kernel_rfl, by kernel_rfl⟩, fun vs => ?_⟩
 apply WL_auto [3, 7, 9, 11]
 ·exact goPk
 ·exact goNrm
 ·kernel_rfl
 ·kernel_rfl
 refine goSt ?_
 (apply resK0; exact rfl; exact ⟨rfl, rfl⟩; exact goCutl)
end Go.Proofs.YtihonljdanjfmaaGreatDoor.Sw
namespace Go.Proofs.YtihonljdanjfmaaGreatDoor.Sw
open Go.RowKit Go Go.Shelf Go.Proofs
theorem addAt_subL {l m : List Int} (h : l.length = m.length) (i : Nat) (d : Int) : addAt (subL l m) i d = subL (addAt l i d) m := by
 unfold addAt
 by_cases hi : i < l.length
 ·have hm : i < m.length := by omega
  have e1 : (subL l m)[i]? = some (l[i] - m[i]) := by unfold subL; rw [List.getElem?_eq_getElem (by simp; omega), List.getElem_zipWith]
  rw [e1, List.getElem?_eq_getElem hi]
  simp only [Option.getD_some]
  unfold subL
  apply List.ext_getElem (by simp)
  intro k h1 h2
  simp only [List.getElem_set, List.getElem_zipWith]
  split
  ·rename_i e
   subst e
   omega
  ·rfl
 ·rw [List.set_eq_of_length_le (by rw [subL_len h]; omega), List.set_eq_of_length_le (by omega)]
theorem bilFold_step {ids : List Int} {x : Bil} {t : List Bil} {l : List Int} (h : l.length = ids.length) : bilFold ids (x :: t) l = bilFold ids t (addAt (subL l (sharesR ids x)) (ids.idxOf x.py) x.pe) := by
 rw [bilFold, addAt_subL (by rw [h, shares_len])]
def OpenP (f : Flo) : AV → List HA → Prop := fun x y => ∃ ph v, x = .tup [.val ph, .val (.int .i64 0)] ∧ y = [hsB ph f v, .row v 3 1 iC (owed8 f), tab8]
set_option maxRecDepth 20000 in
set_option maxHeartbeats 2000000 in
theorem openedNo_con (f : Flo) (hS : Sml f) (hno : floOk f = false) : Con Tryz.prog 58 [.agg (flC f)] [tab8] (Is (.tup [.val (.pointer none), .val (.int .i64 80)]) [tab8]) := by
 have C := check_con f hS
 rw [show errF f = 80 by unfold errF; rw [hno]; rfl] at C
 refine con_of Tryz.func58 rfl (enters_of Tryz.func58 (by kernel_rfl) rfl) rfl ?_; intro n w0 F0 G0
 (refine goSt ?_; (repeat (refine goAl ?_; intro p hp; refine goSt ?_)))
 (first | (apply wl_call (C); exact rfl; exact rfl) | (apply wl_callR (C); exact rfl; exact goAtm; exact rfl))
 (refine goSt ?_; (repeat (refine goAl ?_; intro p hp; refine goSt ?_)))
 (apply resK2; exact rfl; exact rfl; exact rfl; exact ⟨rfl, rfl⟩; exact goCutl)
set_option maxRecDepth 20000 in
set_option maxHeartbeats 2000000 in
theorem opened_con (f : Flo) (hS : Sml f) (hok : floOk f = true) : Con Tryz.prog 58 [.agg (flC f)] [tab8] (OpenP f) := by
 have C := check_con f hS
 rw [show errF f = 0 by unfold errF; rw [hok]; rfl] at C
 have hF := flo_f hok
 have hidsl := hF.ids
 have hbsl := hF.bs
 have hpsl := hF.ps
 refine con_of Tryz.func58 rfl (enters_of Tryz.func58 (by kernel_rfl) rfl) rfl ?_; intro n w0 F0 G0
 (refine goSt ?_; (repeat (refine goAl ?_; intro p hp; refine goSt ?_)))
 (first | (apply wl_call (C); exact rfl; exact rfl) | (apply wl_callR (C); exact rfl; exact goAtm; exact rfl))
 (refine goSt ?_; (repeat (refine goAl ?_; intro p hp; refine goSt ?_)))
 refine W_run 5 [17, 18, 19, 20, 21] [0, 1, 2, 3, 4] Cut.nil rfl goFlt mixedS (by kernel_rfl) rfl ?_
 refine rpv [] [] ?_
 refine rpv [] [] ?_
 refine rpv [1] [] ?_
 refine rpv [2] [] ?_
 refine Run.tok [3] [] rfl (fun vs => by apply ltr_pk; exact goPk; (refine ltr ?_; apply lt_make (f := iC); exact rfl; exact rfl; exact rfl; (first | omega | (simp; omega)))) goApp ?_
 refine ⟨⟨by kernel_rfl, by kernel_rfl⟩, fun vs => ?_⟩
 apply WL_auto [0, 4]
 ·exact goPk
 ·exact goNrm
 ·kernel_rfl
 ·kernel_rfl
 generalize vs 4 = ow
 (refine goSt ?_; (repeat (refine goAl ?_; intro p hp; refine goSt ?_)))
 refine WL_one At.here (fun hone => ?_)
 (refine goSt ?_; (repeat (refine goAl ?_; intro p hp; refine goSt ?_)))
 rename_i pf hpf
 refine W_loopJ (fun (b : Nat × List Int) => ⟨[(1, .val pf), (5, .val p), (25, .sl 4 biC f.bs), (26, .val (.int .i64 f.bs.length)), (27, .val (.int .i64 b.1))], [.row ow 3 1 iC b.2, hsB p f ow, .box pf (flC f) 27, tab8]⟩)
  (fun b => b.1 ≤ f.bs.length ∧ b.2.length = f.ids.length ∧ bilFold f.ids (f.bs.drop b.1) b.2 = bilFold f.ids f.bs (List.replicate f.ids.length 0) ∧ Btw (-(10000000 * b.1)) (10000000 * b.1) b.2) (fun b => f.bs.length - b.1) (0, List.replicate f.ids.length 0) (fun _ _ st => st_sub2 st (by exact goSubr) (by exact goSubp)) ⟨Nat.zero_le _, by simp, rfl, Btw.rep _ (by dsimp only; omega) (by dsimp only; omega)⟩ ?_
 rintro ⟨k, cur⟩ ⟨hk, hcl, hnf, hbt⟩
 dsimp only at hk hcl hnf hbt ⊢
 (refine goSt ?_; (repeat (refine goAl ?_; intro p hp; refine goSt ?_)))
 refine w_cond rfl (fun hlt => ?_) (fun hlt => ?_)
 ·have hlt' : k < f.bs.length := by simpa using hlt
  have hB := hF.bil _ (List.getElem_mem hlt')
  have hsl := hS.st _ (List.getElem_mem hlt')
  have hpe0 := hB.pe0
  have hpe1 := hB.pe1
  rw [drop_step hlt', bilFold_step hcl] at hnf
  (refine goSt ?_; (repeat (refine goAl ?_; intro p hp; refine goSt ?_)))
  rename_i ph hph
  have hsc := shares_con ph ow f f.bs[k] (by omega) (by omega) hB
  have hshl := shares_len f.ids f.bs[k]
  have hsb := shares_btw hB hsl
  generalize hsh : sharesR f.ids f.bs[k] = sh at *
  (apply wl_callP (hsc); exact rfl; exact goCutl; exact rfl)
  rintro _ _ ⟨u, rfl, rfl⟩
  have hc1l : cur.length = sh.length := by rw [hshl, hcl]
  (refine goSt ?_; (repeat (refine goAl ?_; intro p hp; refine goSt ?_)))
  refine W_loopJ (fun (m : Nat) => ⟨[(1, .val pf), (5, .val ph), (7, .val p), (25, .sl 4 biC f.bs), (26, .val (.int .i64 f.bs.length)), (27, .val (.int .i64 k)), (33, .val u), (34, .val (.int .i64 sh.length)), (35, .val (.int .i64 m))], [.row u 3 1 iC sh, .row ow 3 1 iC (subTo cur sh m), hsB ph f ow, .box p (biC f.bs[k]) 49, .box pf (flC f) 27, tab8]⟩)
   (fun m => m ≤ sh.length) (fun m => sh.length - m) 0 (fun _ _ st => st_sub2 st (by exact goSubr) (by exact goSubp)) (Nat.zero_le _) ?_
  rintro m hm
  (refine goSt ?_; (repeat (refine goAl ?_; intro p hp; refine goSt ?_)))
  refine w_cond rfl (fun hlm => ?_) (fun hlm => ?_)
  ·have hlm' : m < sh.length := by simpa using hlm
   have hmc : m < cur.length := by omega
   have hmk : m < (subTo cur sh m).length := by rw [subTo_len hc1l]; exact hmc
   have hv : (subTo cur sh m)[m] = cur[m] := by
    have := subTo_get hc1l hmc
    rw [List.getElem?_eq_getElem hmk] at this
    exact Option.some.inj this
   have hb2 := hbt.at hmc
   have hb3 := hsb.at hlm'
   (refine goSt ?_; (repeat (refine goAl ?_; intro p hp; refine goSt ?_)))
   rw [show (subTo cur sh m).set m ((subTo cur sh m)[m] - sh[m]) = subTo cur sh (m + 1) from by rw [hv]; exact subTo_set hc1l hmc]
   (refine ⟨m + 1, fun _ _ st => st_sub2 st ?_ ?_, ?_, ?_⟩; exact goSubr; exact goSubp)
   ·omega
   ·omega
  ·have hmm : m = sh.length := by simp at hlm; omega
   subst hmm
   rw [show subTo cur sh sh.length = subL cur sh from by rw [← hc1l]; exact subTo_all hc1l]
   have hb1 := hbt.subL hsb
   generalize hc1 : subL cur sh = c1 at *
   have hc1n : c1.length = f.ids.length := by rw [← hc1, subL_len hc1l, hcl]
   have hix : f.ids.idxOf f.bs[k].py < c1.length := by rw [hc1n]; exact List.idxOf_lt_length_of_mem hB.py
   have hq2 : c1[f.ids.idxOf f.bs[k].py]? = some c1[f.ids.idxOf f.bs[k].py] := List.getElem?_eq_getElem hix
   have hce := hb1.at hix
   have hb2 := hb1.addAt (f.ids.idxOf f.bs[k].py) (d := f.bs[k].pe) (a := 0) (b := 1000000) (by omega) (by omega) (by omega) (by omega) (by omega) (by omega)
   rw [addAt_at hix] at hb2 hnf
   (refine goSt ?_; (repeat (refine goAl ?_; intro p hp; refine goSt ?_)))
   refine W_run 12 [51, 52, 53, 54, 55, 56, 57, 58, 59, 60, 61, 62] [0, 1, 2, 3, 4, 5, 6, 7, 8, 9, 10, 11] Cut.nil rfl goFlt mixedS (by kernel_rfl) rfl ?_
   refine rpv [] [] ?_
   refine rpv [0] [] ?_
   refine rpv [1] [] ?_
   refine rpv [2] [] ?_
   refine rpv [] [] ?_
   refine rpv [] [] ?_
   refine rpv [5] [] ?_
   refine Run.pv [4, 6] [] rfl (fun vs => by apply ltr_pk; exact goPk; (apply ltr_callR ((indexAt_con ph ow f _ (by omega) hB.py)); exact rfl; exact goAtm)) goApp ?_
   refine rpv [3, 7] [] ?_
   refine rpv [8] [] ?_
   refine rpv [] [] ?_
   refine rpv [10] [] ?_
   refine ⟨⟨by kernel_rfl, by kernel_rfl⟩, fun vs => ?_⟩
   apply WL_auto [3, 7, 9, 11]
   ·exact goPk
   ·exact goNrm
   ·kernel_rfl
   ·kernel_rfl
   (refine goSt ?_; (repeat (refine goAl ?_; intro p hp; refine goSt ?_)))
   (refine ⟨(k + 1, c1.set (f.ids.idxOf f.bs[k].py) (c1[f.ids.idxOf f.bs[k].py] + f.bs[k].pe)), fun _ _ st => st_sub2 st ?_ ?_, ?_, ?_⟩; exact goSubr; exact goSubp)
   ·exact ⟨hlt', by dsimp only; rw [List.length_set]; exact hc1n, hnf, hb2.mono (by dsimp only; omega) (by dsimp only; omega)⟩
   ·dsimp only; omega
 ·have hkk : k = f.bs.length := by simp at hlt; omega
  subst hkk
  rw [List.drop_length, bilFold] at hnf
  have hO : owed8 f = payFold f.ids f.ps cur := by unfold owed8; rw [← hnf]
  unfold OpenP
  rw [hO]
  clear hnf hlt hk hO
  (refine goSt ?_; (repeat (refine goAl ?_; intro p hp; refine goSt ?_)))
  refine W_loopJ (fun (b : Nat × List Int) => ⟨[(1, .val pf), (5, .val p), (67, .sl 3 payC f.ps), (68, .val (.int .i64 f.ps.length)), (69, .val (.int .i64 b.1))], [.row ow 3 1 iC b.2, hsB p f ow, .box pf (flC f) 27, tab8]⟩)
   (fun b => b.1 ≤ f.ps.length ∧ b.2.length = f.ids.length ∧ payFold f.ids (f.ps.drop b.1) b.2 = payFold f.ids f.ps cur ∧ Btw (-(200000000 + 2000000 * b.1)) (200000000 + 2000000 * b.1) b.2) (fun b => f.ps.length - b.1) (0, cur) (fun _ _ st => st_sub2 st (by exact goSubr) (by exact goSubp)) ⟨Nat.zero_le _, hcl, rfl, hbt.mono (by dsimp only; omega) (by dsimp only; omega)⟩ ?_
  clear hbt hcl
  rintro ⟨k, cu⟩ ⟨hk, hcl, hnf, hbt⟩
  dsimp only at hk hcl hnf hbt ⊢
  (refine goSt ?_; (repeat (refine goAl ?_; intro p hp; refine goSt ?_)))
  refine w_cond rfl (fun hlt => ?_) (fun hlt => ?_)
  ·have hlt' : k < f.ps.length := by simpa using hlt
   have hP := hF.pay _ (List.getElem_mem hlt')
   rw [drop_step hlt', payFold] at hnf
   (refine goSt ?_; (repeat (refine goAl ?_; intro p hp; refine goSt ?_)))
   rename_i ph hph
   (apply wl_callP (paid_con ph ow f f.ps[k] cu (by omega) hP hcl hbt (by omega) (by omega)); exact rfl; exact goCutl; exact rfl)
   rintro _ _ ⟨rfl, rfl⟩
   (refine goSt ?_; (repeat (refine goAl ?_; intro p hp; refine goSt ?_)))
   (refine ⟨(k + 1, payStep f.ids f.ps[k] cu), fun _ _ st => st_sub2 st ?_ ?_, ?_, ?_⟩; exact goSubr; exact goSubp)
   ·exact ⟨hlt', by dsimp only; unfold payStep; rw [addAt_len, addAt_len]; exact hcl, hnf, (payStep_btw (by omega) hP.2.2.2.1 hP.2.2.2.2 hbt).mono (by dsimp only; omega) (by dsimp only; omega)⟩
   ·dsimp only; omega
  ·have hkk : k = f.ps.length := by simp at hlt; omega
   subst hkk
   rw [List.drop_length, payFold] at hnf
   rw [← hnf]
   (refine goSt ?_; (repeat (refine goAl ?_; intro p hp; refine goSt ?_)))
   (apply resK2; exact rfl; exact rfl; exact rfl; exact ⟨p, ow, rfl, rfl⟩; exact goCutl)
end Go.Proofs.YtihonljdanjfmaaGreatDoor.Sw
