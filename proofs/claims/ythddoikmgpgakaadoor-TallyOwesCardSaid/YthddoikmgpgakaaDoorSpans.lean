/- What the program's 'comes' calls: the notches of a step; the least and the greatest of spans. -/
import Derived.Test.YthddoikmgpgakaaDoorProg
import Derived.Test.YthddoikmgpgakaaDoorBase
import Derived.Outline
import Derived.RangeFuncNested
import Derived.Shelf.Abstract
import Derived.Deep.QuietTactic
import Derived.BigQuiet
import Derived.Deep.RegionHeld3
import Derived.WalkSmall
import Derived.Laws.EntriesVeiled
import Derived.WalkMore
import Derived.Test.YthddoikmgpgakaaDoorRow
import Derived.Test.YthddoikmgpgakaaDoorTrue
namespace Go.Proofs.YthddoikmgpgakaaDoor
open Go.RowKit Go.Proofs Go.Shelf

set_option maxRecDepth 20000 in
theorem notches_step (x : St) (w : World) :
    Calls Tryd.prog 110 #[x.val] w fun e w' => ∃ a c, e = .returned (.slice a (notchesL x).length c) ∧ RdI w' a (notchesL x) ∧ Below w.heap.size w w' ∧ ∀ p, a = some p → w.heap.size ≤ p.block := by
  unfold St.val
  go_enter Tryd.func110, Tryd.ntmps110
  by_cases h1 : x.s = x.f
  · have t1 : (x.s == x.f) = true := by simp [h1]
    have H1 := hid h1; clear h1
    go_wp2_with fail
    go_ret
    refine ⟨_, _, by unfold notchesL; rw [if_pos H1.out]; rfl, ?_, (by repeat (first | (with_reducible exact Below.refl _ _) | (with_reducible assumption) | (with_reducible refine Below.drew ?_) | (with_reducible refine below_drewN ?_ _) | (with_reducible refine Below.alloc ?_ (by first | omega | (simp; done) | (simp; omega)) _) | (with_reducible refine Below.setCell ?_ (by first | omega | (simp; done) | (simp; omega)) _) | (with_reducible refine Below.trans ?_ (Below.mono (by assumption) (by first | omega | (simp; done) | (simp; omega)))))), fun p e => by cases e; simp⟩
    unfold notchesL; rw [if_pos H1.out]
    intro i hi
    match i, hi with
    | 0, _ => exact ⟨_, _, rfl, (Box.at (w := w.alloc _) #[.int .i64 x.s] 3 (by simp)).cell 0⟩
  · have t1 : (x.s == x.f) = false := by simp [h1]
    have H1 := hid h1; clear h1
    go_wp2_with fail
    go_ret
    refine ⟨_, _, by unfold notchesL; rw [if_neg H1.out]; rfl, ?_, (by repeat (first | (with_reducible exact Below.refl _ _) | (with_reducible assumption) | (with_reducible refine Below.drew ?_) | (with_reducible refine below_drewN ?_ _) | (with_reducible refine Below.alloc ?_ (by first | omega | (simp; done) | (simp; omega)) _) | (with_reducible refine Below.setCell ?_ (by first | omega | (simp; done) | (simp; omega)) _) | (with_reducible refine Below.trans ?_ (Below.mono (by assumption) (by first | omega | (simp; done) | (simp; omega)))))), fun p e => by cases e; simp⟩
    unfold notchesL; rw [if_neg H1.out]
    intro i hi
    match i, hi with
    | 0, _ => exact ⟨_, _, rfl, (Box.at (w := w.alloc _) #[.int .i64 x.s, .int .i64 x.f] 3 (by simp)).cell 0⟩
    | 1, _ => exact ⟨_, _, rfl, (Box.at (w := w.alloc _) #[.int .i64 x.s, .int .i64 x.f] 3 (by simp)).cell 1⟩

theorem spanLo_any (a b : Int) (w : World) : Calls Tryd.prog 112 #[.agg #[.int .i64 a, .int .i64 b]] w fun e w' => e = .returned (.int .i64 a) ∧ Below w.heap.size w w' := by
  go_enter Tryd.func112, Tryd.ntmps112
  go_wp2_with fail
  go_ret
  exact ⟨rfl, (by repeat (first | (with_reducible exact Below.refl _ _) | (with_reducible assumption) | (with_reducible refine Below.drew ?_) | (with_reducible refine below_drewN ?_ _) | (with_reducible refine Below.alloc ?_ (by first | omega | (simp; done) | (simp; omega)) _) | (with_reducible refine Below.setCell ?_ (by first | omega | (simp; done) | (simp; omega)) _) | (with_reducible refine Below.trans ?_ (Below.mono (by assumption) (by first | omega | (simp; done) | (simp; omega))))))⟩
theorem spanHi_any (a b : Int) (w : World) : Calls Tryd.prog 113 #[.agg #[.int .i64 a, .int .i64 b]] w fun e w' => e = .returned (.int .i64 b) ∧ Below w.heap.size w w' := by
  go_enter Tryd.func113, Tryd.ntmps113
  go_wp2_with fail
  go_ret
  exact ⟨rfl, (by repeat (first | (with_reducible exact Below.refl _ _) | (with_reducible assumption) | (with_reducible refine Below.drew ?_) | (with_reducible refine below_drewN ?_ _) | (with_reducible refine Below.alloc ?_ (by first | omega | (simp; done) | (simp; omega)) _) | (with_reducible refine Below.setCell ?_ (by first | omega | (simp; done) | (simp; omega)) _) | (with_reducible refine Below.trans ?_ (Below.mono (by assumption) (by first | omega | (simp; done) | (simp; omega))))))⟩

/-- The least and the greatest of spans. -/
def endF (s x : Int × Int) : Int × Int := (min s.1 x.1, max s.2 x.2)
def endsL (ss : List (Int × Int)) : Int × Int := ss.foldl endF (ss.headD (0, 0))
theorem endsL_one (s : Int × Int) : endsL [s] = s := by simp [endsL, endF]
theorem endsL_snoc (ss : List (Int × Int)) (hs : ss ≠ []) (x : Int × Int) : endsL (ss ++ [x]) = endF (endsL ss) x := by
  unfold endsL
  rw [List.foldl_append]
  cases ss with
  | nil => exact absurd rfl hs
  | cons a t => rfl
/-- What has come so far: nothing, or a span of it. -/
def SpanAcc (W : Int → Int) (P : List Int → Prop) (ss : List (Int × Int)) : Prop := (ss = [] ∧ ∀ l, ¬ P l) ∨ (ss ≠ [] ∧ IsSpan W P (endsL ss).1 (endsL ss).2)
theorem SpanAcc.nil {W : Int → Int} {P : List Int → Prop} (h : ∀ l, ¬ P l) : SpanAcc W P [] := .inl ⟨rfl, h⟩
theorem SpanAcc.snoc {W : Int → Int} {P Q : List Int → Prop} {ss : List (Int × Int)} {a b : Int} (h : SpanAcc W P ss) (k : IsSpan W Q a b) : SpanAcc W (fun l => P l ∨ Q l) (ss ++ [(a, b)]) := by
  refine .inr ⟨by simp, ?_⟩
  rcases h with ⟨rfl, hn⟩ | ⟨hne, hs⟩
  · rw [List.nil_append, endsL_one]
    exact k.iff (fun x => ⟨.inr, fun h => h.resolve_left (hn x)⟩)
  · rw [endsL_snoc _ hne]
    exact hs.or k
theorem SpanAcc.iff {W : Int → Int} {P Q : List Int → Prop} {ss : List (Int × Int)} (h : SpanAcc W P ss) (hq : ∀ x, P x ↔ Q x) : SpanAcc W Q ss := by
  rcases h with ⟨h1, h2⟩ | ⟨h1, h2⟩
  · exact .inl ⟨h1, fun l hl => h2 l ((hq l).2 hl)⟩
  · exact .inr ⟨h1, h2.iff hq⟩

/-- All numbers of spans are small. -/
def SmallS (ss : List (Int × Int)) : Prop := ∀ s ∈ ss, -4000000 ≤ s.1 ∧ s.1 ≤ 4000000 ∧ -4000000 ≤ s.2 ∧ s.2 ≤ 4000000

set_option maxRecDepth 20000 in
set_option maxHeartbeats 4000000 in
theorem ends_any (a : Option Addr) (c : Nat) (ss : List (Int × Int)) (w : World) (hl : ss.length ≤ 4000) (hne : ss ≠ []) (h : RdX spC 2 w a ss) :
    Calls Tryd.prog 111 #[.slice a ss.length c, .func (.func 112) #[] #[], .func (.func 113) #[] #[]] w fun e w' => e = .returned (.agg #[.int .i64 (endsL ss).1, .int .i64 (endsL ss).2]) ∧ Below w.heap.size w w' := by
  have hm := mixedS
  have H := hid h; clear h
  have hlen : 0 < ss.length := List.length_pos_iff.2 hne
  obtain ⟨b, o, rfl, hc⟩ := H.out 0 hlen
  have q0 := hc 0 _ rfl; have q1 := hc 1 _ rfl
  simp only [Nat.zero_mul, Nat.add_zero] at q0 q1
  have lb := cell_lt q0
  clear hc
  go_enter Tryd.func111, Tryd.ntmps111
  go_wp2_with fail
  refine wp_world (fun W => Box W w.heap.size #[.int .i64 0, .int .i64 0] 68 ∧ Below w.heap.size w W) ⟨Box.new _ _ _, (by repeat (first | (with_reducible exact Below.refl _ _) | (with_reducible assumption) | (with_reducible refine Below.drew ?_) | (with_reducible refine below_drewN ?_ _) | (with_reducible refine Below.alloc ?_ (by first | omega | (simp; done) | (simp; omega)) _) | (with_reducible refine Below.setCell ?_ (by first | omega | (simp; done) | (simp; omega)) _) | (with_reducible refine Below.trans ?_ (Below.mono (by assumption) (by first | omega | (simp; done) | (simp; omega))))))⟩ ?_
  rintro W0 ⟨b6, hB0⟩
  refine wp_post (fun a' W => ∃ f : Nat → Value, a' = ⟨((List.range 42).map f).toArray, []⟩ ∧ ∃ P7, f 0 = .slice (some ⟨b, o, none⟩) ss.length c ∧ f 1 = .func (.func 112) #[] #[] ∧ f 2 = .func (.func 113) #[] #[] ∧ f 6 = .pointer (some ⟨w.heap.size, 0, none⟩) ∧ f 7 = .pointer (some ⟨P7, 0, none⟩) ∧ w.heap.size < P7 ∧ Box W P7 #[.int .i64 ss[0].1, .int .i64 ss[0].2] 68 ∧ Box W w.heap.size #[.int .i64 0, .int .i64 0] 68 ∧ Below w.heap.size w W) ?_ ?_
  · have p0 : W0.cell? ⟨b, o, none⟩ = some (.int .i64 ss[0].1) := (hB0.cell (p := ⟨b, o, none⟩) lb).trans q0
    have p1 : W0.cell? ⟨b, o + 1, none⟩ = some (.int .i64 ss[0].2) := (hB0.cell (p := ⟨b, o + 1, none⟩) lb).trans q1
    have B6 := hid b6; have HB := hid hB0
    clear q0 q1 b6 hB0
    refine wp_region_F [3, 8] (fun w' => w'.cell? ⟨b, o, none⟩ = some (.int .i64 ss[0].1) ∧ w'.cell? ⟨b, o + 1, none⟩ = some (.int .i64 ss[0].2)) hm ⟨p0, p1⟩ ?_
    intro hS0; have hS := hid hS0; clear hS0
    refine anyW (fun W => Box W w.heap.size #[.int .i64 0, .int .i64 0] 68 ∧ Below w.heap.size w W ∧ (W.cell? ⟨b, o, none⟩ = some (.int .i64 ss[0].1) ∧ W.cell? ⟨b, o + 1, none⟩ = some (.int .i64 ss[0].2))) ⟨B6.out.drew, HB.out.drew, hS.out⟩ ?_
    clear B6 HB hS p0 p1
    rintro wc ⟨b6, hB, hs⟩
    have B6 := hid b6; have HB := hid hB; have hS := hid hs; clear b6 hB hs
    (apply wpAnyF_pure (i := 0) rfl (by kernel_rfl) (fun _ _ _ h => h); · first | exact .inr ⟨rfl, rfl⟩ | exact .inl ⟨rfl, fun w' => by go_simp; rfl⟩); simp only [Act.put, List.setIfInBounds_toArray, List.set_cons_succ, List.set_cons_zero, List.getElem_toArray, List.getElem_cons_succ, List.getElem_cons_zero]
    (apply wpAnyF_pure (i := 1) rfl (by kernel_rfl) (fun _ _ _ h => h); · first | exact .inr ⟨rfl, rfl⟩ | exact .inl ⟨rfl, fun w' => by go_simp; rfl⟩); simp only [Act.put, List.setIfInBounds_toArray, List.set_cons_succ, List.set_cons_zero, List.getElem_toArray, List.getElem_cons_succ, List.getElem_cons_zero]
    (apply wpAnyF_pure (i := 2) rfl (by kernel_rfl) (fun _ _ _ h => h); · first | exact .inr ⟨rfl, rfl⟩ | exact .inl ⟨rfl, fun w' => by go_simp; rfl⟩); simp only [Act.put, List.setIfInBounds_toArray, List.set_cons_succ, List.set_cons_zero, List.getElem_toArray, List.getElem_cons_succ, List.getElem_cons_zero]
    (apply wpAnyF_held (i := 3) rfl (by kernel_rfl) (fun _ _ _ h => h) hS.out; · first | exact .inr ⟨rfl, rfl⟩ | exact .inl ⟨rfl, fun w' hS' => by (obtain ⟨s1, s2⟩ := hS'; go_simp; rfl)⟩); simp only [Act.put, List.setIfInBounds_toArray, List.set_cons_succ, List.set_cons_zero, List.getElem_toArray, List.getElem_cons_succ, List.getElem_cons_zero]
    (apply wpAnyF_pure (i := 5) rfl (by kernel_rfl) (fun _ _ _ h => h); · first | exact .inr ⟨rfl, rfl⟩ | exact .inl ⟨rfl, fun w' => by go_simp; rfl⟩); simp only [Act.put, List.setIfInBounds_toArray, List.set_cons_succ, List.set_cons_zero, List.getElem_toArray, List.getElem_cons_succ, List.getElem_cons_zero]
    (apply wpAnyF_pure (i := 6) rfl (by kernel_rfl) (fun _ _ _ h => h); · first | exact .inr ⟨rfl, rfl⟩ | exact .inl ⟨rfl, fun w' => by go_simp; rfl⟩); simp only [Act.put, List.setIfInBounds_toArray, List.set_cons_succ, List.set_cons_zero, List.getElem_toArray, List.getElem_cons_succ, List.getElem_cons_zero]
    (apply wpAnyF_pure (i := 7) rfl (by kernel_rfl) (fun _ _ _ h => h); · first | exact .inr ⟨rfl, rfl⟩ | exact .inl ⟨rfl, fun w' => by go_simp; rfl⟩); simp only [Act.put, List.setIfInBounds_toArray, List.set_cons_succ, List.set_cons_zero, List.getElem_toArray, List.getElem_cons_succ, List.getElem_cons_zero]
    (apply wpAnyF_held (i := 8) rfl (by kernel_rfl) (fun _ _ _ h => h) hS.out; · first | exact .inr ⟨rfl, rfl⟩ | exact .inl ⟨rfl, fun w' hS' => by (obtain ⟨s1, s2⟩ := hS'; go_simp; rfl)⟩); simp only [Act.put, List.setIfInBounds_toArray, List.set_cons_succ, List.set_cons_zero, List.getElem_toArray, List.getElem_cons_succ, List.getElem_cons_zero]
    refine wpAnyF_two (i := 4) (j := 11) rfl rfl ⟨by kernel_rfl, by kernel_rfl, by kernel_rfl⟩ ?_ ?_
    ·
      intro K hK
      go_simp
      refine (spanLo_any _ _ _).mono ?_
      rintro e w4 ⟨rfl, hb4⟩
      refine shutS hK (by obtain ⟨s1, s2⟩ := hS.out; exact ⟨(hb4.cell (cell_lt s1)).trans s1, (hb4.cell (cell_lt s2)).trans s2⟩) (fun hS => ?_)
      refine anyW (fun W => Box W w.heap.size #[.int .i64 0, .int .i64 0] 68 ∧ Below w.heap.size w W ∧ (W.cell? ⟨b, o, none⟩ = some (.int .i64 ss[0].1) ∧ W.cell? ⟨b, o + 1, none⟩ = some (.int .i64 ss[0].2))) ⟨B6.out.below hb4 B6.out.lt, HB.out.trans (hb4.mono HB.out.size), hS.out⟩ ?_
      clear B6 HB hS hb4 
      rintro wc ⟨b6, hB, hs⟩
      have B6 := hid b6; have HB := hid hB; have hS := hid hs; clear b6 hB hs
      refine wpAnyF_two (i := 9) (j := 11) rfl rfl ⟨by kernel_rfl, by kernel_rfl, by kernel_rfl⟩ ?_ ?_
      ·
        intro K hK
        go_simp
        refine (spanHi_any _ _ _).mono ?_
        rintro e w9 ⟨rfl, hb9⟩
        refine shutN hK (by kernel_rfl) ?_
        refine anyW (fun W => Box W w.heap.size #[.int .i64 0, .int .i64 0] 68 ∧ Below w.heap.size w W ∧ (W.cell? ⟨b, o, none⟩ = some (.int .i64 ss[0].1) ∧ W.cell? ⟨b, o + 1, none⟩ = some (.int .i64 ss[0].2))) ⟨B6.out.below hb9 B6.out.lt, HB.out.trans (hb9.mono HB.out.size), (by obtain ⟨s1, s2⟩ := hS.out; exact ⟨(hb9.cell (cell_lt s1)).trans s1, (hb9.cell (cell_lt s2)).trans s2⟩)⟩ ?_
        clear B6 HB hS hb9 
        rintro wc ⟨b6, hB, hs⟩
        have B6 := hid b6; have HB := hid hB; clear b6 hB
        have hS : Hid ((wc.cell? ⟨b, o, none⟩ = some (.int .i64 ss[0].1)) ∧ (wc.cell? ⟨b, o + 1, none⟩ = some (.int .i64 ss[0].2))) := hs
        (apply wpAnyF_pure (i := 10) rfl (by kernel_rfl) (fun _ _ _ h => h); · first | exact .inr ⟨rfl, rfl⟩ | exact .inl ⟨rfl, fun w' => by go_simp; rfl⟩); simp only [Act.put, List.setIfInBounds_toArray, List.set_cons_succ, List.set_cons_zero, List.getElem_toArray, List.getElem_cons_succ, List.getElem_cons_zero]
        refine wpAnyF_one (i := 11) rfl ⟨by kernel_rfl, by kernel_rfl⟩ ?_
        intro K hK
        go_simp
        refine shutS hK (by obtain ⟨s1, s2⟩ := hS.out; have l1 := cell_lt s1; have l2 := cell_lt s2; exact ⟨by go_simp, by go_simp⟩) (fun hS => ?_)
        obtain ⟨P7, hP7⟩ : ∃ P, P = wc.heap.size := ⟨_, rfl⟩
        have nP7 : w.heap.size < P7 := by have := B6.out.lt; omega
        have B7 := hid (Box.at (w := wc) #[.int .i64 0, .int .i64 0] 68 hP7)
        have B6 := hid (B6.out.alloc (.cells #[.int .i64 0, .int .i64 0] 68))
        have HB := hid (HB.out.alloc HB.out.size (.cells #[.int .i64 0, .int .i64 0] 68))
        rw [← hP7]
        clear hP7
        refine wpAnyF_one (i := 12) rfl ⟨by kernel_rfl, by kernel_rfl⟩ ?_
        intro K hK
        have y0 := B7.out.cell 0; have y1 := B7.out.cell 1; have y2 := B7.out.frozen 0; have y3 := B7.out.frozen 1; have y4 := B7.out.lt
        simp only [List.getElem?_toArray, List.getElem?_cons_zero, List.getElem?_cons_succ] at y0 y1
        go_simp
        refine shutN hK (by kernel_rfl) ?_
        refine wpAnyF_done (by kernel_rfl) ?_ _
        unfold NormP
        refine acts_of rfl ?_
        exact ⟨P7, rfl, rfl, rfl, rfl, rfl, nP7, (B7.out.set 0 _).set 1 _, (B6.out.other _ _ _ (by omega)).other _ _ _ (by omega), (HB.out.setCell (p := ⟨P7, 0, none⟩) (show w.heap.size ≤ P7 by omega) _).setCell (p := ⟨P7, 1, none⟩) (show w.heap.size ≤ P7 by omega) _⟩
      ·
        intro K hK
        go_simp
        refine shutS hK (by obtain ⟨s1, s2⟩ := hS.out; have l1 := cell_lt s1; have l2 := cell_lt s2; exact ⟨by go_simp, by go_simp⟩) (fun hS => ?_)
        obtain ⟨P7, hP7⟩ : ∃ P, P = wc.heap.size := ⟨_, rfl⟩
        have nP7 : w.heap.size < P7 := by have := B6.out.lt; omega
        have B7 := hid (Box.at (w := wc) #[.int .i64 0, .int .i64 0] 68 hP7)
        have B6 := hid (B6.out.alloc (.cells #[.int .i64 0, .int .i64 0] 68))
        have HB := hid (HB.out.alloc HB.out.size (.cells #[.int .i64 0, .int .i64 0] 68))
        rw [← hP7]
        clear hP7
        refine wpAnyF_one (i := 9) rfl ⟨by kernel_rfl, by kernel_rfl⟩ ?_
        intro K hK
        go_simp
        refine (spanHi_any _ _ _).mono ?_
        rintro e w9 ⟨rfl, hb9⟩
        refine shutN hK (by kernel_rfl) ?_
        refine anyW (fun W => Box W w.heap.size #[.int .i64 0, .int .i64 0] 68 ∧ Below w.heap.size w W ∧ Box W P7 #[.int .i64 0, .int .i64 0] 68 ∧ (W.cell? ⟨b, o, none⟩ = some (.int .i64 ss[0].1) ∧ W.cell? ⟨b, o + 1, none⟩ = some (.int .i64 ss[0].2))) ⟨B6.out.below hb9 B6.out.lt, HB.out.trans (hb9.mono HB.out.size), B7.out.below hb9 B7.out.lt, (by obtain ⟨s1, s2⟩ := hS.out; exact ⟨(hb9.cell (cell_lt s1)).trans s1, (hb9.cell (cell_lt s2)).trans s2⟩)⟩ ?_
        clear B6 HB hS hb9 B7
        rintro wc ⟨b6, hB, b7, hs⟩
        have B6 := hid b6; have HB := hid hB; have B7 := hid b7; clear b6 hB
        have hS : Hid ((wc.cell? ⟨b, o, none⟩ = some (.int .i64 ss[0].1)) ∧ (wc.cell? ⟨b, o + 1, none⟩ = some (.int .i64 ss[0].2))) := hs
        (apply wpAnyF_pure (i := 10) rfl (by kernel_rfl) (fun _ _ _ h => h); · first | exact .inr ⟨rfl, rfl⟩ | exact .inl ⟨rfl, fun w' => by go_simp; rfl⟩); simp only [Act.put, List.setIfInBounds_toArray, List.set_cons_succ, List.set_cons_zero, List.getElem_toArray, List.getElem_cons_succ, List.getElem_cons_zero]
        refine wpAnyF_one (i := 12) rfl ⟨by kernel_rfl, by kernel_rfl⟩ ?_
        intro K hK
        have y0 := B7.out.cell 0; have y1 := B7.out.cell 1; have y2 := B7.out.frozen 0; have y3 := B7.out.frozen 1; have y4 := B7.out.lt
        simp only [List.getElem?_toArray, List.getElem?_cons_zero, List.getElem?_cons_succ] at y0 y1
        go_simp
        refine shutN hK (by kernel_rfl) ?_
        refine wpAnyF_done (by kernel_rfl) ?_ _
        unfold NormP
        refine acts_of rfl ?_
        exact ⟨P7, rfl, rfl, rfl, rfl, rfl, nP7, (B7.out.set 0 _).set 1 _, (B6.out.other _ _ _ (by omega)).other _ _ _ (by omega), (HB.out.setCell (p := ⟨P7, 0, none⟩) (show w.heap.size ≤ P7 by omega) _).setCell (p := ⟨P7, 1, none⟩) (show w.heap.size ≤ P7 by omega) _⟩
    ·
      intro K hK
      go_simp
      refine shutS hK (by obtain ⟨s1, s2⟩ := hS.out; have l1 := cell_lt s1; have l2 := cell_lt s2; exact ⟨by go_simp, by go_simp⟩) (fun hS => ?_)
      obtain ⟨P7, hP7⟩ : ∃ P, P = wc.heap.size := ⟨_, rfl⟩
      have nP7 : w.heap.size < P7 := by have := B6.out.lt; omega
      have B7 := hid (Box.at (w := wc) #[.int .i64 0, .int .i64 0] 68 hP7)
      have B6 := hid (B6.out.alloc (.cells #[.int .i64 0, .int .i64 0] 68))
      have HB := hid (HB.out.alloc HB.out.size (.cells #[.int .i64 0, .int .i64 0] 68))
      rw [← hP7]
      clear hP7
      refine wpAnyF_one (i := 4) rfl ⟨by kernel_rfl, by kernel_rfl⟩ ?_
      intro K hK
      go_simp
      refine (spanLo_any _ _ _).mono ?_
      rintro e w4 ⟨rfl, hb4⟩
      refine shutS hK (by obtain ⟨s1, s2⟩ := hS.out; exact ⟨(hb4.cell (cell_lt s1)).trans s1, (hb4.cell (cell_lt s2)).trans s2⟩) (fun hS => ?_)
      refine anyW (fun W => Box W w.heap.size #[.int .i64 0, .int .i64 0] 68 ∧ Below w.heap.size w W ∧ Box W P7 #[.int .i64 0, .int .i64 0] 68 ∧ (W.cell? ⟨b, o, none⟩ = some (.int .i64 ss[0].1) ∧ W.cell? ⟨b, o + 1, none⟩ = some (.int .i64 ss[0].2))) ⟨B6.out.below hb4 B6.out.lt, HB.out.trans (hb4.mono HB.out.size), B7.out.below hb4 B7.out.lt, hS.out⟩ ?_
      clear B6 HB hS hb4 B7
      rintro wc ⟨b6, hB, b7, hs⟩
      have B6 := hid b6; have HB := hid hB; have hS := hid hs; have B7 := hid b7; clear b6 hB hs
      refine wpAnyF_one (i := 9) rfl ⟨by kernel_rfl, by kernel_rfl⟩ ?_
      intro K hK
      go_simp
      refine (spanHi_any _ _ _).mono ?_
      rintro e w9 ⟨rfl, hb9⟩
      refine shutN hK (by kernel_rfl) ?_
      refine anyW (fun W => Box W w.heap.size #[.int .i64 0, .int .i64 0] 68 ∧ Below w.heap.size w W ∧ Box W P7 #[.int .i64 0, .int .i64 0] 68 ∧ (W.cell? ⟨b, o, none⟩ = some (.int .i64 ss[0].1) ∧ W.cell? ⟨b, o + 1, none⟩ = some (.int .i64 ss[0].2))) ⟨B6.out.below hb9 B6.out.lt, HB.out.trans (hb9.mono HB.out.size), B7.out.below hb9 B7.out.lt, (by obtain ⟨s1, s2⟩ := hS.out; exact ⟨(hb9.cell (cell_lt s1)).trans s1, (hb9.cell (cell_lt s2)).trans s2⟩)⟩ ?_
      clear B6 HB hS hb9 B7
      rintro wc ⟨b6, hB, b7, hs⟩
      have B6 := hid b6; have HB := hid hB; have B7 := hid b7; clear b6 hB
      have hS : Hid ((wc.cell? ⟨b, o, none⟩ = some (.int .i64 ss[0].1)) ∧ (wc.cell? ⟨b, o + 1, none⟩ = some (.int .i64 ss[0].2))) := hs
      (apply wpAnyF_pure (i := 10) rfl (by kernel_rfl) (fun _ _ _ h => h); · first | exact .inr ⟨rfl, rfl⟩ | exact .inl ⟨rfl, fun w' => by go_simp; rfl⟩); simp only [Act.put, List.setIfInBounds_toArray, List.set_cons_succ, List.set_cons_zero, List.getElem_toArray, List.getElem_cons_succ, List.getElem_cons_zero]
      refine wpAnyF_one (i := 12) rfl ⟨by kernel_rfl, by kernel_rfl⟩ ?_
      intro K hK
      have y0 := B7.out.cell 0; have y1 := B7.out.cell 1; have y2 := B7.out.frozen 0; have y3 := B7.out.frozen 1; have y4 := B7.out.lt
      simp only [List.getElem?_toArray, List.getElem?_cons_zero, List.getElem?_cons_succ] at y0 y1
      go_simp
      refine shutN hK (by kernel_rfl) ?_
      refine wpAnyF_done (by kernel_rfl) ?_ _
      unfold NormP
      refine acts_of rfl ?_
      exact ⟨P7, rfl, rfl, rfl, rfl, rfl, nP7, (B7.out.set 0 _).set 1 _, (B6.out.other _ _ _ (by omega)).other _ _ _ (by omega), (HB.out.setCell (p := ⟨P7, 0, none⟩) (show w.heap.size ≤ P7 by omega) _).setCell (p := ⟨P7, 1, none⟩) (show w.heap.size ≤ P7 by omega) _⟩
  rintro a' W ⟨f, rfl, P7, f0, f1, f2, f6, f7, nP7, b7, b6', hB⟩
  rw [show (List.range 42).map f = [f 0, f 1, f 2, f 3, f 4, f 5, f 6, f 7, f 8, f 9, f 10, f 11, f 12, f 13, f 14, f 15, f 16, f 17, f 18, f 19, f 20, f 21, f 22, f 23, f 24, f 25, f 26, f 27, f 28, f 29, f 30, f 31, f 32, f 33, f 34, f 35, f 36, f 37, f 38, f 39, f 40, f 41] from rfl, f0, f1, f2, f6, f7]
  clear f0 f1 f2 f6 f7 b6 hB0 q0 q1 lb
  go_wp2_with fail
  go_loopw [23] (fun p W' => ∃ j : Nat, j ≤ ss.length ∧ p = .int .i64 j ∧ Box W' P7 #[.int .i64 ((ss.take j).foldl endF ss[0]).1, .int .i64 ((ss.take j).foldl endF ss[0]).2] 68 ∧ Box W' w.heap.size #[.int .i64 0, .int .i64 0] 68 ∧ Below w.heap.size w W') (fun p _ => ss.length - (intOf p).toNat)
  case atStart => exact ⟨0, by omega, rfl, b7, b6', hB⟩
  case round =>
    obtain ⟨j, hj, rfl, hb7, hb6, hBr⟩ := hrel
    by_cases hlt : j < ss.length
    · obtain ⟨b', o', e', hc'⟩ := (H.out.below hBr) j hlt
      cases e'
      have r0 := hc' 0 _ rfl; have r1 := hc' 1 _ rfl
      simp only [Nat.add_zero] at r0 r1
      clear hc'
      have B7 := hid hb7; have B6 := hid hb6; have HB := hid hBr
      clear hb7 hb6 hBr
      have hf : (ss.take (j + 1)).foldl endF ss[0] = endF ((ss.take j).foldl endF ss[0]) ss[j] := by rw [List.take_succ_eq_append_getElem hlt, List.foldl_append]; rfl
      have HF := hid hf; clear hf
      obtain ⟨E, hE⟩ : ∃ E, (ss.take j).foldl endF ss[0] = E := ⟨_, rfl⟩
      rw [hE] at B7 HF
      clear hE
      obtain ⟨e1, e2⟩ := E
      obtain ⟨x, hx⟩ : ∃ x, ss[j] = x := ⟨_, rfl⟩
      rw [hx] at r0 r1 HF
      clear hx
      obtain ⟨x1, x2⟩ := x
      dsimp only at r0 r1 B7 HF
      have lr := cell_lt r0
      go_wp2_with fail
      refine wp_world (fun W => Box W P7 #[.int .i64 e1, .int .i64 e2] 68 ∧ Box W wr.heap.size #[.int .i64 x1, .int .i64 x2] 68 ∧ Box W w.heap.size #[.int .i64 0, .int .i64 0] 68 ∧ Below w.heap.size w W) ⟨B7.out.alloc _, Box.at _ _ rfl, B6.out.alloc _, HB.out.alloc HB.out.size _⟩ ?_
      have n79 : P7 ≠ wr.heap.size := by have := B7.out.lt; omega
      obtain ⟨P9, hP9⟩ : ∃ P, P = wr.heap.size := ⟨_, rfl⟩
      rw [← hP9] at n79 ⊢
      clear B7 B6 HB r0 r1 lr hP9
      rintro W1 ⟨b7, b9, b6, hB⟩
      have B7 := hid b7; have B9 := hid b9; have B6 := hid b6; have HB := hid hB
      have y0 : W1.cell? ⟨P7, 0, none⟩ = some (.int .i64 e1) := b7.cell 0
      have y1 : W1.cell? ⟨P7, 1, none⟩ = some (.int .i64 e2) := b7.cell 1
      have z0 : W1.cell? ⟨P9, 0, none⟩ = some (.int .i64 x1) := b9.cell 0
      have z1 : W1.cell? ⟨P9, 1, none⟩ = some (.int .i64 x2) := b9.cell 1
      clear b7 b9 b6 hB
      refine wp_region_F [1, 3, 7, 9] (fun w' => w'.cell? ⟨P7, 0, none⟩ = some (.int .i64 e1) ∧ w'.cell? ⟨P7, 1, none⟩ = some (.int .i64 e2) ∧ w'.cell? ⟨P9, 0, none⟩ = some (.int .i64 x1) ∧ w'.cell? ⟨P9, 1, none⟩ = some (.int .i64 x2)) hm ⟨y0, y1, z0, z1⟩ ?_
      intro hS0; have hS := hid hS0; clear hS0
      (apply wpAnyF_pure (i := 0) rfl (by kernel_rfl) (fun _ _ _ h => h); · first | exact .inr ⟨rfl, rfl⟩ | exact .inl ⟨rfl, fun w' => by go_simp; rfl⟩); simp only [Act.put, List.setIfInBounds_toArray, List.set_cons_succ, List.set_cons_zero, List.getElem_toArray, List.getElem_cons_succ, List.getElem_cons_zero]
      (apply wpAnyF_held (i := 1) rfl (by kernel_rfl) (fun _ _ _ h => h) hS.out; · first | exact .inr ⟨rfl, rfl⟩ | exact .inl ⟨rfl, fun w' hS' => by (obtain ⟨s1, s2, s3, s4⟩ := hS'; go_simp; rfl)⟩); simp only [Act.put, List.setIfInBounds_toArray, List.set_cons_succ, List.set_cons_zero, List.getElem_toArray, List.getElem_cons_succ, List.getElem_cons_zero]
      (apply wpAnyF_pure (i := 2) rfl (by kernel_rfl) (fun _ _ _ h => h); · first | exact .inr ⟨rfl, rfl⟩ | exact .inl ⟨rfl, fun w' => by go_simp; rfl⟩); simp only [Act.put, List.setIfInBounds_toArray, List.set_cons_succ, List.set_cons_zero, List.getElem_toArray, List.getElem_cons_succ, List.getElem_cons_zero]
      (apply wpAnyF_held (i := 3) rfl (by kernel_rfl) (fun _ _ _ h => h) hS.out; · first | exact .inr ⟨rfl, rfl⟩ | exact .inl ⟨rfl, fun w' hS' => by (obtain ⟨s1, s2, s3, s4⟩ := hS'; go_simp; rfl)⟩); simp only [Act.put, List.setIfInBounds_toArray, List.set_cons_succ, List.set_cons_zero, List.getElem_toArray, List.getElem_cons_succ, List.getElem_cons_zero]
      (apply wpAnyF_pure (i := 6) rfl (by kernel_rfl) (fun _ _ _ h => h); · first | exact .inr ⟨rfl, rfl⟩ | exact .inl ⟨rfl, fun w' => by go_simp; rfl⟩); simp only [Act.put, List.setIfInBounds_toArray, List.set_cons_succ, List.set_cons_zero, List.getElem_toArray, List.getElem_cons_succ, List.getElem_cons_zero]
      (apply wpAnyF_held (i := 7) rfl (by kernel_rfl) (fun _ _ _ h => h) hS.out; · first | exact .inr ⟨rfl, rfl⟩ | exact .inl ⟨rfl, fun w' hS' => by (obtain ⟨s1, s2, s3, s4⟩ := hS'; go_simp; rfl)⟩); simp only [Act.put, List.setIfInBounds_toArray, List.set_cons_succ, List.set_cons_zero, List.getElem_toArray, List.getElem_cons_succ, List.getElem_cons_zero]
      (apply wpAnyF_pure (i := 8) rfl (by kernel_rfl) (fun _ _ _ h => h); · first | exact .inr ⟨rfl, rfl⟩ | exact .inl ⟨rfl, fun w' => by go_simp; rfl⟩); simp only [Act.put, List.setIfInBounds_toArray, List.set_cons_succ, List.set_cons_zero, List.getElem_toArray, List.getElem_cons_succ, List.getElem_cons_zero]
      (apply wpAnyF_held (i := 9) rfl (by kernel_rfl) (fun _ _ _ h => h) hS.out; · first | exact .inr ⟨rfl, rfl⟩ | exact .inl ⟨rfl, fun w' hS' => by (obtain ⟨s1, s2, s3, s4⟩ := hS'; go_simp; rfl)⟩); simp only [Act.put, List.setIfInBounds_toArray, List.set_cons_succ, List.set_cons_zero, List.getElem_toArray, List.getElem_cons_succ, List.getElem_cons_zero]
      refine wpAnyF_one (i := 4) rfl ⟨by kernel_rfl, by kernel_rfl⟩ ?_
      intro K hK
      go_simp
      refine (spanLo_any _ _ _).mono ?_
      rintro e w4 ⟨rfl, hb4⟩
      have B7 := hid (B7.out.drew.below hb4 B7.out.lt); have B9 := hid (B9.out.drew.below hb4 B9.out.lt); have B6 := hid (B6.out.drew.below hb4 B6.out.lt); have HB := hid (HB.out.drew.trans (hb4.mono HB.out.size))
      clear hb4
      refine shutS hK ⟨B7.out.cell 0, B7.out.cell 1, B9.out.cell 0, B9.out.cell 1⟩ (fun hS => ?_)
      (apply wpAnyF_pure (i := 5) rfl (by kernel_rfl) (fun _ _ _ h => h); · first | exact .inr ⟨rfl, rfl⟩ | exact .inl ⟨rfl, fun w' => by go_simp; rfl⟩); simp only [Act.put, List.setIfInBounds_toArray, List.set_cons_succ, List.set_cons_zero, List.getElem_toArray, List.getElem_cons_succ, List.getElem_cons_zero]
      refine wpAnyF_one (i := 10) rfl ⟨by kernel_rfl, by kernel_rfl⟩ ?_
      intro K hK
      go_simp
      refine (spanHi_any _ _ _).mono ?_
      rintro e w10 ⟨rfl, hb10⟩
      have B7 := hid (B7.out.below hb10 B7.out.lt); have B9 := hid (B9.out.below hb10 B9.out.lt); have B6 := hid (B6.out.below hb10 B6.out.lt); have HB := hid (HB.out.trans (hb10.mono HB.out.size))
      clear hb10
      refine shutS hK ⟨B7.out.cell 0, B7.out.cell 1, B9.out.cell 0, B9.out.cell 1⟩ (fun hS => ?_)
      (apply wpAnyF_pure (i := 11) rfl (by kernel_rfl) (fun _ _ _ h => h); · first | exact .inr ⟨rfl, rfl⟩ | exact .inl ⟨rfl, fun w' => by go_simp; rfl⟩); simp only [Act.put, List.setIfInBounds_toArray, List.set_cons_succ, List.set_cons_zero, List.getElem_toArray, List.getElem_cons_succ, List.getElem_cons_zero]
      (apply wpAnyF_pure (i := 12) rfl (by kernel_rfl) (fun _ _ _ h => h); · first | exact .inr ⟨rfl, rfl⟩ | exact .inl ⟨rfl, fun w' => by go_simp; rfl⟩); simp only [Act.put, List.setIfInBounds_toArray, List.set_cons_succ, List.set_cons_zero, List.getElem_toArray, List.getElem_cons_succ, List.getElem_cons_zero]
      refine wpAnyF_one (i := 13) rfl ⟨by kernel_rfl, by kernel_rfl⟩ ?_
      intro K hK
      have v2 := B7.out.frozen 0; have v3 := B7.out.frozen 1; have v4 := B7.out.lt; have v0 := B7.out.cell 0; have v1 := B7.out.cell 1
      simp only [List.getElem?_toArray, List.getElem?_cons_zero, List.getElem?_cons_succ] at v0 v1
      go_simp
      refine shutN hK (by kernel_rfl) ?_
      refine wpAnyF_done (by kernel_rfl) ?_ _
      clear hS y0 y1 z0 z1 v0 v1 v2 v3 v4
      go_wp2_with fail
      refine ⟨⟨j + 1, by omega, by go_num, ?_, (B6.out.other _ _ _ (by omega)).other _ _ _ (by omega), (HB.out.setCell (p := ⟨P7, 0, none⟩) (show w.heap.size ≤ P7 by omega) _).setCell (p := ⟨P7, 1, none⟩) (show w.heap.size ≤ P7 by omega) _⟩, by simp [intOf]; omega⟩
      have g := (B7.out.set 0 (.int .i64 (min e1 x1))).set 1 (.int .i64 (max e2 x2))
      have m1 : (if x1 < e1 then x1 else e1) = min e1 x1 := by split <;> omega
      have m2 : (if e2 < x2 then x2 else e2) = max e2 x2 := by split <;> omega
      rw [HF.out]
      first | exact g | (rw [m1, m2]; exact g) | (simp only [m1, m2]; exact g)
    · have B7 := hid hb7; have B6 := hid hb6; have HB := hid hBr
      have e7 : j = ss.length := by omega
      have y0 := hb7.cell 0; have y1 := hb7.cell 1
      have x2 := hb6.frozen 0; have x3 := hb6.frozen 1; have x4 := hb6.lt; have x0 := hb6.cell 0; have x1 := hb6.cell 1
      simp only [List.getElem?_toArray, List.getElem?_cons_zero, List.getElem?_cons_succ] at y0 y1 x0 x1
      clear hb7 hb6 hBr
      go_wp2_with fail
      subst e7
      rw [List.take_of_length_le (Nat.le_refl _)] at B7
      have he : endsL ss = ss.foldl endF ss[0] := by
        unfold endsL
        cases ss with
        | nil => exact absurd rfl hne
        | cons x t => rfl
      refine bodyPost_ret (v := .agg #[.int .i64 (endsL ss).1, .int .i64 (endsL ss).2]) ?_ rfl ⟨rfl, (HB.out.setCell (p := ⟨w.heap.size, 0, none⟩) (Nat.le_refl _) _).setCell (p := ⟨w.heap.size, 1, none⟩) (Nat.le_refl _) _⟩
      rw [he]
      simp [results, Tryd.results111, go_sem, x0, x1, x2, x3, x4]

end Go.Proofs.YthddoikmgpgakaaDoor
