/- The reference's 'wide' and 'Rates'; what has come of the spans so far. -/
import Derived.Test.YthddoikmgpgakaaDoorProg
import Derived.Test.YthddoikmgpgakaaDoorBase
import Derived.Outline
import Derived.RangeFuncNested
import Derived.Shelf.Abstract
import Derived.Deep.QuietTactic
import Derived.BigQuiet
import Derived.Deep.RegionHeld3
import Derived.WalkSmall
import Derived.Laws.EntriesVeiled
import Derived.WalkMore
import Derived.Test.YthddoikmgpgakaaDoorOwes
namespace Go.Proofs.YthddoikmgpgakaaDoor
open Go.RowKit Go.Proofs Go.Shelf

/-- What 'wide' returns. -/
def wideF (s t : Int × Int) (a b : Int) (first : Bool) : Int × Int := if first then (t.1 + min a b, t.2 + max a b) else endF s (t.1 + min a b, t.2 + max a b)

set_option maxRecDepth 20000 in
theorem wide_any (s t : Int × Int) (a b : Int) (first : Bool) (w : World) (h1 : -10000000 ≤ t.1 ∧ t.1 ≤ 10000000) (h2 : -10000000 ≤ t.2 ∧ t.2 ≤ 10000000) (h3 : -10000 ≤ a ∧ a ≤ 10000) (h4 : -10000 ≤ b ∧ b ≤ 10000) :
    Calls Tryd.prog 114 #[.agg #[.int .i64 s.1, .int .i64 s.2], .agg #[.int .i64 t.1, .int .i64 t.2], .int .i64 a, .int .i64 b, .bool first] w
      fun e w' => e = .returned (.agg #[.int .i64 (wideF s t a b first).1, .int .i64 (wideF s t a b first).2]) ∧ Below w.heap.size w w' := by
  have m1 : (if b < a then b else a) = min a b := by split <;> omega
  have m2 : (if a < b then b else a) = max a b := by split <;> omega
  have hw1 := wrap_mid (n := t.1 + min a b) (by omega) (by omega)
  have hw2 := wrap_mid (n := t.2 + max a b) (by omega) (by omega)
  obtain ⟨s1, s2⟩ := s
  obtain ⟨t1, t2⟩ := t
  dsimp only at *
  cases first with
  | true =>
    go_enter Tryd.func114, Tryd.ntmps114
    go_wp2_with fail
    refine bodyPost_ret (v := .agg #[.int .i64 (t1 + min a b), .int .i64 (t2 + max a b)]) (by simp [results, Tryd.results114, go_sem]) rfl ⟨rfl, (by repeat (first | (with_reducible exact Below.refl _ _) | (with_reducible assumption) | (with_reducible refine Below.drew ?_) | (with_reducible refine below_drewN ?_ _) | (with_reducible refine Below.alloc ?_ (by first | omega | (simp; done) | (simp; omega)) _) | (with_reducible refine Below.setCell ?_ (by first | omega | (simp; done) | (simp; omega)) _) | (with_reducible refine Below.trans ?_ (Below.mono (by assumption) (by first | omega | (simp; done) | (simp; omega))))))⟩
  | false =>
    have m3 : (if t1 + min a b < s1 then t1 + min a b else s1) = min s1 (t1 + min a b) := by split <;> omega
    have m4 : (if s2 < t2 + max a b then t2 + max a b else s2) = max s2 (t2 + max a b) := by split <;> omega
    obtain ⟨q1, hq1⟩ : ∃ q, t1 + min a b = q := ⟨_, rfl⟩
    obtain ⟨q2, hq2⟩ : ∃ q, t2 + max a b = q := ⟨_, rfl⟩
    have HQ1 := hid hq1; have HQ2 := hid hq2
    rw [hq1] at m3; rw [hq2] at m4
    go_enter Tryd.func114, Tryd.ntmps114
    go_wp2_with fail
    all_goals
      refine bodyPost_ret (v := .agg #[.int .i64 (min s1 q1), .int .i64 (max s2 q2)]) (by simp_all [results, Tryd.results114, go_sem] <;> omega) rfl ⟨by unfold wideF endF; simp only [Bool.false_eq_true, if_false]; rw [HQ1.out, HQ2.out], (by repeat (first | (with_reducible exact Below.refl _ _) | (with_reducible assumption) | (with_reducible refine Below.drew ?_) | (with_reducible refine below_drewN ?_ _) | (with_reducible refine Below.alloc ?_ (by first | omega | (simp; done) | (simp; omega)) _) | (with_reducible refine Below.setCell ?_ (by first | omega | (simp; done) | (simp; omega)) _) | (with_reducible refine Below.trans ?_ (Below.mono (by assumption) (by first | omega | (simp; done) | (simp; omega))))))⟩

set_option maxRecDepth 20000 in
set_option maxHeartbeats 2000000 in
theorem refRates_any (r : Rt) (w : World) :
    Calls Tryd.prog 70 #[r.val] w fun e w' => e = .returned (.bool r.ok) ∧ Below w.heap.size w w' := by
  have hok : r.ok = ((decide (0 ≤ r.skin) && decide (r.skin ≤ 1000)) && ((decide (0 ≤ r.half) && decide (r.half ≤ 1000)) && ((decide (0 ≤ r.barrel) && decide (r.barrel ≤ 1000)) && (decide (0 ≤ r.paid) && decide (r.paid ≤ 1000))))) := rfl
  have HOK := hid hok; clear hok
  obtain ⟨q1, hq1⟩ : ∃ q, (decide (0 ≤ r.skin) && decide (r.skin ≤ 1000)) = q := ⟨_, rfl⟩
  obtain ⟨q2, hq2⟩ : ∃ q, (decide (0 ≤ r.half) && decide (r.half ≤ 1000)) = q := ⟨_, rfl⟩
  obtain ⟨q3, hq3⟩ : ∃ q, (decide (0 ≤ r.barrel) && decide (r.barrel ≤ 1000)) = q := ⟨_, rfl⟩
  obtain ⟨q4, hq4⟩ : ∃ q, (decide (0 ≤ r.paid) && decide (r.paid ≤ 1000)) = q := ⟨_, rfl⟩
  rw [hq1, hq2, hq3, hq4] at HOK
  unfold Rt.val
  cases q1 with
  | false => (go_enter Tryd.func70, Tryd.ntmps70; go_wp2_with (refine (within_any _ _ _ _).mono ?_; rintro e w' ⟨rfl, rfl⟩); go_ret; exact ⟨(congrArg (fun b => Ending.returned (Value.bool b)) (by rw [HOK.out]; first | rfl | simp [*])), (by repeat (first | (with_reducible exact Below.refl _ _) | (with_reducible assumption) | (with_reducible refine Below.drew ?_) | (with_reducible refine below_drewN ?_ _) | (with_reducible refine Below.alloc ?_ (by first | omega | (simp; done) | (simp; omega)) _) | (with_reducible refine Below.setCell ?_ (by first | omega | (simp; done) | (simp; omega)) _) | (with_reducible refine Below.trans ?_ (Below.mono (by assumption) (by first | omega | (simp; done) | (simp; omega))))))⟩)
  | true =>
    cases q2 with
    | false => (go_enter Tryd.func70, Tryd.ntmps70; go_wp2_with (refine (within_any _ _ _ _).mono ?_; rintro e w' ⟨rfl, rfl⟩); go_ret; exact ⟨(congrArg (fun b => Ending.returned (Value.bool b)) (by rw [HOK.out]; first | rfl | simp [*])), (by repeat (first | (with_reducible exact Below.refl _ _) | (with_reducible assumption) | (with_reducible refine Below.drew ?_) | (with_reducible refine below_drewN ?_ _) | (with_reducible refine Below.alloc ?_ (by first | omega | (simp; done) | (simp; omega)) _) | (with_reducible refine Below.setCell ?_ (by first | omega | (simp; done) | (simp; omega)) _) | (with_reducible refine Below.trans ?_ (Below.mono (by assumption) (by first | omega | (simp; done) | (simp; omega))))))⟩)
    | true =>
      cases q3 with
      | false => (go_enter Tryd.func70, Tryd.ntmps70; go_wp2_with (refine (within_any _ _ _ _).mono ?_; rintro e w' ⟨rfl, rfl⟩); go_ret; exact ⟨(congrArg (fun b => Ending.returned (Value.bool b)) (by rw [HOK.out]; first | rfl | simp [*])), (by repeat (first | (with_reducible exact Below.refl _ _) | (with_reducible assumption) | (with_reducible refine Below.drew ?_) | (with_reducible refine below_drewN ?_ _) | (with_reducible refine Below.alloc ?_ (by first | omega | (simp; done) | (simp; omega)) _) | (with_reducible refine Below.setCell ?_ (by first | omega | (simp; done) | (simp; omega)) _) | (with_reducible refine Below.trans ?_ (Below.mono (by assumption) (by first | omega | (simp; done) | (simp; omega))))))⟩)
      | true =>
        cases q4 with
        | false => (go_enter Tryd.func70, Tryd.ntmps70; go_wp2_with (refine (within_any _ _ _ _).mono ?_; rintro e w' ⟨rfl, rfl⟩); go_ret; exact ⟨(congrArg (fun b => Ending.returned (Value.bool b)) (by rw [HOK.out]; first | rfl | simp [*])), (by repeat (first | (with_reducible exact Below.refl _ _) | (with_reducible assumption) | (with_reducible refine Below.drew ?_) | (with_reducible refine below_drewN ?_ _) | (with_reducible refine Below.alloc ?_ (by first | omega | (simp; done) | (simp; omega)) _) | (with_reducible refine Below.setCell ?_ (by first | omega | (simp; done) | (simp; omega)) _) | (with_reducible refine Below.trans ?_ (Below.mono (by assumption) (by first | omega | (simp; done) | (simp; omega))))))⟩)
        | true => (go_enter Tryd.func70, Tryd.ntmps70; go_wp2_with (refine (within_any _ _ _ _).mono ?_; rintro e w' ⟨rfl, rfl⟩); go_ret; exact ⟨(congrArg (fun b => Ending.returned (Value.bool b)) (by rw [HOK.out]; first | rfl | simp [*])), (by repeat (first | (with_reducible exact Below.refl _ _) | (with_reducible assumption) | (with_reducible refine Below.drew ?_) | (with_reducible refine below_drewN ?_ _) | (with_reducible refine Below.alloc ?_ (by first | omega | (simp; done) | (simp; omega)) _) | (with_reducible refine Below.setCell ?_ (by first | omega | (simp; done) | (simp; omega)) _) | (with_reducible refine Below.trans ?_ (Below.mono (by assumption) (by first | omega | (simp; done) | (simp; omega))))))⟩)

/-- What has come so far: nothing, and the first is still to come; or a span. -/
def AccW (W : Int → Int) (P : List Int → Prop) (s : Int × Int) (first : Bool) : Prop := (first = true ∧ s = (0, 0) ∧ ∀ l, ¬ P l) ∨ (first = false ∧ IsSpan W P s.1 s.2)
theorem AccW.iff {W : Int → Int} {P Q : List Int → Prop} {s : Int × Int} {first : Bool} (h : AccW W P s first) (hq : ∀ x, P x ↔ Q x) : AccW W Q s first := by
  rcases h with ⟨h1, h0, h2⟩ | ⟨h1, h2⟩
  · exact .inl ⟨h1, h0, fun l hl => h2 l ((hq l).2 hl)⟩
  · exact .inr ⟨h1, h2.iff hq⟩
theorem byN_span {W : Int → Int} (h0 : W 0 = 0) {a : Tl} {x : St} (hn : ∀ n ∈ notchesL x, 0 ≤ n) {lo hi : Int} (h : IsSpan W (TrueL (a.st.drop x.i) (a.fo.drop x.k)) lo hi) : IsSpan W (ByN a x (notchesL x)) (lo + min (W x.s) (W x.f)) (hi + max (W x.s) (W x.f)) := by
  have hs : 0 ≤ x.s := hn _ (by unfold notchesL; split <;> simp)
  have hf : 0 ≤ x.f := hn _ (by unfold notchesL; split <;> simp_all)
  have g1 := h.pre h0 hs
  have g2 := h.pre h0 hf
  have g := (g1.or g2).iff (Q := ByN a x (notchesL x)) (fun l => by
    unfold ByN notchesL
    by_cases e : x.s = x.f
    · rw [if_pos e]
      simp only [List.mem_singleton, exists_eq_left]
      rw [e]
      exact ⟨fun h => h.elim id id, .inl⟩
    · rw [if_neg e]
      simp only [List.mem_cons, List.not_mem_nil, or_false]
      constructor
      · rintro (h | h)
        · exact ⟨_, .inl rfl, h⟩
        · exact ⟨_, .inr rfl, h⟩
      · rintro ⟨n, rfl | rfl, h⟩
        · exact .inl h
        · exact .inr h)
  have e1 : min (W x.s + lo) (W x.f + lo) = lo + min (W x.s) (W x.f) := by omega
  have e2 : max (W x.s + hi) (W x.f + hi) = hi + max (W x.s) (W x.f) := by omega
  rw [e1, e2] at g
  exact g
theorem AccW.snoc {W : Int → Int} (h0 : W 0 = 0) {a : Tl} {xs : List St} {x : St} {s : Int × Int} {first : Bool} (h : AccW W (ByS a xs) s first) (hn : ∀ n ∈ notchesL x, 0 ≤ n) {t : Int × Int} (k : IsSpan W (TrueL (a.st.drop x.i) (a.fo.drop x.k)) t.1 t.2) : AccW W (ByS a (xs ++ [x])) (wideF s t (W x.s) (W x.f) first) false := by
  have hb := byN_span h0 hn k
  refine .inr ⟨rfl, ?_⟩
  rcases h with ⟨rfl, -, hnone⟩ | ⟨rfl, hs⟩
  · exact hb.iff (fun l => ⟨fun g => (byS_snoc a xs x l).2 (.inr g), fun g => ((byS_snoc a xs x l).1 g).resolve_left (hnone l)⟩)
  · exact (hs.or hb).iff (fun l => (byS_snoc a xs x l).symm)

/-- There is a span at every place. -/
theorem span_ex {W : Int → Int} (h0 : W 0 = 0) {a : Tl} (o1 : okN a.st = true) (o2 : okN a.fo = true) : ∀ (m i k : Nat), (a.st.length - i) + (a.fo.length - k) < m → i ≤ a.st.length → k ≤ a.fo.length → ∃ p : Int × Int, IsSpan W (TrueL (a.st.drop i) (a.fo.drop k)) p.1 p.2 := by
  intro m
  induction m with
  | zero => intro i k h; omega
  | succ m ih =>
    intro i k hm hi hk
    by_cases hend : i = a.st.length ∧ k = a.fo.length
    · obtain ⟨rfl, rfl⟩ := hend
      exact ⟨(0, 0), IsSpan.nil.iff (fun x => (true_end x).symm)⟩
    · have key : ∀ xs : List St, (∀ x ∈ xs, x ∈ stepsL a.st a.fo i k) → ∃ (s : Int × Int) (first : Bool), AccW W (ByS a xs) s first := by
        intro xs
        have : ∀ n (xs : List St), xs.length = n → (∀ x ∈ xs, x ∈ stepsL a.st a.fo i k) → ∃ (s : Int × Int) (first : Bool), AccW W (ByS a xs) s first := by
          intro n
          induction n with
          | zero =>
            intro xs hx _
            have : xs = [] := List.length_eq_zero_iff.1 hx
            subst this
            exact ⟨(0, 0), true, .inl ⟨rfl, rfl, fun l ⟨_, h, _⟩ => by cases h⟩⟩
          | succ n ihn =>
            intro xs hx hs
            have hne : xs ≠ [] := fun e => by rw [e] at hx; cases hx
            obtain ⟨ys, y, rfl⟩ : ∃ ys y, xs = ys ++ [y] := ⟨xs.dropLast, xs.getLast hne, (List.dropLast_concat_getLast hne).symm⟩
            obtain ⟨s, first, h⟩ := ihn ys (by simp at hx; exact hx) (fun x h => hs x (by simp [h]))
            have hy := hs y (by simp)
            obtain ⟨g1, g2, g3, _⟩ := step_bound hy hi hk
            obtain ⟨p, hp⟩ := ih y.i y.k (by omega) g1 g2
            exact ⟨_, _, h.snoc h0 (fun n hn => (step_notch o1 o2 hy hn).1) hp⟩
        exact this _ xs rfl
      obtain ⟨s, first, h⟩ := key (bestL a.st a.fo i k) (fun x hx => (mem_best.1 hx).1)
      refine ⟨s, ?_⟩
      rcases h with ⟨_, _, hn⟩ | ⟨_, h⟩
      · exfalso
        exact hn (a.st.drop i) ((true_iff o1 o2 hi hk hend _).1 (by unfold TrueL; rw [dist_self]; omega))
      · exact h.iff (fun l => (true_iff o1 o2 hi hk hend l).symm)
theorem span_at {W : Int → Int} (h0 : W 0 = 0) {a : Tl} (o1 : okN a.st = true) (o2 : okN a.fo = true) {i k : Nat} (hi : i ≤ a.st.length) (hk : k ≤ a.fo.length) : IsSpan W (TrueL (a.st.drop i) (a.fo.drop k)) (spanF W (a.st.drop i) (a.fo.drop k)).1 (spanF W (a.st.drop i) (a.fo.drop k)).2 := by
  obtain ⟨p, hp⟩ := span_ex h0 o1 o2 _ i k (Nat.lt_succ_self _) hi hk
  rw [spanF_eq hp]
  exact hp
end Go.Proofs.YthddoikmgpgakaaDoor
