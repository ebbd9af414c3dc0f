/- The plain law of the edits: the first best step is the reference's choice. No program. -/
import Derived.Test.YthddoikmgpgakaaDoorProg
import Derived.Test.YthddoikmgpgakaaDoorBase
import Derived.Outline
import Derived.RangeFuncNested
import Derived.Shelf.Abstract
import Derived.Deep.QuietTactic
import Derived.BigQuiet
import Derived.Deep.RegionHeld3
import Derived.WalkSmall
import Derived.Laws.EntriesVeiled
import Derived.Test.YthddoikmgpgakaaDoorEd
import Derived.Test.YthddoikmgpgakaaDoorBest
namespace Go.Proofs.YthddoikmgpgakaaDoor
open Go.RowKit Go.Proofs Go.Shelf

theorem dist_more (x : Int) (a b : List Int) : dist a b ≤ dist (x :: a) b + 1 := by
  induction b with
  | nil => rw [dist_nil', dist_nil']; simp; omega
  | cons y b ih =>
    have h1 := dist_right y a b
    rw [dist_cons x y]
    omega
theorem dist_more' (y : Int) (a b : List Int) : dist a b ≤ dist a (y :: b) + 1 := by
  induction a with
  | nil => rw [dist_nil, dist_nil]; simp; omega
  | cons x a ih =>
    have h1 := dist_left x a b
    rw [dist_cons x y]
    omega
theorem dist_same (x : Int) (a b : List Int) : dist (x :: a) (x :: b) = dist a b := by
  have h1 := dist_more' x a b
  have h2 := dist_more x a b
  rw [dist_cons, if_pos rfl]
  omega
theorem dd_same {st fo : List Int} {i k : Nat} (hi : i < st.length) (hk : k < fo.length) (he : st[i] = fo[k]) : dd st fo i k = dd st fo (i + 1) (k + 1) := by
  unfold dd
  rw [List.drop_eq_getElem_cons hi, List.drop_eq_getElem_cons hk, he]
  exact dist_same _ _ _

/-- The edit of a step. -/
def edOf (x : St) (k : Nat) : List Ed := if x.wr = 0 then [] else if x.f = 0 then [⟨1, k, 0⟩] else if x.s = 0 then [⟨2, k, x.f⟩] else [⟨3, k, x.f⟩]
structure Nx where
  i : Nat
  k : Nat
  es : List Ed
/-- Where the reference goes on, and by which edit. -/
def nxt (st fo : List Int) (i k : Nat) : Nx :=
  if h : i < st.length ∧ k < fo.length then
    if st[i]'h.1 = fo[k]'h.2 then ⟨i + 1, k + 1, []⟩
    else if dd st fo i k = dd st fo (i + 1) (k + 1) + 1 then ⟨i + 1, k + 1, [⟨3, k, fo[k]'h.2⟩]⟩
    else if dd st fo i k = dd st fo (i + 1) k + 1 then ⟨i + 1, k, [⟨1, k, 0⟩]⟩
    else ⟨i, k + 1, [⟨2, k, fo[k]'h.2⟩]⟩
  else if i < st.length then ⟨i + 1, k, [⟨1, k, 0⟩]⟩
  else if h : k < fo.length then ⟨i, k + 1, [⟨2, k, fo[k]⟩]⟩
  else ⟨i, k, []⟩

theorem nxt_step {st fo : List Int} {i k : Nat} (h : i < st.length ∨ k < fo.length) (hi : i ≤ st.length) (hk : k ≤ fo.length) :
    (nxt st fo i k).i ≤ st.length ∧ (nxt st fo i k).k ≤ fo.length ∧ (st.length - (nxt st fo i k).i) + (fo.length - (nxt st fo i k).k) < (st.length - i) + (fo.length - k) ∧ (nxt st fo i k).es.length + (i + k) ≤ (nxt st fo i k).i + (nxt st fo i k).k := by
  unfold nxt
  split
  · split
    · simp only [List.length_nil]; omega
    · split
      · simp only [List.length_cons, List.length_nil]; omega
      · split <;> (simp only [List.length_cons, List.length_nil]; omega)
  · split
    · simp only [List.length_cons, List.length_nil]; omega
    · split
      · simp only [List.length_cons, List.length_nil]; omega
      · omega

/-- The edits from a place on. -/
def edL (st fo : List Int) (i k : Nat) : List Ed :=
  if h : (i < st.length ∨ k < fo.length) ∧ i ≤ st.length ∧ k ≤ fo.length then (nxt st fo i k).es ++ edL st fo (nxt st fo i k).i (nxt st fo i k).k else []
termination_by (st.length - i) + (fo.length - k)
decreasing_by exact (nxt_step h.1 h.2.1 h.2.2).2.2.1

theorem edL_end (st fo : List Int) : edL st fo st.length fo.length = [] := by rw [edL, dif_neg (by omega)]
theorem edL_step {st fo : List Int} {i k : Nat} (h : i < st.length ∨ k < fo.length) (hi : i ≤ st.length) (hk : k ≤ fo.length) : edL st fo i k = (nxt st fo i k).es ++ edL st fo (nxt st fo i k).i (nxt st fo i k).k := by
  rw [edL, dif_pos ⟨h, hi, hk⟩]

theorem okN_ne {xs : List Int} (h : okN xs = true) {i : Nat} (hi : i < xs.length) : xs[i] ≠ 0 := by
  unfold okN at h
  rw [List.all_eq_true] at h
  have := h _ (List.getElem_mem hi)
  simp at this
  omega

/-- The program's choice is the reference's. -/
theorem best_head {st fo : List Int} (hs : okN st = true) (hf : okN fo = true) {i k : Nat} (hi : i ≤ st.length) (hk : k ≤ fo.length) (h : i < st.length ∨ k < fo.length) :
    ∃ x t, bestL st fo i k = x :: t ∧ x.i = (nxt st fo i k).i ∧ x.k = (nxt st fo i k).k ∧ edOf x k = (nxt st fo i k).es := by
  by_cases h1 : i < st.length
  · by_cases h2 : k < fo.length
    · have e := dist_drop h1 h2
      have n1 := okN_ne hs h1; have n2 := okN_ne hf h2
      rw [bestL, stepsL, step1_yes h1 h2, step2_yes k h1, step3_yes i h2]
      simp only [List.cons_append, List.nil_append]
      unfold nxt
      rw [dif_pos ⟨h1, h2⟩]
      by_cases he : st[i] = fo[k]
      · have q := dd_same h1 h2 he
        rw [if_pos he, if_pos he, List.filter_cons_of_pos (by unfold isBest; simp; omega)]
        exact ⟨_, _, rfl, rfl, rfl, by simp [edOf]⟩
      · rw [if_neg he, if_neg he]
        rw [if_neg he] at e
        change dd st fo i k = min (dd st fo (i + 1) (k + 1) + 1) (min (dd st fo (i + 1) k + 1) (dd st fo i (k + 1) + 1)) at e
        by_cases q1 : dd st fo i k = dd st fo (i + 1) (k + 1) + 1
        · rw [if_pos q1, List.filter_cons_of_pos (by unfold isBest; simp; omega)]
          exact ⟨_, _, rfl, rfl, rfl, by simp [edOf, n1, n2]⟩
        · rw [if_neg q1, List.filter_cons_of_neg (by unfold isBest; simp; omega)]
          by_cases q2 : dd st fo i k = dd st fo (i + 1) k + 1
          · rw [if_pos q2, List.filter_cons_of_pos (by unfold isBest; simp; omega)]
            exact ⟨_, _, rfl, rfl, rfl, by simp [edOf]⟩
          · rw [if_neg q2, List.filter_cons_of_neg (by unfold isBest; simp; omega), List.filter_cons_of_pos (by unfold isBest; simp; omega)]
            exact ⟨_, _, rfl, rfl, rfl, by simp [edOf, n2]⟩
    · have e1 : dd st fo i k = (st.length - i) + (fo.length - k) := dist_end (.inr (by omega))
      have e2 : dd st fo (i + 1) k = (st.length - (i + 1)) + (fo.length - k) := dist_end (.inr (by omega))
      rw [bestL, stepsL, step1_no (fun h => h2 h.2), step2_yes k h1, step3_no i h2]
      simp only [List.append_nil, List.nil_append]
      unfold nxt
      rw [dif_neg (fun h => h2 h.2), if_pos h1, List.filter_cons_of_pos (by unfold isBest; simp; omega)]
      exact ⟨_, _, rfl, rfl, rfl, by simp [edOf]⟩
  · have h2 : k < fo.length := by omega
    have n2 := okN_ne hf h2
    have e1 : dd st fo i k = (st.length - i) + (fo.length - k) := dist_end (.inl (by omega))
    have e2 : dd st fo i (k + 1) = (st.length - i) + (fo.length - (k + 1)) := dist_end (.inl (by omega))
    rw [bestL, stepsL, step1_no (fun h => h1 h.1), step2_no k h1, step3_yes i h2]
    simp only [List.nil_append]
    unfold nxt
    rw [dif_neg (fun h => h1 h.1), if_neg h1, dif_pos h2, List.filter_cons_of_pos (by unfold isBest; simp; omega)]
    exact ⟨_, _, rfl, rfl, rfl, by simp [edOf, n2]⟩

/-- What 'Edits' tells: the edits, or the error. -/
def editsR (a : Tl) : List Ed × Int := if okT a.id a.hs a.st a.fo = true then (edL a.st a.fo 0 0, 0) else ([], 70)
/-- The slice that is handed back. -/
def EdV (w : World) (v : Value) (es : List Ed) : Prop := ∃ a c, v = .slice a es.length c ∧ RdE w a es
theorem edL_len (st fo : List Int) : ∀ m i k, (st.length - i) + (fo.length - k) ≤ m → i ≤ st.length → k ≤ fo.length → (edL st fo i k).length ≤ (st.length - i) + (fo.length - k) := by
  intro m
  induction m with
  | zero => intro i k h hi hk; rw [edL, dif_neg (by omega)]; simp
  | succ m ih =>
    intro i k h hi hk
    by_cases hc : i < st.length ∨ k < fo.length
    · obtain ⟨g1, g2, g3, g4⟩ := nxt_step (st := st) (fo := fo) hc hi hk
      have := ih _ _ (by omega) g1 g2
      rw [edL_step hc hi hk, List.length_append]
      omega
    · rw [edL, dif_neg (by omega)]; simp
end Go.Proofs.YthddoikmgpgakaaDoor
