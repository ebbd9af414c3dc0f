/- The fewest false notches between two lists, `dist`, and the laws of it that the proofs use: no program in sight. -/
import Derived.Test.YthddoikmgpgakaaDoorBase
namespace Go.Proofs.YthddoikmgpgakaaDoor

/-- The fewest false notches between two lists. -/
def dist : List Int → List Int → Nat
  | [], b => b.length
  | x :: a, [] => (x :: a).length
  | x :: a, y :: b => min (dist a b + (if x = y then 0 else 1)) (min (dist a (y :: b) + 1) (dist (x :: a) b + 1))
termination_by a b => a.length + b.length

theorem dist_nil (b : List Int) : dist [] b = b.length := by rw [dist]
theorem dist_nil' (a : List Int) : dist a [] = a.length := by cases a <;> rw [dist] <;> rfl
theorem dist_cons (x y : Int) (a b : List Int) : dist (x :: a) (y :: b) = min (dist a b + (if x = y then 0 else 1)) (min (dist a (y :: b) + 1) (dist (x :: a) b + 1)) := by
  rw [dist]

theorem dist_left (x : Int) (a b : List Int) : dist (x :: a) b ≤ dist a b + 1 := by
  cases b with
  | nil => rw [dist_nil', dist_nil']; simp
  | cons y b => rw [dist_cons]; omega
theorem dist_right (y : Int) (a b : List Int) : dist a (y :: b) ≤ dist a b + 1 := by
  cases a with
  | nil => rw [dist_nil, dist_nil]; simp
  | cons x a => rw [dist_cons]; omega
theorem dist_both (x y : Int) (a b : List Int) : dist (x :: a) (y :: b) ≤ dist a b + (if x = y then 0 else 1) := by
  rw [dist_cons]; omega

theorem dist_le (a b : List Int) : dist a b ≤ a.length + b.length := by
  induction a with
  | nil => rw [dist_nil]; simp
  | cons x a ih => have := dist_left x a b; simp only [List.length_cons]; omega

/-- The false notches of two pieces are no fewer than those of the whole. -/
theorem dist_append (c d : List Int) : ∀ (a b : List Int), dist (a ++ c) (b ++ d) ≤ dist a b + dist c d
  | [], b => by
    rw [dist_nil, List.nil_append]
    induction b with
    | nil => simp
    | cons y b ih => have := dist_right y c (b ++ d); simp only [List.length_cons, List.cons_append]; omega
  | x :: a, [] => by
    have h := dist_append c d a []
    have := dist_left x (a ++ c) ([] ++ d)
    rw [dist_nil'] at h ⊢
    simp only [List.length_cons, List.cons_append] at *
    omega
  | x :: a, y :: b => by
    have h1 := dist_append c d a b
    have h2 := dist_append c d a (y :: b)
    have h3 := dist_append c d (x :: a) b
    have g1 := dist_both x y (a ++ c) (b ++ d)
    have g2 := dist_left x (a ++ c) (y :: (b ++ d))
    have g3 := dist_right y (x :: (a ++ c)) (b ++ d)
    rw [dist_cons]
    simp only [List.cons_append] at *
    omega
termination_by a b => a.length + b.length

/-- Wherever the one list is cut, the other one can be cut so that the pieces have no more. -/
theorem dist_split : ∀ (a b : List Int) (i : Nat), i ≤ a.length → ∃ k, k ≤ b.length ∧ dist (a.take i) (b.take k) + dist (a.drop i) (b.drop k) ≤ dist a b
  | a, b, 0, _ => ⟨0, Nat.zero_le _, by simp [dist_nil]⟩
  | [], b, i + 1, h => absurd h (by simp)
  | x :: a, [], i + 1, h => ⟨0, Nat.le_refl _, by
      simp only [List.length_cons] at h
      simp only [List.take_nil, List.drop_nil, dist_nil', List.take_succ_cons, List.drop_succ_cons, List.length_cons, List.length_take, List.length_drop]; omega⟩
  | x :: a, y :: b, i + 1, h => by
    have h' : i ≤ a.length := by simpa using h
    rw [dist_cons]
    have e : ∀ p q r : Nat, min p (min q r) = p ∨ min p (min q r) = q ∨ min p (min q r) = r := by intro p q r; omega
    rcases e (dist a b + (if x = y then 0 else 1)) (dist a (y :: b) + 1) (dist (x :: a) b + 1) with q | q | q
    · obtain ⟨k, hk, hd⟩ := dist_split a b i h'
      refine ⟨k + 1, by simpa using hk, ?_⟩
      have := dist_both x y (a.take i) (b.take k)
      rw [q]; simp only [List.take_succ_cons, List.drop_succ_cons]; omega
    · obtain ⟨k, hk, hd⟩ := dist_split a (y :: b) i h'
      refine ⟨k, hk, ?_⟩
      have := dist_left x (a.take i) ((y :: b).take k)
      rw [q]; simp only [List.take_succ_cons, List.drop_succ_cons]; omega
    · obtain ⟨k, hk, hd⟩ := dist_split (x :: a) b (i + 1) h
      refine ⟨k + 1, by simpa using hk, ?_⟩
      have := dist_right y ((x :: a).take (i + 1)) (b.take k)
      rw [q]; simp only [List.take_succ_cons, List.drop_succ_cons] at *; omega
termination_by a b => a.length + b.length

theorem dist_cut (a b : List Int) (i k : Nat) : dist a b ≤ dist (a.take i) (b.take k) + dist (a.drop i) (b.drop k) := by
  have := dist_append (a.drop i) (b.drop k) (a.take i) (b.take k)
  rwa [List.take_append_drop, List.take_append_drop] at this

/-- `dist` behind the indices i and k, as a table tells it from its end on. -/
theorem dist_drop {a b : List Int} {i k : Nat} (hi : i < a.length) (hk : k < b.length) :
    dist (a.drop i) (b.drop k) = min (dist (a.drop (i + 1)) (b.drop (k + 1)) + (if a[i] = b[k] then 0 else 1)) (min (dist (a.drop (i + 1)) (b.drop k) + 1) (dist (a.drop i) (b.drop (k + 1)) + 1)) := by
  rw [List.drop_eq_getElem_cons hi, List.drop_eq_getElem_cons hk, dist_cons]
theorem dist_end {a b : List Int} {i k : Nat} (h : a.length ≤ i ∨ b.length ≤ k) : dist (a.drop i) (b.drop k) = (a.length - i) + (b.length - k) := by
  rcases h with h | h
  · rw [List.drop_of_length_le h, dist_nil, List.length_drop]; omega
  · rw [List.drop_of_length_le h, dist_nil', List.length_drop]; omega

end Go.Proofs.YthddoikmgpgakaaDoor
