/- Plain laws of `dist`: the triangle, the turn-about, and what a true list begins with. No program. -/
import Derived.Test.YthddoikmgpgakaaDoorDist
namespace Go.Proofs.YthddoikmgpgakaaDoor

theorem dist_view_r (x : Int) (a b : List Int) : dist a (x :: b) = dist a b + 1 ∨ ∃ y a', a = y :: a' ∧ (dist a (x :: b) = dist a' (x :: b) + 1 ∨ dist a (x :: b) = dist a' b + (if y = x then 0 else 1)) := by
  cases a with
  | nil => left; rw [dist_nil, dist_nil]; rfl
  | cons y a' =>
    rw [dist_cons]
    by_cases h1 : dist (y :: a') b + 1 ≤ min (dist a' b + (if y = x then 0 else 1)) (dist a' (x :: b) + 1)
    · left; omega
    · right
      refine ⟨y, a', rfl, ?_⟩
      omega
theorem dist_view_l (x : Int) (b c : List Int) : dist (x :: b) c = dist b c + 1 ∨ ∃ z c', c = z :: c' ∧ (dist (x :: b) c = dist (x :: b) c' + 1 ∨ dist (x :: b) c = dist b c' + (if x = z then 0 else 1)) := by
  cases c with
  | nil => left; rw [dist_nil', dist_nil']; rfl
  | cons z c' =>
    rw [dist_cons]
    by_cases h1 : dist b (z :: c') + 1 ≤ min (dist b c' + (if x = z then 0 else 1)) (dist (x :: b) c' + 1)
    · left; omega
    · right
      refine ⟨z, c', rfl, ?_⟩
      omega

theorem ite_tri (a b c : Int) : (if a = c then 0 else 1 : Nat) ≤ (if a = b then 0 else 1) + (if b = c then 0 else 1) := by
  by_cases h1 : a = b <;> by_cases h2 : b = c <;> by_cases h3 : a = c <;> simp_all

/-- **By way of a third list there are no fewer.** -/
theorem dist_tri : ∀ (n : Nat) (a b c : List Int), a.length + b.length + c.length ≤ n → dist a c ≤ dist a b + dist b c
  | 0, a, b, c, h => by
    have h1 : a = [] := List.length_eq_zero_iff.1 (by omega)
    have h3 : c = [] := List.length_eq_zero_iff.1 (by omega)
    subst h1; subst h3
    simp [dist_nil]
  | n + 1, a, [], c, h => by
    have := dist_le a c
    rw [dist_nil', dist_nil]; omega
  | n + 1, a, x :: b, c, h => by
    simp only [List.length_cons] at h
    have hd : ∀ a', a'.length + 1 = a.length → dist a' c ≤ dist a' (x :: b) + dist (x :: b) c := fun a' h' => dist_tri n a' (x :: b) c (by simp only [List.length_cons]; omega)
    have hi : ∀ c', c'.length + 1 = c.length → dist a c' ≤ dist a (x :: b) + dist (x :: b) c' := fun c' h' => dist_tri n a (x :: b) c' (by simp only [List.length_cons]; omega)
    have h0 := dist_tri n a b c (by omega)
    rcases dist_view_l x b c with e | ⟨z, c', rfl, e | e⟩
    · rcases dist_view_r x a b with g | ⟨y, a', rfl, g | g⟩
      · omega
      · have := hd a' (by simp)
        have := dist_left y a' c
        omega
      · have h1 := dist_tri n a' b c (by simp only [List.length_cons] at h; omega)
        have := dist_left y a' c
        omega
    · have := hi c' (by simp)
      have := dist_right z a c'
      omega
    · rcases dist_view_r x a b with g | ⟨y, a', rfl, g | g⟩
      · have h1 := dist_tri n a b c' (by simp only [List.length_cons] at h; omega)
        have := dist_right z a c'
        omega
      · have := hd a' (by simp)
        have := dist_left y a' (z :: c')
        omega
      · have h1 := dist_tri n a' b c' (by simp only [List.length_cons] at h; omega)
        have := dist_both y z a' c'
        have := ite_tri y x z
        omega
theorem dist_third (a b c : List Int) : dist a c ≤ dist a b + dist b c := dist_tri _ a b c (Nat.le_refl _)

theorem dist_comm (a b : List Int) : dist a b = dist b a := by
  induction a generalizing b with
  | nil => rw [dist_nil, dist_nil']
  | cons x a ih =>
    induction b with
    | nil => rw [dist_nil, dist_nil']
    | cons y b ihb =>
      rw [dist_cons, dist_cons, ih b, ih (y :: b), ihb]
      have : (if x = y then 0 else 1 : Nat) = if y = x then 0 else 1 := by by_cases h : x = y <;> simp [h, eq_comm]
      omega
theorem dist_self (a : List Int) : dist a a = 0 := by
  induction a with
  | nil => rw [dist_nil]; rfl
  | cons x a ih => have := dist_both x x a a; simp at this; omega
theorem dist_zero : ∀ (a b : List Int), dist a b = 0 → a = b
  | [], b, h => by rw [dist_nil] at h; exact (List.length_eq_zero_iff.1 h).symm
  | x :: a, b, h => by
    rcases dist_view_l x a b with e | ⟨z, b', rfl, e | e⟩
    · omega
    · omega
    · by_cases hx : x = z
      · rw [if_pos hx] at e
        rw [hx, dist_zero a b' (by omega)]
      · rw [if_neg hx] at e; omega

/-- A list on a shortest way between both halves. -/
def TrueL (s f l : List Int) : Prop := dist s l + dist l f = dist s f

theorem TrueL.nil {l : List Int} (h : TrueL [] [] l) : l = [] := by
  unfold TrueL at h
  simp only [dist_nil, dist_nil', List.length_nil] at h
  exact List.length_eq_zero_iff.1 (by omega)
theorem TrueL.done : TrueL [] [] [] := by unfold TrueL; rw [dist_nil]; rfl

/-- By both. -/
theorem TrueL.both {a b c : Int} {s f l : List Int} (h : TrueL s f l) (hd : dist (a :: s) (b :: f) = dist s f + (if a = b then 0 else 1)) (hc : c = a ∨ c = b) : TrueL (a :: s) (b :: f) (c :: l) := by
  unfold TrueL at *
  have h1 := dist_both a c s l
  have h2 := dist_both c b l f
  have h3 := dist_third (a :: s) (c :: l) (b :: f)
  rcases hc with rfl | rfl
  · simp at h1; omega
  · simp at h2; omega
theorem TrueL.cut0 {a : Int} {s f l : List Int} (h : TrueL s f l) (hd : dist (a :: s) f = dist s f + 1) : TrueL (a :: s) f l := by
  unfold TrueL at *
  have h1 := dist_left a s l
  have h3 := dist_third (a :: s) l f
  omega
theorem TrueL.cut1 {a : Int} {s f l : List Int} (h : TrueL s f l) (hd : dist (a :: s) f = dist s f + 1) : TrueL (a :: s) f (a :: l) := by
  unfold TrueL at *
  have h1 := dist_both a a s l
  have h2 := dist_left a l f
  have h3 := dist_third (a :: s) (a :: l) f
  simp at h1; omega
theorem TrueL.add0 {b : Int} {s f l : List Int} (h : TrueL s f l) (hd : dist s (b :: f) = dist s f + 1) : TrueL s (b :: f) l := by
  unfold TrueL at *
  have h1 := dist_right b l f
  have h3 := dist_third s l (b :: f)
  omega
theorem TrueL.add1 {b : Int} {s f l : List Int} (h : TrueL s f l) (hd : dist s (b :: f) = dist s f + 1) : TrueL s (b :: f) (b :: l) := by
  unfold TrueL at *
  have h1 := dist_both b b l f
  have h2 := dist_right b s l
  have h3 := dist_third s (b :: l) (b :: f)
  simp at h1; omega

/-- **What a true list begins with.** -/
theorem TrueL.begins {s f l : List Int} (h : TrueL s f l) :
    (s = [] ∧ f = [] ∧ l = [])
    ∨ (∃ a s' b f' c l', s = a :: s' ∧ f = b :: f' ∧ l = c :: l' ∧ dist (a :: s') (b :: f') = dist s' f' + (if a = b then 0 else 1) ∧ (c = a ∨ c = b) ∧ TrueL s' f' l')
    ∨ (∃ a s', s = a :: s' ∧ dist (a :: s') f = dist s' f + 1 ∧ (TrueL s' f l ∨ ∃ l', l = a :: l' ∧ TrueL s' f l'))
    ∨ (∃ b f', f = b :: f' ∧ dist s (b :: f') = dist s f' + 1 ∧ (TrueL s f' l ∨ ∃ l', l = b :: l' ∧ TrueL s f' l')) := by
  unfold TrueL at h
  cases l with
  | nil =>
    rw [dist_nil, dist_nil'] at h
    cases s with
    | cons a s' =>
      right; right; left
      have h1 := dist_left a s' f
      have h2 := dist_le s' f
      simp only [List.length_cons] at h
      refine ⟨a, s', rfl, by omega, .inl ?_⟩
      unfold TrueL; rw [dist_nil, dist_nil']; omega
    | nil =>
      cases f with
      | nil => exact .inl ⟨rfl, rfl, rfl⟩
      | cons b f' =>
        right; right; right
        refine ⟨b, f', rfl, by rw [dist_nil, dist_nil]; rfl, .inl ?_⟩
        unfold TrueL; simp only [dist_nil]; simp
  | cons x l =>
    rcases dist_view_r x s l with e | ⟨a, s', rfl, e | e⟩
    · rcases dist_view_l x l f with g | ⟨b, f', rfl, g | g⟩
      · have := dist_third s l f
        omega
      · right; right; right
        have h1 := dist_right b s f'
        have h2 := dist_third s (x :: l) f'
        exact ⟨b, f', rfl, by omega, .inl (by unfold TrueL; omega)⟩
      · right; right; right
        have h1 := dist_right b s f'
        have h2 := dist_third s l f'
        by_cases hx : x = b
        · rw [if_pos hx] at g
          exact ⟨b, f', rfl, by omega, .inr ⟨l, by rw [hx], by unfold TrueL; omega⟩⟩
        · rw [if_neg hx] at g; omega
    · right; right; left
      have h1 := dist_left a s' f
      have h2 := dist_third s' (x :: l) f
      exact ⟨a, s', rfl, by omega, .inl (by unfold TrueL; omega)⟩
    · rcases dist_view_l x l f with g | ⟨b, f', rfl, g | g⟩
      · right; right; left
        have h1 := dist_left a s' f
        have h2 := dist_third s' l f
        by_cases hx : a = x
        · rw [if_pos hx] at e
          exact ⟨a, s', rfl, by omega, .inr ⟨l, by rw [hx], by unfold TrueL; omega⟩⟩
        · rw [if_neg hx] at e; omega
      · right; right; right
        have h1 := dist_right b (a :: s') f'
        have h2 := dist_third (a :: s') (x :: l) f'
        exact ⟨b, f', rfl, by omega, .inl (by unfold TrueL; omega)⟩
      · right; left
        have h1 := dist_both a b s' f'
        have h2 := dist_third s' l f'
        refine ⟨a, s', b, f', x, l, rfl, rfl, rfl, ?_⟩
        by_cases ha : a = x
        · subst ha
          simp only [if_true] at e
          exact ⟨by omega, .inl rfl, by unfold TrueL; omega⟩
        · rw [if_neg ha] at e
          by_cases hb : x = b
          · subst hb
            simp only [if_true] at g
            rw [if_neg ha] at h1 ⊢
            exact ⟨by omega, .inr rfl, by unfold TrueL; omega⟩
          · rw [if_neg hb] at g
            exfalso
            split at h1 <;> omega

/-- What a true list has no more of than both halves. -/
theorem TrueL.length_le {s f l : List Int} (h : TrueL s f l) : l.length ≤ s.length + f.length := by
  unfold TrueL at h
  have := dist_third [] s l
  have := dist_third [] f l
  rw [dist_nil, dist_nil] at *
  have h1 := dist_le s f
  have := dist_comm f l
  omega
end Go.Proofs.YthddoikmgpgakaaDoor
