/- Slices whose elements are several cells each: reading, and what the call owns. -/
import Derived.Test.YthddoikmgpgakaaDoorApp
import Derived.Test.YthddoikmgpgakaaDoorMarks
namespace Go.Proofs.YthddoikmgpgakaaDoor
open Go.RowKit Go

section
variable {α : Type} {f : α → List Value} {n : Nat}

/-- The cells of a row. -/
def rowC (f : α → List Value) (xs : List α) : List Value := xs.flatMap f
theorem rowC_nil : rowC f [] = [] := rfl
theorem rowC_append (xs ys : List α) : rowC f (xs ++ ys) = rowC f xs ++ rowC f ys := List.flatMap_append
theorem rowC_one (x : α) : rowC f [x] = f x := by simp [rowC]
theorem rowC_len (hf : ∀ x, (f x).length = n) (xs : List α) : (rowC f xs).length = xs.length * n := by
  induction xs with
  | nil => simp [rowC]
  | cons x xs ih =>
    have e : rowC f (x :: xs) = f x ++ rowC f xs := rfl
    rw [e, List.length_append, hf, ih, List.length_cons, Nat.succ_mul]; omega
theorem rowC_get (hf : ∀ x, (f x).length = n) (xs : List α) (i : Nat) (hi : i < xs.length) (j : Nat) (hj : j < n) : (rowC f xs)[i * n + j]? = (f xs[i])[j]? := by
  induction xs generalizing i with
  | nil => cases hi
  | cons x xs ih =>
    have e : rowC f (x :: xs) = f x ++ rowC f xs := rfl
    rw [e]
    cases i with
    | zero =>
      rw [Nat.zero_mul, Nat.zero_add, List.getElem?_append_left (by rw [hf]; exact hj)]
      rfl
    | succ i =>
      have e2 : (i + 1) * n + j = n + (i * n + j) := by rw [Nat.succ_mul]; omega
      rw [e2, List.getElem?_append_right (by rw [hf]; omega), hf, Nat.add_sub_cancel_left]
      exact ih i (by simpa using hi)

/-- The slice reads as these. -/
def RdX (f : α → List Value) (n : Nat) (w : World) (a : Option Addr) (xs : List α) : Prop := ∀ i (h : i < xs.length), ∃ b o, a = some ⟨b, o, none⟩ ∧ ∀ j v, (f xs[i])[j]? = some v → w.cell? ⟨b, o + i * n + j, none⟩ = some v
theorem RdX.nil (w : World) (a : Option Addr) : RdX f n w a [] := fun i hi => absurd hi (Nat.not_lt_zero _)
theorem RdX.below {w w' : World} {a : Option Addr} {xs : List α} (h : RdX f n w a xs) (hb : Below w.heap.size w w') : RdX f n w' a xs := fun i hi => by
  obtain ⟨b, o, ha, hc⟩ := h i hi
  exact ⟨b, o, ha, fun j v hj => (hb.cell (cell_lt (hc j v hj))).trans (hc j v hj)⟩
theorem RdX.alloc {w : World} {a : Option Addr} {xs : List α} (h : RdX f n w a xs) (o : Obj) : RdX f n (w.alloc o) a xs := h.below ((Below.refl _ _).alloc (Nat.le_refl _) _)
theorem RdX.drew {w : World} {a : Option Addr} {xs : List α} (h : RdX f n w a xs) : RdX f n w.drew a xs := h
theorem RdX.keep {Z : Nat → Prop} {w w' : World} {a : Option Addr} {xs : List α} (h : RdX f n w a xs) (k : Keep Z w w') (hz : ∀ b, CellAt w b → Z b) : RdX f n w' a xs := fun i hi => by
  obtain ⟨b, o, ha, hc⟩ := h i hi
  exact ⟨b, o, ha, fun j v hj => k.cell (hz b (cell_at (hc j v hj))) (hc j v hj)⟩
theorem RdX.of_own (hf : ∀ x, (f x).length = n) (hn : 0 < n) {w : World} {B : Nat} {e : TypeId} {a : Option Addr} {m c : Nat} {xs : List α} (h : w.ownsRow B e n (.slice a m c) m (rowC f xs)) : RdX f n w a xs := fun i hi => by
  have hl : xs.length * n = m * n := by rw [← rowC_len hf]; exact h.1
  rcases h.2 with ⟨h', h0⟩ | ⟨g, cap, cur, h', _, hg, _, _, _, htake⟩
  · simp only [Value.slice.injEq] at h'
    obtain ⟨rfl, hm, rfl⟩ := h'
    subst hm
    simp only [Nat.zero_mul] at hl
    rcases Nat.mul_eq_zero.1 hl with h1 | h1 <;> omega
  · simp only [Value.slice.injEq] at h'
    obtain ⟨rfl, _, rfl⟩ := h'
    refine ⟨g, 0, rfl, fun j v hj => ?_⟩
    have hjn : j < n := by
      have := (List.getElem?_eq_some_iff.1 hj).1
      rwa [hf] at this
    have hlt : i * n + j < m * n := by
      rw [← hl]
      calc i * n + j < i * n + n := by omega
        _ = (i + 1) * n := (Nat.succ_mul i n).symm
        _ ≤ xs.length * n := Nat.mul_le_mul_right n hi
    rw [Nat.add_assoc, cell_of_row w g (0 + (i * n + j)) cur e (0, 0) hg]
    have h1 : (cur.toList.take (m * n))[i * n + j]? = some v := by rw [htake, rowC_get hf xs i hi j hjn]; exact hj
    rw [List.getElem?_take, if_pos hlt] at h1
    simpa using h1
end

/-- A span as cells. -/
def spC (s : Int × Int) : List Value := [.int .i64 s.1, .int .i64 s.2]
theorem spC_len (s : Int × Int) : (spC s).length = 2 := rfl

end Go.Proofs.YthddoikmgpgakaaDoor
