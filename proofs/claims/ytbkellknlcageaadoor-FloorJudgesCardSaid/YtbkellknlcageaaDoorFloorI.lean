/- Plain: the program's checks tell what the reference's 'Floors' tells. -/
import Derived.Test.YtbkellknlcageaaDoorFloorH
namespace Go.Proofs.YtbkellknlcageaaDoor.Sw
open Go.RowKit Go Go.Shelf Go.Proofs
def ofB (xs all : List Int) : Bool := rises 0 xs && !xs.any fun n => !decide (n ∈ all)
theorem rises_all : ∀ {l : List Int} {last : Int}, rises last l = true → ∀ x ∈ l, last + 1 ≤ x ∧ x ≤ 9999
  | [], _, _, x, hx => by cases hx
  | y :: t, last, h, x, hx => by
    simp only [rises, Bool.and_eq_true, decide_eq_true_eq] at h
    rcases List.mem_cons.1 hx with rfl | hx
    · exact h.1
    · have := rises_all h.2 x hx; omega
theorem ofB_two {ids : List Int} (h : rises 0 ids = true) (a b : Int) : ofB [a, b] ids = (decide (a ∈ ids) && decide (b ∈ ids) && decide (a < b)) := by
  unfold ofB
  by_cases h1 : a ∈ ids
  · by_cases h2 : b ∈ ids
    · have k1 := rises_all h a h1
      have k2 := rises_all h b h2
      by_cases h3 : a < b
      · simp [rises, h1, h2, h3]; omega
      · simp [rises, h1, h2, h3]; omega
    · simp [h2]
  · simp [h1]
end Go.Proofs.YtbkellknlcageaaDoor.Sw
