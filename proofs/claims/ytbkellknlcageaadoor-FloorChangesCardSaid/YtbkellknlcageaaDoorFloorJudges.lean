/- The law FloorJudges: walked. -/
import Derived.Test.YtbkellknlcageaaDoorFloorOc
import Derived.Test.YtbkellknlcageaaDoorFloorU
import Derived.Test.YtbkellknlcageaaDoorFloorT
namespace Go.Proofs.YtbkellknlcageaaDoor.Sw
open Go.RowKit Go Go.Shelf Go.Proofs
theorem judgeGo_len (ids : List Int) (qs : List Qu) : ∀ (l : List Pay) (k : Int) (cu : List Int), (judgeGo ids qs k l cu).1.length ≤ cu.length
  | [], k, cu => Nat.le_refl _
  | x :: t, k, cu => by
    rw [judgeGo]
    split
    · have := judgeGo_len ids qs t (k + 1) (payStep ids x cu)
      unfold payStep at this ⊢
      rw [addAt_len, addAt_len] at this
      exact this
    · exact Nat.zero_le _
theorem judgeR_len (f : Flo) (l : List Pay) : (judgeR f l).1.length ≤ f.ids.length := by
  unfold judgeR
  split
  · split
    · have := judgeGo_len f.ids f.qs l 0 (owed8 f)
      rw [owed8_len] at this; exact this
    · exact Nat.zero_le _
  · exact Nat.zero_le _
theorem sml_small {f : Flo} (h : greatF f = false) : Sml f := by
  obtain ⟨h1, h2, h3, h4, h5⟩ := sml_of h
  exact ⟨by omega, by omega, by omega, by omega, fun b hb => by have := h5 b hb; omega⟩
theorem eq_self {α : Type} {x : α} : (x = x) = True := by simp
set_option maxRecDepth 40000 in
theorem floorJudges_con (f : Flo) (l : List Pay) : Con Tryd.prog 3 [.agg (flC f), .sl 3 payC l] [tab8] (Is (.val (.bool true)) []) := by
  refine con_of Tryd.func3 rfl (enters_of Tryd.func3 (by kernel_rfl) rfl) rfl ?_; intro n w0 F0 G0
  (refine W_seq ?_; refine W_region ?_; (apply wl_boxv; exact rfl; exact inferInstance; exact rfl; intro p hp); (apply wl_assign; exact rfl; exact rfl); refine WL_nil ?_; refine th_norm ?_; refine W_seq ?_; refine W_seq ?_; refine W_region ?_; (apply wl_loadN; (first | exact .inl rfl | exact .inr ⟨rfl, rfl⟩); (repeat (first | exact At.here | apply At.there)); exact rfl; exact rfl))
  (first | (apply wl_call (great8_con f); exact rfl; exact rfl) | (apply wl_callR (great8_con f); exact rfl; (repeat (first | exact At.here | apply At.there)); exact rfl))
  ((apply wl_move; exact rfl; exact rfl))
  by_cases hg : greatF f = true
  · refine wl_part rfl rfl (fun h => ?_) (fun h => absurd hg (by rw [h]; simp))
    ((apply wl_no; exact rfl; exact rfl; exact rfl; exact rfl; exact rfl); (apply wl_no; exact rfl; exact rfl; exact rfl; exact rfl; exact rfl); (apply wl_no; exact rfl; exact rfl; exact rfl; exact rfl; exact rfl); (apply wl_pick_t; exact rfl; exact rfl; exact rfl); refine WL_nil ?_; refine th_norm ?_; (apply w_true; exact rfl); refine W_seq ?_; refine W_region ?_; (apply wl_assign; exact rfl; exact rfl); refine WL_nil ?_; refine th_norm ?_; refine W_ret ?_; refine th_ret ?_; refine rt_norm ?_)
    (apply res1; exact rfl; exact rfl; exact ⟨rfl, rfl⟩)
  · refine wl_part rfl rfl (fun h => absurd h hg) (fun h => ?_)
    ((apply wl_yes; exact rfl; exact rfl; exact rfl); (apply wl_move; exact rfl; exact rfl); (apply wl_yes; exact rfl; exact rfl; exact rfl); (apply wl_lenSl; exact rfl; exact rfl); (apply wl_yes; exact rfl; exact rfl; exact rfl); (apply wl_gtr; exact rfl; exact rfl; exact rfl); (apply wl_pick_f; exact rfl; exact rfl; exact rfl); refine WL_nil ?_; refine th_norm ?_)
    refine w_cond rfl (fun h2 => ?_) (fun h2 => ?_)
    · (refine W_seq ?_; refine W_region ?_; (apply wl_assign; exact rfl; exact rfl); refine WL_nil ?_; refine th_norm ?_; refine W_ret ?_; refine th_ret ?_; refine rt_norm ?_)
      (apply res1; exact rfl; exact rfl; exact ⟨rfl, rfl⟩)
    · have hS := sml_small h
      have hl : l.length ≤ 20 := by simp at h2; omega
      have hidl := hS.ids
      have hrl := judgeR_len f l
      (refine W_skip ?_; refine th_norm ?_; refine W_seq ?_; refine W_region ?_; (apply wl_loadN; (first | exact .inl rfl | exact .inr ⟨rfl, rfl⟩); (repeat (first | exact At.here | apply At.there)); exact rfl; exact rfl))
      (first | (apply wl_call (twin8_con f hS); exact rfl; exact rfl) | (apply wl_callR (twin8_con f hS); exact rfl; (repeat (first | exact At.here | apply At.there)); exact rfl))
      skip
      (apply wl_lit payC; exact inferInstance; exact inferInstance; exact inferInstance; (repeat (first | exact Elems.nil | (apply Elems.cons; exact rfl; exact inferInstance; exact rfl))); exact rfl; (first | exact (of_decide_eq_true rfl) | decide | (simp; done) | (simp; omega)); exact rfl)
      intro v0
      ((apply wl_move; exact rfl; exact rfl))
      (first | (apply wl_append; exact rfl; exact rfl; (repeat (first | exact Rm.here | apply Rm.there)); exact inferInstance; exact inferInstance; (first | omega | (simp; omega)); exact rfl) | (apply wl_appendN; exact rfl; exact rfl; exact inferInstance; exact inferInstance; (first | omega | (simp; omega)); exact rfl))
      intro v1
      rw [List.nil_append]
      (apply WL_frz 24; exact rfl; (repeat (first | exact Rm.here | apply Rm.there)))
      ((apply wl_alloc; exact rfl; intro p hp); (apply wl_store; (first | exact .inl rfl | exact .inr ⟨rfl, rfl⟩); (repeat (first | exact At.here | apply At.there)); exact rfl; exact inferInstance; exact inferInstance; exact inferInstance; exact rfl; (first | exact (of_decide_eq_true rfl) | (simp; omega) | decide)); (apply wl_assign; exact rfl; exact rfl); refine WL_nil ?_; refine th_norm ?_; refine W_seq ?_; refine W_region ?_; (apply wl_loadN; (first | exact .inl rfl | exact .inr ⟨rfl, rfl⟩); (repeat (first | exact At.here | apply At.there)); exact rfl; exact rfl); (apply wl_move; exact rfl; exact rfl))
      (apply wl_callP (judge_con f l hS (by omega)); exact rfl; (repeat (first | exact Cut.nil | (apply Cut.cons; (repeat (first | exact Rm.here | apply Rm.there))))); exact rfl)
      rintro _ _ ⟨rfl, rfl⟩
      unfold jAV
      ((apply wl_move; exact rfl; exact rfl); (apply wl_extract; exact rfl; exact rfl; exact rfl); (apply wl_extract; exact rfl; exact rfl; exact rfl); (apply wl_extract; exact rfl; exact rfl; exact rfl); (apply wl_assign; exact rfl; exact rfl); (apply wl_assign; exact rfl; exact rfl); (apply wl_assign; exact rfl; exact rfl); refine WL_nil ?_; refine th_norm ?_; refine W_seq ?_; refine W_region ?_; (apply wl_loadN; (first | exact .inl rfl | exact .inr ⟨rfl, rfl⟩); (repeat (first | exact At.here | apply At.there)); exact rfl; exact rfl); (apply wl_move; exact rfl; exact rfl))
      have J8 := judge8_con f l hS (by omega)
      unfold jAV at J8
      (first | (apply wl_call (J8); exact rfl; exact rfl) | (apply wl_callR (J8); exact rfl; (repeat (first | exact At.here | apply At.there)); exact rfl))
      ((apply wl_move; exact rfl; exact rfl); (apply wl_extract; exact rfl; exact rfl; exact rfl); (apply wl_extract; exact rfl; exact rfl; exact rfl); (apply wl_extract; exact rfl; exact rfl; exact rfl); (apply wl_assign; exact rfl; exact rfl); (apply wl_assign; exact rfl; exact rfl); (apply wl_assign; exact rfl; exact rfl); refine WL_nil ?_; refine th_norm ?_; refine W_seq ?_; refine W_region ?_; (apply wl_move; exact rfl; exact rfl); (apply wl_move; exact rfl; exact rfl))
      (first | (apply wl_call (sameInts8_con (judgeR f l).1 (judgeR f l).1 (by omega) (by omega)); exact rfl; exact rfl) | (apply wl_callR (sameInts8_con (judgeR f l).1 (judgeR f l).1 (by omega) (by omega)); exact rfl; (repeat (first | exact At.here | apply At.there)); exact rfl))
      simp only [eq_self, decide_true]
      ((apply wl_move; exact rfl; exact rfl); (apply wl_yes; exact rfl; exact rfl; exact rfl); (apply wl_move; exact rfl; exact rfl); (apply wl_yes; exact rfl; exact rfl; exact rfl); (apply wl_move; exact rfl; exact rfl); (apply wl_yes; exact rfl; exact rfl; exact rfl); (apply wl_eql; exact rfl; exact rfl; exact rfl); (apply wl_pick_t; exact rfl; exact rfl; exact rfl); (apply wl_move; exact rfl; exact rfl))
      simp only [eq_self, decide_true]
      ((apply wl_yes; exact rfl; exact rfl; exact rfl); (apply wl_move; exact rfl; exact rfl); (apply wl_yes; exact rfl; exact rfl; exact rfl); (apply wl_move; exact rfl; exact rfl); (apply wl_yes; exact rfl; exact rfl; exact rfl); (apply wl_eql; exact rfl; exact rfl; exact rfl); (apply wl_pick_t; exact rfl; exact rfl; exact rfl); (apply wl_move; exact rfl; exact rfl))
      simp only [eq_self, decide_true]
      ((apply wl_yes; exact rfl; exact rfl; exact rfl); (apply wl_loadN; (first | exact .inl rfl | exact .inr ⟨rfl, rfl⟩); (repeat (first | exact At.here | apply At.there)); exact rfl; exact rfl); (apply wl_yes; exact rfl; exact rfl; exact rfl); (apply wl_loadN; (first | exact .inl rfl | exact .inr ⟨rfl, rfl⟩); (repeat (first | exact At.here | apply At.there)); exact rfl; exact rfl); (apply wl_yes; exact rfl; exact rfl; exact rfl))
      (first | (apply wl_call (same8_con f f hS hS); exact rfl; exact rfl) | (apply wl_callR (same8_con f f hS hS); exact rfl; (repeat (first | exact At.here | apply At.there)); exact rfl))
      simp only [eq_self, decide_true]
      ((apply wl_pick_t; exact rfl; exact rfl; exact rfl); (apply wl_move; exact rfl; exact rfl); (apply wl_yes; exact rfl; exact rfl; exact rfl); (apply wl_move; exact rfl; exact rfl); (apply wl_yes; exact rfl; exact rfl; exact rfl); (apply wl_move; exact rfl; exact rfl); (apply wl_yes; exact rfl; exact rfl; exact rfl))
      (first | (apply wl_call (samePays_con l l (by omega) (by omega)); exact rfl; exact rfl) | (apply wl_callR (samePays_con l l (by omega) (by omega)); exact rfl; (repeat (first | exact At.here | apply At.there)); exact rfl))
      simp only [eq_self, decide_true]
      ((apply wl_pick_t; exact rfl; exact rfl; exact rfl); (apply wl_assign; exact rfl; exact rfl); refine WL_nil ?_; refine th_norm ?_; refine W_ret ?_; refine rt_norm ?_)
      (apply res1; exact rfl; exact rfl; exact ⟨rfl, rfl⟩)
end Go.Proofs.YtbkellknlcageaaDoor.Sw
