/- The program's 'Judge'. -/
import Derived.Test.YtbkellknlcageaaDoorFloorOb
namespace Go.Proofs.YtbkellknlcageaaDoor.Sw
open Go.RowKit Go Go.Shelf Go.Proofs
theorem rises_of_ok {f : Flo} (h : floOk f = true) : rises 0 f.ids = true := by
  simp only [floOk, Bool.and_eq_true] at h
  exact h.1.1.1.2
set_option maxRecDepth 20000 in
set_option maxHeartbeats 4000000 in
theorem judge_con (f : Flo) (l : List Pay) (hS : Sml f) (hl : l.length ≤ 1000) : Con Tryd.prog 11 [.agg (flC f), .sl 3 payC l] [tab8] (Is (jAV (judgeR f l)) [tab8]) := by
  have hidl := hS.ids
  have hqsl := hS.qs
  cases hok : floOk f with
  | false =>
    have hW : judgeR f l = ([], 0, 80) := by unfold judgeR; rw [if_neg (by rw [hok]; simp)]
    rw [hW]
    have C := openedNo_con f hS hok
    refine con_of Tryd.func11 rfl (enters_of Tryd.func11 (by kernel_rfl) rfl) rfl ?_; intro n w0 F0 G0
    (refine W_seq ?_; refine W_region ?_; (apply wl_boxv; exact rfl; exact inferInstance; exact rfl; intro p hp); (apply wl_assign; exact rfl; exact rfl); (apply wl_assign; exact rfl; exact rfl); (apply wl_assign; exact rfl; exact rfl); refine WL_nil ?_; refine th_norm ?_; refine W_seq ?_; refine W_region ?_; (apply wl_loadN; (first | exact .inl rfl | exact .inr ⟨rfl, rfl⟩); (repeat (first | exact At.here | apply At.there)); exact rfl; exact rfl))
    (first | (apply wl_call (C); exact rfl; exact rfl) | (apply wl_callR (C); exact rfl; (repeat (first | exact At.here | apply At.there)); exact rfl))
    ((apply wl_move; exact rfl; exact rfl); (apply wl_extract; exact rfl; exact rfl; exact rfl); (apply wl_extract; exact rfl; exact rfl; exact rfl); (apply wl_assign; exact rfl; exact rfl); (apply wl_assign; exact rfl; exact rfl); refine WL_nil ?_; refine th_norm ?_; refine W_seq ?_; refine W_block ?_; refine W_seq ?_; refine W_region ?_; (apply wl_move; exact rfl; exact rfl); (apply wl_neq; exact rfl; exact rfl; exact rfl); (apply wl_assign; exact rfl; exact rfl); refine WL_nil ?_; refine th_norm ?_; (apply w_true; exact rfl); refine W_seq ?_; refine W_region ?_; (apply wl_move; exact rfl; exact rfl); (apply wl_assign; exact rfl; exact rfl); (apply wl_assign; exact rfl; exact rfl); (apply wl_assign; exact rfl; exact rfl); refine WL_nil ?_; refine th_norm ?_; refine W_ret ?_; refine bl_ret ?_; refine th_ret ?_; refine rt_norm ?_)
    refine Res_nil 4 1 iC rfl ?_
    (apply resK3; exact rfl; exact rfl; exact rfl; exact rfl; exact ⟨rfl, rfl⟩; (repeat (first | exact Cut.nil | (apply Cut.cons; (repeat (first | exact Rm.here | apply Rm.there))))))
  | true =>
    have hF := flo_f hok
    have hr := rises_of_ok hok
    have hidl6 := hF.ids
    have C := opened_con f hS hok
    refine con_of Tryd.func11 rfl (enters_of Tryd.func11 (by kernel_rfl) rfl) rfl ?_; intro n w0 F0 G0
    (refine W_seq ?_; refine W_region ?_; (apply wl_boxv; exact rfl; exact inferInstance; exact rfl; intro p hp); (apply wl_assign; exact rfl; exact rfl); (apply wl_assign; exact rfl; exact rfl); (apply wl_assign; exact rfl; exact rfl); refine WL_nil ?_; refine th_norm ?_; refine W_seq ?_; refine W_region ?_; (apply wl_loadN; (first | exact .inl rfl | exact .inr ⟨rfl, rfl⟩); (repeat (first | exact At.here | apply At.there)); exact rfl; exact rfl))
    (apply wl_callP (C); exact rfl; (repeat (first | exact Cut.nil | (apply Cut.cons; (repeat (first | exact Rm.here | apply Rm.there))))); exact rfl)
    rintro _ _ ⟨ph, ow, rfl, rfl⟩
    ((apply wl_move; exact rfl; exact rfl); (apply wl_extract; exact rfl; exact rfl; exact rfl); (apply wl_extract; exact rfl; exact rfl; exact rfl); (apply wl_assign; exact rfl; exact rfl); (apply wl_assign; exact rfl; exact rfl); refine WL_nil ?_; refine th_norm ?_; refine W_seq ?_; refine W_block ?_; refine W_seq ?_; refine W_region ?_; (apply wl_move; exact rfl; exact rfl); (apply wl_neq; exact rfl; exact rfl; exact rfl); (apply wl_assign; exact rfl; exact rfl); refine WL_nil ?_; refine th_norm ?_; (apply w_false; exact rfl); refine W_seq ?_; refine W_region ?_; (apply wl_move; exact rfl; exact rfl); (apply wl_lenSl; exact rfl; exact rfl); (apply wl_gtr; exact rfl; exact rfl; exact rfl); (apply wl_assign; exact rfl; exact rfl); refine WL_nil ?_; refine th_norm ?_)
    refine w_cond rfl (fun g2 => ?_) (fun g2 => ?_)
    · have hW : judgeR f l = ([], 0, 9) := by unfold judgeR; rw [if_pos hok, if_neg (by simp at g2; omega)]
      rw [hW]
      (refine W_seq ?_; refine W_region ?_; (apply wl_assign; exact rfl; exact rfl); (apply wl_assign; exact rfl; exact rfl); (apply wl_assign; exact rfl; exact rfl); refine WL_nil ?_; refine th_norm ?_; refine W_ret ?_; refine bl_ret ?_; refine th_ret ?_; refine rt_norm ?_)
      refine Res_nil 4 1 iC rfl ?_
      (apply resK3; exact rfl; exact rfl; exact rfl; exact rfl; exact ⟨rfl, rfl⟩; (repeat (first | exact Cut.nil | (apply Cut.cons; (repeat (first | exact Rm.here | apply Rm.there))))))
    · have hl12 : l.length ≤ 12 := by simp at g2; omega
      have hW : judgeR f l = judgeGo f.ids f.qs 0 l (owed8 f) := by unfold judgeR; rw [if_pos hok, if_pos hl12]
      rw [hW]
      (refine W_skip ?_; refine bl_norm ?_; refine th_norm ?_; refine W_seq ?_; refine W_seq ?_; refine W_region ?_; (apply wl_move; exact rfl; exact rfl); (apply wl_lenSl; exact rfl; exact rfl); (apply wl_move; exact rfl; exact rfl); refine WL_nil ?_; refine th_norm ?_; refine W_block ?_)
      refine W_loopJ (fun (b : Nat × List Int) => ⟨[(2, .val p), (7, .val ph), (23, .sl 3 payC l), (24, .val (.int .i64 l.length)), (25, .val (.int .i64 b.1))], [.row ow 3 1 iC b.2, hsB ph f ow, .box p (flC f) 27, tab8]⟩)
        (fun b => b.1 ≤ l.length ∧ b.2.length = f.ids.length ∧ judgeGo f.ids f.qs b.1 (l.drop b.1) b.2 = judgeGo f.ids f.qs 0 l (owed8 f) ∧ Btw (-(200000000 + 2000000 * b.1)) (200000000 + 2000000 * b.1) b.2) (fun b => l.length - b.1) (0, owed8 f) (fun _ _ st => st_sub2 st (by (repeat (first | exact trivial | refine ⟨rfl, ?_⟩))) (by (repeat (first | exact SubP.nil | (apply SubP.cons; (repeat (first | exact Rm.here | apply Rm.there))))))) ⟨Nat.zero_le _, owed8_len f, rfl, (owed8_btw hF hS).mono (by dsimp only; omega) (by dsimp only; omega)⟩ ?_
      rintro ⟨k, cu⟩ ⟨hk, hcl, hno, hbt⟩
      dsimp only at hk hcl hno hbt ⊢
      (refine W_seq ?_; refine W_region ?_; (apply wl_lss; exact rfl; exact rfl; exact rfl); refine WL_nil ?_; refine th_norm ?_; refine W_seq ?_)
      refine w_cond rfl (fun hlt => ?_) (fun hlt => ?_)
      · have hlt' : k < l.length := by simpa using hlt
        have M := made_con f l[k] (by omega)
        rw [drop_step hlt', judgeGo] at hno
        (refine W_skip ?_; refine th_norm ?_; refine W_seq ?_; refine W_block ?_; refine W_seq ?_; refine W_region ?_; (apply wl_move; exact rfl; exact rfl); (apply wl_indexSl; exact rfl; exact rfl; exact rfl; (first | assumption | omega | (simp; omega)); exact rfl); (apply wl_loadEN; exact rfl; (case hk => first | assumption | omega | exact Nat.one_pos | (simp; omega)); exact rfl; exact rfl); (apply wl_alloc; exact rfl; intro p hp); (apply wl_assign; exact rfl; exact rfl); (apply wl_store; (first | exact .inl rfl | exact .inr ⟨rfl, rfl⟩); (repeat (first | exact At.here | apply At.there)); exact rfl; exact inferInstance; exact inferInstance; exact inferInstance; exact rfl; (first | exact (of_decide_eq_true rfl) | (simp; omega) | decide)); refine WL_nil ?_; refine th_norm ?_; refine W_seq ?_; refine W_seq ?_)
        rename_i pf hpf
        cases hpo : payOk f.ids l[k] with
        | false =>
          rw [hpo] at M
          have hno2 : judgeGo f.ids f.qs 0 l (owed8 f) = ([], (k : Int), 82) := by
            rw [← hno, if_neg (by rw [hpo]; simp)]
          rw [hno2]
          refine W_run 15 [30, 31, 32, 33, 34, 35, 36, 37, 38, 39, 40, 41, 42, 43, 44] [0, 1, 2, 3, 4, 5, 6, 7, 8, 9, 10, 11, 12, 13, 14] Cut.nil rfl (by repeat (first | exact Flt.nil | (apply Flt.keep; exact rfl) | (apply Flt.drop; exact rfl))) mixedS (by kernel_rfl) rfl ?_
          apply Run.pv [] []
          · exact rfl
          · intro vs; apply ltr_pk; (repeat (first | exact Pk.nil | (apply Pk.pv; exact rfl; exact rfl) | (apply Pk.tok; exact rfl; exact rfl)))
            (first | (apply ltr_load1; (first | exact .inl rfl | exact .inr ⟨rfl, rfl⟩); (repeat (first | exact At.here | apply At.there)); exact rfl) | (refine ltr ?_; apply lt_loadE1'; exact rfl; assumption; exact rfl) | (refine ltr ?_; apply lt_loadEN'; exact rfl; assumption; exact rfl) | (apply ltr_loadN; (first | exact .inl rfl | exact .inr ⟨rfl, rfl⟩); (repeat (first | exact At.here | apply At.there)); exact rfl) | (apply ltr_loadR1; exact rfl; (repeat (first | exact At.here | apply At.there)); assumption; exact rfl) | (apply ltr_loadRN; exact rfl; (repeat (first | exact At.here | apply At.there)); assumption))
          · repeat (first | exact App.nil | apply App.cons)
          apply Run.pv [] []
          · exact rfl
          · intro vs; apply ltr_pk; (repeat (first | exact Pk.nil | (apply Pk.pv; exact rfl; exact rfl) | (apply Pk.tok; exact rfl; exact rfl)))
            (first | (apply ltr_load1; (first | exact .inl rfl | exact .inr ⟨rfl, rfl⟩); (repeat (first | exact At.here | apply At.there)); exact rfl) | (refine ltr ?_; apply lt_loadE1'; exact rfl; assumption; exact rfl) | (refine ltr ?_; apply lt_loadEN'; exact rfl; assumption; exact rfl) | (apply ltr_loadN; (first | exact .inl rfl | exact .inr ⟨rfl, rfl⟩); (repeat (first | exact At.here | apply At.there)); exact rfl) | (apply ltr_loadR1; exact rfl; (repeat (first | exact At.here | apply At.there)); assumption; exact rfl) | (apply ltr_loadRN; exact rfl; (repeat (first | exact At.here | apply At.there)); assumption))
          · repeat (first | exact App.nil | apply App.cons)
          apply Run.pv [0, 1] []
          · exact rfl
          · intro vs; apply ltr_pk; (repeat (first | exact Pk.nil | (apply Pk.pv; exact rfl; exact rfl) | (apply Pk.tok; exact rfl; exact rfl)))
            (refine ltr ?_; refine lt_call ?_ (M); exact rfl)
          · repeat (first | exact App.nil | apply App.cons)
          apply Run.pv [2] []
          · exact rfl
          · intro vs; apply ltr_pk; (repeat (first | exact Pk.nil | (apply Pk.pv; exact rfl; exact rfl) | (apply Pk.tok; exact rfl; exact rfl)))
            (first | (refine ltr ?_; apply lt_not; exact rfl) | (refine ltr ?_; apply lt_neg; exact rfl; omega; omega))
          · repeat (first | exact App.nil | apply App.cons)
          apply Run.pv [3] []
          · exact rfl
          · intro vs; apply ltr_pk; (repeat (first | exact Pk.nil | (apply Pk.pv; exact rfl; exact rfl) | (apply Pk.tok; exact rfl; exact rfl)))
            (first | (refine ltr ?_; apply lt_move; exact rfl))
          · repeat (first | exact App.nil | apply App.cons)
          apply Run.no [4] []
          · exact rfl
          · exact rfl
          · intro vs; apply look_pk; (repeat (first | exact Pk.nil | (apply Pk.pv; exact rfl; exact rfl) | (apply Pk.tok; exact rfl; exact rfl))); exact rfl
          · exact rfl
          · repeat (first | exact App.nil | apply App.cons)
          apply Run.no [4] []
          · exact rfl
          · exact rfl
          · intro vs; apply look_pk; (repeat (first | exact Pk.nil | (apply Pk.pv; exact rfl; exact rfl) | (apply Pk.tok; exact rfl; exact rfl))); exact rfl
          · exact rfl
          · repeat (first | exact App.nil | apply App.cons)
          apply Run.no [4] []
          · exact rfl
          · exact rfl
          · intro vs; apply look_pk; (repeat (first | exact Pk.nil | (apply Pk.pv; exact rfl; exact rfl) | (apply Pk.tok; exact rfl; exact rfl))); exact rfl
          · exact rfl
          · repeat (first | exact App.nil | apply App.cons)
          apply Run.no [4, 7] []
          · exact rfl
          · exact rfl
          · intro vs; apply look_pk; (repeat (first | exact Pk.nil | (apply Pk.pv; exact rfl; exact rfl) | (apply Pk.tok; exact rfl; exact rfl))); exact rfl
          · exact rfl
          · repeat (first | exact App.nil | apply App.cons)
          apply Run.no [4, 6, 8] []
          · exact rfl
          · exact rfl
          · intro vs; apply look_pk; (repeat (first | exact Pk.nil | (apply Pk.pv; exact rfl; exact rfl) | (apply Pk.tok; exact rfl; exact rfl))); exact rfl
          · exact rfl
          · repeat (first | exact App.nil | apply App.cons)
          apply Run.no [4] []
          · exact rfl
          · exact rfl
          · intro vs; apply look_pk; (repeat (first | exact Pk.nil | (apply Pk.pv; exact rfl; exact rfl) | (apply Pk.tok; exact rfl; exact rfl))); exact rfl
          · exact rfl
          · repeat (first | exact App.nil | apply App.cons)
          apply Run.no [4] []
          · exact rfl
          · exact rfl
          · intro vs; apply look_pk; (repeat (first | exact Pk.nil | (apply Pk.pv; exact rfl; exact rfl) | (apply Pk.tok; exact rfl; exact rfl))); exact rfl
          · exact rfl
          · repeat (first | exact App.nil | apply App.cons)
          apply Run.no [4, 11] []
          · exact rfl
          · exact rfl
          · intro vs; apply look_pk; (repeat (first | exact Pk.nil | (apply Pk.pv; exact rfl; exact rfl) | (apply Pk.tok; exact rfl; exact rfl))); exact rfl
          · exact rfl
          · repeat (first | exact App.nil | apply App.cons)
          apply Run.no [4, 10, 12] []
          · exact rfl
          · exact rfl
          · intro vs; apply look_pk; (repeat (first | exact Pk.nil | (apply Pk.pv; exact rfl; exact rfl) | (apply Pk.tok; exact rfl; exact rfl))); exact rfl
          · exact rfl
          · repeat (first | exact App.nil | apply App.cons)
          apply Run.no [4, 9, 13] []
          · exact rfl
          · exact rfl
          · intro vs; apply look_pk; (repeat (first | exact Pk.nil | (apply Pk.pv; exact rfl; exact rfl) | (apply Pk.tok; exact rfl; exact rfl))); exact rfl
          · exact rfl
          · repeat (first | exact App.nil | apply App.cons)
          refine ⟨⟨by kernel_rfl, by kernel_rfl⟩, fun vs => ?_⟩
          apply WL_auto [4, 5, 14]
          · repeat (first | exact Pk.nil | (apply Pk.pv; exact rfl; exact rfl) | (apply Pk.tok; exact rfl; exact rfl))
          · repeat (first | exact Nrm.nil | apply Nrm.cons)
          · kernel_rfl
          · kernel_rfl
          ((apply wl_no; exact rfl; exact rfl; exact rfl; exact rfl; exact rfl); (apply wl_no; exact rfl; exact rfl; exact rfl; exact rfl; exact rfl); (apply wl_pick_t; exact rfl; exact rfl; exact rfl); refine WL_nil ?_; refine th_norm ?_; (apply w_true; exact rfl); refine W_seq ?_; refine W_region ?_; (apply wl_move; exact rfl; exact rfl); (apply wl_assign; exact rfl; exact rfl); (apply wl_assign; exact rfl; exact rfl); (apply wl_assign; exact rfl; exact rfl); refine WL_nil ?_; refine th_norm ?_; refine W_ret ?_; refine th_ret ?_; refine bl_ret ?_; refine th_ret ?_; refine th_ret ?_; refine bl_ret ?_; refine th_ret ?_; refine rt_norm ?_)
          refine Res_nil 4 1 iC rfl ?_
          (apply resK3; exact rfl; exact rfl; exact rfl; exact rfl; exact ⟨rfl, rfl⟩; (repeat (first | exact Cut.nil | (apply Cut.cons; (repeat (first | exact Rm.here | apply Rm.there))))))
        | true =>
          rw [hpo] at M
          have hP := pay_f hpo
          have hi1 : f.ids.idxOf l[k].a < f.ids.length := List.idxOf_lt_length_of_mem hP.1
          have hi2 : f.ids.idxOf l[k].b < f.ids.length := List.idxOf_lt_length_of_mem hP.2.1
          have S := speak_con ph ow f _ _ hi1 hi2 hr (by omega) (by omega)
          rw [List.getElem_idxOf, List.getElem_idxOf] at S
          refine W_run 15 [30, 31, 32, 33, 34, 35, 36, 37, 38, 39, 40, 41, 42, 43, 44] [0, 1, 2, 3, 4, 5, 6, 7, 8, 9, 10, 11, 12, 13, 14] Cut.nil rfl (by repeat (first | exact Flt.nil | (apply Flt.keep; exact rfl) | (apply Flt.drop; exact rfl))) mixedS (by kernel_rfl) rfl ?_
          apply Run.pv [] []
          · exact rfl
          · intro vs; apply ltr_pk; (repeat (first | exact Pk.nil | (apply Pk.pv; exact rfl; exact rfl) | (apply Pk.tok; exact rfl; exact rfl)))
            (first | (apply ltr_load1; (first | exact .inl rfl | exact .inr ⟨rfl, rfl⟩); (repeat (first | exact At.here | apply At.there)); exact rfl) | (refine ltr ?_; apply lt_loadE1'; exact rfl; assumption; exact rfl) | (refine ltr ?_; apply lt_loadEN'; exact rfl; assumption; exact rfl) | (apply ltr_loadN; (first | exact .inl rfl | exact .inr ⟨rfl, rfl⟩); (repeat (first | exact At.here | apply At.there)); exact rfl) | (apply ltr_loadR1; exact rfl; (repeat (first | exact At.here | apply At.there)); assumption; exact rfl) | (apply ltr_loadRN; exact rfl; (repeat (first | exact At.here | apply At.there)); assumption))
          · repeat (first | exact App.nil | apply App.cons)
          apply Run.pv [] []
          · exact rfl
          · intro vs; apply ltr_pk; (repeat (first | exact Pk.nil | (apply Pk.pv; exact rfl; exact rfl) | (apply Pk.tok; exact rfl; exact rfl)))
            (first | (apply ltr_load1; (first | exact .inl rfl | exact .inr ⟨rfl, rfl⟩); (repeat (first | exact At.here | apply At.there)); exact rfl) | (refine ltr ?_; apply lt_loadE1'; exact rfl; assumption; exact rfl) | (refine ltr ?_; apply lt_loadEN'; exact rfl; assumption; exact rfl) | (apply ltr_loadN; (first | exact .inl rfl | exact .inr ⟨rfl, rfl⟩); (repeat (first | exact At.here | apply At.there)); exact rfl) | (apply ltr_loadR1; exact rfl; (repeat (first | exact At.here | apply At.there)); assumption; exact rfl) | (apply ltr_loadRN; exact rfl; (repeat (first | exact At.here | apply At.there)); assumption))
          · repeat (first | exact App.nil | apply App.cons)
          apply Run.pv [0, 1] []
          · exact rfl
          · intro vs; apply ltr_pk; (repeat (first | exact Pk.nil | (apply Pk.pv; exact rfl; exact rfl) | (apply Pk.tok; exact rfl; exact rfl)))
            (refine ltr ?_; refine lt_call ?_ (M); exact rfl)
          · repeat (first | exact App.nil | apply App.cons)
          apply Run.pv [2] []
          · exact rfl
          · intro vs; apply ltr_pk; (repeat (first | exact Pk.nil | (apply Pk.pv; exact rfl; exact rfl) | (apply Pk.tok; exact rfl; exact rfl)))
            (first | (refine ltr ?_; apply lt_not; exact rfl) | (refine ltr ?_; apply lt_neg; exact rfl; omega; omega))
          · repeat (first | exact App.nil | apply App.cons)
          apply Run.pv [3] []
          · exact rfl
          · intro vs; apply ltr_pk; (repeat (first | exact Pk.nil | (apply Pk.pv; exact rfl; exact rfl) | (apply Pk.tok; exact rfl; exact rfl)))
            (first | (refine ltr ?_; apply lt_move; exact rfl))
          · repeat (first | exact App.nil | apply App.cons)
          apply Run.yes [4] []
          · exact rfl
          · exact rfl
          · intro vs; apply look_pk; (repeat (first | exact Pk.nil | (apply Pk.pv; exact rfl; exact rfl) | (apply Pk.tok; exact rfl; exact rfl))); exact rfl
          · intro vs; apply ltr_pk; (repeat (first | exact Pk.nil | (apply Pk.pv; exact rfl; exact rfl) | (apply Pk.tok; exact rfl; exact rfl)))
            (first | (refine ltr ?_; apply lt_move; exact rfl))
          · repeat (first | exact App.nil | apply App.cons)
          apply Run.yes [4] []
          · exact rfl
          · exact rfl
          · intro vs; apply look_pk; (repeat (first | exact Pk.nil | (apply Pk.pv; exact rfl; exact rfl) | (apply Pk.tok; exact rfl; exact rfl))); exact rfl
          · intro vs; apply ltr_pk; (repeat (first | exact Pk.nil | (apply Pk.pv; exact rfl; exact rfl) | (apply Pk.tok; exact rfl; exact rfl)))
            (first | (refine ltr ?_; apply lt_move; exact rfl))
          · repeat (first | exact App.nil | apply App.cons)
          apply Run.yes [4] []
          · exact rfl
          · exact rfl
          · intro vs; apply look_pk; (repeat (first | exact Pk.nil | (apply Pk.pv; exact rfl; exact rfl) | (apply Pk.tok; exact rfl; exact rfl))); exact rfl
          · intro vs; apply ltr_pk; (repeat (first | exact Pk.nil | (apply Pk.pv; exact rfl; exact rfl) | (apply Pk.tok; exact rfl; exact rfl)))
            (first | (refine ltr ?_; apply lt_fieldAt; exact rfl; exact rfl) | (apply ltr_field; exact rfl; (repeat (first | exact At.here | apply At.there))) | (refine ltr ?_; apply lt_fieldEl; exact rfl; exact rfl) | (refine ltr ?_; apply lt_fieldRat; exact rfl; exact rfl))
          · repeat (first | exact App.nil | apply App.cons)
          apply Run.yes [4, 7] []
          · exact rfl
          · exact rfl
          · intro vs; apply look_pk; (repeat (first | exact Pk.nil | (apply Pk.pv; exact rfl; exact rfl) | (apply Pk.tok; exact rfl; exact rfl))); exact rfl
          · intro vs; apply ltr_pk; (repeat (first | exact Pk.nil | (apply Pk.pv; exact rfl; exact rfl) | (apply Pk.tok; exact rfl; exact rfl)))
            (first | (apply ltr_load1; (first | exact .inl rfl | exact .inr ⟨rfl, rfl⟩); (repeat (first | exact At.here | apply At.there)); exact rfl) | (refine ltr ?_; apply lt_loadE1'; exact rfl; assumption; exact rfl) | (refine ltr ?_; apply lt_loadEN'; exact rfl; assumption; exact rfl) | (apply ltr_loadN; (first | exact .inl rfl | exact .inr ⟨rfl, rfl⟩); (repeat (first | exact At.here | apply At.there)); exact rfl) | (apply ltr_loadR1; exact rfl; (repeat (first | exact At.here | apply At.there)); assumption; exact rfl) | (apply ltr_loadRN; exact rfl; (repeat (first | exact At.here | apply At.there)); assumption))
          · repeat (first | exact App.nil | apply App.cons)
          apply Run.yes [4, 6, 8] []
          · exact rfl
          · exact rfl
          · intro vs; apply look_pk; (repeat (first | exact Pk.nil | (apply Pk.pv; exact rfl; exact rfl) | (apply Pk.tok; exact rfl; exact rfl))); exact rfl
          · intro vs; apply ltr_pk; (repeat (first | exact Pk.nil | (apply Pk.pv; exact rfl; exact rfl) | (apply Pk.tok; exact rfl; exact rfl)))
            (apply ltr_callR ((indexAt_con ph ow f _ (by omega) hP.1)); exact rfl; (repeat (first | exact At.here | apply At.there)))
          · repeat (first | exact App.nil | apply App.cons)
          apply Run.yes [4] []
          · exact rfl
          · exact rfl
          · intro vs; apply look_pk; (repeat (first | exact Pk.nil | (apply Pk.pv; exact rfl; exact rfl) | (apply Pk.tok; exact rfl; exact rfl))); exact rfl
          · intro vs; apply ltr_pk; (repeat (first | exact Pk.nil | (apply Pk.pv; exact rfl; exact rfl) | (apply Pk.tok; exact rfl; exact rfl)))
            (first | (refine ltr ?_; apply lt_move; exact rfl))
          · repeat (first | exact App.nil | apply App.cons)
          apply Run.yes [4] []
          · exact rfl
          · exact rfl
          · intro vs; apply look_pk; (repeat (first | exact Pk.nil | (apply Pk.pv; exact rfl; exact rfl) | (apply Pk.tok; exact rfl; exact rfl))); exact rfl
          · intro vs; apply ltr_pk; (repeat (first | exact Pk.nil | (apply Pk.pv; exact rfl; exact rfl) | (apply Pk.tok; exact rfl; exact rfl)))
            (first | (refine ltr ?_; apply lt_fieldAt; exact rfl; exact rfl) | (apply ltr_field; exact rfl; (repeat (first | exact At.here | apply At.there))) | (refine ltr ?_; apply lt_fieldEl; exact rfl; exact rfl) | (refine ltr ?_; apply lt_fieldRat; exact rfl; exact rfl))
          · repeat (first | exact App.nil | apply App.cons)
          apply Run.yes [4, 11] []
          · exact rfl
          · exact rfl
          · intro vs; apply look_pk; (repeat (first | exact Pk.nil | (apply Pk.pv; exact rfl; exact rfl) | (apply Pk.tok; exact rfl; exact rfl))); exact rfl
          · intro vs; apply ltr_pk; (repeat (first | exact Pk.nil | (apply Pk.pv; exact rfl; exact rfl) | (apply Pk.tok; exact rfl; exact rfl)))
            (first | (apply ltr_load1; (first | exact .inl rfl | exact .inr ⟨rfl, rfl⟩); (repeat (first | exact At.here | apply At.there)); exact rfl) | (refine ltr ?_; apply lt_loadE1'; exact rfl; assumption; exact rfl) | (refine ltr ?_; apply lt_loadEN'; exact rfl; assumption; exact rfl) | (apply ltr_loadN; (first | exact .inl rfl | exact .inr ⟨rfl, rfl⟩); (repeat (first | exact At.here | apply At.there)); exact rfl) | (apply ltr_loadR1; exact rfl; (repeat (first | exact At.here | apply At.there)); assumption; exact rfl) | (apply ltr_loadRN; exact rfl; (repeat (first | exact At.here | apply At.there)); assumption))
          · repeat (first | exact App.nil | apply App.cons)
          apply Run.yes [4, 10, 12] []
          · exact rfl
          · exact rfl
          · intro vs; apply look_pk; (repeat (first | exact Pk.nil | (apply Pk.pv; exact rfl; exact rfl) | (apply Pk.tok; exact rfl; exact rfl))); exact rfl
          · intro vs; apply ltr_pk; (repeat (first | exact Pk.nil | (apply Pk.pv; exact rfl; exact rfl) | (apply Pk.tok; exact rfl; exact rfl)))
            (apply ltr_callR ((indexAt_con ph ow f _ (by omega) hP.2.1)); exact rfl; (repeat (first | exact At.here | apply At.there)))
          · repeat (first | exact App.nil | apply App.cons)
          apply Run.yes [4, 9, 13] []
          · exact rfl
          · exact rfl
          · intro vs; apply look_pk; (repeat (first | exact Pk.nil | (apply Pk.pv; exact rfl; exact rfl) | (apply Pk.tok; exact rfl; exact rfl))); exact rfl
          · intro vs; apply ltr_pk; (repeat (first | exact Pk.nil | (apply Pk.pv; exact rfl; exact rfl) | (apply Pk.tok; exact rfl; exact rfl)))
            (first | (refine ltr ?_; apply lt_build; (repeat (first | exact Parts.nil | (apply Parts.cons; exact rfl; exact rfl; exact inferInstance; exact rfl; exact (of_decide_eq_true rfl))))))
          · repeat (first | exact App.nil | apply App.cons)
          refine ⟨⟨by kernel_rfl, by kernel_rfl⟩, fun vs => ?_⟩
          apply WL_auto [4, 5, 14]
          · repeat (first | exact Pk.nil | (apply Pk.pv; exact rfl; exact rfl) | (apply Pk.tok; exact rfl; exact rfl))
          · repeat (first | exact Nrm.nil | apply Nrm.cons)
          · kernel_rfl
          · kernel_rfl
          ((apply wl_yes; exact rfl; exact rfl; exact rfl))
          (first | (apply wl_call (S); exact rfl; exact rfl) | (apply wl_callR (S); exact rfl; (repeat (first | exact At.here | apply At.there)); exact rfl))
          ((apply wl_yes; exact rfl; exact rfl; exact rfl); (apply wl_not; exact rfl; exact rfl); (apply wl_pick_f; exact rfl; exact rfl; exact rfl); refine WL_nil ?_; refine th_norm ?_)
          refine w_cond rfl (fun g4 => ?_) (fun g4 => ?_)
          · have hno2 : judgeGo f.ids f.qs 0 l (owed8 f) = ([], (k : Int), 82) := by
              rw [← hno, if_neg (by simp only [Bool.not_eq_true'] at g4; simp [g4])]
            rw [hno2]
            (refine W_seq ?_; refine W_region ?_; (apply wl_move; exact rfl; exact rfl); (apply wl_assign; exact rfl; exact rfl); (apply wl_assign; exact rfl; exact rfl); (apply wl_assign; exact rfl; exact rfl); refine WL_nil ?_; refine th_norm ?_; refine W_ret ?_; refine th_ret ?_; refine bl_ret ?_; refine th_ret ?_; refine th_ret ?_; refine bl_ret ?_; refine th_ret ?_; refine rt_norm ?_)
            refine Res_nil 4 1 iC rfl ?_
            (apply resK3; exact rfl; exact rfl; exact rfl; exact rfl; exact ⟨rfl, rfl⟩; (repeat (first | exact Cut.nil | (apply Cut.cons; (repeat (first | exact Rm.here | apply Rm.there))))))
          · rw [if_pos (by rw [hpo]; simpa using g4)] at hno
            (refine W_skip ?_; refine th_norm ?_; refine W_region ?_; (apply wl_move; exact rfl; exact rfl); (apply wl_loadN; (first | exact .inl rfl | exact .inr ⟨rfl, rfl⟩); (repeat (first | exact At.here | apply At.there)); exact rfl; exact rfl))
            (apply wl_callP (paid_con ph ow f l[k] cu (by omega) hP hcl hbt (by omega) (by omega)); exact rfl; (repeat (first | exact Cut.nil | (apply Cut.cons; (repeat (first | exact Rm.here | apply Rm.there))))); exact rfl)
            rintro _ _ ⟨rfl, rfl⟩
            (refine WL_nil ?_; refine bl_norm ?_; refine th_norm ?_; refine W_region ?_; (apply wl_add; exact rfl; exact rfl; omega; omega; exact rfl); (apply wl_move; exact rfl; exact rfl); refine WL_nil ?_; refine th_norm ?_)
            (refine ⟨(k + 1, payStep f.ids l[k] cu), fun _ _ st => st_sub2 st ?_ ?_, ?_, ?_⟩; (repeat (first | exact trivial | refine ⟨rfl, ?_⟩)); (repeat (first | exact SubP.nil | (apply SubP.cons; (repeat (first | exact Rm.here | apply Rm.there))))))
            · exact ⟨hlt', by dsimp only; unfold payStep; rw [addAt_len, addAt_len]; exact hcl, hno, (payStep_btw (by omega) hP.2.2.2.1 hP.2.2.2.2 hbt).mono (by dsimp only; omega) (by dsimp only; omega)⟩
            · dsimp only; omega
      · have hkk : k = l.length := by simp at hlt; omega
        subst hkk
        rw [List.drop_length, judgeGo] at hno
        rw [← hno]
        (refine W_exit ?_; refine th_exit ?_; refine th_exit ?_; refine bl_eq ?_; refine th_norm ?_; refine W_seq ?_; refine W_region ?_; (apply wl_move; exact rfl; exact rfl); (apply wl_nilCheck; exact rfl; (repeat (first | exact At.here | apply At.there)); exact rfl); (apply wl_field; exact rfl; (repeat (first | exact At.here | apply At.there)); exact rfl); (apply wl_load1; (first | exact .inl rfl | exact .inr ⟨rfl, rfl⟩); (repeat (first | exact At.here | apply At.there)); exact rfl; exact rfl); (apply wl_assign; exact rfl; exact rfl); (apply wl_assign; exact rfl; exact rfl); (apply wl_assign; exact rfl; exact rfl); refine WL_nil ?_; refine th_norm ?_; refine W_ret ?_; refine rt_norm ?_)
        (apply Res_frz 4; exact rfl; (repeat (first | exact Rm.here | apply Rm.there)))
        (apply resK3; exact rfl; exact rfl; exact rfl; exact rfl; exact ⟨rfl, rfl⟩; (repeat (first | exact Cut.nil | (apply Cut.cons; (repeat (first | exact Rm.here | apply Rm.there))))))
end Go.Proofs.YtbkellknlcageaaDoor.Sw
