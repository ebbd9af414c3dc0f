/- The program's check of bills. -/
import Derived.Test.YtbkellknlcageaaDoorFloorJ
namespace Go.Proofs.YtbkellknlcageaaDoor.Sw
open Go.RowKit Go Go.Shelf Go.Proofs
theorem stks_of {ids : List Int} (h : rises 0 ids = true) : ∀ (t : List Stk) (last : Int), stksOk ids last t = (rises last (t.map Stk.fl) && !((t.map Stk.fl).any fun n => !decide (n ∈ ids)) && !(t.any fun s => !(decide (1 ≤ s.pt) && decide (s.pt ≤ 9))))
  | [], _ => rfl
  | s :: t, last => by
    rw [stksOk, stks_of h t, List.map_cons, rises, List.any_cons, List.any_cons]
    by_cases h1 : s.fl ∈ ids
    · have := rises_all h s.fl h1
      have e : decide (last < s.fl) = (decide (last + 1 ≤ s.fl) && decide (s.fl ≤ 9999)) := by
        rw [show decide (s.fl ≤ 9999) = true by simpa using this.2, Bool.and_true]; exact decide_eq_decide.2 (by omega)
      rw [e]
      simp only [h1, decide_true, Bool.not_true, Bool.false_or, Bool.and_true]
      generalize (decide (last + 1 ≤ s.fl) && decide (s.fl ≤ 9999)) = a
      generalize (decide (1 ≤ s.pt) && decide (s.pt ≤ 9)) = b
      cases a <;> cases b <;> simp
    · simp [h1]
def bilA (ids : List Int) (x : Bil) : Bool := decide (x.py ∈ ids) && (decide (1 ≤ x.pe) && decide (x.pe ≤ 1000000)) && decide (x.st ≠ [])
theorem bilOk_of {ids : List Int} (h : rises 0 ids = true) (x : Bil) : bilOk ids x = (bilA ids x && ofB (x.st.map Stk.fl) ids && !(x.st.any fun s => !(decide (1 ≤ s.pt) && decide (s.pt ≤ 9)))) := by
  unfold bilOk bilA ofB
  rw [stks_of h]
  simp only [Bool.and_assoc]
theorem bils_of (ids : List Int) : ∀ (t : List Bil) (last : Int), bilsOk ids last t = (t.all (bilOk ids) && rises last (t.map Bil.no))
  | [], _ => rfl
  | x :: t, last => by
    rw [bilsOk, bils_of ids t, List.all_cons, List.map_cons, rises]
    generalize (decide (last + 1 ≤ x.no) && decide (x.no ≤ 9999)) = a
    generalize bilOk ids x = b
    cases a <;> cases b <;> simp
theorem ofFloors_con {ids : List Int} (hl : ids.length ≤ 1000000) (l : List Stk) (hl2 : l.length ≤ 100000) : Con Tryd.prog 91 [.sl 1 iC (l.map Stk.fl), .sl 1 iC ids] [] (Is (.val (.bool (ofB (l.map Stk.fl) ids))) []) := of_con _ ids (by simp; omega) hl
set_option maxRecDepth 20000 in
set_option maxHeartbeats 4000000 in
theorem check3_con (f : Flo) (hS : Sml f) (hr : rises 0 f.ids = true) : Con Tryd.prog 217 [.agg (flC f)] [] (Is (.val (.bool (bilsOk f.ids 0 f.bs))) []) := by
  have hidsl := hS.ids
  have hbsl := hS.bs
  rw [bils_of]
  refine con_of Tryd.func217 rfl (enters_of Tryd.func217 (by kernel_rfl) rfl) rfl ?_; intro n w0 F0 G0
  (refine W_seq ?_; refine W_region ?_; (apply wl_boxv; exact rfl; exact inferInstance; exact rfl; intro p hp); (apply wl_assign; exact rfl; exact rfl); refine WL_nil ?_; refine th_norm ?_; refine W_seq ?_; refine W_region ?_; (apply wl_assign; exact rfl; exact rfl); refine WL_nil ?_; refine th_norm ?_; refine W_seq ?_; refine W_seq ?_; refine W_region ?_; (apply wl_field; exact rfl; (repeat (first | exact At.here | apply At.there)); exact rfl); (apply wl_load1; (first | exact .inl rfl | exact .inr ⟨rfl, rfl⟩); (repeat (first | exact At.here | apply At.there)); exact rfl; exact rfl); (apply wl_lenSl; exact rfl; exact rfl); (apply wl_move; exact rfl; exact rfl); refine WL_nil ?_; refine th_norm ?_; refine W_block ?_)
  refine W_loopJ (fun (b : Nat × Value) => ⟨[(1, .val p), (3, .val b.2), (7, .sl 4 biC f.bs), (8, .val (.int .i64 f.bs.length)), (9, .val (.int .i64 b.1))], [.row b.2 3 1 iC ((f.bs.map Bil.no).take b.1), .box p (flC f) 27]⟩) (fun b => b.1 ≤ f.bs.length ∧ (f.bs.take b.1).all (bilOk f.ids) = true) (fun b => f.bs.length - b.1) (0, .slice none 0 0) (fun _ _ st => st_sub2 (st_nil 3 1 iC st) (by (repeat (first | exact trivial | refine ⟨rfl, ?_⟩))) (by (repeat (first | exact SubP.nil | (apply SubP.cons; (repeat (first | exact Rm.here | apply Rm.there))))))) ⟨Nat.zero_le _, rfl⟩ ?_
  rintro ⟨k, v⟩ ⟨hk, hal⟩
  dsimp only at hk hal ⊢
  have hll : ((f.bs.map Bil.no).take k).length ≤ 100000 := by rw [List.length_take, List.length_map]; omega
  (refine W_seq ?_; refine W_region ?_; (apply wl_lss; exact rfl; exact rfl; exact rfl); refine WL_nil ?_; refine th_norm ?_; refine W_seq ?_)
  refine w_cond rfl (fun hlt => ?_) (fun hlt => ?_)
  · have hlt' : k < f.bs.length := by simpa using hlt
    have htk : (f.bs.map Bil.no).take (k + 1) = (f.bs.map Bil.no).take k ++ [f.bs[k].no] := by rw [List.take_succ_eq_append_getElem (by simpa using hlt'), List.getElem_map]
    have hbo := bilOk_of hr f.bs[k]
    have hno : bilOk f.ids f.bs[k] = false → (f.bs.all (bilOk f.ids) && rises 0 (f.bs.map Bil.no)) = false := fun h => by
      have : f.bs.all (bilOk f.ids) = false := by
        rw [← Bool.not_eq_true, List.all_eq_true]
        intro ha
        rw [ha _ (List.getElem_mem hlt')] at h; cases h
      rw [this]; rfl
    have hyes : bilOk f.ids f.bs[k] = true → (f.bs.take (k + 1)).all (bilOk f.ids) = true := fun h => by
      rw [List.take_succ_eq_append_getElem hlt', List.all_append, hal]; simpa using h
    have hstl := hS.st _ (List.getElem_mem hlt')
    have hM := ofFloors_con (ids := f.ids) (by omega) f.bs[k].st (by omega)
    have C1 := containsI_con f.ids f.bs[k].py (by omega)
    have C2 := inOne_con 1 1000000 f.bs[k].pe
    have C3 := floorsOf_con f.bs[k].st (by omega)
    (refine W_skip ?_; refine th_norm ?_; refine W_seq ?_; refine W_block ?_; refine W_seq ?_; refine W_region ?_; (apply wl_indexSl; exact rfl; exact rfl; exact rfl; (first | assumption | omega | (simp; omega)); exact rfl); (apply wl_loadEN; exact rfl; (case hk => first | assumption | omega | exact Nat.one_pos | (simp; omega)); exact rfl; exact rfl); (apply wl_alloc; exact rfl; intro p hp); (apply wl_store; (first | exact .inl rfl | exact .inr ⟨rfl, rfl⟩); (repeat (first | exact At.here | apply At.there)); exact rfl; exact inferInstance; exact inferInstance; exact inferInstance; exact rfl; (first | exact (of_decide_eq_true rfl) | (simp; omega) | decide)); refine WL_nil ?_; refine th_norm ?_; refine W_seq ?_; refine W_region ?_; (apply wl_move; exact rfl; exact rfl); (apply wl_field; exact rfl; (repeat (first | exact At.here | apply At.there)); exact rfl); (apply wl_load1; (first | exact .inl rfl | exact .inr ⟨rfl, rfl⟩); (repeat (first | exact At.here | apply At.there)); exact rfl; exact rfl))
    (apply wl_litF iC; exact inferInstance; exact inferInstance; exact inferInstance; (repeat (first | exact Elems.nil | (apply Elems.cons; exact rfl; exact inferInstance; exact rfl))); exact rfl; (first | exact (of_decide_eq_true rfl) | decide | (simp; done) | (simp; omega)); exact rfl)
    (first | (apply wl_append; exact rfl; exact rfl; (repeat (first | exact Rm.here | apply Rm.there)); exact inferInstance; exact inferInstance; (first | omega | (simp; omega)); exact rfl) | (apply wl_appendN; exact rfl; exact rfl; exact inferInstance; exact inferInstance; (first | omega | (simp; omega)); exact rfl))
    intro v'
    rw [← htk]
    ((apply wl_assign; exact rfl; exact rfl); refine WL_nil ?_; refine th_norm ?_; refine W_seq ?_; refine W_seq ?_)
    cases h1 : decide (f.bs[k].py ∈ f.ids) with
    | false =>
      rw [h1] at C1
      have hf := hno (by rw [hbo]; unfold bilA; rw [h1]; rfl)
      rw [hf]
      refine W_run 25 [18, 19, 20, 21, 22, 23, 24, 25, 26, 27, 28, 29, 30, 31, 32, 33, 34, 35, 36, 37, 38, 39, 40, 41, 42] [0, 1, 2, 3, 4, 5, 6, 7, 8, 9, 10, 11, 12, 13, 14, 15, 16, 17, 18, 19, 20, 21, 22, 23, 24] Cut.nil rfl (by repeat (first | exact Flt.nil | (apply Flt.keep; exact rfl) | (apply Flt.drop; exact rfl))) mixedS (by kernel_rfl) rfl ?_
      apply Run.pv [] []
      · exact rfl
      · intro vs; apply ltr_pk; (repeat (first | exact Pk.nil | (apply Pk.pv; exact rfl; exact rfl) | (apply Pk.tok; exact rfl; exact rfl)))
        (first | (refine ltr ?_; apply lt_fieldAt; exact rfl; exact rfl) | (apply ltr_field; exact rfl; (repeat (first | exact At.here | apply At.there))) | (refine ltr ?_; apply lt_fieldEl; exact rfl; exact rfl) | (refine ltr ?_; apply lt_fieldRat; exact rfl; exact rfl))
      · repeat (first | exact App.nil | apply App.cons)
      apply Run.pv [0] []
      · exact rfl
      · intro vs; apply ltr_pk; (repeat (first | exact Pk.nil | (apply Pk.pv; exact rfl; exact rfl) | (apply Pk.tok; exact rfl; exact rfl)))
        (first | (apply ltr_load1; (first | exact .inl rfl | exact .inr ⟨rfl, rfl⟩); (repeat (first | exact At.here | apply At.there)); exact rfl) | (refine ltr ?_; apply lt_loadE1'; exact rfl; assumption; exact rfl) | (refine ltr ?_; apply lt_loadEN'; exact rfl; assumption; exact rfl) | (apply ltr_loadN; (first | exact .inl rfl | exact .inr ⟨rfl, rfl⟩); (repeat (first | exact At.here | apply At.there)); exact rfl) | (apply ltr_loadR1; exact rfl; (repeat (first | exact At.here | apply At.there)); assumption; exact rfl) | (apply ltr_loadRN; exact rfl; (repeat (first | exact At.here | apply At.there)); assumption))
      · repeat (first | exact App.nil | apply App.cons)
      apply Run.pv [] []
      · exact rfl
      · intro vs; apply ltr_pk; (repeat (first | exact Pk.nil | (apply Pk.pv; exact rfl; exact rfl) | (apply Pk.tok; exact rfl; exact rfl)))
        (first | (refine ltr ?_; apply lt_fieldAt; exact rfl; exact rfl) | (apply ltr_field; exact rfl; (repeat (first | exact At.here | apply At.there))) | (refine ltr ?_; apply lt_fieldEl; exact rfl; exact rfl) | (refine ltr ?_; apply lt_fieldRat; exact rfl; exact rfl))
      · repeat (first | exact App.nil | apply App.cons)
      apply Run.pv [2] []
      · exact rfl
      · intro vs; apply ltr_pk; (repeat (first | exact Pk.nil | (apply Pk.pv; exact rfl; exact rfl) | (apply Pk.tok; exact rfl; exact rfl)))
        (first | (apply ltr_load1; (first | exact .inl rfl | exact .inr ⟨rfl, rfl⟩); (repeat (first | exact At.here | apply At.there)); exact rfl) | (refine ltr ?_; apply lt_loadE1'; exact rfl; assumption; exact rfl) | (refine ltr ?_; apply lt_loadEN'; exact rfl; assumption; exact rfl) | (apply ltr_loadN; (first | exact .inl rfl | exact .inr ⟨rfl, rfl⟩); (repeat (first | exact At.here | apply At.there)); exact rfl) | (apply ltr_loadR1; exact rfl; (repeat (first | exact At.here | apply At.there)); assumption; exact rfl) | (apply ltr_loadRN; exact rfl; (repeat (first | exact At.here | apply At.there)); assumption))
      · repeat (first | exact App.nil | apply App.cons)
      apply Run.pv [1, 3] []
      · exact rfl
      · intro vs; apply ltr_pk; (repeat (first | exact Pk.nil | (apply Pk.pv; exact rfl; exact rfl) | (apply Pk.tok; exact rfl; exact rfl)))
        (refine ltr ?_; refine lt_call ?_ (C1); exact rfl)
      · repeat (first | exact App.nil | apply App.cons)
      apply Run.pv [4] []
      · exact rfl
      · intro vs; apply ltr_pk; (repeat (first | exact Pk.nil | (apply Pk.pv; exact rfl; exact rfl) | (apply Pk.tok; exact rfl; exact rfl)))
        (first | (refine ltr ?_; apply lt_not; exact rfl) | (refine ltr ?_; apply lt_neg; exact rfl; omega; omega))
      · repeat (first | exact App.nil | apply App.cons)
      apply Run.pv [5] []
      · exact rfl
      · intro vs; apply ltr_pk; (repeat (first | exact Pk.nil | (apply Pk.pv; exact rfl; exact rfl) | (apply Pk.tok; exact rfl; exact rfl)))
        (first | (refine ltr ?_; apply lt_move; exact rfl))
      · repeat (first | exact App.nil | apply App.cons)
      apply Run.no [6] []
      · exact rfl
      · exact rfl
      · intro vs; apply look_pk; (repeat (first | exact Pk.nil | (apply Pk.pv; exact rfl; exact rfl) | (apply Pk.tok; exact rfl; exact rfl))); exact rfl
      · exact rfl
      · repeat (first | exact App.nil | apply App.cons)
      apply Run.no [6, 7] []
      · exact rfl
      · exact rfl
      · intro vs; apply look_pk; (repeat (first | exact Pk.nil | (apply Pk.pv; exact rfl; exact rfl) | (apply Pk.tok; exact rfl; exact rfl))); exact rfl
      · exact rfl
      · repeat (first | exact App.nil | apply App.cons)
      apply Run.no [6, 8] []
      · exact rfl
      · exact rfl
      · intro vs; apply look_pk; (repeat (first | exact Pk.nil | (apply Pk.pv; exact rfl; exact rfl) | (apply Pk.tok; exact rfl; exact rfl))); exact rfl
      · exact rfl
      · repeat (first | exact App.nil | apply App.cons)
      apply Run.no [6, 9] []
      · exact rfl
      · exact rfl
      · intro vs; apply look_pk; (repeat (first | exact Pk.nil | (apply Pk.pv; exact rfl; exact rfl) | (apply Pk.tok; exact rfl; exact rfl))); exact rfl
      · exact rfl
      · repeat (first | exact App.nil | apply App.cons)
      apply Run.no [6, 10] []
      · exact rfl
      · exact rfl
      · intro vs; apply look_pk; (repeat (first | exact Pk.nil | (apply Pk.pv; exact rfl; exact rfl) | (apply Pk.tok; exact rfl; exact rfl))); exact rfl
      · exact rfl
      · repeat (first | exact App.nil | apply App.cons)
      apply Run.pv [6, 11] []
      · exact rfl
      · intro vs; apply ltr_pk; (repeat (first | exact Pk.nil | (apply Pk.pv; exact rfl; exact rfl) | (apply Pk.tok; exact rfl; exact rfl)))
        (first | (refine ltr ?_; apply lt_pick_t; exact rfl; exact rfl) | (refine ltr ?_; apply lt_pick_f; exact rfl; exact rfl))
      · repeat (first | exact App.nil | apply App.cons)
      apply Run.pv [12] []
      · exact rfl
      · intro vs; apply ltr_pk; (repeat (first | exact Pk.nil | (apply Pk.pv; exact rfl; exact rfl) | (apply Pk.tok; exact rfl; exact rfl)))
        (first | (refine ltr ?_; apply lt_move; exact rfl))
      · repeat (first | exact App.nil | apply App.cons)
      apply Run.no [13] []
      · exact rfl
      · exact rfl
      · intro vs; apply look_pk; (repeat (first | exact Pk.nil | (apply Pk.pv; exact rfl; exact rfl) | (apply Pk.tok; exact rfl; exact rfl))); exact rfl
      · exact rfl
      · repeat (first | exact App.nil | apply App.cons)
      apply Run.no [13, 14] []
      · exact rfl
      · exact rfl
      · intro vs; apply look_pk; (repeat (first | exact Pk.nil | (apply Pk.pv; exact rfl; exact rfl) | (apply Pk.tok; exact rfl; exact rfl))); exact rfl
      · exact rfl
      · repeat (first | exact App.nil | apply App.cons)
      apply Run.no [13, 15] []
      · exact rfl
      · exact rfl
      · intro vs; apply look_pk; (repeat (first | exact Pk.nil | (apply Pk.pv; exact rfl; exact rfl) | (apply Pk.tok; exact rfl; exact rfl))); exact rfl
      · exact rfl
      · repeat (first | exact App.nil | apply App.cons)
      apply Run.no [13, 16] []
      · exact rfl
      · exact rfl
      · intro vs; apply look_pk; (repeat (first | exact Pk.nil | (apply Pk.pv; exact rfl; exact rfl) | (apply Pk.tok; exact rfl; exact rfl))); exact rfl
      · exact rfl
      · repeat (first | exact App.nil | apply App.cons)
      apply Run.pv [13, 17] []
      · exact rfl
      · intro vs; apply ltr_pk; (repeat (first | exact Pk.nil | (apply Pk.pv; exact rfl; exact rfl) | (apply Pk.tok; exact rfl; exact rfl)))
        (first | (refine ltr ?_; apply lt_pick_t; exact rfl; exact rfl) | (refine ltr ?_; apply lt_pick_f; exact rfl; exact rfl))
      · repeat (first | exact App.nil | apply App.cons)
      apply Run.pv [18] []
      · exact rfl
      · intro vs; apply ltr_pk; (repeat (first | exact Pk.nil | (apply Pk.pv; exact rfl; exact rfl) | (apply Pk.tok; exact rfl; exact rfl)))
        (first | (refine ltr ?_; apply lt_move; exact rfl))
      · repeat (first | exact App.nil | apply App.cons)
      apply Run.no [19] []
      · exact rfl
      · exact rfl
      · intro vs; apply look_pk; (repeat (first | exact Pk.nil | (apply Pk.pv; exact rfl; exact rfl) | (apply Pk.tok; exact rfl; exact rfl))); exact rfl
      · exact rfl
      · repeat (first | exact App.nil | apply App.cons)
      apply Run.no [19, 20] []
      · exact rfl
      · exact rfl
      · intro vs; apply look_pk; (repeat (first | exact Pk.nil | (apply Pk.pv; exact rfl; exact rfl) | (apply Pk.tok; exact rfl; exact rfl))); exact rfl
      · exact rfl
      · repeat (first | exact App.nil | apply App.cons)
      apply Run.no [19, 21] []
      · exact rfl
      · exact rfl
      · intro vs; apply look_pk; (repeat (first | exact Pk.nil | (apply Pk.pv; exact rfl; exact rfl) | (apply Pk.tok; exact rfl; exact rfl))); exact rfl
      · exact rfl
      · repeat (first | exact App.nil | apply App.cons)
      apply Run.no [19] []
      · exact rfl
      · exact rfl
      · intro vs; apply look_pk; (repeat (first | exact Pk.nil | (apply Pk.pv; exact rfl; exact rfl) | (apply Pk.tok; exact rfl; exact rfl))); exact rfl
      · exact rfl
      · repeat (first | exact App.nil | apply App.cons)
      apply Run.no [19, 23] []
      · exact rfl
      · exact rfl
      · intro vs; apply look_pk; (repeat (first | exact Pk.nil | (apply Pk.pv; exact rfl; exact rfl) | (apply Pk.tok; exact rfl; exact rfl))); exact rfl
      · exact rfl
      · repeat (first | exact App.nil | apply App.cons)
      refine ⟨⟨by kernel_rfl, by kernel_rfl⟩, fun vs => ?_⟩
      apply WL_auto [19, 22, 24]
      · repeat (first | exact Pk.nil | (apply Pk.pv; exact rfl; exact rfl) | (apply Pk.tok; exact rfl; exact rfl))
      · repeat (first | exact Nrm.nil | apply Nrm.cons)
      · kernel_rfl
      · kernel_rfl
      ((apply wl_no; exact rfl; exact rfl; exact rfl; exact rfl; exact rfl); (apply wl_no; exact rfl; exact rfl; exact rfl; exact rfl; exact rfl); (apply wl_pick_t; exact rfl; exact rfl; exact rfl); refine WL_nil ?_; refine th_norm ?_; (apply w_true; exact rfl); refine W_seq ?_; refine W_region ?_; (apply wl_assign; exact rfl; exact rfl); refine WL_nil ?_; refine th_norm ?_; refine W_ret ?_; refine th_ret ?_; refine bl_ret ?_; refine th_ret ?_; refine th_ret ?_; refine bl_ret ?_; refine th_ret ?_; refine rt_norm ?_)
      (apply res1; exact rfl; exact rfl; exact ⟨rfl, rfl⟩)
    | true =>
      rw [h1] at C1
      cases h2 : (decide (1 ≤ f.bs[k].pe) && decide (f.bs[k].pe ≤ 1000000)) with
      | false =>
        rw [h2] at C2
        have hf := hno (by rw [hbo]; unfold bilA; rw [h1, h2]; rfl)
        rw [hf]
        refine W_run 25 [18, 19, 20, 21, 22, 23, 24, 25, 26, 27, 28, 29, 30, 31, 32, 33, 34, 35, 36, 37, 38, 39, 40, 41, 42] [0, 1, 2, 3, 4, 5, 6, 7, 8, 9, 10, 11, 12, 13, 14, 15, 16, 17, 18, 19, 20, 21, 22, 23, 24] Cut.nil rfl (by repeat (first | exact Flt.nil | (apply Flt.keep; exact rfl) | (apply Flt.drop; exact rfl))) mixedS (by kernel_rfl) rfl ?_
        apply Run.pv [] []
        · exact rfl
        · intro vs; apply ltr_pk; (repeat (first | exact Pk.nil | (apply Pk.pv; exact rfl; exact rfl) | (apply Pk.tok; exact rfl; exact rfl)))
          (first | (refine ltr ?_; apply lt_fieldAt; exact rfl; exact rfl) | (apply ltr_field; exact rfl; (repeat (first | exact At.here | apply At.there))) | (refine ltr ?_; apply lt_fieldEl; exact rfl; exact rfl) | (refine ltr ?_; apply lt_fieldRat; exact rfl; exact rfl))
        · repeat (first | exact App.nil | apply App.cons)
        apply Run.pv [0] []
        · exact rfl
        · intro vs; apply ltr_pk; (repeat (first | exact Pk.nil | (apply Pk.pv; exact rfl; exact rfl) | (apply Pk.tok; exact rfl; exact rfl)))
          (first | (apply ltr_load1; (first | exact .inl rfl | exact .inr ⟨rfl, rfl⟩); (repeat (first | exact At.here | apply At.there)); exact rfl) | (refine ltr ?_; apply lt_loadE1'; exact rfl; assumption; exact rfl) | (refine ltr ?_; apply lt_loadEN'; exact rfl; assumption; exact rfl) | (apply ltr_loadN; (first | exact .inl rfl | exact .inr ⟨rfl, rfl⟩); (repeat (first | exact At.here | apply At.there)); exact rfl) | (apply ltr_loadR1; exact rfl; (repeat (first | exact At.here | apply At.there)); assumption; exact rfl) | (apply ltr_loadRN; exact rfl; (repeat (first | exact At.here | apply At.there)); assumption))
        · repeat (first | exact App.nil | apply App.cons)
        apply Run.pv [] []
        · exact rfl
        · intro vs; apply ltr_pk; (repeat (first | exact Pk.nil | (apply Pk.pv; exact rfl; exact rfl) | (apply Pk.tok; exact rfl; exact rfl)))
          (first | (refine ltr ?_; apply lt_fieldAt; exact rfl; exact rfl) | (apply ltr_field; exact rfl; (repeat (first | exact At.here | apply At.there))) | (refine ltr ?_; apply lt_fieldEl; exact rfl; exact rfl) | (refine ltr ?_; apply lt_fieldRat; exact rfl; exact rfl))
        · repeat (first | exact App.nil | apply App.cons)
        apply Run.pv [2] []
        · exact rfl
        · intro vs; apply ltr_pk; (repeat (first | exact Pk.nil | (apply Pk.pv; exact rfl; exact rfl) | (apply Pk.tok; exact rfl; exact rfl)))
          (first | (apply ltr_load1; (first | exact .inl rfl | exact .inr ⟨rfl, rfl⟩); (repeat (first | exact At.here | apply At.there)); exact rfl) | (refine ltr ?_; apply lt_loadE1'; exact rfl; assumption; exact rfl) | (refine ltr ?_; apply lt_loadEN'; exact rfl; assumption; exact rfl) | (apply ltr_loadN; (first | exact .inl rfl | exact .inr ⟨rfl, rfl⟩); (repeat (first | exact At.here | apply At.there)); exact rfl) | (apply ltr_loadR1; exact rfl; (repeat (first | exact At.here | apply At.there)); assumption; exact rfl) | (apply ltr_loadRN; exact rfl; (repeat (first | exact At.here | apply At.there)); assumption))
        · repeat (first | exact App.nil | apply App.cons)
        apply Run.pv [1, 3] []
        · exact rfl
        · intro vs; apply ltr_pk; (repeat (first | exact Pk.nil | (apply Pk.pv; exact rfl; exact rfl) | (apply Pk.tok; exact rfl; exact rfl)))
          (refine ltr ?_; refine lt_call ?_ (C1); exact rfl)
        · repeat (first | exact App.nil | apply App.cons)
        apply Run.pv [4] []
        · exact rfl
        · intro vs; apply ltr_pk; (repeat (first | exact Pk.nil | (apply Pk.pv; exact rfl; exact rfl) | (apply Pk.tok; exact rfl; exact rfl)))
          (first | (refine ltr ?_; apply lt_not; exact rfl) | (refine ltr ?_; apply lt_neg; exact rfl; omega; omega))
        · repeat (first | exact App.nil | apply App.cons)
        apply Run.pv [5] []
        · exact rfl
        · intro vs; apply ltr_pk; (repeat (first | exact Pk.nil | (apply Pk.pv; exact rfl; exact rfl) | (apply Pk.tok; exact rfl; exact rfl)))
          (first | (refine ltr ?_; apply lt_move; exact rfl))
        · repeat (first | exact App.nil | apply App.cons)
        apply Run.yes [6] []
        · exact rfl
        · exact rfl
        · intro vs; apply look_pk; (repeat (first | exact Pk.nil | (apply Pk.pv; exact rfl; exact rfl) | (apply Pk.tok; exact rfl; exact rfl))); exact rfl
        · intro vs; apply ltr_pk; (repeat (first | exact Pk.nil | (apply Pk.pv; exact rfl; exact rfl) | (apply Pk.tok; exact rfl; exact rfl)))
          (first | (refine ltr ?_; apply lt_fieldAt; exact rfl; exact rfl) | (apply ltr_field; exact rfl; (repeat (first | exact At.here | apply At.there))) | (refine ltr ?_; apply lt_fieldEl; exact rfl; exact rfl) | (refine ltr ?_; apply lt_fieldRat; exact rfl; exact rfl))
        · repeat (first | exact App.nil | apply App.cons)
        apply Run.yes [6, 7] []
        · exact rfl
        · exact rfl
        · intro vs; apply look_pk; (repeat (first | exact Pk.nil | (apply Pk.pv; exact rfl; exact rfl) | (apply Pk.tok; exact rfl; exact rfl))); exact rfl
        · intro vs; apply ltr_pk; (repeat (first | exact Pk.nil | (apply Pk.pv; exact rfl; exact rfl) | (apply Pk.tok; exact rfl; exact rfl)))
          (first | (apply ltr_load1; (first | exact .inl rfl | exact .inr ⟨rfl, rfl⟩); (repeat (first | exact At.here | apply At.there)); exact rfl) | (refine ltr ?_; apply lt_loadE1'; exact rfl; assumption; exact rfl) | (refine ltr ?_; apply lt_loadEN'; exact rfl; assumption; exact rfl) | (apply ltr_loadN; (first | exact .inl rfl | exact .inr ⟨rfl, rfl⟩); (repeat (first | exact At.here | apply At.there)); exact rfl) | (apply ltr_loadR1; exact rfl; (repeat (first | exact At.here | apply At.there)); assumption; exact rfl) | (apply ltr_loadRN; exact rfl; (repeat (first | exact At.here | apply At.there)); assumption))
        · repeat (first | exact App.nil | apply App.cons)
        apply Run.yes [6, 8] []
        · exact rfl
        · exact rfl
        · intro vs; apply look_pk; (repeat (first | exact Pk.nil | (apply Pk.pv; exact rfl; exact rfl) | (apply Pk.tok; exact rfl; exact rfl))); exact rfl
        · intro vs; apply ltr_pk; (repeat (first | exact Pk.nil | (apply Pk.pv; exact rfl; exact rfl) | (apply Pk.tok; exact rfl; exact rfl)))
          (refine ltr ?_; apply LT_frz; apply lt_lit (f := iC); (repeat (first | exact Elems.nil | (apply Elems.cons; exact rfl; exact inferInstance; exact rfl))); exact rfl; (first | exact (of_decide_eq_true rfl) | decide | (simp; done) | (simp; omega)))
        · repeat (first | exact App.nil | apply App.cons)
        apply Run.yes [6, 9] []
        · exact rfl
        · exact rfl
        · intro vs; apply look_pk; (repeat (first | exact Pk.nil | (apply Pk.pv; exact rfl; exact rfl) | (apply Pk.tok; exact rfl; exact rfl))); exact rfl
        · intro vs; apply ltr_pk; (repeat (first | exact Pk.nil | (apply Pk.pv; exact rfl; exact rfl) | (apply Pk.tok; exact rfl; exact rfl)))
          (refine ltr ?_; refine lt_call ?_ (C2); exact rfl)
        · repeat (first | exact App.nil | apply App.cons)
        apply Run.yes [6, 10] []
        · exact rfl
        · exact rfl
        · intro vs; apply look_pk; (repeat (first | exact Pk.nil | (apply Pk.pv; exact rfl; exact rfl) | (apply Pk.tok; exact rfl; exact rfl))); exact rfl
        · intro vs; apply ltr_pk; (repeat (first | exact Pk.nil | (apply Pk.pv; exact rfl; exact rfl) | (apply Pk.tok; exact rfl; exact rfl)))
          (first | (refine ltr ?_; apply lt_not; exact rfl) | (refine ltr ?_; apply lt_neg; exact rfl; omega; omega))
        · repeat (first | exact App.nil | apply App.cons)
        apply Run.pv [6, 11] []
        · exact rfl
        · intro vs; apply ltr_pk; (repeat (first | exact Pk.nil | (apply Pk.pv; exact rfl; exact rfl) | (apply Pk.tok; exact rfl; exact rfl)))
          (first | (refine ltr ?_; apply lt_pick_t; exact rfl; exact rfl) | (refine ltr ?_; apply lt_pick_f; exact rfl; exact rfl))
        · repeat (first | exact App.nil | apply App.cons)
        apply Run.pv [12] []
        · exact rfl
        · intro vs; apply ltr_pk; (repeat (first | exact Pk.nil | (apply Pk.pv; exact rfl; exact rfl) | (apply Pk.tok; exact rfl; exact rfl)))
          (first | (refine ltr ?_; apply lt_move; exact rfl))
        · repeat (first | exact App.nil | apply App.cons)
        apply Run.no [13] []
        · exact rfl
        · exact rfl
        · intro vs; apply look_pk; (repeat (first | exact Pk.nil | (apply Pk.pv; exact rfl; exact rfl) | (apply Pk.tok; exact rfl; exact rfl))); exact rfl
        · exact rfl
        · repeat (first | exact App.nil | apply App.cons)
        apply Run.no [13, 14] []
        · exact rfl
        · exact rfl
        · intro vs; apply look_pk; (repeat (first | exact Pk.nil | (apply Pk.pv; exact rfl; exact rfl) | (apply Pk.tok; exact rfl; exact rfl))); exact rfl
        · exact rfl
        · repeat (first | exact App.nil | apply App.cons)
        apply Run.no [13, 15] []
        · exact rfl
        · exact rfl
        · intro vs; apply look_pk; (repeat (first | exact Pk.nil | (apply Pk.pv; exact rfl; exact rfl) | (apply Pk.tok; exact rfl; exact rfl))); exact rfl
        · exact rfl
        · repeat (first | exact App.nil | apply App.cons)
        apply Run.no [13, 16] []
        · exact rfl
        · exact rfl
        · intro vs; apply look_pk; (repeat (first | exact Pk.nil | (apply Pk.pv; exact rfl; exact rfl) | (apply Pk.tok; exact rfl; exact rfl))); exact rfl
        · exact rfl
        · repeat (first | exact App.nil | apply App.cons)
        apply Run.pv [13, 17] []
        · exact rfl
        · intro vs; apply ltr_pk; (repeat (first | exact Pk.nil | (apply Pk.pv; exact rfl; exact rfl) | (apply Pk.tok; exact rfl; exact rfl)))
          (first | (refine ltr ?_; apply lt_pick_t; exact rfl; exact rfl) | (refine ltr ?_; apply lt_pick_f; exact rfl; exact rfl))
        · repeat (first | exact App.nil | apply App.cons)
        apply Run.pv [18] []
        · exact rfl
        · intro vs; apply ltr_pk; (repeat (first | exact Pk.nil | (apply Pk.pv; exact rfl; exact rfl) | (apply Pk.tok; exact rfl; exact rfl)))
          (first | (refine ltr ?_; apply lt_move; exact rfl))
        · repeat (first | exact App.nil | apply App.cons)
        apply Run.no [19] []
        · exact rfl
        · exact rfl
        · intro vs; apply look_pk; (repeat (first | exact Pk.nil | (apply Pk.pv; exact rfl; exact rfl) | (apply Pk.tok; exact rfl; exact rfl))); exact rfl
        · exact rfl
        · repeat (first | exact App.nil | apply App.cons)
        apply Run.no [19, 20] []
        · exact rfl
        · exact rfl
        · intro vs; apply look_pk; (repeat (first | exact Pk.nil | (apply Pk.pv; exact rfl; exact rfl) | (apply Pk.tok; exact rfl; exact rfl))); exact rfl
        · exact rfl
        · repeat (first | exact App.nil | apply App.cons)
        apply Run.no [19, 21] []
        · exact rfl
        · exact rfl
        · intro vs; apply look_pk; (repeat (first | exact Pk.nil | (apply Pk.pv; exact rfl; exact rfl) | (apply Pk.tok; exact rfl; exact rfl))); exact rfl
        · exact rfl
        · repeat (first | exact App.nil | apply App.cons)
        apply Run.no [19] []
        · exact rfl
        · exact rfl
        · intro vs; apply look_pk; (repeat (first | exact Pk.nil | (apply Pk.pv; exact rfl; exact rfl) | (apply Pk.tok; exact rfl; exact rfl))); exact rfl
        · exact rfl
        · repeat (first | exact App.nil | apply App.cons)
        apply Run.no [19, 23] []
        · exact rfl
        · exact rfl
        · intro vs; apply look_pk; (repeat (first | exact Pk.nil | (apply Pk.pv; exact rfl; exact rfl) | (apply Pk.tok; exact rfl; exact rfl))); exact rfl
        · exact rfl
        · repeat (first | exact App.nil | apply App.cons)
        refine ⟨⟨by kernel_rfl, by kernel_rfl⟩, fun vs => ?_⟩
        apply WL_auto [19, 22, 24]
        · repeat (first | exact Pk.nil | (apply Pk.pv; exact rfl; exact rfl) | (apply Pk.tok; exact rfl; exact rfl))
        · repeat (first | exact Nrm.nil | apply Nrm.cons)
        · kernel_rfl
        · kernel_rfl
        ((apply wl_no; exact rfl; exact rfl; exact rfl; exact rfl; exact rfl); (apply wl_no; exact rfl; exact rfl; exact rfl; exact rfl; exact rfl); (apply wl_pick_t; exact rfl; exact rfl; exact rfl); refine WL_nil ?_; refine th_norm ?_; (apply w_true; exact rfl); refine W_seq ?_; refine W_region ?_; (apply wl_assign; exact rfl; exact rfl); refine WL_nil ?_; refine th_norm ?_; refine W_ret ?_; refine th_ret ?_; refine bl_ret ?_; refine th_ret ?_; refine th_ret ?_; refine bl_ret ?_; refine th_ret ?_; refine rt_norm ?_)
        (apply res1; exact rfl; exact rfl; exact ⟨rfl, rfl⟩)
      | true =>
        rw [h2] at C2
        by_cases h3 : f.bs[k].st = []
        · have hf := hno (by rw [hbo]; unfold bilA; rw [h1, h2]; simp [h3])
          rw [hf]
          refine W_run 25 [18, 19, 20, 21, 22, 23, 24, 25, 26, 27, 28, 29, 30, 31, 32, 33, 34, 35, 36, 37, 38, 39, 40, 41, 42] [0, 1, 2, 3, 4, 5, 6, 7, 8, 9, 10, 11, 12, 13, 14, 15, 16, 17, 18, 19, 20, 21, 22, 23, 24] Cut.nil rfl (by repeat (first | exact Flt.nil | (apply Flt.keep; exact rfl) | (apply Flt.drop; exact rfl))) mixedS (by kernel_rfl) rfl ?_
          apply Run.pv [] []
          · exact rfl
          · intro vs; apply ltr_pk; (repeat (first | exact Pk.nil | (apply Pk.pv; exact rfl; exact rfl) | (apply Pk.tok; exact rfl; exact rfl)))
            (first | (refine ltr ?_; apply lt_fieldAt; exact rfl; exact rfl) | (apply ltr_field; exact rfl; (repeat (first | exact At.here | apply At.there))) | (refine ltr ?_; apply lt_fieldEl; exact rfl; exact rfl) | (refine ltr ?_; apply lt_fieldRat; exact rfl; exact rfl))
          · repeat (first | exact App.nil | apply App.cons)
          apply Run.pv [0] []
          · exact rfl
          · intro vs; apply ltr_pk; (repeat (first | exact Pk.nil | (apply Pk.pv; exact rfl; exact rfl) | (apply Pk.tok; exact rfl; exact rfl)))
            (first | (apply ltr_load1; (first | exact .inl rfl | exact .inr ⟨rfl, rfl⟩); (repeat (first | exact At.here | apply At.there)); exact rfl) | (refine ltr ?_; apply lt_loadE1'; exact rfl; assumption; exact rfl) | (refine ltr ?_; apply lt_loadEN'; exact rfl; assumption; exact rfl) | (apply ltr_loadN; (first | exact .inl rfl | exact .inr ⟨rfl, rfl⟩); (repeat (first | exact At.here | apply At.there)); exact rfl) | (apply ltr_loadR1; exact rfl; (repeat (first | exact At.here | apply At.there)); assumption; exact rfl) | (apply ltr_loadRN; exact rfl; (repeat (first | exact At.here | apply At.there)); assumption))
          · repeat (first | exact App.nil | apply App.cons)
          apply Run.pv [] []
          · exact rfl
          · intro vs; apply ltr_pk; (repeat (first | exact Pk.nil | (apply Pk.pv; exact rfl; exact rfl) | (apply Pk.tok; exact rfl; exact rfl)))
            (first | (refine ltr ?_; apply lt_fieldAt; exact rfl; exact rfl) | (apply ltr_field; exact rfl; (repeat (first | exact At.here | apply At.there))) | (refine ltr ?_; apply lt_fieldEl; exact rfl; exact rfl) | (refine ltr ?_; apply lt_fieldRat; exact rfl; exact rfl))
          · repeat (first | exact App.nil | apply App.cons)
          apply Run.pv [2] []
          · exact rfl
          · intro vs; apply ltr_pk; (repeat (first | exact Pk.nil | (apply Pk.pv; exact rfl; exact rfl) | (apply Pk.tok; exact rfl; exact rfl)))
            (first | (apply ltr_load1; (first | exact .inl rfl | exact .inr ⟨rfl, rfl⟩); (repeat (first | exact At.here | apply At.there)); exact rfl) | (refine ltr ?_; apply lt_loadE1'; exact rfl; assumption; exact rfl) | (refine ltr ?_; apply lt_loadEN'; exact rfl; assumption; exact rfl) | (apply ltr_loadN; (first | exact .inl rfl | exact .inr ⟨rfl, rfl⟩); (repeat (first | exact At.here | apply At.there)); exact rfl) | (apply ltr_loadR1; exact rfl; (repeat (first | exact At.here | apply At.there)); assumption; exact rfl) | (apply ltr_loadRN; exact rfl; (repeat (first | exact At.here | apply At.there)); assumption))
          · repeat (first | exact App.nil | apply App.cons)
          apply Run.pv [1, 3] []
          · exact rfl
          · intro vs; apply ltr_pk; (repeat (first | exact Pk.nil | (apply Pk.pv; exact rfl; exact rfl) | (apply Pk.tok; exact rfl; exact rfl)))
            (refine ltr ?_; refine lt_call ?_ (C1); exact rfl)
          · repeat (first | exact App.nil | apply App.cons)
          apply Run.pv [4] []
          · exact rfl
          · intro vs; apply ltr_pk; (repeat (first | exact Pk.nil | (apply Pk.pv; exact rfl; exact rfl) | (apply Pk.tok; exact rfl; exact rfl)))
            (first | (refine ltr ?_; apply lt_not; exact rfl) | (refine ltr ?_; apply lt_neg; exact rfl; omega; omega))
          · repeat (first | exact App.nil | apply App.cons)
          apply Run.pv [5] []
          · exact rfl
          · intro vs; apply ltr_pk; (repeat (first | exact Pk.nil | (apply Pk.pv; exact rfl; exact rfl) | (apply Pk.tok; exact rfl; exact rfl)))
            (first | (refine ltr ?_; apply lt_move; exact rfl))
          · repeat (first | exact App.nil | apply App.cons)
          apply Run.yes [6] []
          · exact rfl
          · exact rfl
          · intro vs; apply look_pk; (repeat (first | exact Pk.nil | (apply Pk.pv; exact rfl; exact rfl) | (apply Pk.tok; exact rfl; exact rfl))); exact rfl
          · intro vs; apply ltr_pk; (repeat (first | exact Pk.nil | (apply Pk.pv; exact rfl; exact rfl) | (apply Pk.tok; exact rfl; exact rfl)))
            (first | (refine ltr ?_; apply lt_fieldAt; exact rfl; exact rfl) | (apply ltr_field; exact rfl; (repeat (first | exact At.here | apply At.there))) | (refine ltr ?_; apply lt_fieldEl; exact rfl; exact rfl) | (refine ltr ?_; apply lt_fieldRat; exact rfl; exact rfl))
          · repeat (first | exact App.nil | apply App.cons)
          apply Run.yes [6, 7] []
          · exact rfl
          · exact rfl
          · intro vs; apply look_pk; (repeat (first | exact Pk.nil | (apply Pk.pv; exact rfl; exact rfl) | (apply Pk.tok; exact rfl; exact rfl))); exact rfl
          · intro vs; apply ltr_pk; (repeat (first | exact Pk.nil | (apply Pk.pv; exact rfl; exact rfl) | (apply Pk.tok; exact rfl; exact rfl)))
            (first | (apply ltr_load1; (first | exact .inl rfl | exact .inr ⟨rfl, rfl⟩); (repeat (first | exact At.here | apply At.there)); exact rfl) | (refine ltr ?_; apply lt_loadE1'; exact rfl; assumption; exact rfl) | (refine ltr ?_; apply lt_loadEN'; exact rfl; assumption; exact rfl) | (apply ltr_loadN; (first | exact .inl rfl | exact .inr ⟨rfl, rfl⟩); (repeat (first | exact At.here | apply At.there)); exact rfl) | (apply ltr_loadR1; exact rfl; (repeat (first | exact At.here | apply At.there)); assumption; exact rfl) | (apply ltr_loadRN; exact rfl; (repeat (first | exact At.here | apply At.there)); assumption))
          · repeat (first | exact App.nil | apply App.cons)
          apply Run.yes [6, 8] []
          · exact rfl
          · exact rfl
          · intro vs; apply look_pk; (repeat (first | exact Pk.nil | (apply Pk.pv; exact rfl; exact rfl) | (apply Pk.tok; exact rfl; exact rfl))); exact rfl
          · intro vs; apply ltr_pk; (repeat (first | exact Pk.nil | (apply Pk.pv; exact rfl; exact rfl) | (apply Pk.tok; exact rfl; exact rfl)))
            (refine ltr ?_; apply LT_frz; apply lt_lit (f := iC); (repeat (first | exact Elems.nil | (apply Elems.cons; exact rfl; exact inferInstance; exact rfl))); exact rfl; (first | exact (of_decide_eq_true rfl) | decide | (simp; done) | (simp; omega)))
          · repeat (first | exact App.nil | apply App.cons)
          apply Run.yes [6, 9] []
          · exact rfl
          · exact rfl
          · intro vs; apply look_pk; (repeat (first | exact Pk.nil | (apply Pk.pv; exact rfl; exact rfl) | (apply Pk.tok; exact rfl; exact rfl))); exact rfl
          · intro vs; apply ltr_pk; (repeat (first | exact Pk.nil | (apply Pk.pv; exact rfl; exact rfl) | (apply Pk.tok; exact rfl; exact rfl)))
            (refine ltr ?_; refine lt_call ?_ (C2); exact rfl)
          · repeat (first | exact App.nil | apply App.cons)
          apply Run.yes [6, 10] []
          · exact rfl
          · exact rfl
          · intro vs; apply look_pk; (repeat (first | exact Pk.nil | (apply Pk.pv; exact rfl; exact rfl) | (apply Pk.tok; exact rfl; exact rfl))); exact rfl
          · intro vs; apply ltr_pk; (repeat (first | exact Pk.nil | (apply Pk.pv; exact rfl; exact rfl) | (apply Pk.tok; exact rfl; exact rfl)))
            (first | (refine ltr ?_; apply lt_not; exact rfl) | (refine ltr ?_; apply lt_neg; exact rfl; omega; omega))
          · repeat (first | exact App.nil | apply App.cons)
          apply Run.pv [6, 11] []
          · exact rfl
          · intro vs; apply ltr_pk; (repeat (first | exact Pk.nil | (apply Pk.pv; exact rfl; exact rfl) | (apply Pk.tok; exact rfl; exact rfl)))
            (first | (refine ltr ?_; apply lt_pick_t; exact rfl; exact rfl) | (refine ltr ?_; apply lt_pick_f; exact rfl; exact rfl))
          · repeat (first | exact App.nil | apply App.cons)
          apply Run.pv [12] []
          · exact rfl
          · intro vs; apply ltr_pk; (repeat (first | exact Pk.nil | (apply Pk.pv; exact rfl; exact rfl) | (apply Pk.tok; exact rfl; exact rfl)))
            (first | (refine ltr ?_; apply lt_move; exact rfl))
          · repeat (first | exact App.nil | apply App.cons)
          apply Run.yes [13] []
          · exact rfl
          · exact rfl
          · intro vs; apply look_pk; (repeat (first | exact Pk.nil | (apply Pk.pv; exact rfl; exact rfl) | (apply Pk.tok; exact rfl; exact rfl))); exact rfl
          · intro vs; apply ltr_pk; (repeat (first | exact Pk.nil | (apply Pk.pv; exact rfl; exact rfl) | (apply Pk.tok; exact rfl; exact rfl)))
            (first | (refine ltr ?_; apply lt_fieldAt; exact rfl; exact rfl) | (apply ltr_field; exact rfl; (repeat (first | exact At.here | apply At.there))) | (refine ltr ?_; apply lt_fieldEl; exact rfl; exact rfl) | (refine ltr ?_; apply lt_fieldRat; exact rfl; exact rfl))
          · repeat (first | exact App.nil | apply App.cons)
          apply Run.yes [13, 14] []
          · exact rfl
          · exact rfl
          · intro vs; apply look_pk; (repeat (first | exact Pk.nil | (apply Pk.pv; exact rfl; exact rfl) | (apply Pk.tok; exact rfl; exact rfl))); exact rfl
          · intro vs; apply ltr_pk; (repeat (first | exact Pk.nil | (apply Pk.pv; exact rfl; exact rfl) | (apply Pk.tok; exact rfl; exact rfl)))
            (first | (apply ltr_load1; (first | exact .inl rfl | exact .inr ⟨rfl, rfl⟩); (repeat (first | exact At.here | apply At.there)); exact rfl) | (refine ltr ?_; apply lt_loadE1'; exact rfl; assumption; exact rfl) | (refine ltr ?_; apply lt_loadEN'; exact rfl; assumption; exact rfl) | (apply ltr_loadN; (first | exact .inl rfl | exact .inr ⟨rfl, rfl⟩); (repeat (first | exact At.here | apply At.there)); exact rfl) | (apply ltr_loadR1; exact rfl; (repeat (first | exact At.here | apply At.there)); assumption; exact rfl) | (apply ltr_loadRN; exact rfl; (repeat (first | exact At.here | apply At.there)); assumption))
          · repeat (first | exact App.nil | apply App.cons)
          apply Run.yes [13, 15] []
          · exact rfl
          · exact rfl
          · intro vs; apply look_pk; (repeat (first | exact Pk.nil | (apply Pk.pv; exact rfl; exact rfl) | (apply Pk.tok; exact rfl; exact rfl))); exact rfl
          · intro vs; apply ltr_pk; (repeat (first | exact Pk.nil | (apply Pk.pv; exact rfl; exact rfl) | (apply Pk.tok; exact rfl; exact rfl)))
            (first | (refine ltr ?_; apply lt_lenSl; exact rfl) | (apply ltr_lenRow; exact rfl; (repeat (first | exact At.here | apply At.there))))
          · repeat (first | exact App.nil | apply App.cons)
          apply Run.yes [13, 16] []
          · exact rfl
          · exact rfl
          · intro vs; apply look_pk; (repeat (first | exact Pk.nil | (apply Pk.pv; exact rfl; exact rfl) | (apply Pk.tok; exact rfl; exact rfl))); exact rfl
          · intro vs; apply ltr_pk; (repeat (first | exact Pk.nil | (apply Pk.pv; exact rfl; exact rfl) | (apply Pk.tok; exact rfl; exact rfl)))
            (refine ltr ?_; apply LT_bool true; apply lt_eql; exact rfl; exact rfl; simp [h3])
          · repeat (first | exact App.nil | apply App.cons)
          apply Run.pv [13, 17] []
          · exact rfl
          · intro vs; apply ltr_pk; (repeat (first | exact Pk.nil | (apply Pk.pv; exact rfl; exact rfl) | (apply Pk.tok; exact rfl; exact rfl)))
            (first | (refine ltr ?_; apply lt_pick_t; exact rfl; exact rfl) | (refine ltr ?_; apply lt_pick_f; exact rfl; exact rfl))
          · repeat (first | exact App.nil | apply App.cons)
          apply Run.pv [18] []
          · exact rfl
          · intro vs; apply ltr_pk; (repeat (first | exact Pk.nil | (apply Pk.pv; exact rfl; exact rfl) | (apply Pk.tok; exact rfl; exact rfl)))
            (first | (refine ltr ?_; apply lt_move; exact rfl))
          · repeat (first | exact App.nil | apply App.cons)
          apply Run.no [19] []
          · exact rfl
          · exact rfl
          · intro vs; apply look_pk; (repeat (first | exact Pk.nil | (apply Pk.pv; exact rfl; exact rfl) | (apply Pk.tok; exact rfl; exact rfl))); exact rfl
          · exact rfl
          · repeat (first | exact App.nil | apply App.cons)
          apply Run.no [19, 20] []
          · exact rfl
          · exact rfl
          · intro vs; apply look_pk; (repeat (first | exact Pk.nil | (apply Pk.pv; exact rfl; exact rfl) | (apply Pk.tok; exact rfl; exact rfl))); exact rfl
          · exact rfl
          · repeat (first | exact App.nil | apply App.cons)
          apply Run.no [19, 21] []
          · exact rfl
          · exact rfl
          · intro vs; apply look_pk; (repeat (first | exact Pk.nil | (apply Pk.pv; exact rfl; exact rfl) | (apply Pk.tok; exact rfl; exact rfl))); exact rfl
          · exact rfl
          · repeat (first | exact App.nil | apply App.cons)
          apply Run.no [19] []
          · exact rfl
          · exact rfl
          · intro vs; apply look_pk; (repeat (first | exact Pk.nil | (apply Pk.pv; exact rfl; exact rfl) | (apply Pk.tok; exact rfl; exact rfl))); exact rfl
          · exact rfl
          · repeat (first | exact App.nil | apply App.cons)
          apply Run.no [19, 23] []
          · exact rfl
          · exact rfl
          · intro vs; apply look_pk; (repeat (first | exact Pk.nil | (apply Pk.pv; exact rfl; exact rfl) | (apply Pk.tok; exact rfl; exact rfl))); exact rfl
          · exact rfl
          · repeat (first | exact App.nil | apply App.cons)
          refine ⟨⟨by kernel_rfl, by kernel_rfl⟩, fun vs => ?_⟩
          apply WL_auto [19, 22, 24]
          · repeat (first | exact Pk.nil | (apply Pk.pv; exact rfl; exact rfl) | (apply Pk.tok; exact rfl; exact rfl))
          · repeat (first | exact Nrm.nil | apply Nrm.cons)
          · kernel_rfl
          · kernel_rfl
          ((apply wl_no; exact rfl; exact rfl; exact rfl; exact rfl; exact rfl); (apply wl_no; exact rfl; exact rfl; exact rfl; exact rfl; exact rfl); (apply wl_pick_t; exact rfl; exact rfl; exact rfl); refine WL_nil ?_; refine th_norm ?_; (apply w_true; exact rfl); refine W_seq ?_; refine W_region ?_; (apply wl_assign; exact rfl; exact rfl); refine WL_nil ?_; refine th_norm ?_; refine W_ret ?_; refine th_ret ?_; refine bl_ret ?_; refine th_ret ?_; refine th_ret ?_; refine bl_ret ?_; refine th_ret ?_; refine rt_norm ?_)
          (apply res1; exact rfl; exact rfl; exact ⟨rfl, rfl⟩)
        · have hA : bilA f.ids f.bs[k] = true := by unfold bilA; rw [h1, h2]; simp [h3]
          rw [hA, Bool.true_and] at hbo
          refine W_run 25 [18, 19, 20, 21, 22, 23, 24, 25, 26, 27, 28, 29, 30, 31, 32, 33, 34, 35, 36, 37, 38, 39, 40, 41, 42] [0, 1, 2, 3, 4, 5, 6, 7, 8, 9, 10, 11, 12, 13, 14, 15, 16, 17, 18, 19, 20, 21, 22, 23, 24] Cut.nil rfl (by repeat (first | exact Flt.nil | (apply Flt.keep; exact rfl) | (apply Flt.drop; exact rfl))) mixedS (by kernel_rfl) rfl ?_
          apply Run.pv [] []
          · exact rfl
          · intro vs; apply ltr_pk; (repeat (first | exact Pk.nil | (apply Pk.pv; exact rfl; exact rfl) | (apply Pk.tok; exact rfl; exact rfl)))
            (first | (refine ltr ?_; apply lt_fieldAt; exact rfl; exact rfl) | (apply ltr_field; exact rfl; (repeat (first | exact At.here | apply At.there))) | (refine ltr ?_; apply lt_fieldEl; exact rfl; exact rfl) | (refine ltr ?_; apply lt_fieldRat; exact rfl; exact rfl))
          · repeat (first | exact App.nil | apply App.cons)
          apply Run.pv [0] []
          · exact rfl
          · intro vs; apply ltr_pk; (repeat (first | exact Pk.nil | (apply Pk.pv; exact rfl; exact rfl) | (apply Pk.tok; exact rfl; exact rfl)))
            (first | (apply ltr_load1; (first | exact .inl rfl | exact .inr ⟨rfl, rfl⟩); (repeat (first | exact At.here | apply At.there)); exact rfl) | (refine ltr ?_; apply lt_loadE1'; exact rfl; assumption; exact rfl) | (refine ltr ?_; apply lt_loadEN'; exact rfl; assumption; exact rfl) | (apply ltr_loadN; (first | exact .inl rfl | exact .inr ⟨rfl, rfl⟩); (repeat (first | exact At.here | apply At.there)); exact rfl) | (apply ltr_loadR1; exact rfl; (repeat (first | exact At.here | apply At.there)); assumption; exact rfl) | (apply ltr_loadRN; exact rfl; (repeat (first | exact At.here | apply At.there)); assumption))
          · repeat (first | exact App.nil | apply App.cons)
          apply Run.pv [] []
          · exact rfl
          · intro vs; apply ltr_pk; (repeat (first | exact Pk.nil | (apply Pk.pv; exact rfl; exact rfl) | (apply Pk.tok; exact rfl; exact rfl)))
            (first | (refine ltr ?_; apply lt_fieldAt; exact rfl; exact rfl) | (apply ltr_field; exact rfl; (repeat (first | exact At.here | apply At.there))) | (refine ltr ?_; apply lt_fieldEl; exact rfl; exact rfl) | (refine ltr ?_; apply lt_fieldRat; exact rfl; exact rfl))
          · repeat (first | exact App.nil | apply App.cons)
          apply Run.pv [2] []
          · exact rfl
          · intro vs; apply ltr_pk; (repeat (first | exact Pk.nil | (apply Pk.pv; exact rfl; exact rfl) | (apply Pk.tok; exact rfl; exact rfl)))
            (first | (apply ltr_load1; (first | exact .inl rfl | exact .inr ⟨rfl, rfl⟩); (repeat (first | exact At.here | apply At.there)); exact rfl) | (refine ltr ?_; apply lt_loadE1'; exact rfl; assumption; exact rfl) | (refine ltr ?_; apply lt_loadEN'; exact rfl; assumption; exact rfl) | (apply ltr_loadN; (first | exact .inl rfl | exact .inr ⟨rfl, rfl⟩); (repeat (first | exact At.here | apply At.there)); exact rfl) | (apply ltr_loadR1; exact rfl; (repeat (first | exact At.here | apply At.there)); assumption; exact rfl) | (apply ltr_loadRN; exact rfl; (repeat (first | exact At.here | apply At.there)); assumption))
          · repeat (first | exact App.nil | apply App.cons)
          apply Run.pv [1, 3] []
          · exact rfl
          · intro vs; apply ltr_pk; (repeat (first | exact Pk.nil | (apply Pk.pv; exact rfl; exact rfl) | (apply Pk.tok; exact rfl; exact rfl)))
            (refine ltr ?_; refine lt_call ?_ (C1); exact rfl)
          · repeat (first | exact App.nil | apply App.cons)
          apply Run.pv [4] []
          · exact rfl
          · intro vs; apply ltr_pk; (repeat (first | exact Pk.nil | (apply Pk.pv; exact rfl; exact rfl) | (apply Pk.tok; exact rfl; exact rfl)))
            (first | (refine ltr ?_; apply lt_not; exact rfl) | (refine ltr ?_; apply lt_neg; exact rfl; omega; omega))
          · repeat (first | exact App.nil | apply App.cons)
          apply Run.pv [5] []
          · exact rfl
          · intro vs; apply ltr_pk; (repeat (first | exact Pk.nil | (apply Pk.pv; exact rfl; exact rfl) | (apply Pk.tok; exact rfl; exact rfl)))
            (first | (refine ltr ?_; apply lt_move; exact rfl))
          · repeat (first | exact App.nil | apply App.cons)
          apply Run.yes [6] []
          · exact rfl
          · exact rfl
          · intro vs; apply look_pk; (repeat (first | exact Pk.nil | (apply Pk.pv; exact rfl; exact rfl) | (apply Pk.tok; exact rfl; exact rfl))); exact rfl
          · intro vs; apply ltr_pk; (repeat (first | exact Pk.nil | (apply Pk.pv; exact rfl; exact rfl) | (apply Pk.tok; exact rfl; exact rfl)))
            (first | (refine ltr ?_; apply lt_fieldAt; exact rfl; exact rfl) | (apply ltr_field; exact rfl; (repeat (first | exact At.here | apply At.there))) | (refine ltr ?_; apply lt_fieldEl; exact rfl; exact rfl) | (refine ltr ?_; apply lt_fieldRat; exact rfl; exact rfl))
          · repeat (first | exact App.nil | apply App.cons)
          apply Run.yes [6, 7] []
          · exact rfl
          · exact rfl
          · intro vs; apply look_pk; (repeat (first | exact Pk.nil | (apply Pk.pv; exact rfl; exact rfl) | (apply Pk.tok; exact rfl; exact rfl))); exact rfl
          · intro vs; apply ltr_pk; (repeat (first | exact Pk.nil | (apply Pk.pv; exact rfl; exact rfl) | (apply Pk.tok; exact rfl; exact rfl)))
            (first | (apply ltr_load1; (first | exact .inl rfl | exact .inr ⟨rfl, rfl⟩); (repeat (first | exact At.here | apply At.there)); exact rfl) | (refine ltr ?_; apply lt_loadE1'; exact rfl; assumption; exact rfl) | (refine ltr ?_; apply lt_loadEN'; exact rfl; assumption; exact rfl) | (apply ltr_loadN; (first | exact .inl rfl | exact .inr ⟨rfl, rfl⟩); (repeat (first | exact At.here | apply At.there)); exact rfl) | (apply ltr_loadR1; exact rfl; (repeat (first | exact At.here | apply At.there)); assumption; exact rfl) | (apply ltr_loadRN; exact rfl; (repeat (first | exact At.here | apply At.there)); assumption))
          · repeat (first | exact App.nil | apply App.cons)
          apply Run.yes [6, 8] []
          · exact rfl
          · exact rfl
          · intro vs; apply look_pk; (repeat (first | exact Pk.nil | (apply Pk.pv; exact rfl; exact rfl) | (apply Pk.tok; exact rfl; exact rfl))); exact rfl
          · intro vs; apply ltr_pk; (repeat (first | exact Pk.nil | (apply Pk.pv; exact rfl; exact rfl) | (apply Pk.tok; exact rfl; exact rfl)))
            (refine ltr ?_; apply LT_frz; apply lt_lit (f := iC); (repeat (first | exact Elems.nil | (apply Elems.cons; exact rfl; exact inferInstance; exact rfl))); exact rfl; (first | exact (of_decide_eq_true rfl) | decide | (simp; done) | (simp; omega)))
          · repeat (first | exact App.nil | apply App.cons)
          apply Run.yes [6, 9] []
          · exact rfl
          · exact rfl
          · intro vs; apply look_pk; (repeat (first | exact Pk.nil | (apply Pk.pv; exact rfl; exact rfl) | (apply Pk.tok; exact rfl; exact rfl))); exact rfl
          · intro vs; apply ltr_pk; (repeat (first | exact Pk.nil | (apply Pk.pv; exact rfl; exact rfl) | (apply Pk.tok; exact rfl; exact rfl)))
            (refine ltr ?_; refine lt_call ?_ (C2); exact rfl)
          · repeat (first | exact App.nil | apply App.cons)
          apply Run.yes [6, 10] []
          · exact rfl
          · exact rfl
          · intro vs; apply look_pk; (repeat (first | exact Pk.nil | (apply Pk.pv; exact rfl; exact rfl) | (apply Pk.tok; exact rfl; exact rfl))); exact rfl
          · intro vs; apply ltr_pk; (repeat (first | exact Pk.nil | (apply Pk.pv; exact rfl; exact rfl) | (apply Pk.tok; exact rfl; exact rfl)))
            (first | (refine ltr ?_; apply lt_not; exact rfl) | (refine ltr ?_; apply lt_neg; exact rfl; omega; omega))
          · repeat (first | exact App.nil | apply App.cons)
          apply Run.pv [6, 11] []
          · exact rfl
          · intro vs; apply ltr_pk; (repeat (first | exact Pk.nil | (apply Pk.pv; exact rfl; exact rfl) | (apply Pk.tok; exact rfl; exact rfl)))
            (first | (refine ltr ?_; apply lt_pick_t; exact rfl; exact rfl) | (refine ltr ?_; apply lt_pick_f; exact rfl; exact rfl))
          · repeat (first | exact App.nil | apply App.cons)
          apply Run.pv [12] []
          · exact rfl
          · intro vs; apply ltr_pk; (repeat (first | exact Pk.nil | (apply Pk.pv; exact rfl; exact rfl) | (apply Pk.tok; exact rfl; exact rfl)))
            (first | (refine ltr ?_; apply lt_move; exact rfl))
          · repeat (first | exact App.nil | apply App.cons)
          apply Run.yes [13] []
          · exact rfl
          · exact rfl
          · intro vs; apply look_pk; (repeat (first | exact Pk.nil | (apply Pk.pv; exact rfl; exact rfl) | (apply Pk.tok; exact rfl; exact rfl))); exact rfl
          · intro vs; apply ltr_pk; (repeat (first | exact Pk.nil | (apply Pk.pv; exact rfl; exact rfl) | (apply Pk.tok; exact rfl; exact rfl)))
            (first | (refine ltr ?_; apply lt_fieldAt; exact rfl; exact rfl) | (apply ltr_field; exact rfl; (repeat (first | exact At.here | apply At.there))) | (refine ltr ?_; apply lt_fieldEl; exact rfl; exact rfl) | (refine ltr ?_; apply lt_fieldRat; exact rfl; exact rfl))
          · repeat (first | exact App.nil | apply App.cons)
          apply Run.yes [13, 14] []
          · exact rfl
          · exact rfl
          · intro vs; apply look_pk; (repeat (first | exact Pk.nil | (apply Pk.pv; exact rfl; exact rfl) | (apply Pk.tok; exact rfl; exact rfl))); exact rfl
          · intro vs; apply ltr_pk; (repeat (first | exact Pk.nil | (apply Pk.pv; exact rfl; exact rfl) | (apply Pk.tok; exact rfl; exact rfl)))
            (first | (apply ltr_load1; (first | exact .inl rfl | exact .inr ⟨rfl, rfl⟩); (repeat (first | exact At.here | apply At.there)); exact rfl) | (refine ltr ?_; apply lt_loadE1'; exact rfl; assumption; exact rfl) | (refine ltr ?_; apply lt_loadEN'; exact rfl; assumption; exact rfl) | (apply ltr_loadN; (first | exact .inl rfl | exact .inr ⟨rfl, rfl⟩); (repeat (first | exact At.here | apply At.there)); exact rfl) | (apply ltr_loadR1; exact rfl; (repeat (first | exact At.here | apply At.there)); assumption; exact rfl) | (apply ltr_loadRN; exact rfl; (repeat (first | exact At.here | apply At.there)); assumption))
          · repeat (first | exact App.nil | apply App.cons)
          apply Run.yes [13, 15] []
          · exact rfl
          · exact rfl
          · intro vs; apply look_pk; (repeat (first | exact Pk.nil | (apply Pk.pv; exact rfl; exact rfl) | (apply Pk.tok; exact rfl; exact rfl))); exact rfl
          · intro vs; apply ltr_pk; (repeat (first | exact Pk.nil | (apply Pk.pv; exact rfl; exact rfl) | (apply Pk.tok; exact rfl; exact rfl)))
            (first | (refine ltr ?_; apply lt_lenSl; exact rfl) | (apply ltr_lenRow; exact rfl; (repeat (first | exact At.here | apply At.there))))
          · repeat (first | exact App.nil | apply App.cons)
          apply Run.yes [13, 16] []
          · exact rfl
          · exact rfl
          · intro vs; apply look_pk; (repeat (first | exact Pk.nil | (apply Pk.pv; exact rfl; exact rfl) | (apply Pk.tok; exact rfl; exact rfl))); exact rfl
          · intro vs; apply ltr_pk; (repeat (first | exact Pk.nil | (apply Pk.pv; exact rfl; exact rfl) | (apply Pk.tok; exact rfl; exact rfl)))
            (refine ltr ?_; apply LT_bool false; apply lt_eql; exact rfl; exact rfl; (have := List.length_pos_iff.2 h3; simp; omega))
          · repeat (first | exact App.nil | apply App.cons)
          apply Run.pv [13, 17] []
          · exact rfl
          · intro vs; apply ltr_pk; (repeat (first | exact Pk.nil | (apply Pk.pv; exact rfl; exact rfl) | (apply Pk.tok; exact rfl; exact rfl)))
            (first | (refine ltr ?_; apply lt_pick_t; exact rfl; exact rfl) | (refine ltr ?_; apply lt_pick_f; exact rfl; exact rfl))
          · repeat (first | exact App.nil | apply App.cons)
          apply Run.pv [18] []
          · exact rfl
          · intro vs; apply ltr_pk; (repeat (first | exact Pk.nil | (apply Pk.pv; exact rfl; exact rfl) | (apply Pk.tok; exact rfl; exact rfl)))
            (first | (refine ltr ?_; apply lt_move; exact rfl))
          · repeat (first | exact App.nil | apply App.cons)
          apply Run.yes [19] []
          · exact rfl
          · exact rfl
          · intro vs; apply look_pk; (repeat (first | exact Pk.nil | (apply Pk.pv; exact rfl; exact rfl) | (apply Pk.tok; exact rfl; exact rfl))); exact rfl
          · intro vs; apply ltr_pk; (repeat (first | exact Pk.nil | (apply Pk.pv; exact rfl; exact rfl) | (apply Pk.tok; exact rfl; exact rfl)))
            (first | (refine ltr ?_; apply lt_fieldAt; exact rfl; exact rfl) | (apply ltr_field; exact rfl; (repeat (first | exact At.here | apply At.there))) | (refine ltr ?_; apply lt_fieldEl; exact rfl; exact rfl) | (refine ltr ?_; apply lt_fieldRat; exact rfl; exact rfl))
          · repeat (first | exact App.nil | apply App.cons)
          apply Run.yes [19, 20] []
          · exact rfl
          · exact rfl
          · intro vs; apply look_pk; (repeat (first | exact Pk.nil | (apply Pk.pv; exact rfl; exact rfl) | (apply Pk.tok; exact rfl; exact rfl))); exact rfl
          · intro vs; apply ltr_pk; (repeat (first | exact Pk.nil | (apply Pk.pv; exact rfl; exact rfl) | (apply Pk.tok; exact rfl; exact rfl)))
            (first | (apply ltr_load1; (first | exact .inl rfl | exact .inr ⟨rfl, rfl⟩); (repeat (first | exact At.here | apply At.there)); exact rfl) | (refine ltr ?_; apply lt_loadE1'; exact rfl; assumption; exact rfl) | (refine ltr ?_; apply lt_loadEN'; exact rfl; assumption; exact rfl) | (apply ltr_loadN; (first | exact .inl rfl | exact .inr ⟨rfl, rfl⟩); (repeat (first | exact At.here | apply At.there)); exact rfl) | (apply ltr_loadR1; exact rfl; (repeat (first | exact At.here | apply At.there)); assumption; exact rfl) | (apply ltr_loadRN; exact rfl; (repeat (first | exact At.here | apply At.there)); assumption))
          · repeat (first | exact App.nil | apply App.cons)
          apply Run.yes [19, 21] []
          · exact rfl
          · exact rfl
          · intro vs; apply look_pk; (repeat (first | exact Pk.nil | (apply Pk.pv; exact rfl; exact rfl) | (apply Pk.tok; exact rfl; exact rfl))); exact rfl
          · intro vs; apply ltr_pk; (repeat (first | exact Pk.nil | (apply Pk.pv; exact rfl; exact rfl) | (apply Pk.tok; exact rfl; exact rfl)))
            (refine ltr ?_; refine lt_call ?_ (C3); exact rfl)
          · repeat (first | exact App.nil | apply App.cons)
          apply Run.yes [19] []
          · exact rfl
          · exact rfl
          · intro vs; apply look_pk; (repeat (first | exact Pk.nil | (apply Pk.pv; exact rfl; exact rfl) | (apply Pk.tok; exact rfl; exact rfl))); exact rfl
          · intro vs; apply ltr_pk; (repeat (first | exact Pk.nil | (apply Pk.pv; exact rfl; exact rfl) | (apply Pk.tok; exact rfl; exact rfl)))
            (first | (refine ltr ?_; apply lt_fieldAt; exact rfl; exact rfl) | (apply ltr_field; exact rfl; (repeat (first | exact At.here | apply At.there))) | (refine ltr ?_; apply lt_fieldEl; exact rfl; exact rfl) | (refine ltr ?_; apply lt_fieldRat; exact rfl; exact rfl))
          · repeat (first | exact App.nil | apply App.cons)
          apply Run.yes [19, 23] []
          · exact rfl
          · exact rfl
          · intro vs; apply look_pk; (repeat (first | exact Pk.nil | (apply Pk.pv; exact rfl; exact rfl) | (apply Pk.tok; exact rfl; exact rfl))); exact rfl
          · intro vs; apply ltr_pk; (repeat (first | exact Pk.nil | (apply Pk.pv; exact rfl; exact rfl) | (apply Pk.tok; exact rfl; exact rfl)))
            (first | (apply ltr_load1; (first | exact .inl rfl | exact .inr ⟨rfl, rfl⟩); (repeat (first | exact At.here | apply At.there)); exact rfl) | (refine ltr ?_; apply lt_loadE1'; exact rfl; assumption; exact rfl) | (refine ltr ?_; apply lt_loadEN'; exact rfl; assumption; exact rfl) | (apply ltr_loadN; (first | exact .inl rfl | exact .inr ⟨rfl, rfl⟩); (repeat (first | exact At.here | apply At.there)); exact rfl) | (apply ltr_loadR1; exact rfl; (repeat (first | exact At.here | apply At.there)); assumption; exact rfl) | (apply ltr_loadRN; exact rfl; (repeat (first | exact At.here | apply At.there)); assumption))
          · repeat (first | exact App.nil | apply App.cons)
          refine ⟨⟨by kernel_rfl, by kernel_rfl⟩, fun vs => ?_⟩
          apply WL_auto [19, 22, 24]
          · repeat (first | exact Pk.nil | (apply Pk.pv; exact rfl; exact rfl) | (apply Pk.tok; exact rfl; exact rfl))
          · repeat (first | exact Nrm.nil | apply Nrm.cons)
          · kernel_rfl
          · kernel_rfl
          ((apply wl_yes; exact rfl; exact rfl; exact rfl))
          (first | (apply wl_call (hM); exact rfl; exact rfl) | (apply wl_callR (hM); exact rfl; (repeat (first | exact At.here | apply At.there)); exact rfl))
          ((apply wl_yes; exact rfl; exact rfl; exact rfl); (apply wl_not; exact rfl; exact rfl); (apply wl_pick_f; exact rfl; exact rfl; exact rfl); refine WL_nil ?_; refine th_norm ?_)
          refine w_cond rfl (fun g => ?_) (fun g => ?_)
          · have hf := hno (by rw [hbo]; simp only [Bool.not_eq_true'] at g; rw [g]; rfl)
            rw [hf]
            (refine W_seq ?_; refine W_region ?_; (apply wl_assign; exact rfl; exact rfl); refine WL_nil ?_; refine th_norm ?_; refine W_ret ?_; refine th_ret ?_; refine bl_ret ?_; refine th_ret ?_; refine th_ret ?_; refine bl_ret ?_; refine th_ret ?_; refine rt_norm ?_)
            (apply res1; exact rfl; exact rfl; exact ⟨rfl, rfl⟩)
          · have g' : ofB (f.bs[k].st.map Stk.fl) f.ids = true := by simpa using g
            rw [g', Bool.true_and] at hbo
            (refine W_skip ?_; refine th_norm ?_; refine W_seq ?_; refine W_region ?_; (apply wl_field; exact rfl; (repeat (first | exact At.here | apply At.there)); exact rfl); (apply wl_load1; (first | exact .inl rfl | exact .inr ⟨rfl, rfl⟩); (repeat (first | exact At.here | apply At.there)); exact rfl; exact rfl))
            have C5 := containsFuncS_con f.bs[k].st 220 [] _ (by omega) (fun s _ => chk31_con s)
            (first | (apply wl_call (C5); exact rfl; exact rfl) | (apply wl_callR (C5); exact rfl; (repeat (first | exact At.here | apply At.there)); exact rfl))
            (refine WL_nil ?_; refine th_norm ?_)
            refine w_cond rfl (fun g2 => ?_) (fun g2 => ?_)
            · have hf := hno (by rw [hbo, g2]; rfl)
              rw [hf]
              (refine W_seq ?_; refine W_region ?_; (apply wl_assign; exact rfl; exact rfl); refine WL_nil ?_; refine th_norm ?_; refine W_ret ?_; refine bl_ret ?_; refine th_ret ?_; refine th_ret ?_; refine bl_ret ?_; refine th_ret ?_; refine rt_norm ?_)
              (apply res1; exact rfl; exact rfl; exact ⟨rfl, rfl⟩)
            · have hy := hyes (by rw [hbo, g2]; rfl)
              (refine W_skip ?_; refine bl_norm ?_; refine th_norm ?_; refine W_region ?_; (apply wl_add; exact rfl; exact rfl; omega; omega; exact rfl); (apply wl_move; exact rfl; exact rfl); refine WL_nil ?_; refine th_norm ?_)
              (refine ⟨(k + 1, v'), fun _ _ st => st_sub2 st ?_ ?_, ?_, ?_⟩; (repeat (first | exact trivial | refine ⟨rfl, ?_⟩)); (repeat (first | exact SubP.nil | (apply SubP.cons; (repeat (first | exact Rm.here | apply Rm.there))))))
              · exact ⟨by dsimp only; omega, hy⟩
              · dsimp only; omega
  · have hkk : k = f.bs.length := by simp at hlt; omega
    subst hkk
    rw [List.take_length] at hal
    rw [List.take_of_length_le (by simp), hal, Bool.true_and]
    (apply W_frz 3; exact rfl; (repeat (first | exact Rm.here | apply Rm.there)))
    (refine W_exit ?_; refine th_exit ?_; refine th_exit ?_; refine bl_eq ?_; refine th_norm ?_; refine W_seq ?_; refine W_region ?_; (apply wl_move; exact rfl; exact rfl))
    (first | (apply wl_call (rising_con (f.bs.map Bil.no) (by simp; omega)); exact rfl; exact rfl) | (apply wl_callR (rising_con (f.bs.map Bil.no) (by simp; omega)); exact rfl; (repeat (first | exact At.here | apply At.there)); exact rfl))
    ((apply wl_assign; exact rfl; exact rfl); refine WL_nil ?_; refine th_norm ?_; refine W_ret ?_; refine rt_norm ?_)
    (apply res1; exact rfl; exact rfl; exact ⟨rfl, rfl⟩)
end Go.Proofs.YtbkellknlcageaaDoor.Sw
