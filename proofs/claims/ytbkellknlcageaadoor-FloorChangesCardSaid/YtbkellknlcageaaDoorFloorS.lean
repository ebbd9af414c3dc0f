/- Floors: great ones, twins, the same. -/
import Derived.Test.YtbkellknlcageaaDoorFloorR2
namespace Go.Proofs.YtbkellknlcageaaDoor.Sw
open Go.RowKit Go Go.Shelf Go.Proofs
def greatF (f : Flo) : Bool := decide ((10 : Int) < f.ids.length) || decide ((20 : Int) < f.qs.length) || decide ((16 : Int) < f.bs.length) || decide ((20 : Int) < f.ps.length) || f.bs.any fun b => decide ((10 : Int) < b.st.length)
theorem sml_of {f : Flo} (h : greatF f = false) : f.ids.length ≤ 10 ∧ f.qs.length ≤ 20 ∧ f.bs.length ≤ 16 ∧ f.ps.length ≤ 20 ∧ ∀ b ∈ f.bs, b.st.length ≤ 10 := by
  simp [greatF] at h
  exact ⟨by omega, by omega, by omega, by omega, fun b hb => by have := h.2 b hb; omega⟩
set_option maxRecDepth 20000 in
theorem great8_con (f : Flo) : Con Tryd.prog 9 [.agg (flC f)] [] (Is (.val (.bool (greatF f))) []) := by
  refine con_of Tryd.func9 rfl (enters_of Tryd.func9 (by kernel_rfl) rfl) rfl ?_; intro n w0 F0 G0
  (refine W_seq ?_; refine W_region ?_; (apply wl_boxv; exact rfl; exact inferInstance; exact rfl; intro p hp); (apply wl_assign; exact rfl; exact rfl); refine WL_nil ?_; refine th_norm ?_; refine W_seq ?_; refine W_seq ?_; refine W_region ?_; (apply wl_field; exact rfl; (repeat (first | exact At.here | apply At.there)); exact rfl); (apply wl_load1; (first | exact .inl rfl | exact .inr ⟨rfl, rfl⟩); (repeat (first | exact At.here | apply At.there)); exact rfl; exact rfl); (apply wl_lenSl; exact rfl; exact rfl); (apply wl_gtr; exact rfl; exact rfl; exact rfl); (apply wl_move; exact rfl; exact rfl))
  refine wl_part rfl rfl (fun g1 => ?_) (fun g1 => ?_)
  · ((apply wl_no; exact rfl; exact rfl; exact rfl; exact rfl; exact rfl); (apply wl_no; exact rfl; exact rfl; exact rfl; exact rfl; exact rfl); (apply wl_no; exact rfl; exact rfl; exact rfl; exact rfl; exact rfl); (apply wl_no; exact rfl; exact rfl; exact rfl; exact rfl; exact rfl); (apply wl_pick_t; exact rfl; exact rfl; exact rfl); (apply wl_move; exact rfl; exact rfl); (apply wl_no; exact rfl; exact rfl; exact rfl; exact rfl; exact rfl); (apply wl_no; exact rfl; exact rfl; exact rfl; exact rfl; exact rfl); (apply wl_no; exact rfl; exact rfl; exact rfl; exact rfl; exact rfl); (apply wl_no; exact rfl; exact rfl; exact rfl; exact rfl; exact rfl); (apply wl_pick_t; exact rfl; exact rfl; exact rfl); (apply wl_move; exact rfl; exact rfl); (apply wl_no; exact rfl; exact rfl; exact rfl; exact rfl; exact rfl); (apply wl_no; exact rfl; exact rfl; exact rfl; exact rfl; exact rfl); (apply wl_no; exact rfl; exact rfl; exact rfl; exact rfl; exact rfl); (apply wl_no; exact rfl; exact rfl; exact rfl; exact rfl; exact rfl); (apply wl_pick_t; exact rfl; exact rfl; exact rfl); refine WL_nil ?_; refine th_norm ?_; (apply w_true; exact rfl); refine W_seq ?_; refine W_region ?_; (apply wl_assign; exact rfl; exact rfl); refine WL_nil ?_; refine th_norm ?_; refine W_ret ?_; refine th_ret ?_; refine rt_norm ?_)
    (apply res1; exact rfl; exact rfl; exact ⟨(congrArg (fun b => AV.val (Value.bool b)) (by simp at g1; simp [greatF, g1])), rfl⟩)
  · ((apply wl_yes; exact rfl; exact rfl; exact rfl); (apply wl_field; exact rfl; (repeat (first | exact At.here | apply At.there)); exact rfl); (apply wl_yes; exact rfl; exact rfl; exact rfl); (apply wl_load1; (first | exact .inl rfl | exact .inr ⟨rfl, rfl⟩); (repeat (first | exact At.here | apply At.there)); exact rfl; exact rfl); (apply wl_yes; exact rfl; exact rfl; exact rfl); (apply wl_lenSl; exact rfl; exact rfl); (apply wl_yes; exact rfl; exact rfl; exact rfl); (apply wl_gtr; exact rfl; exact rfl; exact rfl); (apply wl_pick_f; exact rfl; exact rfl; exact rfl); (apply wl_move; exact rfl; exact rfl))
    refine wl_part rfl rfl (fun g2 => ?_) (fun g2 => ?_)
    · ((apply wl_no; exact rfl; exact rfl; exact rfl; exact rfl; exact rfl); (apply wl_no; exact rfl; exact rfl; exact rfl; exact rfl; exact rfl); (apply wl_no; exact rfl; exact rfl; exact rfl; exact rfl; exact rfl); (apply wl_no; exact rfl; exact rfl; exact rfl; exact rfl; exact rfl); (apply wl_pick_t; exact rfl; exact rfl; exact rfl); (apply wl_move; exact rfl; exact rfl); (apply wl_no; exact rfl; exact rfl; exact rfl; exact rfl; exact rfl); (apply wl_no; exact rfl; exact rfl; exact rfl; exact rfl; exact rfl); (apply wl_no; exact rfl; exact rfl; exact rfl; exact rfl; exact rfl); (apply wl_no; exact rfl; exact rfl; exact rfl; exact rfl; exact rfl); (apply wl_pick_t; exact rfl; exact rfl; exact rfl); refine WL_nil ?_; refine th_norm ?_; (apply w_true; exact rfl); refine W_seq ?_; refine W_region ?_; (apply wl_assign; exact rfl; exact rfl); refine WL_nil ?_; refine th_norm ?_; refine W_ret ?_; refine th_ret ?_; refine rt_norm ?_)
      (apply res1; exact rfl; exact rfl; exact ⟨(congrArg (fun b => AV.val (Value.bool b)) (by simp at g2; simp [greatF, g2])), rfl⟩)
    · ((apply wl_yes; exact rfl; exact rfl; exact rfl); (apply wl_field; exact rfl; (repeat (first | exact At.here | apply At.there)); exact rfl); (apply wl_yes; exact rfl; exact rfl; exact rfl); (apply wl_load1; (first | exact .inl rfl | exact .inr ⟨rfl, rfl⟩); (repeat (first | exact At.here | apply At.there)); exact rfl; exact rfl); (apply wl_yes; exact rfl; exact rfl; exact rfl); (apply wl_lenSl; exact rfl; exact rfl); (apply wl_yes; exact rfl; exact rfl; exact rfl); (apply wl_gtr; exact rfl; exact rfl; exact rfl); (apply wl_pick_f; exact rfl; exact rfl; exact rfl); (apply wl_move; exact rfl; exact rfl))
      refine wl_part rfl rfl (fun g3 => ?_) (fun g3 => ?_)
      · ((apply wl_no; exact rfl; exact rfl; exact rfl; exact rfl; exact rfl); (apply wl_no; exact rfl; exact rfl; exact rfl; exact rfl; exact rfl); (apply wl_no; exact rfl; exact rfl; exact rfl; exact rfl; exact rfl); (apply wl_no; exact rfl; exact rfl; exact rfl; exact rfl; exact rfl); (apply wl_pick_t; exact rfl; exact rfl; exact rfl); refine WL_nil ?_; refine th_norm ?_; (apply w_true; exact rfl); refine W_seq ?_; refine W_region ?_; (apply wl_assign; exact rfl; exact rfl); refine WL_nil ?_; refine th_norm ?_; refine W_ret ?_; refine th_ret ?_; refine rt_norm ?_)
        (apply res1; exact rfl; exact rfl; exact ⟨(congrArg (fun b => AV.val (Value.bool b)) (by simp at g3; simp [greatF, g3])), rfl⟩)
      · ((apply wl_yes; exact rfl; exact rfl; exact rfl); (apply wl_field; exact rfl; (repeat (first | exact At.here | apply At.there)); exact rfl); (apply wl_yes; exact rfl; exact rfl; exact rfl); (apply wl_load1; (first | exact .inl rfl | exact .inr ⟨rfl, rfl⟩); (repeat (first | exact At.here | apply At.there)); exact rfl; exact rfl); (apply wl_yes; exact rfl; exact rfl; exact rfl); (apply wl_lenSl; exact rfl; exact rfl); (apply wl_yes; exact rfl; exact rfl; exact rfl); (apply wl_gtr; exact rfl; exact rfl; exact rfl); (apply wl_pick_f; exact rfl; exact rfl; exact rfl); refine WL_nil ?_; refine th_norm ?_)
        refine w_cond rfl (fun g4 => ?_) (fun g4 => ?_)
        · (refine W_seq ?_; refine W_region ?_; (apply wl_assign; exact rfl; exact rfl); refine WL_nil ?_; refine th_norm ?_; refine W_ret ?_; refine th_ret ?_; refine rt_norm ?_)
          (apply res1; exact rfl; exact rfl; exact ⟨(congrArg (fun b => AV.val (Value.bool b)) (by simp at g4; simp [greatF, g4])), rfl⟩)
        · have hW : greatF f = f.bs.any fun b => decide ((10 : Int) < b.st.length) := by unfold greatF; rw [g1, g2, g3, g4]; simp
          have hbl : f.bs.length ≤ 16 := by simp at g3; omega
          rw [hW]
          (refine W_skip ?_; refine th_norm ?_; refine W_seq ?_; refine W_seq ?_; refine W_region ?_; (apply wl_field; exact rfl; (repeat (first | exact At.here | apply At.there)); exact rfl); (apply wl_load1; (first | exact .inl rfl | exact .inr ⟨rfl, rfl⟩); (repeat (first | exact At.here | apply At.there)); exact rfl; exact rfl); (apply wl_lenSl; exact rfl; exact rfl); (apply wl_move; exact rfl; exact rfl); refine WL_nil ?_; refine th_norm ?_; refine W_block ?_)
          refine W_loopJ (fun (k : Nat) => ⟨[(28, .sl 4 biC f.bs), (29, .val (.int .i64 f.bs.length)), (30, .val (.int .i64 k))], []⟩) (fun k => k ≤ f.bs.length ∧ (f.bs.take k).any (fun b => decide ((10 : Int) < b.st.length)) = false) (fun k => f.bs.length - k) 0 (fun _ _ st => st_sub2 st (by (repeat (first | exact trivial | refine ⟨rfl, ?_⟩))) (by (repeat (first | exact SubP.nil | (apply SubP.cons; (repeat (first | exact Rm.here | apply Rm.there))))))) ?hj0 ?round
          case hj0 => simp
          case round =>
            rintro k ⟨hk, hno⟩
            (refine W_seq ?_; refine W_region ?_; (apply wl_lss; exact rfl; exact rfl; exact rfl); refine WL_nil ?_; refine th_norm ?_; refine W_seq ?_)
            refine w_cond rfl (fun hlt => ?_) (fun hlt => ?_)
            · have hlt' : k < f.bs.length := by simpa using hlt
              have htk : f.bs.take (k + 1) = f.bs.take k ++ [f.bs[k]] := List.take_succ_eq_append_getElem hlt'
              (refine W_skip ?_; refine th_norm ?_; refine W_seq ?_; refine W_block ?_; refine W_seq ?_; refine W_region ?_; (apply wl_indexSl; exact rfl; exact rfl; exact rfl; (first | assumption | omega | (simp; omega)); exact rfl); (apply wl_loadEN; exact rfl; (case hk => first | assumption | omega | exact Nat.one_pos | (simp; omega)); exact rfl; exact rfl); (apply wl_alloc; exact rfl; intro p hp); (apply wl_store; (first | exact .inl rfl | exact .inr ⟨rfl, rfl⟩); (repeat (first | exact At.here | apply At.there)); exact rfl; exact inferInstance; exact inferInstance; exact inferInstance; exact rfl; (first | exact (of_decide_eq_true rfl) | (simp; omega) | decide)); refine WL_nil ?_; refine th_norm ?_; refine W_seq ?_; refine W_region ?_; (apply wl_field; exact rfl; (repeat (first | exact At.here | apply At.there)); exact rfl); (apply wl_load1; (first | exact .inl rfl | exact .inr ⟨rfl, rfl⟩); (repeat (first | exact At.here | apply At.there)); exact rfl; exact rfl); (apply wl_lenSl; exact rfl; exact rfl); (apply wl_gtr; exact rfl; exact rfl; exact rfl); refine WL_nil ?_; refine th_norm ?_)
              refine w_cond rfl (fun hg => ?_) (fun hg => ?_)
              · (refine W_seq ?_; refine W_region ?_; (apply wl_assign; exact rfl; exact rfl); refine WL_nil ?_; refine th_norm ?_; refine W_ret ?_; refine bl_ret ?_; refine th_ret ?_; refine th_ret ?_; refine bl_ret ?_; refine th_ret ?_; refine rt_norm ?_)
                have : f.bs.any (fun b => decide ((10 : Int) < b.st.length)) = true := List.any_eq_true.2 ⟨_, List.getElem_mem hlt', hg⟩
                (apply res1; exact rfl; exact rfl; exact ⟨(congrArg (fun b => AV.val (Value.bool b)) (by rw [this])), rfl⟩)
              · (refine W_skip ?_; refine bl_norm ?_; refine th_norm ?_; refine W_region ?_; (apply wl_add; exact rfl; exact rfl; omega; omega; exact rfl); (apply wl_move; exact rfl; exact rfl); refine WL_nil ?_; refine th_norm ?_)
                (refine ⟨k + 1, fun _ _ st => st_sub2 st ?_ ?_, ?_, ?_⟩; (repeat (first | exact trivial | refine ⟨rfl, ?_⟩)); (repeat (first | exact SubP.nil | (apply SubP.cons; (repeat (first | exact Rm.here | apply Rm.there))))))
                · exact ⟨by omega, by rw [htk, List.any_append, hno]; simpa using hg⟩
                · omega
            · (refine W_exit ?_; refine th_exit ?_; refine th_exit ?_; refine bl_eq ?_; refine th_norm ?_; refine W_seq ?_; refine W_region ?_; (apply wl_assign; exact rfl; exact rfl); refine WL_nil ?_; refine th_norm ?_; refine W_ret ?_; refine rt_norm ?_)
              have hkk : k = f.bs.length := by simp at hlt; omega
              subst hkk
              rw [List.take_length] at hno
              (apply res1; exact rfl; exact rfl; exact ⟨(congrArg (fun b => AV.val (Value.bool b)) hno.symm), rfl⟩)
set_option maxRecDepth 20000 in
theorem sameInts_con (xs ys : List Int) (hl : xs.length ≤ 1000000) (hl2 : ys.length ≤ 1000000) : Con Tryd.prog 88 [.sl 1 iC xs, .sl 1 iC ys] [] (Is (.val (.bool (decide (xs = ys)))) []) := by
  refine con_of Tryd.func88 rfl (enters_of Tryd.func88 (by kernel_rfl) rfl) rfl ?_; intro n w0 F0 G0
  (refine W_seq ?_; refine W_region ?_; (apply wl_assign; exact rfl; exact rfl); refine WL_nil ?_; refine th_norm ?_; refine W_seq ?_; refine W_seq ?_; refine W_region ?_; (apply wl_move; exact rfl; exact rfl); (apply wl_lenSl; exact rfl; exact rfl); (apply wl_move; exact rfl; exact rfl); (apply wl_lenSl; exact rfl; exact rfl); (apply wl_neq; exact rfl; exact rfl; exact rfl); refine WL_nil ?_; refine th_norm ?_)
  refine w_cond rfl (fun hne => ?_) (fun hne => ?_)
  · have hne' : xs ≠ ys := by intro e; rw [e] at hne; simp at hne
    (refine W_seq ?_; refine W_region ?_; (apply wl_assign; exact rfl; exact rfl); refine WL_nil ?_; refine th_norm ?_; refine W_ret ?_; refine th_ret ?_; refine rt_norm ?_)
    (apply res1; exact rfl; exact rfl; exact ⟨(congrArg (fun b => AV.val (Value.bool b)) (by simp [hne'])), rfl⟩)
  · have hlen : xs.length = ys.length := by simp at hne; omega
    (refine W_skip ?_; refine th_norm ?_; refine W_seq ?_; refine W_seq ?_; refine W_region ?_; (apply wl_assign; exact rfl; exact rfl); refine WL_nil ?_; refine th_norm ?_; refine W_block ?_)
    refine W_loopJ (fun (k : Nat) => ⟨[(0, .sl 1 iC xs), (1, .sl 1 iC ys), (5, .val (.int .i64 k))], []⟩) (fun k => k ≤ xs.length ∧ xs.take k = ys.take k) (fun k => xs.length - k) 0 (fun _ _ st => st_sub2 st (by (repeat (first | exact trivial | refine ⟨rfl, ?_⟩))) (by (repeat (first | exact SubP.nil | (apply SubP.cons; (repeat (first | exact Rm.here | apply Rm.there))))))) ?hj0 ?round
    case hj0 => simp
    case round =>
      rintro k ⟨hk, hall⟩
      (refine W_seq ?_; refine W_seq ?_; refine W_region ?_; (apply wl_move; exact rfl; exact rfl); (apply wl_move; exact rfl; exact rfl); (apply wl_lenSl; exact rfl; exact rfl); (apply wl_lss; exact rfl; exact rfl; exact rfl); refine WL_nil ?_; refine th_norm ?_)
      refine w_cond rfl (fun hlt => ?_) (fun hlt => ?_)
      · have hlt' : k < xs.length := by simpa using hlt
        have hlt2 : k < ys.length := by omega
        have hq1 : xs[k]? = some xs[k] := List.getElem?_eq_getElem hlt'
        have hq2 : ys[k]? = some ys[k] := List.getElem?_eq_getElem hlt2
        (refine W_skip ?_; refine th_norm ?_; refine W_seq ?_; refine W_block ?_; refine W_seq ?_)
        refine W_run 8 [17, 18, 19, 20, 21, 22, 23, 24] [0, 1, 2, 3, 4, 5, 6, 7] Cut.nil rfl (by repeat (first | exact Flt.nil | (apply Flt.keep; exact rfl) | (apply Flt.drop; exact rfl))) mixedS (by kernel_rfl) rfl ?_
        apply Run.pv [] []
        · exact rfl
        · intro vs; apply ltr_pk; (repeat (first | exact Pk.nil | (apply Pk.pv; exact rfl; exact rfl) | (apply Pk.tok; exact rfl; exact rfl)))
          (first | (refine ltr ?_; apply lt_move; exact rfl))
        · repeat (first | exact App.nil | apply App.cons)
        apply Run.pv [] []
        · exact rfl
        · intro vs; apply ltr_pk; (repeat (first | exact Pk.nil | (apply Pk.pv; exact rfl; exact rfl) | (apply Pk.tok; exact rfl; exact rfl)))
          (first | (refine ltr ?_; apply lt_move; exact rfl))
        · repeat (first | exact App.nil | apply App.cons)
        apply Run.pv [0, 1] []
        · exact rfl
        · intro vs; apply ltr_pk; (repeat (first | exact Pk.nil | (apply Pk.pv; exact rfl; exact rfl) | (apply Pk.tok; exact rfl; exact rfl)))
          (first | (refine ltr ?_; apply lt_indexSl; exact rfl; exact rfl; exact rfl; (first | assumption | omega | (simp; omega))) | (apply ltr_indexRow; exact rfl; (repeat (first | exact At.here | apply At.there)); exact rfl; exact rfl; (first | assumption | omega | (simp; omega))) | (apply ltr_indexArr; exact rfl; (repeat (first | exact At.here | apply At.there)); exact rfl; exact rfl; (first | assumption | omega | decide)))
        · repeat (first | exact App.nil | apply App.cons)
        apply Run.pv [2] []
        · exact rfl
        · intro vs; apply ltr_pk; (repeat (first | exact Pk.nil | (apply Pk.pv; exact rfl; exact rfl) | (apply Pk.tok; exact rfl; exact rfl)))
          (first | (apply ltr_load1; (first | exact .inl rfl | exact .inr ⟨rfl, rfl⟩); (repeat (first | exact At.here | apply At.there)); exact rfl) | (refine ltr ?_; apply lt_loadE1'; exact rfl; assumption; exact rfl) | (refine ltr ?_; apply lt_loadEN'; exact rfl; assumption; exact rfl) | (apply ltr_loadN; (first | exact .inl rfl | exact .inr ⟨rfl, rfl⟩); (repeat (first | exact At.here | apply At.there)); exact rfl) | (apply ltr_loadR1; exact rfl; (repeat (first | exact At.here | apply At.there)); assumption; exact rfl) | (apply ltr_loadRN; exact rfl; (repeat (first | exact At.here | apply At.there)); assumption))
        · repeat (first | exact App.nil | apply App.cons)
        apply Run.pv [] []
        · exact rfl
        · intro vs; apply ltr_pk; (repeat (first | exact Pk.nil | (apply Pk.pv; exact rfl; exact rfl) | (apply Pk.tok; exact rfl; exact rfl)))
          (first | (refine ltr ?_; apply lt_move; exact rfl))
        · repeat (first | exact App.nil | apply App.cons)
        apply Run.pv [] []
        · exact rfl
        · intro vs; apply ltr_pk; (repeat (first | exact Pk.nil | (apply Pk.pv; exact rfl; exact rfl) | (apply Pk.tok; exact rfl; exact rfl)))
          (first | (refine ltr ?_; apply lt_move; exact rfl))
        · repeat (first | exact App.nil | apply App.cons)
        apply Run.pv [4, 5] []
        · exact rfl
        · intro vs; apply ltr_pk; (repeat (first | exact Pk.nil | (apply Pk.pv; exact rfl; exact rfl) | (apply Pk.tok; exact rfl; exact rfl)))
          (first | (refine ltr ?_; apply lt_indexSl; exact rfl; exact rfl; exact rfl; (first | assumption | omega | (simp; omega))) | (apply ltr_indexRow; exact rfl; (repeat (first | exact At.here | apply At.there)); exact rfl; exact rfl; (first | assumption | omega | (simp; omega))) | (apply ltr_indexArr; exact rfl; (repeat (first | exact At.here | apply At.there)); exact rfl; exact rfl; (first | assumption | omega | decide)))
        · repeat (first | exact App.nil | apply App.cons)
        apply Run.pv [6] []
        · exact rfl
        · intro vs; apply ltr_pk; (repeat (first | exact Pk.nil | (apply Pk.pv; exact rfl; exact rfl) | (apply Pk.tok; exact rfl; exact rfl)))
          (first | (apply ltr_load1; (first | exact .inl rfl | exact .inr ⟨rfl, rfl⟩); (repeat (first | exact At.here | apply At.there)); exact rfl) | (refine ltr ?_; apply lt_loadE1'; exact rfl; assumption; exact rfl) | (refine ltr ?_; apply lt_loadEN'; exact rfl; assumption; exact rfl) | (apply ltr_loadN; (first | exact .inl rfl | exact .inr ⟨rfl, rfl⟩); (repeat (first | exact At.here | apply At.there)); exact rfl) | (apply ltr_loadR1; exact rfl; (repeat (first | exact At.here | apply At.there)); assumption; exact rfl) | (apply ltr_loadRN; exact rfl; (repeat (first | exact At.here | apply At.there)); assumption))
        · repeat (first | exact App.nil | apply App.cons)
        refine ⟨⟨by kernel_rfl, by kernel_rfl⟩, fun vs => ?_⟩
        apply WL_auto [3, 7]
        · repeat (first | exact Pk.nil | (apply Pk.pv; exact rfl; exact rfl) | (apply Pk.tok; exact rfl; exact rfl))
        · repeat (first | exact Nrm.nil | apply Nrm.cons)
        · kernel_rfl
        · kernel_rfl
        ((apply wl_neq; exact rfl; exact rfl; exact rfl); refine WL_nil ?_; refine th_norm ?_)
        refine w_cond rfl (fun hg => ?_) (fun hg => ?_)
        · have hne' : xs ≠ ys := by intro e; subst e; simp at hg
          (refine W_seq ?_; refine W_region ?_; (apply wl_assign; exact rfl; exact rfl); refine WL_nil ?_; refine th_norm ?_; refine W_ret ?_; refine bl_ret ?_; refine th_ret ?_; refine th_ret ?_; refine bl_ret ?_; refine th_ret ?_; refine rt_norm ?_)
          (apply res1; exact rfl; exact rfl; exact ⟨(congrArg (fun b => AV.val (Value.bool b)) (by simp [hne'])), rfl⟩)
        · (refine W_skip ?_; refine bl_norm ?_; refine th_norm ?_; refine W_region ?_; (apply wl_move; exact rfl; exact rfl); (apply wl_add; exact rfl; exact rfl; omega; omega; exact rfl); (apply wl_assign; exact rfl; exact rfl); refine WL_nil ?_; refine th_norm ?_)
          (refine ⟨k + 1, fun _ _ st => st_sub2 st ?_ ?_, ?_, ?_⟩; (repeat (first | exact trivial | refine ⟨rfl, ?_⟩)); (repeat (first | exact SubP.nil | (apply SubP.cons; (repeat (first | exact Rm.here | apply Rm.there))))))
          · refine ⟨by omega, ?_⟩
            rw [List.take_succ_eq_append_getElem hlt', List.take_succ_eq_append_getElem hlt2, hall]
            simp at hg; rw [hg]
          · omega
      · (refine W_exit ?_; refine th_exit ?_; refine th_exit ?_; refine bl_eq ?_; refine th_norm ?_; refine W_seq ?_; refine W_region ?_; (apply wl_assign; exact rfl; exact rfl); refine WL_nil ?_; refine th_norm ?_; refine W_ret ?_; refine rt_norm ?_)
        have hkk : k = xs.length := by simp at hlt; omega
        have he : xs = ys := by
          rw [List.take_of_length_le (by omega), List.take_of_length_le (by omega)] at hall; exact hall
        (apply res1; exact rfl; exact rfl; exact ⟨(congrArg (fun b => AV.val (Value.bool b)) (by simp [he])), rfl⟩)
set_option maxRecDepth 20000 in
theorem sameInts7_con (xs ys : List Int) (hl : xs.length ≤ 1000000) (hl2 : ys.length ≤ 1000000) : Con Tryd.prog 65 [.sl 1 iC xs, .sl 1 iC ys] [] (Is (.val (.bool (decide (xs = ys)))) []) := by
  refine con_of Tryd.func65 rfl (enters_of Tryd.func65 (by kernel_rfl) rfl) rfl ?_; intro n w0 F0 G0
  (refine W_seq ?_; refine W_region ?_; (apply wl_assign; exact rfl; exact rfl); refine WL_nil ?_; refine th_norm ?_; refine W_seq ?_; refine W_region ?_; (apply wl_move; exact rfl; exact rfl); (apply wl_move; exact rfl; exact rfl))
  (first | (apply wl_call (sameInts_con _ _ hl hl2); exact rfl; exact rfl) | (apply wl_callR (sameInts_con _ _ hl hl2); exact rfl; (repeat (first | exact At.here | apply At.there)); exact rfl))
  ((apply wl_assign; exact rfl; exact rfl); refine WL_nil ?_; refine th_norm ?_; refine W_ret ?_; refine rt_norm ?_)
  (apply res1; exact rfl; exact rfl; exact ⟨rfl, rfl⟩)
set_option maxRecDepth 20000 in
theorem sameInts8_con (xs ys : List Int) (hl : xs.length ≤ 1000000) (hl2 : ys.length ≤ 1000000) : Con Tryd.prog 13 [.sl 1 iC xs, .sl 1 iC ys] [] (Is (.val (.bool (decide (xs = ys)))) []) := by
  refine con_of Tryd.func13 rfl (enters_of Tryd.func13 (by kernel_rfl) rfl) rfl ?_; intro n w0 F0 G0
  (refine W_seq ?_; refine W_region ?_; (apply wl_assign; exact rfl; exact rfl); refine WL_nil ?_; refine th_norm ?_; refine W_seq ?_; refine W_region ?_; (apply wl_move; exact rfl; exact rfl); (apply wl_move; exact rfl; exact rfl))
  (first | (apply wl_call (sameInts7_con _ _ hl hl2); exact rfl; exact rfl) | (apply wl_callR (sameInts7_con _ _ hl hl2); exact rfl; (repeat (first | exact At.here | apply At.there)); exact rfl))
  ((apply wl_assign; exact rfl; exact rfl); refine WL_nil ?_; refine th_norm ?_; refine W_ret ?_; refine rt_norm ?_)
  (apply res1; exact rfl; exact rfl; exact ⟨rfl, rfl⟩)
theorem payNe (x y : Pay) : (!decide ([x.a, x.b, x.p] = [y.a, y.b, y.p])) = !decide (x = y) := by
  congr 1
  refine decide_eq_decide.2 ?_
  cases x; cases y; simp
set_option maxRecDepth 20000 in
theorem samePays_con (xs ys : List Pay) (hl : xs.length ≤ 1000000) (hl2 : ys.length ≤ 1000000) : Con Tryd.prog 15 [.sl 3 payC xs, .sl 3 payC ys] [] (Is (.val (.bool (decide (xs = ys)))) []) := by
  refine con_of Tryd.func15 rfl (enters_of Tryd.func15 (by kernel_rfl) rfl) rfl ?_; intro n w0 F0 G0
  (refine W_seq ?_; refine W_region ?_; (apply wl_assign; exact rfl; exact rfl); refine WL_nil ?_; refine th_norm ?_; refine W_seq ?_; refine W_seq ?_; refine W_region ?_; (apply wl_move; exact rfl; exact rfl); (apply wl_lenSl; exact rfl; exact rfl); (apply wl_move; exact rfl; exact rfl); (apply wl_lenSl; exact rfl; exact rfl); (apply wl_neq; exact rfl; exact rfl; exact rfl); refine WL_nil ?_; refine th_norm ?_)
  refine w_cond rfl (fun hne => ?_) (fun hne => ?_)
  · have hne' : xs ≠ ys := by intro e; rw [e] at hne; simp at hne
    (refine W_seq ?_; refine W_region ?_; (apply wl_assign; exact rfl; exact rfl); refine WL_nil ?_; refine th_norm ?_; refine W_ret ?_; refine th_ret ?_; refine rt_norm ?_)
    (apply res1; exact rfl; exact rfl; exact ⟨(congrArg (fun b => AV.val (Value.bool b)) (by simp [hne'])), rfl⟩)
  · have hlen : xs.length = ys.length := by simp at hne; omega
    (refine W_skip ?_; refine th_norm ?_; refine W_seq ?_; refine W_seq ?_; refine W_region ?_; (apply wl_assign; exact rfl; exact rfl); refine WL_nil ?_; refine th_norm ?_; refine W_block ?_)
    refine W_loopJ (fun (k : Nat) => ⟨[(0, .sl 3 payC xs), (1, .sl 3 payC ys), (5, .val (.int .i64 k))], []⟩) (fun k => k ≤ xs.length ∧ xs.take k = ys.take k) (fun k => xs.length - k) 0 (fun _ _ st => st_sub2 st (by (repeat (first | exact trivial | refine ⟨rfl, ?_⟩))) (by (repeat (first | exact SubP.nil | (apply SubP.cons; (repeat (first | exact Rm.here | apply Rm.there))))))) ?hj0 ?round
    case hj0 => simp
    case round =>
      rintro k ⟨hk, hall⟩
      (refine W_seq ?_; refine W_seq ?_; refine W_region ?_; (apply wl_move; exact rfl; exact rfl); (apply wl_move; exact rfl; exact rfl); (apply wl_lenSl; exact rfl; exact rfl); (apply wl_lss; exact rfl; exact rfl; exact rfl); refine WL_nil ?_; refine th_norm ?_)
      refine w_cond rfl (fun hlt => ?_) (fun hlt => ?_)
      · have hlt' : k < xs.length := by simpa using hlt
        have hlt2 : k < ys.length := by omega
        have hq1 : xs[k]? = some xs[k] := List.getElem?_eq_getElem hlt'
        have hq2 : ys[k]? = some ys[k] := List.getElem?_eq_getElem hlt2
        (refine W_skip ?_; refine th_norm ?_; refine W_seq ?_; refine W_block ?_; refine W_seq ?_)
        refine W_run 8 [17, 18, 19, 20, 21, 22, 23, 24] [0, 1, 2, 3, 4, 5, 6, 7] Cut.nil rfl (by repeat (first | exact Flt.nil | (apply Flt.keep; exact rfl) | (apply Flt.drop; exact rfl))) mixedS (by kernel_rfl) rfl ?_
        apply Run.pv [] []
        · exact rfl
        · intro vs; apply ltr_pk; (repeat (first | exact Pk.nil | (apply Pk.pv; exact rfl; exact rfl) | (apply Pk.tok; exact rfl; exact rfl)))
          (first | (refine ltr ?_; apply lt_move; exact rfl))
        · repeat (first | exact App.nil | apply App.cons)
        apply Run.pv [] []
        · exact rfl
        · intro vs; apply ltr_pk; (repeat (first | exact Pk.nil | (apply Pk.pv; exact rfl; exact rfl) | (apply Pk.tok; exact rfl; exact rfl)))
          (first | (refine ltr ?_; apply lt_move; exact rfl))
        · repeat (first | exact App.nil | apply App.cons)
        apply Run.pv [0, 1] []
        · exact rfl
        · intro vs; apply ltr_pk; (repeat (first | exact Pk.nil | (apply Pk.pv; exact rfl; exact rfl) | (apply Pk.tok; exact rfl; exact rfl)))
          (first | (refine ltr ?_; apply lt_indexSl; exact rfl; exact rfl; exact rfl; (first | assumption | omega | (simp; omega))) | (apply ltr_indexRow; exact rfl; (repeat (first | exact At.here | apply At.there)); exact rfl; exact rfl; (first | assumption | omega | (simp; omega))) | (apply ltr_indexArr; exact rfl; (repeat (first | exact At.here | apply At.there)); exact rfl; exact rfl; (first | assumption | omega | decide)))
        · repeat (first | exact App.nil | apply App.cons)
        apply Run.pv [2] []
        · exact rfl
        · intro vs; apply ltr_pk; (repeat (first | exact Pk.nil | (apply Pk.pv; exact rfl; exact rfl) | (apply Pk.tok; exact rfl; exact rfl)))
          (first | (apply ltr_load1; (first | exact .inl rfl | exact .inr ⟨rfl, rfl⟩); (repeat (first | exact At.here | apply At.there)); exact rfl) | (refine ltr ?_; apply lt_loadE1'; exact rfl; assumption; exact rfl) | (refine ltr ?_; apply lt_loadEN'; exact rfl; assumption; exact rfl) | (apply ltr_loadN; (first | exact .inl rfl | exact .inr ⟨rfl, rfl⟩); (repeat (first | exact At.here | apply At.there)); exact rfl) | (apply ltr_loadR1; exact rfl; (repeat (first | exact At.here | apply At.there)); assumption; exact rfl) | (apply ltr_loadRN; exact rfl; (repeat (first | exact At.here | apply At.there)); assumption))
        · repeat (first | exact App.nil | apply App.cons)
        apply Run.pv [] []
        · exact rfl
        · intro vs; apply ltr_pk; (repeat (first | exact Pk.nil | (apply Pk.pv; exact rfl; exact rfl) | (apply Pk.tok; exact rfl; exact rfl)))
          (first | (refine ltr ?_; apply lt_move; exact rfl))
        · repeat (first | exact App.nil | apply App.cons)
        apply Run.pv [] []
        · exact rfl
        · intro vs; apply ltr_pk; (repeat (first | exact Pk.nil | (apply Pk.pv; exact rfl; exact rfl) | (apply Pk.tok; exact rfl; exact rfl)))
          (first | (refine ltr ?_; apply lt_move; exact rfl))
        · repeat (first | exact App.nil | apply App.cons)
        apply Run.pv [4, 5] []
        · exact rfl
        · intro vs; apply ltr_pk; (repeat (first | exact Pk.nil | (apply Pk.pv; exact rfl; exact rfl) | (apply Pk.tok; exact rfl; exact rfl)))
          (first | (refine ltr ?_; apply lt_indexSl; exact rfl; exact rfl; exact rfl; (first | assumption | omega | (simp; omega))) | (apply ltr_indexRow; exact rfl; (repeat (first | exact At.here | apply At.there)); exact rfl; exact rfl; (first | assumption | omega | (simp; omega))) | (apply ltr_indexArr; exact rfl; (repeat (first | exact At.here | apply At.there)); exact rfl; exact rfl; (first | assumption | omega | decide)))
        · repeat (first | exact App.nil | apply App.cons)
        apply Run.pv [6] []
        · exact rfl
        · intro vs; apply ltr_pk; (repeat (first | exact Pk.nil | (apply Pk.pv; exact rfl; exact rfl) | (apply Pk.tok; exact rfl; exact rfl)))
          (first | (apply ltr_load1; (first | exact .inl rfl | exact .inr ⟨rfl, rfl⟩); (repeat (first | exact At.here | apply At.there)); exact rfl) | (refine ltr ?_; apply lt_loadE1'; exact rfl; assumption; exact rfl) | (refine ltr ?_; apply lt_loadEN'; exact rfl; assumption; exact rfl) | (apply ltr_loadN; (first | exact .inl rfl | exact .inr ⟨rfl, rfl⟩); (repeat (first | exact At.here | apply At.there)); exact rfl) | (apply ltr_loadR1; exact rfl; (repeat (first | exact At.here | apply At.there)); assumption; exact rfl) | (apply ltr_loadRN; exact rfl; (repeat (first | exact At.here | apply At.there)); assumption))
        · repeat (first | exact App.nil | apply App.cons)
        refine ⟨⟨by kernel_rfl, by kernel_rfl⟩, fun vs => ?_⟩
        apply WL_auto [3, 7]
        · repeat (first | exact Pk.nil | (apply Pk.pv; exact rfl; exact rfl) | (apply Pk.tok; exact rfl; exact rfl))
        · repeat (first | exact Nrm.nil | apply Nrm.cons)
        · kernel_rfl
        · kernel_rfl
        ((apply wl_neqN; exact rfl; exact rfl; (repeat (first | exact Ints.nil | apply Ints.cons)); (repeat (first | exact Ints.nil | apply Ints.cons)); exact rfl; exact rfl; exact rfl); refine WL_nil ?_; refine th_norm ?_)
        rw [payNe]
        refine w_cond rfl (fun hg => ?_) (fun hg => ?_)
        · have hne' : xs ≠ ys := by intro e; subst e; simp at hg
          (refine W_seq ?_; refine W_region ?_; (apply wl_assign; exact rfl; exact rfl); refine WL_nil ?_; refine th_norm ?_; refine W_ret ?_; refine bl_ret ?_; refine th_ret ?_; refine th_ret ?_; refine bl_ret ?_; refine th_ret ?_; refine rt_norm ?_)
          (apply res1; exact rfl; exact rfl; exact ⟨(congrArg (fun b => AV.val (Value.bool b)) (by simp [hne'])), rfl⟩)
        · (refine W_skip ?_; refine bl_norm ?_; refine th_norm ?_; refine W_region ?_; (apply wl_move; exact rfl; exact rfl); (apply wl_add; exact rfl; exact rfl; omega; omega; exact rfl); (apply wl_assign; exact rfl; exact rfl); refine WL_nil ?_; refine th_norm ?_)
          (refine ⟨k + 1, fun _ _ st => st_sub2 st ?_ ?_, ?_, ?_⟩; (repeat (first | exact trivial | refine ⟨rfl, ?_⟩)); (repeat (first | exact SubP.nil | (apply SubP.cons; (repeat (first | exact Rm.here | apply Rm.there))))))
          · refine ⟨by omega, ?_⟩
            rw [List.take_succ_eq_append_getElem hlt', List.take_succ_eq_append_getElem hlt2, hall]
            simp at hg; rw [hg]
          · omega
      · (refine W_exit ?_; refine th_exit ?_; refine th_exit ?_; refine bl_eq ?_; refine th_norm ?_; refine W_seq ?_; refine W_region ?_; (apply wl_assign; exact rfl; exact rfl); refine WL_nil ?_; refine th_norm ?_; refine W_ret ?_; refine rt_norm ?_)
        have hkk : k = xs.length := by simp at hlt; omega
        have he : xs = ys := by
          rw [List.take_of_length_le (by omega), List.take_of_length_le (by omega)] at hall; exact hall
        (apply res1; exact rfl; exact rfl; exact ⟨(congrArg (fun b => AV.val (Value.bool b)) (by simp [he])), rfl⟩)
end Go.Proofs.YtbkellknlcageaaDoor.Sw
