/- The program's 'opened'. -/
import Derived.Test.YtbkellknlcageaaDoorFloorM
namespace Go.Proofs.YtbkellknlcageaaDoor.Sw
open Go.RowKit Go Go.Shelf Go.Proofs
theorem addAt_subL {l m : List Int} (h : l.length = m.length) (i : Nat) (d : Int) : addAt (subL l m) i d = subL (addAt l i d) m := by
  unfold addAt
  by_cases hi : i < l.length
  · have hm : i < m.length := by omega
    have e1 : (subL l m)[i]? = some (l[i] - m[i]) := by unfold subL; rw [List.getElem?_eq_getElem (by simp; omega), List.getElem_zipWith]
    rw [e1, List.getElem?_eq_getElem hi]
    simp only [Option.getD_some]
    unfold subL
    apply List.ext_getElem (by simp)
    intro k h1 h2
    simp only [List.getElem_set, List.getElem_zipWith]
    split
    · rename_i e
      subst e
      omega
    · rfl
  · rw [List.set_eq_of_length_le (by rw [subL_len h]; omega), List.set_eq_of_length_le (by omega)]
theorem bilFold_step {ids : List Int} {x : Bil} {t : List Bil} {l : List Int} (h : l.length = ids.length) : bilFold ids (x :: t) l = bilFold ids t (addAt (subL l (sharesR ids x)) (ids.idxOf x.py) x.pe) := by
  rw [bilFold, addAt_subL (by rw [h, shares_len])]
/-- What 'opened' hands back. -/
def OpenP (f : Flo) : AV → List HA → Prop := fun x y => ∃ ph v, x = .tup [.val ph, .val (.int .i64 0)] ∧ y = [hsB ph f v, .row v 3 1 iC (owed8 f), tab8]
set_option maxRecDepth 20000 in
set_option maxHeartbeats 2000000 in
theorem openedNo_con (f : Flo) (hS : Sml f) (hno : floOk f = false) : Con Tryd.prog 55 [.agg (flC f)] [tab8] (Is (.tup [.val (.pointer none), .val (.int .i64 80)]) [tab8]) := by
  have C := check_con f hS
  rw [show errF f = 80 by unfold errF; rw [hno]; rfl] at C
  refine con_of Tryd.func55 rfl (enters_of Tryd.func55 (by kernel_rfl) rfl) rfl ?_; intro n w0 F0 G0
  (refine W_seq ?_; refine W_region ?_; (apply wl_boxv; exact rfl; exact inferInstance; exact rfl; intro p hp); (apply wl_assign; exact rfl; exact rfl); (apply wl_assign; exact rfl; exact rfl); refine WL_nil ?_; refine th_norm ?_; refine W_seq ?_; refine W_seq ?_; refine W_region ?_; (apply wl_loadN; (first | exact .inl rfl | exact .inr ⟨rfl, rfl⟩); (repeat (first | exact At.here | apply At.there)); exact rfl; exact rfl))
  (first | (apply wl_call (C); exact rfl; exact rfl) | (apply wl_callR (C); exact rfl; (repeat (first | exact At.here | apply At.there)); exact rfl))
  ((apply wl_assign; exact rfl; exact rfl); refine WL_nil ?_; refine th_norm ?_; refine W_seq ?_; refine W_region ?_; (apply wl_move; exact rfl; exact rfl); (apply wl_neq; exact rfl; exact rfl; exact rfl); refine WL_nil ?_; refine th_norm ?_; (apply w_true; exact rfl); refine W_seq ?_; refine W_region ?_; (apply wl_move; exact rfl; exact rfl); (apply wl_assign; exact rfl; exact rfl); (apply wl_assign; exact rfl; exact rfl); refine WL_nil ?_; refine th_norm ?_; refine W_ret ?_; refine th_ret ?_; refine rt_norm ?_)
  (apply resK2; exact rfl; exact rfl; exact rfl; exact ⟨rfl, rfl⟩; (repeat (first | exact Cut.nil | (apply Cut.cons; (repeat (first | exact Rm.here | apply Rm.there))))))
set_option maxRecDepth 20000 in
set_option maxHeartbeats 2000000 in
theorem opened_con (f : Flo) (hS : Sml f) (hok : floOk f = true) : Con Tryd.prog 55 [.agg (flC f)] [tab8] (OpenP f) := by
  have C := check_con f hS
  rw [show errF f = 0 by unfold errF; rw [hok]; rfl] at C
  have hF := flo_f hok
  have hidsl := hF.ids
  have hbsl := hF.bs
  have hpsl := hF.ps
  refine con_of Tryd.func55 rfl (enters_of Tryd.func55 (by kernel_rfl) rfl) rfl ?_; intro n w0 F0 G0
  (refine W_seq ?_; refine W_region ?_; (apply wl_boxv; exact rfl; exact inferInstance; exact rfl; intro p hp); (apply wl_assign; exact rfl; exact rfl); (apply wl_assign; exact rfl; exact rfl); refine WL_nil ?_; refine th_norm ?_; refine W_seq ?_; refine W_seq ?_; refine W_region ?_; (apply wl_loadN; (first | exact .inl rfl | exact .inr ⟨rfl, rfl⟩); (repeat (first | exact At.here | apply At.there)); exact rfl; exact rfl))
  (first | (apply wl_call (C); exact rfl; exact rfl) | (apply wl_callR (C); exact rfl; (repeat (first | exact At.here | apply At.there)); exact rfl))
  ((apply wl_assign; exact rfl; exact rfl); refine WL_nil ?_; refine th_norm ?_; refine W_seq ?_; refine W_region ?_; (apply wl_move; exact rfl; exact rfl); (apply wl_neq; exact rfl; exact rfl; exact rfl); refine WL_nil ?_; refine th_norm ?_; (apply w_false; exact rfl); refine W_skip ?_; refine th_norm ?_; refine W_seq ?_)
  refine W_run 5 [17, 18, 19, 20, 21] [0, 1, 2, 3, 4] Cut.nil rfl (by repeat (first | exact Flt.nil | (apply Flt.keep; exact rfl) | (apply Flt.drop; exact rfl))) mixedS (by kernel_rfl) rfl ?_
  apply Run.pv [] []
  · exact rfl
  · intro vs; apply ltr_pk; (repeat (first | exact Pk.nil | (apply Pk.pv; exact rfl; exact rfl) | (apply Pk.tok; exact rfl; exact rfl)))
    (first | (apply ltr_load1; (first | exact .inl rfl | exact .inr ⟨rfl, rfl⟩); (repeat (first | exact At.here | apply At.there)); exact rfl) | (refine ltr ?_; apply lt_loadE1'; exact rfl; assumption; exact rfl) | (refine ltr ?_; apply lt_loadEN'; exact rfl; assumption; exact rfl) | (apply ltr_loadN; (first | exact .inl rfl | exact .inr ⟨rfl, rfl⟩); (repeat (first | exact At.here | apply At.there)); exact rfl) | (apply ltr_loadR1; exact rfl; (repeat (first | exact At.here | apply At.there)); assumption; exact rfl) | (apply ltr_loadRN; exact rfl; (repeat (first | exact At.here | apply At.there)); assumption))
  · repeat (first | exact App.nil | apply App.cons)
  apply Run.pv [] []
  · exact rfl
  · intro vs; apply ltr_pk; (repeat (first | exact Pk.nil | (apply Pk.pv; exact rfl; exact rfl) | (apply Pk.tok; exact rfl; exact rfl)))
    (first | (refine ltr ?_; apply lt_fieldAt; exact rfl; exact rfl) | (apply ltr_field; exact rfl; (repeat (first | exact At.here | apply At.there))) | (refine ltr ?_; apply lt_fieldEl; exact rfl; exact rfl) | (refine ltr ?_; apply lt_fieldRat; exact rfl; exact rfl))
  · repeat (first | exact App.nil | apply App.cons)
  apply Run.pv [1] []
  · exact rfl
  · intro vs; apply ltr_pk; (repeat (first | exact Pk.nil | (apply Pk.pv; exact rfl; exact rfl) | (apply Pk.tok; exact rfl; exact rfl)))
    (first | (apply ltr_load1; (first | exact .inl rfl | exact .inr ⟨rfl, rfl⟩); (repeat (first | exact At.here | apply At.there)); exact rfl) | (refine ltr ?_; apply lt_loadE1'; exact rfl; assumption; exact rfl) | (refine ltr ?_; apply lt_loadEN'; exact rfl; assumption; exact rfl) | (apply ltr_loadN; (first | exact .inl rfl | exact .inr ⟨rfl, rfl⟩); (repeat (first | exact At.here | apply At.there)); exact rfl) | (apply ltr_loadR1; exact rfl; (repeat (first | exact At.here | apply At.there)); assumption; exact rfl) | (apply ltr_loadRN; exact rfl; (repeat (first | exact At.here | apply At.there)); assumption))
  · repeat (first | exact App.nil | apply App.cons)
  apply Run.pv [2] []
  · exact rfl
  · intro vs; apply ltr_pk; (repeat (first | exact Pk.nil | (apply Pk.pv; exact rfl; exact rfl) | (apply Pk.tok; exact rfl; exact rfl)))
    (first | (refine ltr ?_; apply lt_lenSl; exact rfl) | (apply ltr_lenRow; exact rfl; (repeat (first | exact At.here | apply At.there))))
  · repeat (first | exact App.nil | apply App.cons)
  apply Run.tok [3] []
  · exact rfl
  · intro vs; apply ltr_pk; (repeat (first | exact Pk.nil | (apply Pk.pv; exact rfl; exact rfl) | (apply Pk.tok; exact rfl; exact rfl)))
    (refine ltr ?_; apply lt_make (f := iC); exact rfl; exact rfl; exact rfl; (first | omega | (simp; omega)))
  · repeat (first | exact App.nil | apply App.cons)
  refine ⟨⟨by kernel_rfl, by kernel_rfl⟩, fun vs => ?_⟩
  apply WL_auto [0, 4]
  · repeat (first | exact Pk.nil | (apply Pk.pv; exact rfl; exact rfl) | (apply Pk.tok; exact rfl; exact rfl))
  · repeat (first | exact Nrm.nil | apply Nrm.cons)
  · kernel_rfl
  · kernel_rfl
  generalize vs 4 = ow
  skip
  refine WL_one At.here (fun hone => ?_)
  ((apply wl_build; (repeat (first | exact Parts.nil | (apply Parts.cons; exact rfl; exact rfl; exact inferInstance; exact rfl; exact (of_decide_eq_true rfl)))); exact rfl); (apply wl_boxv; exact rfl; exact inferInstance; exact rfl; intro p hp); (apply wl_assign; exact rfl; exact rfl); refine WL_nil ?_; refine th_norm ?_; refine W_seq ?_; refine W_seq ?_; refine W_region ?_; (apply wl_field; exact rfl; (repeat (first | exact At.here | apply At.there)); exact rfl); (apply wl_load1; (first | exact .inl rfl | exact .inr ⟨rfl, rfl⟩); (repeat (first | exact At.here | apply At.there)); exact rfl; exact rfl); (apply wl_lenSl; exact rfl; exact rfl); (apply wl_move; exact rfl; exact rfl); refine WL_nil ?_; refine th_norm ?_; refine W_block ?_)
  rename_i pf hpf
  refine W_loopJ (fun (b : Nat × List Int) => ⟨[(1, .val pf), (5, .val p), (25, .sl 4 biC f.bs), (26, .val (.int .i64 f.bs.length)), (27, .val (.int .i64 b.1))], [.row ow 3 1 iC b.2, hsB p f ow, .box pf (flC f) 27, tab8]⟩)
    (fun b => b.1 ≤ f.bs.length ∧ b.2.length = f.ids.length ∧ bilFold f.ids (f.bs.drop b.1) b.2 = bilFold f.ids f.bs (List.replicate f.ids.length 0) ∧ Btw (-(10000000 * b.1)) (10000000 * b.1) b.2) (fun b => f.bs.length - b.1) (0, List.replicate f.ids.length 0) (fun _ _ st => st_sub2 st (by (repeat (first | exact trivial | refine ⟨rfl, ?_⟩))) (by (repeat (first | exact SubP.nil | (apply SubP.cons; (repeat (first | exact Rm.here | apply Rm.there))))))) ⟨Nat.zero_le _, by simp, rfl, Btw.rep _ (by dsimp only; omega) (by dsimp only; omega)⟩ ?_
  rintro ⟨k, cur⟩ ⟨hk, hcl, hnf, hbt⟩
  dsimp only at hk hcl hnf hbt ⊢
  (refine W_seq ?_; refine W_region ?_; (apply wl_lss; exact rfl; exact rfl; exact rfl); refine WL_nil ?_; refine th_norm ?_; refine W_seq ?_)
  refine w_cond rfl (fun hlt => ?_) (fun hlt => ?_)
  · have hlt' : k < f.bs.length := by simpa using hlt
    have hB := hF.bil _ (List.getElem_mem hlt')
    have hsl := hS.st _ (List.getElem_mem hlt')
    have hpe0 := hB.pe0
    have hpe1 := hB.pe1
    rw [drop_step hlt', bilFold_step hcl] at hnf
    (refine W_skip ?_; refine th_norm ?_; refine W_seq ?_; refine W_block ?_; refine W_seq ?_; refine W_region ?_; (apply wl_indexSl; exact rfl; exact rfl; exact rfl; (first | assumption | omega | (simp; omega)); exact rfl); (apply wl_loadEN; exact rfl; (case hk => first | assumption | omega | exact Nat.one_pos | (simp; omega)); exact rfl; exact rfl); (apply wl_alloc; exact rfl; intro p hp); (apply wl_store; (first | exact .inl rfl | exact .inr ⟨rfl, rfl⟩); (repeat (first | exact At.here | apply At.there)); exact rfl; exact inferInstance; exact inferInstance; exact inferInstance; exact rfl; (first | exact (of_decide_eq_true rfl) | (simp; omega) | decide)); refine WL_nil ?_; refine th_norm ?_; refine W_seq ?_; refine W_seq ?_; refine W_region ?_; (apply wl_move; exact rfl; exact rfl); (apply wl_loadN; (first | exact .inl rfl | exact .inr ⟨rfl, rfl⟩); (repeat (first | exact At.here | apply At.there)); exact rfl; exact rfl))
    rename_i ph hph
    have hsc := shares_con ph ow f f.bs[k] (by omega) (by omega) hB
    have hshl := shares_len f.ids f.bs[k]
    have hsb := shares_btw hB hsl
    generalize hsh : sharesR f.ids f.bs[k] = sh at *
    (apply wl_callP (hsc); exact rfl; (repeat (first | exact Cut.nil | (apply Cut.cons; (repeat (first | exact Rm.here | apply Rm.there))))); exact rfl)
    rintro _ _ ⟨u, rfl, rfl⟩
    have hc1l : cur.length = sh.length := by rw [hshl, hcl]
    ((apply wl_lenRow; exact rfl; (repeat (first | exact At.here | apply At.there)); exact rfl); (apply wl_move; exact rfl; exact rfl); refine WL_nil ?_; refine th_norm ?_; refine W_block ?_)
    refine W_loopJ (fun (m : Nat) => ⟨[(1, .val pf), (5, .val ph), (7, .val p), (25, .sl 4 biC f.bs), (26, .val (.int .i64 f.bs.length)), (27, .val (.int .i64 k)), (33, .val u), (34, .val (.int .i64 sh.length)), (35, .val (.int .i64 m))], [.row u 3 1 iC sh, .row ow 3 1 iC (subTo cur sh m), hsB ph f ow, .box p (biC f.bs[k]) 66, .box pf (flC f) 27, tab8]⟩)
      (fun m => m ≤ sh.length) (fun m => sh.length - m) 0 (fun _ _ st => st_sub2 st (by (repeat (first | exact trivial | refine ⟨rfl, ?_⟩))) (by (repeat (first | exact SubP.nil | (apply SubP.cons; (repeat (first | exact Rm.here | apply Rm.there))))))) (Nat.zero_le _) ?_
    rintro m hm
    (refine W_seq ?_; refine W_region ?_; (apply wl_lss; exact rfl; exact rfl; exact rfl); refine WL_nil ?_; refine th_norm ?_; refine W_seq ?_)
    refine w_cond rfl (fun hlm => ?_) (fun hlm => ?_)
    · have hlm' : m < sh.length := by simpa using hlm
      have hmc : m < cur.length := by omega
      have hmk : m < (subTo cur sh m).length := by rw [subTo_len hc1l]; exact hmc
      have hv : (subTo cur sh m)[m] = cur[m] := by
        have := subTo_get hc1l hmc
        rw [List.getElem?_eq_getElem hmk] at this
        exact Option.some.inj this
      have hb2 := hbt.at hmc
      have hb3 := hsb.at hlm'
      (refine W_skip ?_; refine th_norm ?_; refine W_seq ?_; refine W_block ?_; refine W_seq ?_; refine W_region ?_; (apply wl_move; exact rfl; exact rfl); (apply wl_indexRow; exact rfl; (repeat (first | exact At.here | apply At.there)); exact rfl; exact rfl; (first | assumption | omega | (simp; omega)); exact rfl); (apply wl_loadR1; exact rfl; (repeat (first | exact At.here | apply At.there)); (case hk => first | assumption | omega | exact Nat.one_pos | (simp; omega)); exact rfl; exact rfl); (apply wl_assign; exact rfl; exact rfl); (apply wl_assign; exact rfl; exact rfl); refine WL_nil ?_; refine th_norm ?_; refine W_region ?_; (apply wl_move; exact rfl; exact rfl); (apply wl_nilCheck; exact rfl; (repeat (first | exact At.here | apply At.there)); exact rfl); (apply wl_field; exact rfl; (repeat (first | exact At.here | apply At.there)); exact rfl); (apply wl_load1; (first | exact .inl rfl | exact .inr ⟨rfl, rfl⟩); (repeat (first | exact At.here | apply At.there)); exact rfl; exact rfl); (apply wl_move; exact rfl; exact rfl); (apply wl_indexRow; exact rfl; (repeat (first | exact At.here | apply At.there)); exact rfl; exact rfl; (first | assumption | omega | (simp; omega)); exact rfl); (apply wl_loadR1; exact rfl; (repeat (first | exact At.here | apply At.there)); (case hk => first | assumption | omega | exact Nat.one_pos | (simp; omega)); exact rfl; exact rfl); (apply wl_move; exact rfl; exact rfl); (apply wl_sub; exact rfl; exact rfl; omega; omega; exact rfl); (apply wl_indexRow; exact rfl; (repeat (first | exact At.here | apply At.there)); exact rfl; exact rfl; (first | assumption | omega | (simp; omega)); exact rfl); (apply wl_storeR1; exact rfl; (repeat (first | exact At.here | apply At.there)); exact rfl; exact inferInstance; (case hk => first | assumption | omega | exact Nat.one_pos | (simp; omega)); exact (of_decide_eq_true rfl); exact rfl); refine WL_nil ?_; refine bl_norm ?_; refine th_norm ?_; refine W_region ?_; (apply wl_add; exact rfl; exact rfl; omega; omega; exact rfl); (apply wl_move; exact rfl; exact rfl); refine WL_nil ?_; refine th_norm ?_)
      rw [show (subTo cur sh m).set m ((subTo cur sh m)[m] - sh[m]) = subTo cur sh (m + 1) from by rw [hv]; exact subTo_set hc1l hmc]
      (refine ⟨m + 1, fun _ _ st => st_sub2 st ?_ ?_, ?_, ?_⟩; (repeat (first | exact trivial | refine ⟨rfl, ?_⟩)); (repeat (first | exact SubP.nil | (apply SubP.cons; (repeat (first | exact Rm.here | apply Rm.there))))))
      · omega
      · omega
    · have hmm : m = sh.length := by simp at hlm; omega
      subst hmm
      rw [show subTo cur sh sh.length = subL cur sh from by rw [← hc1l]; exact subTo_all hc1l]
      have hb1 := hbt.subL hsb
      generalize hc1 : subL cur sh = c1 at *
      have hc1n : c1.length = f.ids.length := by rw [← hc1, subL_len hc1l, hcl]
      have hix : f.ids.idxOf f.bs[k].py < c1.length := by rw [hc1n]; exact List.idxOf_lt_length_of_mem hB.py
      have hq2 : c1[f.ids.idxOf f.bs[k].py]? = some c1[f.ids.idxOf f.bs[k].py] := List.getElem?_eq_getElem hix
      have hce := hb1.at hix
      have hb2 := hb1.addAt (f.ids.idxOf f.bs[k].py) (d := f.bs[k].pe) (a := 0) (b := 1000000) (by omega) (by omega) (by omega) (by omega) (by omega) (by omega)
      rw [addAt_at hix] at hb2 hnf
      (refine W_exit ?_; refine th_exit ?_; refine th_exit ?_; refine bl_eq ?_; refine th_norm ?_)
      refine W_run 12 [51, 52, 53, 54, 55, 56, 57, 58, 59, 60, 61, 62] [0, 1, 2, 3, 4, 5, 6, 7, 8, 9, 10, 11] Cut.nil rfl (by repeat (first | exact Flt.nil | (apply Flt.keep; exact rfl) | (apply Flt.drop; exact rfl))) mixedS (by kernel_rfl) rfl ?_
      apply Run.pv [] []
      · exact rfl
      · intro vs; apply ltr_pk; (repeat (first | exact Pk.nil | (apply Pk.pv; exact rfl; exact rfl) | (apply Pk.tok; exact rfl; exact rfl)))
        (first | (refine ltr ?_; apply lt_move; exact rfl))
      · repeat (first | exact App.nil | apply App.cons)
      apply Run.pv [0] []
      · exact rfl
      · intro vs; apply ltr_pk; (repeat (first | exact Pk.nil | (apply Pk.pv; exact rfl; exact rfl) | (apply Pk.tok; exact rfl; exact rfl)))
        (first | (apply ltr_nilCheck; exact rfl; (repeat (first | exact At.here | apply At.there))) | (refine ltr ?_; apply lt_nilCheckE; exact rfl))
      · repeat (first | exact App.nil | apply App.cons)
      apply Run.pv [1] []
      · exact rfl
      · intro vs; apply ltr_pk; (repeat (first | exact Pk.nil | (apply Pk.pv; exact rfl; exact rfl) | (apply Pk.tok; exact rfl; exact rfl)))
        (first | (refine ltr ?_; apply lt_fieldAt; exact rfl; exact rfl) | (apply ltr_field; exact rfl; (repeat (first | exact At.here | apply At.there))) | (refine ltr ?_; apply lt_fieldEl; exact rfl; exact rfl) | (refine ltr ?_; apply lt_fieldRat; exact rfl; exact rfl))
      · repeat (first | exact App.nil | apply App.cons)
      apply Run.pv [2] []
      · exact rfl
      · intro vs; apply ltr_pk; (repeat (first | exact Pk.nil | (apply Pk.pv; exact rfl; exact rfl) | (apply Pk.tok; exact rfl; exact rfl)))
        (first | (apply ltr_load1; (first | exact .inl rfl | exact .inr ⟨rfl, rfl⟩); (repeat (first | exact At.here | apply At.there)); exact rfl) | (refine ltr ?_; apply lt_loadE1'; exact rfl; assumption; exact rfl) | (refine ltr ?_; apply lt_loadEN'; exact rfl; assumption; exact rfl) | (apply ltr_loadN; (first | exact .inl rfl | exact .inr ⟨rfl, rfl⟩); (repeat (first | exact At.here | apply At.there)); exact rfl) | (apply ltr_loadR1; exact rfl; (repeat (first | exact At.here | apply At.there)); assumption; exact rfl) | (apply ltr_loadRN; exact rfl; (repeat (first | exact At.here | apply At.there)); assumption))
      · repeat (first | exact App.nil | apply App.cons)
      apply Run.pv [] []
      · exact rfl
      · intro vs; apply ltr_pk; (repeat (first | exact Pk.nil | (apply Pk.pv; exact rfl; exact rfl) | (apply Pk.tok; exact rfl; exact rfl)))
        (first | (refine ltr ?_; apply lt_move; exact rfl))
      · repeat (first | exact App.nil | apply App.cons)
      apply Run.pv [] []
      · exact rfl
      · intro vs; apply ltr_pk; (repeat (first | exact Pk.nil | (apply Pk.pv; exact rfl; exact rfl) | (apply Pk.tok; exact rfl; exact rfl)))
        (first | (refine ltr ?_; apply lt_fieldAt; exact rfl; exact rfl) | (apply ltr_field; exact rfl; (repeat (first | exact At.here | apply At.there))) | (refine ltr ?_; apply lt_fieldEl; exact rfl; exact rfl) | (refine ltr ?_; apply lt_fieldRat; exact rfl; exact rfl))
      · repeat (first | exact App.nil | apply App.cons)
      apply Run.pv [5] []
      · exact rfl
      · intro vs; apply ltr_pk; (repeat (first | exact Pk.nil | (apply Pk.pv; exact rfl; exact rfl) | (apply Pk.tok; exact rfl; exact rfl)))
        (first | (apply ltr_load1; (first | exact .inl rfl | exact .inr ⟨rfl, rfl⟩); (repeat (first | exact At.here | apply At.there)); exact rfl) | (refine ltr ?_; apply lt_loadE1'; exact rfl; assumption; exact rfl) | (refine ltr ?_; apply lt_loadEN'; exact rfl; assumption; exact rfl) | (apply ltr_loadN; (first | exact .inl rfl | exact .inr ⟨rfl, rfl⟩); (repeat (first | exact At.here | apply At.there)); exact rfl) | (apply ltr_loadR1; exact rfl; (repeat (first | exact At.here | apply At.there)); assumption; exact rfl) | (apply ltr_loadRN; exact rfl; (repeat (first | exact At.here | apply At.there)); assumption))
      · repeat (first | exact App.nil | apply App.cons)
      apply Run.pv [4, 6] []
      · exact rfl
      · intro vs; apply ltr_pk; (repeat (first | exact Pk.nil | (apply Pk.pv; exact rfl; exact rfl) | (apply Pk.tok; exact rfl; exact rfl)))
        (apply ltr_callR ((indexAt_con ph ow f _ (by omega) hB.py)); exact rfl; (repeat (first | exact At.here | apply At.there)))
      · repeat (first | exact App.nil | apply App.cons)
      apply Run.pv [3, 7] []
      · exact rfl
      · intro vs; apply ltr_pk; (repeat (first | exact Pk.nil | (apply Pk.pv; exact rfl; exact rfl) | (apply Pk.tok; exact rfl; exact rfl)))
        (first | (refine ltr ?_; apply lt_indexSl; exact rfl; exact rfl; exact rfl; (first | assumption | omega | (simp; omega))) | (apply ltr_indexRow; exact rfl; (repeat (first | exact At.here | apply At.there)); exact rfl; exact rfl; (first | assumption | omega | (simp; omega))) | (apply ltr_indexArr; exact rfl; (repeat (first | exact At.here | apply At.there)); exact rfl; exact rfl; (first | assumption | omega | decide)))
      · repeat (first | exact App.nil | apply App.cons)
      apply Run.pv [8] []
      · exact rfl
      · intro vs; apply ltr_pk; (repeat (first | exact Pk.nil | (apply Pk.pv; exact rfl; exact rfl) | (apply Pk.tok; exact rfl; exact rfl)))
        (first | (apply ltr_load1; (first | exact .inl rfl | exact .inr ⟨rfl, rfl⟩); (repeat (first | exact At.here | apply At.there)); exact rfl) | (refine ltr ?_; apply lt_loadE1'; exact rfl; assumption; exact rfl) | (refine ltr ?_; apply lt_loadEN'; exact rfl; assumption; exact rfl) | (apply ltr_loadN; (first | exact .inl rfl | exact .inr ⟨rfl, rfl⟩); (repeat (first | exact At.here | apply At.there)); exact rfl) | (apply ltr_loadR1; exact rfl; (repeat (first | exact At.here | apply At.there)); assumption; exact rfl) | (apply ltr_loadRN; exact rfl; (repeat (first | exact At.here | apply At.there)); assumption))
      · repeat (first | exact App.nil | apply App.cons)
      apply Run.pv [] []
      · exact rfl
      · intro vs; apply ltr_pk; (repeat (first | exact Pk.nil | (apply Pk.pv; exact rfl; exact rfl) | (apply Pk.tok; exact rfl; exact rfl)))
        (first | (refine ltr ?_; apply lt_fieldAt; exact rfl; exact rfl) | (apply ltr_field; exact rfl; (repeat (first | exact At.here | apply At.there))) | (refine ltr ?_; apply lt_fieldEl; exact rfl; exact rfl) | (refine ltr ?_; apply lt_fieldRat; exact rfl; exact rfl))
      · repeat (first | exact App.nil | apply App.cons)
      apply Run.pv [10] []
      · exact rfl
      · intro vs; apply ltr_pk; (repeat (first | exact Pk.nil | (apply Pk.pv; exact rfl; exact rfl) | (apply Pk.tok; exact rfl; exact rfl)))
        (first | (apply ltr_load1; (first | exact .inl rfl | exact .inr ⟨rfl, rfl⟩); (repeat (first | exact At.here | apply At.there)); exact rfl) | (refine ltr ?_; apply lt_loadE1'; exact rfl; assumption; exact rfl) | (refine ltr ?_; apply lt_loadEN'; exact rfl; assumption; exact rfl) | (apply ltr_loadN; (first | exact .inl rfl | exact .inr ⟨rfl, rfl⟩); (repeat (first | exact At.here | apply At.there)); exact rfl) | (apply ltr_loadR1; exact rfl; (repeat (first | exact At.here | apply At.there)); assumption; exact rfl) | (apply ltr_loadRN; exact rfl; (repeat (first | exact At.here | apply At.there)); assumption))
      · repeat (first | exact App.nil | apply App.cons)
      refine ⟨⟨by kernel_rfl, by kernel_rfl⟩, fun vs => ?_⟩
      apply WL_auto [3, 7, 9, 11]
      · repeat (first | exact Pk.nil | (apply Pk.pv; exact rfl; exact rfl) | (apply Pk.tok; exact rfl; exact rfl))
      · repeat (first | exact Nrm.nil | apply Nrm.cons)
      · kernel_rfl
      · kernel_rfl
      ((apply wl_add; exact rfl; exact rfl; omega; omega; exact rfl); (apply wl_indexRow; exact rfl; (repeat (first | exact At.here | apply At.there)); exact rfl; exact rfl; (first | assumption | omega | (simp; omega)); exact rfl); (apply wl_storeR1; exact rfl; (repeat (first | exact At.here | apply At.there)); exact rfl; exact inferInstance; (case hk => first | assumption | omega | exact Nat.one_pos | (simp; omega)); exact (of_decide_eq_true rfl); exact rfl); refine WL_nil ?_; refine bl_norm ?_; refine th_norm ?_; refine W_region ?_; (apply wl_add; exact rfl; exact rfl; omega; omega; exact rfl); (apply wl_move; exact rfl; exact rfl); refine WL_nil ?_; refine th_norm ?_)
      (refine ⟨(k + 1, c1.set (f.ids.idxOf f.bs[k].py) (c1[f.ids.idxOf f.bs[k].py] + f.bs[k].pe)), fun _ _ st => st_sub2 st ?_ ?_, ?_, ?_⟩; (repeat (first | exact trivial | refine ⟨rfl, ?_⟩)); (repeat (first | exact SubP.nil | (apply SubP.cons; (repeat (first | exact Rm.here | apply Rm.there))))))
      · exact ⟨hlt', by dsimp only; rw [List.length_set]; exact hc1n, hnf, hb2.mono (by dsimp only; omega) (by dsimp only; omega)⟩
      · dsimp only; omega
  · have hkk : k = f.bs.length := by simp at hlt; omega
    subst hkk
    rw [List.drop_length, bilFold] at hnf
    have hO : owed8 f = payFold f.ids f.ps cur := by unfold owed8; rw [← hnf]
    unfold OpenP
    rw [hO]
    clear hnf hlt hk hO
    (refine W_exit ?_; refine th_exit ?_; refine th_exit ?_; refine bl_eq ?_; refine th_norm ?_; refine W_seq ?_; refine W_seq ?_; refine W_region ?_; (apply wl_field; exact rfl; (repeat (first | exact At.here | apply At.there)); exact rfl); (apply wl_load1; (first | exact .inl rfl | exact .inr ⟨rfl, rfl⟩); (repeat (first | exact At.here | apply At.there)); exact rfl; exact rfl); (apply wl_lenSl; exact rfl; exact rfl); (apply wl_move; exact rfl; exact rfl); refine WL_nil ?_; refine th_norm ?_; refine W_block ?_)
    refine W_loopJ (fun (b : Nat × List Int) => ⟨[(1, .val pf), (5, .val p), (67, .sl 3 payC f.ps), (68, .val (.int .i64 f.ps.length)), (69, .val (.int .i64 b.1))], [.row ow 3 1 iC b.2, hsB p f ow, .box pf (flC f) 27, tab8]⟩)
      (fun b => b.1 ≤ f.ps.length ∧ b.2.length = f.ids.length ∧ payFold f.ids (f.ps.drop b.1) b.2 = payFold f.ids f.ps cur ∧ Btw (-(200000000 + 2000000 * b.1)) (200000000 + 2000000 * b.1) b.2) (fun b => f.ps.length - b.1) (0, cur) (fun _ _ st => st_sub2 st (by (repeat (first | exact trivial | refine ⟨rfl, ?_⟩))) (by (repeat (first | exact SubP.nil | (apply SubP.cons; (repeat (first | exact Rm.here | apply Rm.there))))))) ⟨Nat.zero_le _, hcl, rfl, hbt.mono (by dsimp only; omega) (by dsimp only; omega)⟩ ?_
    clear hbt hcl
    rintro ⟨k, cu⟩ ⟨hk, hcl, hnf, hbt⟩
    dsimp only at hk hcl hnf hbt ⊢
    (refine W_seq ?_; refine W_region ?_; (apply wl_lss; exact rfl; exact rfl; exact rfl); refine WL_nil ?_; refine th_norm ?_; refine W_seq ?_)
    refine w_cond rfl (fun hlt => ?_) (fun hlt => ?_)
    · have hlt' : k < f.ps.length := by simpa using hlt
      have hP := hF.pay _ (List.getElem_mem hlt')
      rw [drop_step hlt', payFold] at hnf
      (refine W_skip ?_; refine th_norm ?_; refine W_seq ?_; refine W_block ?_; refine W_seq ?_; refine W_region ?_; (apply wl_indexSl; exact rfl; exact rfl; exact rfl; (first | assumption | omega | (simp; omega)); exact rfl); (apply wl_loadEN; exact rfl; (case hk => first | assumption | omega | exact Nat.one_pos | (simp; omega)); exact rfl; exact rfl); (apply wl_alloc; exact rfl; intro p hp); (apply wl_store; (first | exact .inl rfl | exact .inr ⟨rfl, rfl⟩); (repeat (first | exact At.here | apply At.there)); exact rfl; exact inferInstance; exact inferInstance; exact inferInstance; exact rfl; (first | exact (of_decide_eq_true rfl) | (simp; omega) | decide)); refine WL_nil ?_; refine th_norm ?_; refine W_region ?_; (apply wl_move; exact rfl; exact rfl); (apply wl_loadN; (first | exact .inl rfl | exact .inr ⟨rfl, rfl⟩); (repeat (first | exact At.here | apply At.there)); exact rfl; exact rfl))
      rename_i ph hph
      (apply wl_callP (paid_con ph ow f f.ps[k] cu (by omega) hP hcl hbt (by omega) (by omega)); exact rfl; (repeat (first | exact Cut.nil | (apply Cut.cons; (repeat (first | exact Rm.here | apply Rm.there))))); exact rfl)
      rintro _ _ ⟨rfl, rfl⟩
      (refine WL_nil ?_; refine bl_norm ?_; refine th_norm ?_; refine W_region ?_; (apply wl_add; exact rfl; exact rfl; omega; omega; exact rfl); (apply wl_move; exact rfl; exact rfl); refine WL_nil ?_; refine th_norm ?_)
      (refine ⟨(k + 1, payStep f.ids f.ps[k] cu), fun _ _ st => st_sub2 st ?_ ?_, ?_, ?_⟩; (repeat (first | exact trivial | refine ⟨rfl, ?_⟩)); (repeat (first | exact SubP.nil | (apply SubP.cons; (repeat (first | exact Rm.here | apply Rm.there))))))
      · exact ⟨hlt', by dsimp only; unfold payStep; rw [addAt_len, addAt_len]; exact hcl, hnf, (payStep_btw (by omega) hP.2.2.2.1 hP.2.2.2.2 hbt).mono (by dsimp only; omega) (by dsimp only; omega)⟩
      · dsimp only; omega
    · have hkk : k = f.ps.length := by simp at hlt; omega
      subst hkk
      rw [List.drop_length, payFold] at hnf
      rw [← hnf]
      (refine W_exit ?_; refine th_exit ?_; refine th_exit ?_; refine bl_eq ?_; refine th_norm ?_; refine W_seq ?_; refine W_region ?_; (apply wl_move; exact rfl; exact rfl); (apply wl_assign; exact rfl; exact rfl); (apply wl_assign; exact rfl; exact rfl); refine WL_nil ?_; refine th_norm ?_; refine W_ret ?_; refine rt_norm ?_)
      (apply resK2; exact rfl; exact rfl; exact rfl; exact ⟨p, ow, rfl, rfl⟩; (repeat (first | exact Cut.nil | (apply Cut.cons; (repeat (first | exact Rm.here | apply Rm.there))))))
end Go.Proofs.YtbkellknlcageaaDoor.Sw
