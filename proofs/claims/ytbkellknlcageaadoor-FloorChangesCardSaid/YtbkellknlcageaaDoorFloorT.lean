/- Floors in new memory. -/
import Derived.Test.YtbkellknlcageaaDoorFloorS
namespace Go.Proofs.YtbkellknlcageaaDoor.Sw
open Go.RowKit Go Go.Shelf Go.Proofs
set_option maxRecDepth 20000 in
set_option maxHeartbeats 2000000 in
theorem twin8_con (f : Flo) (hS : Sml f) : Con Tryd.prog 10 [.agg (flC f)] [] (Is (.agg (flC f)) []) := by
  have hidsl := hS.ids
  have hqsl := hS.qs
  have hbsl := hS.bs
  have hpsl := hS.ps
  refine con_of Tryd.func10 rfl (enters_of Tryd.func10 (by kernel_rfl) rfl) rfl ?_; intro n w0 F0 G0
  (refine W_seq ?_; refine W_region ?_; (apply wl_boxv; exact rfl; exact inferInstance; exact rfl; intro p hp); (apply wl_alloc; exact rfl; intro p hp); refine WL_nil ?_; refine th_norm ?_; refine W_seq ?_)
  rename_i pf hpf
  refine W_run 14 [6, 7, 8, 9, 10, 11, 12, 13, 14, 15, 16, 17, 18, 3] [1, 2, 3, 5, 6, 7, 9, 10, 11, 12, 13] Cut.nil rfl (by repeat (first | exact Flt.nil | (apply Flt.keep; exact rfl) | (apply Flt.drop; exact rfl))) mixedS (by kernel_rfl) rfl ?_
  apply Run.tok [] []
  · exact rfl
  · intro vs; apply ltr_pk; (repeat (first | exact Pk.nil | (apply Pk.pv; exact rfl; exact rfl) | (apply Pk.tok; exact rfl; exact rfl)))
    (refine ltr ?_; apply lt_lit (f := iC); (repeat (first | exact Elems.nil | (apply Elems.cons; exact rfl; exact inferInstance; exact rfl))); exact rfl; (first | exact (of_decide_eq_true rfl) | decide | (simp; done) | (simp; omega)))
  · repeat (first | exact App.nil | apply App.cons)
  apply Run.pv [] []
  · exact rfl
  · intro vs; apply ltr_pk; (repeat (first | exact Pk.nil | (apply Pk.pv; exact rfl; exact rfl) | (apply Pk.tok; exact rfl; exact rfl)))
    (first | (refine ltr ?_; apply lt_fieldAt; exact rfl; exact rfl) | (apply ltr_field; exact rfl; (repeat (first | exact At.here | apply At.there))) | (refine ltr ?_; apply lt_fieldEl; exact rfl; exact rfl) | (refine ltr ?_; apply lt_fieldRat; exact rfl; exact rfl))
  · repeat (first | exact App.nil | apply App.cons)
  apply Run.pv [1] []
  · exact rfl
  · intro vs; apply ltr_pk; (repeat (first | exact Pk.nil | (apply Pk.pv; exact rfl; exact rfl) | (apply Pk.tok; exact rfl; exact rfl)))
    (first | (apply ltr_load1; (first | exact .inl rfl | exact .inr ⟨rfl, rfl⟩); (repeat (first | exact At.here | apply At.there)); exact rfl) | (refine ltr ?_; apply lt_loadE1'; exact rfl; assumption; exact rfl) | (refine ltr ?_; apply lt_loadEN'; exact rfl; assumption; exact rfl) | (apply ltr_loadN; (first | exact .inl rfl | exact .inr ⟨rfl, rfl⟩); (repeat (first | exact At.here | apply At.there)); exact rfl) | (apply ltr_loadR1; exact rfl; (repeat (first | exact At.here | apply At.there)); assumption; exact rfl) | (apply ltr_loadRN; exact rfl; (repeat (first | exact At.here | apply At.there)); assumption))
  · repeat (first | exact App.nil | apply App.cons)
  apply Run.pv [0, 2] [0]
  · exact rfl
  · intro vs; apply ltr_pk; (repeat (first | exact Pk.nil | (apply Pk.pv; exact rfl; exact rfl) | (apply Pk.tok; exact rfl; exact rfl)))
    (refine ltr ?_; apply LT_frz; apply lt_append; exact rfl; exact rfl; (first | omega | (simp; omega)))
  · repeat (first | exact App.nil | apply App.cons)
  apply Run.tok [] []
  · exact rfl
  · intro vs; apply ltr_pk; (repeat (first | exact Pk.nil | (apply Pk.pv; exact rfl; exact rfl) | (apply Pk.tok; exact rfl; exact rfl)))
    (refine ltr ?_; apply lt_lit (f := quC); (repeat (first | exact Elems.nil | (apply Elems.cons; exact rfl; exact inferInstance; exact rfl))); exact rfl; (first | exact (of_decide_eq_true rfl) | decide | (simp; done) | (simp; omega)))
  · repeat (first | exact App.nil | apply App.cons)
  apply Run.pv [] []
  · exact rfl
  · intro vs; apply ltr_pk; (repeat (first | exact Pk.nil | (apply Pk.pv; exact rfl; exact rfl) | (apply Pk.tok; exact rfl; exact rfl)))
    (first | (refine ltr ?_; apply lt_fieldAt; exact rfl; exact rfl) | (apply ltr_field; exact rfl; (repeat (first | exact At.here | apply At.there))) | (refine ltr ?_; apply lt_fieldEl; exact rfl; exact rfl) | (refine ltr ?_; apply lt_fieldRat; exact rfl; exact rfl))
  · repeat (first | exact App.nil | apply App.cons)
  apply Run.pv [5] []
  · exact rfl
  · intro vs; apply ltr_pk; (repeat (first | exact Pk.nil | (apply Pk.pv; exact rfl; exact rfl) | (apply Pk.tok; exact rfl; exact rfl)))
    (first | (apply ltr_load1; (first | exact .inl rfl | exact .inr ⟨rfl, rfl⟩); (repeat (first | exact At.here | apply At.there)); exact rfl) | (refine ltr ?_; apply lt_loadE1'; exact rfl; assumption; exact rfl) | (refine ltr ?_; apply lt_loadEN'; exact rfl; assumption; exact rfl) | (apply ltr_loadN; (first | exact .inl rfl | exact .inr ⟨rfl, rfl⟩); (repeat (first | exact At.here | apply At.there)); exact rfl) | (apply ltr_loadR1; exact rfl; (repeat (first | exact At.here | apply At.there)); assumption; exact rfl) | (apply ltr_loadRN; exact rfl; (repeat (first | exact At.here | apply At.there)); assumption))
  · repeat (first | exact App.nil | apply App.cons)
  apply Run.pv [4, 6] [4]
  · exact rfl
  · intro vs; apply ltr_pk; (repeat (first | exact Pk.nil | (apply Pk.pv; exact rfl; exact rfl) | (apply Pk.tok; exact rfl; exact rfl)))
    (refine ltr ?_; apply LT_frz; apply lt_append; exact rfl; exact rfl; (first | omega | (simp; omega)))
  · repeat (first | exact App.nil | apply App.cons)
  apply Run.tok [] []
  · exact rfl
  · intro vs; apply ltr_pk; (repeat (first | exact Pk.nil | (apply Pk.pv; exact rfl; exact rfl) | (apply Pk.tok; exact rfl; exact rfl)))
    (refine ltr ?_; apply lt_lit (f := payC); (repeat (first | exact Elems.nil | (apply Elems.cons; exact rfl; exact inferInstance; exact rfl))); exact rfl; (first | exact (of_decide_eq_true rfl) | decide | (simp; done) | (simp; omega)))
  · repeat (first | exact App.nil | apply App.cons)
  apply Run.pv [] []
  · exact rfl
  · intro vs; apply ltr_pk; (repeat (first | exact Pk.nil | (apply Pk.pv; exact rfl; exact rfl) | (apply Pk.tok; exact rfl; exact rfl)))
    (first | (refine ltr ?_; apply lt_fieldAt; exact rfl; exact rfl) | (apply ltr_field; exact rfl; (repeat (first | exact At.here | apply At.there))) | (refine ltr ?_; apply lt_fieldEl; exact rfl; exact rfl) | (refine ltr ?_; apply lt_fieldRat; exact rfl; exact rfl))
  · repeat (first | exact App.nil | apply App.cons)
  apply Run.pv [9] []
  · exact rfl
  · intro vs; apply ltr_pk; (repeat (first | exact Pk.nil | (apply Pk.pv; exact rfl; exact rfl) | (apply Pk.tok; exact rfl; exact rfl)))
    (first | (apply ltr_load1; (first | exact .inl rfl | exact .inr ⟨rfl, rfl⟩); (repeat (first | exact At.here | apply At.there)); exact rfl) | (refine ltr ?_; apply lt_loadE1'; exact rfl; assumption; exact rfl) | (refine ltr ?_; apply lt_loadEN'; exact rfl; assumption; exact rfl) | (apply ltr_loadN; (first | exact .inl rfl | exact .inr ⟨rfl, rfl⟩); (repeat (first | exact At.here | apply At.there)); exact rfl) | (apply ltr_loadR1; exact rfl; (repeat (first | exact At.here | apply At.there)); assumption; exact rfl) | (apply ltr_loadRN; exact rfl; (repeat (first | exact At.here | apply At.there)); assumption))
  · repeat (first | exact App.nil | apply App.cons)
  apply Run.pv [8, 10] [8]
  · exact rfl
  · intro vs; apply ltr_pk; (repeat (first | exact Pk.nil | (apply Pk.pv; exact rfl; exact rfl) | (apply Pk.tok; exact rfl; exact rfl)))
    (refine ltr ?_; apply LT_frz; apply lt_append; exact rfl; exact rfl; (first | omega | (simp; omega)))
  · repeat (first | exact App.nil | apply App.cons)
  apply Run.pv [3, 7, 11] []
  · exact rfl
  · intro vs; apply ltr_pk; (repeat (first | exact Pk.nil | (apply Pk.pv; exact rfl; exact rfl) | (apply Pk.tok; exact rfl; exact rfl)))
    (refine ltr ?_; apply lt_build; apply Parts.cons (av := .sl 1 iC ([] ++ f.ids)); exact rfl; exact rfl; exact inferInstance; exact rfl; exact (of_decide_eq_true rfl); apply Parts.cons (av := .sl 2 quC ([] ++ f.qs)); exact rfl; exact rfl; exact inferInstance; exact rfl; exact (of_decide_eq_true rfl); apply Parts.cons (av := .sl 3 payC ([] ++ f.ps)); exact rfl; exact rfl; exact inferInstance; exact rfl; exact (of_decide_eq_true rfl); exact Parts.nil)
  · repeat (first | exact App.nil | apply App.cons)
  apply Run.tok [] []
  · exact rfl
  · intro vs; apply ltr_pk; (repeat (first | exact Pk.nil | (apply Pk.pv; exact rfl; exact rfl) | (apply Pk.tok; exact rfl; exact rfl)))
    (first | (refine ltr ?_; exact lt_allocT))
  · repeat (first | exact App.nil | apply App.cons)
  refine ⟨⟨by kernel_rfl, by kernel_rfl⟩, fun vs => ?_⟩
  refine WL_to [(1, .val pf), (2, .val p), (18, .agg [.sl 1 iC ([] ++ f.ids), .sl 2 quC ([] ++ f.qs), .val (.slice none 0 0), .sl 3 payC ([] ++ f.ps)]), (3, .val (vs 13))] [.box (vs 13) [.val (.slice none 0 0), .val (.slice none 0 0), .val (.slice none 0 0), .val (.slice none 0 0)] 27, .box p [.val (.slice none 0 0), .val (.slice none 0 0), .val (.slice none 0 0), .val (.slice none 0 0)] 27, .box pf (flC f) 27] (by kernel_rfl) (by kernel_rfl) ?_
  generalize vs 13 = q
  ((apply wl_store; (first | exact .inl rfl | exact .inr ⟨rfl, rfl⟩); (repeat (first | exact At.here | apply At.there)); exact rfl; exact inferInstance; exact inferInstance; exact inferInstance; exact rfl; (first | exact (of_decide_eq_true rfl) | (simp; omega) | decide)); refine WL_nil ?_; refine th_norm ?_; refine W_seq ?_; refine W_seq ?_; refine W_region ?_; (apply wl_field; exact rfl; (repeat (first | exact At.here | apply At.there)); exact rfl); (apply wl_load1; (first | exact .inl rfl | exact .inr ⟨rfl, rfl⟩); (repeat (first | exact At.here | apply At.there)); exact rfl; exact rfl); (apply wl_lenSl; exact rfl; exact rfl); (apply wl_move; exact rfl; exact rfl); refine WL_nil ?_; refine th_norm ?_; refine W_block ?_)
  skip
  refine W_loopJ (fun (b : Nat × Value) => ⟨[(1, .val pf), (2, .val p), (3, .val q), (20, .sl 4 biC f.bs), (21, .val (.int .i64 f.bs.length)), (22, .val (.int .i64 b.1))], [.row b.2 66 4 biC (f.bs.take b.1), .box q [.sl 1 iC f.ids, .sl 2 quC f.qs, .val b.2, .sl 3 payC f.ps] 27, .box p [.val (.slice none 0 0), .val (.slice none 0 0), .val (.slice none 0 0), .val (.slice none 0 0)] 27]⟩) (fun b => b.1 ≤ f.bs.length) (fun b => f.bs.length - b.1) (0, .slice none 0 0) (fun _ _ st => st_sub2 (st_nil 66 4 biC st) (by (repeat (first | exact trivial | refine ⟨rfl, ?_⟩))) (by (repeat (first | exact SubP.nil | (apply SubP.cons; (repeat (first | exact Rm.here | apply Rm.there))))))) (Nat.zero_le _) ?_
  rintro ⟨k, v⟩ hk
  dsimp only at hk ⊢
  (refine W_seq ?_; refine W_region ?_; (apply wl_lss; exact rfl; exact rfl; exact rfl); refine WL_nil ?_; refine th_norm ?_; refine W_seq ?_)
  refine w_cond rfl (fun hlt => ?_) (fun hlt => ?_)
  · have hlt' : k < f.bs.length := by simpa using hlt
    have hm := hS.st _ (List.getElem_mem hlt')
    have htk : f.bs.take (k + 1) = f.bs.take k ++ [f.bs[k]] := List.take_succ_eq_append_getElem hlt'
    (refine W_skip ?_; refine th_norm ?_; refine W_seq ?_; refine W_block ?_; refine W_seq ?_; refine W_region ?_; (apply wl_indexSl; exact rfl; exact rfl; exact rfl; (first | assumption | omega | (simp; omega)); exact rfl); (apply wl_loadEN; exact rfl; (case hk => first | assumption | omega | exact Nat.one_pos | (simp; omega)); exact rfl; exact rfl); (apply wl_alloc; exact rfl; intro p hp); (apply wl_store; (first | exact .inl rfl | exact .inr ⟨rfl, rfl⟩); (repeat (first | exact At.here | apply At.there)); exact rfl; exact inferInstance; exact inferInstance; exact inferInstance; exact rfl; (first | exact (of_decide_eq_true rfl) | (simp; omega) | decide)); refine WL_nil ?_; refine th_norm ?_; refine W_seq ?_; refine W_region ?_)
    (apply wl_lit stC; exact inferInstance; exact inferInstance; exact inferInstance; (repeat (first | exact Elems.nil | (apply Elems.cons; exact rfl; exact inferInstance; exact rfl))); exact rfl; (first | exact (of_decide_eq_true rfl) | decide | (simp; done) | (simp; omega)); exact rfl)
    intro v1
    ((apply wl_field; exact rfl; (repeat (first | exact At.here | apply At.there)); exact rfl); (apply wl_load1; (first | exact .inl rfl | exact .inr ⟨rfl, rfl⟩); (repeat (first | exact At.here | apply At.there)); exact rfl; exact rfl))
    (first | (apply wl_append; exact rfl; exact rfl; (repeat (first | exact Rm.here | apply Rm.there)); exact inferInstance; exact inferInstance; (first | omega | (simp; omega)); exact rfl) | (apply wl_appendN; exact rfl; exact rfl; exact inferInstance; exact inferInstance; (first | omega | (simp; omega)); exact rfl))
    intro v2
    (apply WL_frz 29; exact rfl; (repeat (first | exact Rm.here | apply Rm.there)))
    ((apply wl_field; exact rfl; (repeat (first | exact At.here | apply At.there)); exact rfl); (apply wl_store; (first | exact .inl rfl | exact .inr ⟨rfl, rfl⟩); (repeat (first | exact At.here | apply At.there)); exact rfl; exact inferInstance; exact inferInstance; exact inferInstance; exact rfl; (first | exact (of_decide_eq_true rfl) | (simp; omega) | decide)); refine WL_nil ?_; refine th_norm ?_; refine W_region ?_; (apply wl_field; exact rfl; (repeat (first | exact At.here | apply At.there)); exact rfl); (apply wl_load1; (first | exact .inl rfl | exact .inr ⟨rfl, rfl⟩); (repeat (first | exact At.here | apply At.there)); exact rfl; exact rfl); (apply wl_loadN; (first | exact .inl rfl | exact .inr ⟨rfl, rfl⟩); (repeat (first | exact At.here | apply At.there)); exact rfl; exact rfl))
    refine WL_as 33 (.agg (biC f.bs[k])) rfl ?_
    (apply wl_litF biC; exact inferInstance; exact inferInstance; exact inferInstance; (repeat (first | exact Elems.nil | (apply Elems.cons; exact rfl; exact inferInstance; exact rfl))); exact rfl; (first | exact (of_decide_eq_true rfl) | decide | (simp; done) | (simp; omega)); exact rfl)
    (first | (apply wl_append; exact rfl; exact rfl; (repeat (first | exact Rm.here | apply Rm.there)); exact inferInstance; exact inferInstance; (first | omega | (simp; omega)); exact rfl) | (apply wl_appendN; exact rfl; exact rfl; exact inferInstance; exact inferInstance; (first | omega | (simp; omega)); exact rfl))
    intro v'
    rw [← htk]
    refine WL_one At.here (fun hone => ?_)
    ((apply wl_field; exact rfl; (repeat (first | exact At.here | apply At.there)); exact rfl); (apply wl_store; (first | exact .inl rfl | exact .inr ⟨rfl, rfl⟩); (repeat (first | exact At.here | apply At.there)); exact rfl; exact inferInstance; exact inferInstance; exact inferInstance; exact rfl; (first | exact (of_decide_eq_true rfl) | (simp; omega) | decide)); refine WL_nil ?_; refine bl_norm ?_; refine th_norm ?_; refine W_region ?_; (apply wl_add; exact rfl; exact rfl; omega; omega; exact rfl); (apply wl_move; exact rfl; exact rfl); refine WL_nil ?_; refine th_norm ?_)
    (refine ⟨(k + 1, v'), fun _ _ st => st_sub2 st ?_ ?_, ?_, ?_⟩; (repeat (first | exact trivial | refine ⟨rfl, ?_⟩)); (repeat (first | exact SubP.nil | (apply SubP.cons; (repeat (first | exact Rm.here | apply Rm.there))))))
    · dsimp only; omega
    · dsimp only; omega
  · have hkk : k = f.bs.length := by simp at hlt; omega
    subst hkk
    rw [List.take_length]
    (refine W_exit ?_; refine th_exit ?_; refine th_exit ?_; refine bl_eq ?_; refine th_norm ?_; refine W_seq ?_; refine W_region ?_; (apply wl_loadN; (first | exact .inl rfl | exact .inr ⟨rfl, rfl⟩); (repeat (first | exact At.here | apply At.there)); exact rfl; exact rfl))
    (apply WL_frzA 38 2; exact rfl; exact rfl; (repeat (first | exact Rm.here | apply Rm.there)))
    refine WL_as 38 (.agg (flC f)) rfl ?_
    ((apply wl_store; (first | exact .inl rfl | exact .inr ⟨rfl, rfl⟩); (repeat (first | exact At.here | apply At.there)); exact rfl; exact inferInstance; exact inferInstance; exact inferInstance; exact rfl; (first | exact (of_decide_eq_true rfl) | (simp; omega) | decide)); refine WL_nil ?_; refine th_norm ?_; refine W_ret ?_; refine rt_norm ?_)
    (apply resN; exact rfl; exact rfl; (repeat (first | exact At.here | apply At.there)); exact inferInstance; exact rfl; exact ⟨rfl, rfl⟩)
end Go.Proofs.YtbkellknlcageaaDoor.Sw
