/- FloorCg: several parts in one text. -/
import Derived.Test.YtbkellknlcageaaDoorFloorCe
/- The program's 'Pay'. -/
namespace Go.Proofs.YtbkellknlcageaaDoor.Sw
open Go.RowKit Go Go.Shelf Go.Proofs
def floE : Flo := ⟨[], [], [], []⟩
theorem floE_own (G : Nat → Option Obj) (w : World) : (floOwn (.slice none 0 0) (.slice none 0 0) (.slice none 0 0) (.slice none 0 0) floE).P G [] w :=
  ⟨[], hsP.fact.2 ⟨rfl, [], [], .refl _, row_nilP _ _ _ G w, [], [], .refl _, row_nilP _ _ _ G w, [], [], .refl _, row_nilP _ _ _ G w, [], [], .refl _, row_nilP _ _ _ G w, [], [], .refl _, rfl, rfl⟩⟩
/-- What a change hands back. -/
def FlP (r : Flo × Int) : AV → List HA → Prop := fun x y => ∃ vi vq vb vp, (One (.val vi) ∧ One (.val vq) ∧ One (.val vb) ∧ One (.val vp)) ∧ x = .tup [.agg [.val vi, .val vq, .val vb, .val vp], .val (.int .i64 r.2)] ∧ y = [floOwn vi vq vb vp r.1, tab8]
theorem flP_nil (e : Int) : FlP (floE, e) (.tup [.agg [.val (.slice none 0 0), .val (.slice none 0 0), .val (.slice none 0 0), .val (.slice none 0 0)], .val (.int .i64 e)]) [floOwn (.slice none 0 0) (.slice none 0 0) (.slice none 0 0) (.slice none 0 0) floE, tab8] :=
  ⟨_, _, _, _, ⟨inferInstance, inferInstance, inferInstance, inferInstance⟩, rfl, rfl⟩
def payR (f : Flo) (x : Pay) : Flo × Int :=
  if floOk f = true then (if f.ps.length = 12 then (floE, 9) else if floOk { f with ps := f.ps ++ [x] } = true then ({ f with ps := f.ps ++ [x] }, 0) else (floE, 82)) else (floE, 80)
set_option maxRecDepth 20000 in
set_option maxHeartbeats 4000000 in
theorem pay_con (f : Flo) (x : Pay) (hS : Sml f) : Con Tryd.prog 24 [.agg (flC f), .agg (payC x)] [tab8] (FlP (payR f x)) := by
  have C := check_con f hS
  cases hok : floOk f with
  | false =>
    rw [show errF f = 80 by unfold errF; rw [hok]; rfl] at C
    rw [show payR f x = (floE, 80) by unfold payR; rw [hok]; rfl]
    refine con_of Tryd.func24 rfl (enters_of Tryd.func24 (by kernel_rfl) rfl) rfl ?_; intro n w0 F0 G0
    (refine W_seq ?_; refine W_region ?_; (apply wl_boxv; exact rfl; exact inferInstance; exact rfl; intro p hp); (apply wl_boxv; exact rfl; exact inferInstance; exact rfl; intro p hp); (apply wl_alloc; exact rfl; intro p hp); (apply wl_assign; exact rfl; exact rfl); refine WL_nil ?_; refine th_norm ?_; refine W_seq ?_; refine W_seq ?_; refine W_region ?_; (apply wl_loadN; (first | exact .inl rfl | exact .inr ⟨rfl, rfl⟩); (repeat (first | exact At.here | apply At.there)); exact rfl; exact rfl))
    (first | (apply wl_call (C); exact rfl; exact rfl) | (apply wl_callR (C); exact rfl; (repeat (first | exact At.here | apply At.there)); exact rfl))
    ((apply wl_assign; exact rfl; exact rfl); refine WL_nil ?_; refine th_norm ?_; refine W_seq ?_; refine W_region ?_; (apply wl_move; exact rfl; exact rfl); (apply wl_neq; exact rfl; exact rfl; exact rfl); refine WL_nil ?_; refine th_norm ?_; (apply w_true; exact rfl); refine W_seq ?_; refine W_region ?_; (apply wl_build; (repeat (first | exact Parts.nil | (apply Parts.cons; exact rfl; exact rfl; exact inferInstance; exact rfl; exact (of_decide_eq_true rfl)))); exact rfl); (apply wl_move; exact rfl; exact rfl); (apply wl_store; (first | exact .inl rfl | exact .inr ⟨rfl, rfl⟩); (repeat (first | exact At.here | apply At.there)); exact rfl; exact inferInstance; exact inferInstance; exact inferInstance; exact rfl; (first | exact (of_decide_eq_true rfl) | (simp; omega) | decide)); (apply wl_assign; exact rfl; exact rfl); refine WL_nil ?_; refine th_norm ?_; refine W_ret ?_; refine th_ret ?_; refine rt_norm ?_)
    (refine Res_add _ floE_own ?_; apply resKN1; exact rfl; exact rfl; (repeat (first | exact At.here | apply At.there)); exact inferInstance; exact rfl; exact rfl; exact flP_nil _; (repeat (first | exact Cut.nil | (apply Cut.cons; (repeat (first | exact Rm.here | apply Rm.there))))))
  | true =>
    rw [show errF f = 0 by unfold errF; rw [hok]; rfl] at C
    have hpsl := (flo_f hok).ps
    refine con_of Tryd.func24 rfl (enters_of Tryd.func24 (by kernel_rfl) rfl) rfl ?_; intro n w0 F0 G0
    (refine W_seq ?_; refine W_region ?_; (apply wl_boxv; exact rfl; exact inferInstance; exact rfl; intro p hp); (apply wl_boxv; exact rfl; exact inferInstance; exact rfl; intro p hp); (apply wl_alloc; exact rfl; intro p hp); (apply wl_assign; exact rfl; exact rfl); refine WL_nil ?_; refine th_norm ?_; refine W_seq ?_; refine W_seq ?_; refine W_region ?_; (apply wl_loadN; (first | exact .inl rfl | exact .inr ⟨rfl, rfl⟩); (repeat (first | exact At.here | apply At.there)); exact rfl; exact rfl))
    (first | (apply wl_call (C); exact rfl; exact rfl) | (apply wl_callR (C); exact rfl; (repeat (first | exact At.here | apply At.there)); exact rfl))
    ((apply wl_assign; exact rfl; exact rfl); refine WL_nil ?_; refine th_norm ?_; refine W_seq ?_; refine W_region ?_; (apply wl_move; exact rfl; exact rfl); (apply wl_neq; exact rfl; exact rfl; exact rfl); refine WL_nil ?_; refine th_norm ?_; (apply w_false; exact rfl); refine W_skip ?_; refine th_norm ?_; refine W_seq ?_; refine W_seq ?_; refine W_region ?_; (apply wl_field; exact rfl; (repeat (first | exact At.here | apply At.there)); exact rfl); (apply wl_load1; (first | exact .inl rfl | exact .inr ⟨rfl, rfl⟩); (repeat (first | exact At.here | apply At.there)); exact rfl; exact rfl); (apply wl_lenSl; exact rfl; exact rfl); (apply wl_eql; exact rfl; exact rfl; exact rfl); refine WL_nil ?_; refine th_norm ?_)
    refine w_cond rfl (fun g => ?_) (fun g => ?_)
    · rw [show payR f x = (floE, 9) by unfold payR; rw [if_pos hok, if_pos (by simp at g; omega)]]
      (refine W_seq ?_; refine W_region ?_; (apply wl_build; (repeat (first | exact Parts.nil | (apply Parts.cons; exact rfl; exact rfl; exact inferInstance; exact rfl; exact (of_decide_eq_true rfl)))); exact rfl); (apply wl_store; (first | exact .inl rfl | exact .inr ⟨rfl, rfl⟩); (repeat (first | exact At.here | apply At.there)); exact rfl; exact inferInstance; exact inferInstance; exact inferInstance; exact rfl; (first | exact (of_decide_eq_true rfl) | (simp; omega) | decide)); (apply wl_assign; exact rfl; exact rfl); refine WL_nil ?_; refine th_norm ?_; refine W_ret ?_; refine th_ret ?_; refine rt_norm ?_)
      (refine Res_add _ floE_own ?_; apply resKN1; exact rfl; exact rfl; (repeat (first | exact At.here | apply At.there)); exact inferInstance; exact rfl; exact rfl; exact flP_nil _; (repeat (first | exact Cut.nil | (apply Cut.cons; (repeat (first | exact Rm.here | apply Rm.there))))))
    · have hn : ¬ f.ps.length = 12 := by simp at g; omega
      generalize hf' : ({ f with ps := f.ps ++ [x] } : Flo) = f'
      have hS' : Sml f' := by rw [← hf']; exact ⟨hS.ids, hS.qs, hS.bs, by simp; omega, hS.st⟩
      (refine W_skip ?_; refine th_norm ?_; refine W_seq ?_; refine W_region ?_; (apply wl_loadN; (first | exact .inl rfl | exact .inr ⟨rfl, rfl⟩); (repeat (first | exact At.here | apply At.there)); exact rfl; exact rfl))
      (apply wl_callP (copied_con f hS); exact rfl; (repeat (first | exact Cut.nil | (apply Cut.cons; (repeat (first | exact Rm.here | apply Rm.there))))); exact rfl)
      rintro _ _ ⟨vi, vq, vb, vp, ⟨o1, o2, o3, o4⟩, rfl, rfl⟩
      apply WL_exs
      · (repeat (first | exact Rm.here | apply Rm.there))
      intro us
      apply WL_fact
      · (repeat (first | exact Rm.here | apply Rm.there))
      intro hus
      ((apply wl_store; (first | exact .inl rfl | exact .inr ⟨rfl, rfl⟩); (repeat (first | exact At.here | apply At.there)); exact rfl; exact inferInstance; exact inferInstance; exact inferInstance; exact rfl; (first | exact (of_decide_eq_true rfl) | (simp; omega) | decide)); refine WL_nil ?_; refine th_norm ?_; refine W_seq ?_; refine W_region ?_; (apply wl_field; exact rfl; (repeat (first | exact At.here | apply At.there)); exact rfl); (apply wl_load1; (first | exact .inl rfl | exact .inr ⟨rfl, rfl⟩); (repeat (first | exact At.here | apply At.there)); exact rfl; exact rfl); (apply wl_loadN; (first | exact .inl rfl | exact .inr ⟨rfl, rfl⟩); (repeat (first | exact At.here | apply At.there)); exact rfl; exact rfl))
      (apply wl_litF payC; exact inferInstance; exact inferInstance; exact inferInstance; (repeat (first | exact Elems.nil | (apply Elems.cons; exact rfl; exact inferInstance; exact rfl))); exact rfl; (first | exact (of_decide_eq_true rfl) | decide | (simp; done) | (simp; omega)); exact rfl)
      (first | (apply wl_append; exact rfl; exact rfl; (repeat (first | exact Rm.here | apply Rm.there)); exact inferInstance; exact inferInstance; (first | omega | (simp; omega)); exact rfl) | (apply wl_appendN; exact rfl; exact rfl; exact inferInstance; exact inferInstance; (first | omega | (simp; omega)); exact rfl))
      intro v'
      refine WL_one At.here (fun o5 => ?_)
      apply WL_mkFact hus
      apply WL_mkExs (h := fun us : List Value => [.fact (us.length = f.bs.length), .row vi 3 1 iC f.ids, .row vq 55 2 quC f.qs, .row vb 66 4 mbC (mixL f.bs us), .row v' 53 3 payC (f.ps ++ [x]), .pack (stkR f.bs us)]) us
      · (repeat (first | exact Cut.nil | (apply Cut.cons; (repeat (first | exact Rm.here | apply Rm.there)))))
      rw [show HA.exs (fun us : List Value => [.fact (us.length = f.bs.length), .row vi 3 1 iC f.ids, .row vq 55 2 quC f.qs, .row vb 66 4 mbC (mixL f.bs us), .row v' 53 3 payC (f.ps ++ [x]), .pack (stkR f.bs us)]) = floOwn vi vq vb v' f' from by rw [← hf']; rfl]
      ((apply wl_field; exact rfl; (repeat (first | exact At.here | apply At.there)); exact rfl); (apply wl_store; (first | exact .inl rfl | exact .inr ⟨rfl, rfl⟩); (repeat (first | exact At.here | apply At.there)); exact rfl; exact inferInstance; exact inferInstance; exact inferInstance; exact rfl; (first | exact (of_decide_eq_true rfl) | (simp; omega) | decide)); refine WL_nil ?_; refine th_norm ?_; refine W_seq ?_; refine W_seq ?_; refine W_region ?_; (apply wl_loadN; (first | exact .inl rfl | exact .inr ⟨rfl, rfl⟩); (repeat (first | exact At.here | apply At.there)); exact rfl; exact rfl))
      (apply wl_borrow 26 (flo_thaw vi vq vb v' f') (check_con f' hS'); exact rfl; exact rfl; (repeat (first | exact Cut.nil | (apply Cut.cons; (repeat (first | exact Rm.here | apply Rm.there))))); exact Pers.glob Pers.nil; exact rfl)
      ((apply wl_neq; exact rfl; exact rfl; exact rfl); refine WL_nil ?_; refine th_norm ?_)
      have hW : payR f x = if floOk f' = true then (f', 0) else (floE, 82) := by unfold payR; rw [if_pos hok, if_neg hn, hf']
      rw [hW]
      cases hok2 : floOk f' with
      | false =>
        rw [show errF f' = 80 by unfold errF; rw [hok2]; rfl]
        ((apply w_true; exact rfl); refine W_seq ?_; refine W_region ?_; (apply wl_build; (repeat (first | exact Parts.nil | (apply Parts.cons; exact rfl; exact rfl; exact inferInstance; exact rfl; exact (of_decide_eq_true rfl)))); exact rfl); (apply wl_store; (first | exact .inl rfl | exact .inr ⟨rfl, rfl⟩); (repeat (first | exact At.here | apply At.there)); exact rfl; exact inferInstance; exact inferInstance; exact inferInstance; exact rfl; (first | exact (of_decide_eq_true rfl) | (simp; omega) | decide)); (apply wl_assign; exact rfl; exact rfl); refine WL_nil ?_; refine th_norm ?_; refine W_ret ?_; refine th_ret ?_; refine rt_norm ?_)
        rw [if_neg (by simp)]
        (refine Res_add _ floE_own ?_; apply resKN1; exact rfl; exact rfl; (repeat (first | exact At.here | apply At.there)); exact inferInstance; exact rfl; exact rfl; exact flP_nil _; (repeat (first | exact Cut.nil | (apply Cut.cons; (repeat (first | exact Rm.here | apply Rm.there))))))
      | true =>
        rw [show errF f' = 0 by unfold errF; rw [hok2]; rfl]
        ((apply w_false; exact rfl); refine W_skip ?_; refine th_norm ?_; refine W_seq ?_; refine W_region ?_; (apply wl_loadN; (first | exact .inl rfl | exact .inr ⟨rfl, rfl⟩); (repeat (first | exact At.here | apply At.there)); exact rfl; exact rfl); (apply wl_store; (first | exact .inl rfl | exact .inr ⟨rfl, rfl⟩); (repeat (first | exact At.here | apply At.there)); exact rfl; exact inferInstance; exact inferInstance; exact inferInstance; exact rfl; (first | exact (of_decide_eq_true rfl) | (simp; omega) | decide)); (apply wl_assign; exact rfl; exact rfl); refine WL_nil ?_; refine th_norm ?_; refine W_ret ?_; refine rt_norm ?_)
        rw [if_pos rfl]
        (apply resKN1; exact rfl; exact rfl; (repeat (first | exact At.here | apply At.there)); exact inferInstance; exact rfl; exact rfl; exact ⟨vi, vq, vb, v', ⟨inferInstance, inferInstance, inferInstance, inferInstance⟩, rfl, rfl⟩; (repeat (first | exact Cut.nil | (apply Cut.cons; (repeat (first | exact Rm.here | apply Rm.there))))))
end Go.Proofs.YtbkellknlcageaaDoor.Sw
/- The program's 'Split' and 'Mend'. -/
namespace Go.Proofs.YtbkellknlcageaaDoor.Sw
open Go.RowKit Go Go.Shelf Go.Proofs
def qLtC (x y : Qu) : Bool := decide (quCmp x y < 0)
def splitR (f : Flo) (x : Qu) : Flo × Int :=
  if floOk f = true then (if floOk { f with qs := srt qLtC (f.qs ++ [x]) } = true then ({ f with qs := srt qLtC (f.qs ++ [x]) }, 0) else (floE, 83)) else (floE, 80)
set_option maxRecDepth 20000 in
set_option maxHeartbeats 4000000 in
theorem split_con (f : Flo) (x : Qu) (hS : Sml f) (hq : floOk f = true → f.qs.length ≤ 18) : Con Tryd.prog 26 [.agg (flC f), .agg (quC x)] [tab8] (FlP (splitR f x)) := by
  have C := check_con f hS
  cases hok : floOk f with
  | false =>
    rw [show errF f = 80 by unfold errF; rw [hok]; rfl] at C
    rw [show splitR f x = (floE, 80) by unfold splitR; rw [hok]; rfl]
    refine con_of Tryd.func26 rfl (enters_of Tryd.func26 (by kernel_rfl) rfl) rfl ?_; intro n w0 F0 G0
    (refine W_seq ?_; refine W_region ?_; (apply wl_boxv; exact rfl; exact inferInstance; exact rfl; intro p hp); (apply wl_boxv; exact rfl; exact inferInstance; exact rfl; intro p hp); (apply wl_alloc; exact rfl; intro p hp); (apply wl_assign; exact rfl; exact rfl); refine WL_nil ?_; refine th_norm ?_; refine W_seq ?_; refine W_seq ?_; refine W_region ?_; (apply wl_loadN; (first | exact .inl rfl | exact .inr ⟨rfl, rfl⟩); (repeat (first | exact At.here | apply At.there)); exact rfl; exact rfl))
    (first | (apply wl_call (C); exact rfl; exact rfl) | (apply wl_callR (C); exact rfl; (repeat (first | exact At.here | apply At.there)); exact rfl))
    ((apply wl_assign; exact rfl; exact rfl); refine WL_nil ?_; refine th_norm ?_; refine W_seq ?_; refine W_region ?_; (apply wl_move; exact rfl; exact rfl); (apply wl_neq; exact rfl; exact rfl; exact rfl); refine WL_nil ?_; refine th_norm ?_; (apply w_true; exact rfl); refine W_seq ?_; refine W_region ?_; (apply wl_build; (repeat (first | exact Parts.nil | (apply Parts.cons; exact rfl; exact rfl; exact inferInstance; exact rfl; exact (of_decide_eq_true rfl)))); exact rfl); (apply wl_move; exact rfl; exact rfl); (apply wl_store; (first | exact .inl rfl | exact .inr ⟨rfl, rfl⟩); (repeat (first | exact At.here | apply At.there)); exact rfl; exact inferInstance; exact inferInstance; exact inferInstance; exact rfl; (first | exact (of_decide_eq_true rfl) | (simp; omega) | decide)); (apply wl_assign; exact rfl; exact rfl); refine WL_nil ?_; refine th_norm ?_; refine W_ret ?_; refine th_ret ?_; refine rt_norm ?_)
    (refine Res_add _ floE_own ?_; apply resKN1; exact rfl; exact rfl; (repeat (first | exact At.here | apply At.there)); exact inferInstance; exact rfl; exact rfl; exact flP_nil _; (repeat (first | exact Cut.nil | (apply Cut.cons; (repeat (first | exact Rm.here | apply Rm.there))))))
  | true =>
    rw [show errF f = 0 by unfold errF; rw [hok]; rfl] at C
    have hqsl := hq hok
    generalize hf' : ({ f with qs := srt qLtC (f.qs ++ [x]) } : Flo) = f'
    have hS' : Sml f' := by rw [← hf']; exact ⟨hS.ids, by show (srt qLtC (f.qs ++ [x])).length ≤ 1000; rw [srt_len]; simp; omega, hS.bs, hS.ps, hS.st⟩
    have hW : splitR f x = if floOk f' = true then (f', 0) else (floE, 83) := by unfold splitR; rw [if_pos hok, hf']
    rw [hW]
    refine con_of Tryd.func26 rfl (enters_of Tryd.func26 (by kernel_rfl) rfl) rfl ?_; intro n w0 F0 G0
    (refine W_seq ?_; refine W_region ?_; (apply wl_boxv; exact rfl; exact inferInstance; exact rfl; intro p hp); (apply wl_boxv; exact rfl; exact inferInstance; exact rfl; intro p hp); (apply wl_alloc; exact rfl; intro p hp); (apply wl_assign; exact rfl; exact rfl); refine WL_nil ?_; refine th_norm ?_; refine W_seq ?_; refine W_seq ?_; refine W_region ?_; (apply wl_loadN; (first | exact .inl rfl | exact .inr ⟨rfl, rfl⟩); (repeat (first | exact At.here | apply At.there)); exact rfl; exact rfl))
    (first | (apply wl_call (C); exact rfl; exact rfl) | (apply wl_callR (C); exact rfl; (repeat (first | exact At.here | apply At.there)); exact rfl))
    ((apply wl_assign; exact rfl; exact rfl); refine WL_nil ?_; refine th_norm ?_; refine W_seq ?_; refine W_region ?_; (apply wl_move; exact rfl; exact rfl); (apply wl_neq; exact rfl; exact rfl; exact rfl); refine WL_nil ?_; refine th_norm ?_; (apply w_false; exact rfl); refine W_skip ?_; refine th_norm ?_; refine W_seq ?_; refine W_region ?_; (apply wl_loadN; (first | exact .inl rfl | exact .inr ⟨rfl, rfl⟩); (repeat (first | exact At.here | apply At.there)); exact rfl; exact rfl))
    (apply wl_callP (copied_con f hS); exact rfl; (repeat (first | exact Cut.nil | (apply Cut.cons; (repeat (first | exact Rm.here | apply Rm.there))))); exact rfl)
    rintro _ _ ⟨vi, vq, vb, vp, ⟨o1, o2, o3, o4⟩, rfl, rfl⟩
    apply WL_exs
    · (repeat (first | exact Rm.here | apply Rm.there))
    intro us
    apply WL_fact
    · (repeat (first | exact Rm.here | apply Rm.there))
    intro hus
    ((apply wl_store; (first | exact .inl rfl | exact .inr ⟨rfl, rfl⟩); (repeat (first | exact At.here | apply At.there)); exact rfl; exact inferInstance; exact inferInstance; exact inferInstance; exact rfl; (first | exact (of_decide_eq_true rfl) | (simp; omega) | decide)); refine WL_nil ?_; refine th_norm ?_; refine W_seq ?_; refine W_region ?_; (apply wl_field; exact rfl; (repeat (first | exact At.here | apply At.there)); exact rfl); (apply wl_load1; (first | exact .inl rfl | exact .inr ⟨rfl, rfl⟩); (repeat (first | exact At.here | apply At.there)); exact rfl; exact rfl); (apply wl_loadN; (first | exact .inl rfl | exact .inr ⟨rfl, rfl⟩); (repeat (first | exact At.here | apply At.there)); exact rfl; exact rfl))
    (apply wl_litF quC; exact inferInstance; exact inferInstance; exact inferInstance; (repeat (first | exact Elems.nil | (apply Elems.cons; exact rfl; exact inferInstance; exact rfl))); exact rfl; (first | exact (of_decide_eq_true rfl) | decide | (simp; done) | (simp; omega)); exact rfl)
    (first | (apply wl_append; exact rfl; exact rfl; (repeat (first | exact Rm.here | apply Rm.there)); exact inferInstance; exact inferInstance; (first | omega | (simp; omega)); exact rfl) | (apply wl_appendN; exact rfl; exact rfl; exact inferInstance; exact inferInstance; (first | omega | (simp; omega)); exact rfl))
    intro v'
    refine WL_one At.here (fun o5 => ?_)
    ((apply wl_field; exact rfl; (repeat (first | exact At.here | apply At.there)); exact rfl); (apply wl_store; (first | exact .inl rfl | exact .inr ⟨rfl, rfl⟩); (repeat (first | exact At.here | apply At.there)); exact rfl; exact inferInstance; exact inferInstance; exact inferInstance; exact rfl; (first | exact (of_decide_eq_true rfl) | (simp; omega) | decide)); refine WL_nil ?_; refine th_norm ?_; refine W_seq ?_; refine W_region ?_; (apply wl_field; exact rfl; (repeat (first | exact At.here | apply At.there)); exact rfl); (apply wl_load1; (first | exact .inl rfl | exact .inr ⟨rfl, rfl⟩); (repeat (first | exact At.here | apply At.there)); exact rfl; exact rfl))
    (apply wl_callP (sortSQ_con v' (f.qs ++ [x]) 74 [] quCmp (by simp; omega) (fun x y => quarrels_con x y)); exact rfl; (repeat (first | exact Cut.nil | (apply Cut.cons; (repeat (first | exact Rm.here | apply Rm.there))))); exact rfl)
    rintro _ _ ⟨rfl, rfl⟩
    apply WL_mkFact hus
    apply WL_mkExs (h := fun us : List Value => [.fact (us.length = f.bs.length), .row vi 3 1 iC f.ids, .row v' 55 2 quC (srt (fun x y => decide (quCmp x y < 0)) (f.qs ++ [x])), .row vb 66 4 mbC (mixL f.bs us), .row vp 53 3 payC f.ps, .pack (stkR f.bs us)]) us
    · (repeat (first | exact Cut.nil | (apply Cut.cons; (repeat (first | exact Rm.here | apply Rm.there)))))
    rw [show HA.exs (fun us : List Value => [.fact (us.length = f.bs.length), .row vi 3 1 iC f.ids, .row v' 55 2 quC (srt (fun x y => decide (quCmp x y < 0)) (f.qs ++ [x])), .row vb 66 4 mbC (mixL f.bs us), .row vp 53 3 payC f.ps, .pack (stkR f.bs us)]) = floOwn vi v' vb vp f' from by rw [← hf']; rfl]
    (refine WL_nil ?_; refine th_norm ?_; refine W_seq ?_; refine W_seq ?_; refine W_region ?_; (apply wl_loadN; (first | exact .inl rfl | exact .inr ⟨rfl, rfl⟩); (repeat (first | exact At.here | apply At.there)); exact rfl; exact rfl))
    (apply wl_borrow 24 (flo_thaw vi v' vb vp f') (check_con f' hS'); exact rfl; exact rfl; (repeat (first | exact Cut.nil | (apply Cut.cons; (repeat (first | exact Rm.here | apply Rm.there))))); exact Pers.glob Pers.nil; exact rfl)
    ((apply wl_neq; exact rfl; exact rfl; exact rfl); refine WL_nil ?_; refine th_norm ?_)
    cases hok2 : floOk f' with
    | false =>
      rw [show errF f' = 80 by unfold errF; rw [hok2]; rfl]
      ((apply w_true; exact rfl); refine W_seq ?_; refine W_region ?_; (apply wl_build; (repeat (first | exact Parts.nil | (apply Parts.cons; exact rfl; exact rfl; exact inferInstance; exact rfl; exact (of_decide_eq_true rfl)))); exact rfl); (apply wl_store; (first | exact .inl rfl | exact .inr ⟨rfl, rfl⟩); (repeat (first | exact At.here | apply At.there)); exact rfl; exact inferInstance; exact inferInstance; exact inferInstance; exact rfl; (first | exact (of_decide_eq_true rfl) | (simp; omega) | decide)); (apply wl_assign; exact rfl; exact rfl); refine WL_nil ?_; refine th_norm ?_; refine W_ret ?_; refine th_ret ?_; refine rt_norm ?_)
      rw [if_neg (by simp)]
      (refine Res_add _ floE_own ?_; apply resKN1; exact rfl; exact rfl; (repeat (first | exact At.here | apply At.there)); exact inferInstance; exact rfl; exact rfl; exact flP_nil _; (repeat (first | exact Cut.nil | (apply Cut.cons; (repeat (first | exact Rm.here | apply Rm.there))))))
    | true =>
      rw [show errF f' = 0 by unfold errF; rw [hok2]; rfl]
      ((apply w_false; exact rfl); refine W_skip ?_; refine th_norm ?_; refine W_seq ?_; refine W_region ?_; (apply wl_loadN; (first | exact .inl rfl | exact .inr ⟨rfl, rfl⟩); (repeat (first | exact At.here | apply At.there)); exact rfl; exact rfl); (apply wl_store; (first | exact .inl rfl | exact .inr ⟨rfl, rfl⟩); (repeat (first | exact At.here | apply At.there)); exact rfl; exact inferInstance; exact inferInstance; exact inferInstance; exact rfl; (first | exact (of_decide_eq_true rfl) | (simp; omega) | decide)); (apply wl_assign; exact rfl; exact rfl); refine WL_nil ?_; refine th_norm ?_; refine W_ret ?_; refine rt_norm ?_)
      rw [if_pos rfl]
      (apply resKN1; exact rfl; exact rfl; (repeat (first | exact At.here | apply At.there)); exact inferInstance; exact rfl; exact rfl; exact ⟨vi, v', vb, vp, ⟨inferInstance, inferInstance, inferInstance, inferInstance⟩, rfl, rfl⟩; (repeat (first | exact Cut.nil | (apply Cut.cons; (repeat (first | exact Rm.here | apply Rm.there))))))
def mendR (f : Flo) (x : Qu) : Flo × Int :=
  if floOk f = true then (if ixQ f.qs x < 0 then (floE, 6) else ({ f with qs := f.qs.take (ixQ f.qs x).toNat ++ f.qs.drop ((ixQ f.qs x).toNat + 1) }, 0)) else (floE, 80)
theorem ixQ_lt {l : List Qu} {x : Qu} (h : ¬ ixQ l x < 0) : (ixQ l x).toNat < l.length := by
  unfold ixQ fiX at *
  split at h
  · rename_i h2
    rw [if_pos h2]
    have := List.findIdx_lt_length_of_exists (List.any_eq_true.1 h2)
    omega
  · omega
set_option maxRecDepth 20000 in
set_option maxHeartbeats 4000000 in
theorem mend_con (f : Flo) (x : Qu) (hS : Sml f) : Con Tryd.prog 28 [.agg (flC f), .agg (quC x)] [tab8] (FlP (mendR f x)) := by
  have C := check_con f hS
  have hqsl := hS.qs
  cases hok : floOk f with
  | false =>
    rw [show errF f = 80 by unfold errF; rw [hok]; rfl] at C
    rw [show mendR f x = (floE, 80) by unfold mendR; rw [hok]; rfl]
    refine con_of Tryd.func28 rfl (enters_of Tryd.func28 (by kernel_rfl) rfl) rfl ?_; intro n w0 F0 G0
    (refine W_seq ?_; refine W_region ?_; (apply wl_boxv; exact rfl; exact inferInstance; exact rfl; intro p hp); (apply wl_boxv; exact rfl; exact inferInstance; exact rfl; intro p hp); (apply wl_alloc; exact rfl; intro p hp); (apply wl_assign; exact rfl; exact rfl); refine WL_nil ?_; refine th_norm ?_; refine W_seq ?_; refine W_seq ?_; refine W_region ?_; (apply wl_loadN; (first | exact .inl rfl | exact .inr ⟨rfl, rfl⟩); (repeat (first | exact At.here | apply At.there)); exact rfl; exact rfl))
    (first | (apply wl_call (C); exact rfl; exact rfl) | (apply wl_callR (C); exact rfl; (repeat (first | exact At.here | apply At.there)); exact rfl))
    ((apply wl_assign; exact rfl; exact rfl); refine WL_nil ?_; refine th_norm ?_; refine W_seq ?_; refine W_region ?_; (apply wl_move; exact rfl; exact rfl); (apply wl_neq; exact rfl; exact rfl; exact rfl); refine WL_nil ?_; refine th_norm ?_; (apply w_true; exact rfl); refine W_seq ?_; refine W_region ?_; (apply wl_build; (repeat (first | exact Parts.nil | (apply Parts.cons; exact rfl; exact rfl; exact inferInstance; exact rfl; exact (of_decide_eq_true rfl)))); exact rfl); (apply wl_move; exact rfl; exact rfl); (apply wl_store; (first | exact .inl rfl | exact .inr ⟨rfl, rfl⟩); (repeat (first | exact At.here | apply At.there)); exact rfl; exact inferInstance; exact inferInstance; exact inferInstance; exact rfl; (first | exact (of_decide_eq_true rfl) | (simp; omega) | decide)); (apply wl_assign; exact rfl; exact rfl); refine WL_nil ?_; refine th_norm ?_; refine W_ret ?_; refine th_ret ?_; refine rt_norm ?_)
    (refine Res_add _ floE_own ?_; apply resKN1; exact rfl; exact rfl; (repeat (first | exact At.here | apply At.there)); exact inferInstance; exact rfl; exact rfl; exact flP_nil _; (repeat (first | exact Cut.nil | (apply Cut.cons; (repeat (first | exact Rm.here | apply Rm.there))))))
  | true =>
    rw [show errF f = 0 by unfold errF; rw [hok]; rfl] at C
    refine con_of Tryd.func28 rfl (enters_of Tryd.func28 (by kernel_rfl) rfl) rfl ?_; intro n w0 F0 G0
    (refine W_seq ?_; refine W_region ?_; (apply wl_boxv; exact rfl; exact inferInstance; exact rfl; intro p hp); (apply wl_boxv; exact rfl; exact inferInstance; exact rfl; intro p hp); (apply wl_alloc; exact rfl; intro p hp); (apply wl_assign; exact rfl; exact rfl); refine WL_nil ?_; refine th_norm ?_; refine W_seq ?_; refine W_seq ?_; refine W_region ?_; (apply wl_loadN; (first | exact .inl rfl | exact .inr ⟨rfl, rfl⟩); (repeat (first | exact At.here | apply At.there)); exact rfl; exact rfl))
    (first | (apply wl_call (C); exact rfl; exact rfl) | (apply wl_callR (C); exact rfl; (repeat (first | exact At.here | apply At.there)); exact rfl))
    ((apply wl_assign; exact rfl; exact rfl); refine WL_nil ?_; refine th_norm ?_; refine W_seq ?_; refine W_region ?_; (apply wl_move; exact rfl; exact rfl); (apply wl_neq; exact rfl; exact rfl; exact rfl); refine WL_nil ?_; refine th_norm ?_; (apply w_false; exact rfl); refine W_skip ?_; refine th_norm ?_; refine W_seq ?_; refine W_region ?_; (apply wl_field; exact rfl; (repeat (first | exact At.here | apply At.there)); exact rfl); (apply wl_load1; (first | exact .inl rfl | exact .inr ⟨rfl, rfl⟩); (repeat (first | exact At.here | apply At.there)); exact rfl; exact rfl); (apply wl_loadN; (first | exact .inl rfl | exact .inr ⟨rfl, rfl⟩); (repeat (first | exact At.here | apply At.there)); exact rfl; exact rfl))
    (first | (apply wl_call (indexQ_con f.qs x (by omega)); exact rfl; exact rfl) | (apply wl_callR (indexQ_con f.qs x (by omega)); exact rfl; (repeat (first | exact At.here | apply At.there)); exact rfl))
    ((apply wl_assign; exact rfl; exact rfl); refine WL_nil ?_; refine th_norm ?_; refine W_seq ?_; refine W_seq ?_; refine W_region ?_; (apply wl_move; exact rfl; exact rfl); (apply wl_lss; exact rfl; exact rfl; exact rfl); refine WL_nil ?_; refine th_norm ?_)
    refine w_cond rfl (fun g => ?_) (fun g => ?_)
    · rw [show mendR f x = (floE, 6) by unfold mendR; rw [if_pos hok, if_pos (by simpa using g)]]
      (refine W_seq ?_; refine W_region ?_; (apply wl_build; (repeat (first | exact Parts.nil | (apply Parts.cons; exact rfl; exact rfl; exact inferInstance; exact rfl; exact (of_decide_eq_true rfl)))); exact rfl); (apply wl_store; (first | exact .inl rfl | exact .inr ⟨rfl, rfl⟩); (repeat (first | exact At.here | apply At.there)); exact rfl; exact inferInstance; exact inferInstance; exact inferInstance; exact rfl; (first | exact (of_decide_eq_true rfl) | (simp; omega) | decide)); (apply wl_assign; exact rfl; exact rfl); refine WL_nil ?_; refine th_norm ?_; refine W_ret ?_; refine th_ret ?_; refine rt_norm ?_)
      (refine Res_add _ floE_own ?_; apply resKN1; exact rfl; exact rfl; (repeat (first | exact At.here | apply At.there)); exact inferInstance; exact rfl; exact rfl; exact flP_nil _; (repeat (first | exact Cut.nil | (apply Cut.cons; (repeat (first | exact Rm.here | apply Rm.there))))))
    · have hn : ¬ ixQ f.qs x < 0 := by simpa using g
      have hlt := ixQ_lt hn
      rw [show mendR f x = ({ f with qs := f.qs.take (ixQ f.qs x).toNat ++ f.qs.drop ((ixQ f.qs x).toNat + 1) }, 0) by unfold mendR; rw [if_pos hok, if_neg hn]]
      have hcast : ixQ f.qs x = (((ixQ f.qs x).toNat : Nat) : Int) := by omega
      generalize (ixQ f.qs x).toNat = i at *
      rw [hcast]
      generalize hf' : ({ f with qs := f.qs.take i ++ f.qs.drop (i + 1) } : Flo) = f'
      (refine W_skip ?_; refine th_norm ?_; refine W_seq ?_; refine W_region ?_; (apply wl_loadN; (first | exact .inl rfl | exact .inr ⟨rfl, rfl⟩); (repeat (first | exact At.here | apply At.there)); exact rfl; exact rfl))
      (apply wl_callP (copied_con f hS); exact rfl; (repeat (first | exact Cut.nil | (apply Cut.cons; (repeat (first | exact Rm.here | apply Rm.there))))); exact rfl)
      rintro _ _ ⟨vi, vq, vb, vp, ⟨o1, o2, o3, o4⟩, rfl, rfl⟩
      apply WL_exs
      · (repeat (first | exact Rm.here | apply Rm.there))
      intro us
      apply WL_fact
      · (repeat (first | exact Rm.here | apply Rm.there))
      intro hus
      ((apply wl_store; (first | exact .inl rfl | exact .inr ⟨rfl, rfl⟩); (repeat (first | exact At.here | apply At.there)); exact rfl; exact inferInstance; exact inferInstance; exact inferInstance; exact rfl; (first | exact (of_decide_eq_true rfl) | (simp; omega) | decide)); refine WL_nil ?_; refine th_norm ?_; refine W_seq ?_; refine W_region ?_; (apply wl_field; exact rfl; (repeat (first | exact At.here | apply At.there)); exact rfl); (apply wl_load1; (first | exact .inl rfl | exact .inr ⟨rfl, rfl⟩); (repeat (first | exact At.here | apply At.there)); exact rfl; exact rfl); (apply wl_move; exact rfl; exact rfl); (apply wl_move; exact rfl; exact rfl); (apply wl_add; exact rfl; exact rfl; omega; omega; exact rfl))
      (apply wl_callP (deleteQ_con vq f.qs i hlt (by omega)); exact rfl; (repeat (first | exact Cut.nil | (apply Cut.cons; (repeat (first | exact Rm.here | apply Rm.there))))); exact rfl)
      rintro _ _ ⟨v', rfl, rfl⟩
      refine WL_one At.here (fun o5 => ?_)
      apply WL_mkFact hus
      apply WL_mkExs (h := fun us : List Value => [.fact (us.length = f.bs.length), .row vi 3 1 iC f.ids, .row v' 55 2 quC (f.qs.take i ++ f.qs.drop (i + 1)), .row vb 66 4 mbC (mixL f.bs us), .row vp 53 3 payC f.ps, .pack (stkR f.bs us)]) us
      · (repeat (first | exact Cut.nil | (apply Cut.cons; (repeat (first | exact Rm.here | apply Rm.there)))))
      rw [show HA.exs (fun us : List Value => [.fact (us.length = f.bs.length), .row vi 3 1 iC f.ids, .row v' 55 2 quC (f.qs.take i ++ f.qs.drop (i + 1)), .row vb 66 4 mbC (mixL f.bs us), .row vp 53 3 payC f.ps, .pack (stkR f.bs us)]) = floOwn vi v' vb vp f' from by rw [← hf']; rfl]
      ((apply wl_field; exact rfl; (repeat (first | exact At.here | apply At.there)); exact rfl); (apply wl_store; (first | exact .inl rfl | exact .inr ⟨rfl, rfl⟩); (repeat (first | exact At.here | apply At.there)); exact rfl; exact inferInstance; exact inferInstance; exact inferInstance; exact rfl; (first | exact (of_decide_eq_true rfl) | (simp; omega) | decide)); refine WL_nil ?_; refine th_norm ?_; refine W_seq ?_; refine W_region ?_; (apply wl_loadN; (first | exact .inl rfl | exact .inr ⟨rfl, rfl⟩); (repeat (first | exact At.here | apply At.there)); exact rfl; exact rfl); (apply wl_store; (first | exact .inl rfl | exact .inr ⟨rfl, rfl⟩); (repeat (first | exact At.here | apply At.there)); exact rfl; exact inferInstance; exact inferInstance; exact inferInstance; exact rfl; (first | exact (of_decide_eq_true rfl) | (simp; omega) | decide)); (apply wl_assign; exact rfl; exact rfl); refine WL_nil ?_; refine th_norm ?_; refine W_ret ?_; refine rt_norm ?_)
      (apply resKN1; exact rfl; exact rfl; (repeat (first | exact At.here | apply At.there)); exact inferInstance; exact rfl; exact rfl; exact ⟨vi, v', vb, vp, ⟨inferInstance, inferInstance, inferInstance, inferInstance⟩, rfl, rfl⟩; (repeat (first | exact Cut.nil | (apply Cut.cons; (repeat (first | exact Rm.here | apply Rm.there))))))
end Go.Proofs.YtbkellknlcageaaDoor.Sw
