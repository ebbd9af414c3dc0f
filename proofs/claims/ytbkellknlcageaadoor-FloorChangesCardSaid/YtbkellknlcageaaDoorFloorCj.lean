/- FloorCj: several parts in one text. -/
import Derived.Test.YtbkellknlcageaaDoorFloorCg
import Derived.Test.YtbkellknlcageaaDoorFloorT
import Derived.Test.YtbkellknlcageaaDoorFloorU
import Derived.Test.YtbkellknlcageaaDoorSwL
/- The reference's 'Pay'. -/
namespace Go.Proofs.YtbkellknlcageaaDoor.Sw
open Go.RowKit Go Go.Shelf Go.Proofs
/-- What the reference's change hands back. -/
def flT (r : Flo × Int) : AV := .tup [.agg (flC r.1), .val (.int .i64 r.2)]
theorem nil_sl {α : Type} {G : Nat → Option Obj} {v : Value} (n : Nat) (f : α → List AV) (h : (AV.val (.slice none 0 0)).P G v) : (AV.sl n f ([] : List α)).P G v :=
  ⟨none, 0, h, Nat.le_refl _, fun i hi => (by cases hi)⟩
theorem floE_imp (e : Int) (G : Nat → Option Obj) (v : Value) (h : (AV.tup [.agg [.val (.slice none 0 0), .val (.slice none 0 0), .val (.slice none 0 0), .val (.slice none 0 0)], .val (.int .i64 e)]).P G v) : (flT (floE, e)).P G v := by
  obtain ⟨vs, e1, h⟩ := h
  match vs, h with
  | [x, y], ⟨⟨us, e2, h2⟩, hy, _⟩ =>
    match us, h2 with
    | [a, b, c, d], ⟨ha, hb, hc, hd, _⟩ =>
      exact ⟨[x, y], e1, ⟨[a, b, c, d], e2, nil_sl _ _ ha, nil_sl _ _ hb, nil_sl _ _ hc, nil_sl _ _ hd, trivial⟩, hy, trivial⟩
theorem Res_imp {P : Program} {fn : Func} {av av' : AV} {l : List HA} {s : S} (hi : ∀ G v, av.P G v → av'.P G v) (k : Res P fn (Is av l) s) : Res P fn (Is av' l) s := by
  obtain ⟨_, _, ⟨rfl, rfl⟩, k⟩ := k
  refine ⟨_, _, ⟨rfl, rfl⟩, fun a w G F hR hI => ?_⟩
  obtain ⟨v, G', F', h1, h2, h3, h4⟩ := k a w G F hR hI
  exact ⟨v, G', F', h1, h2, h3, hi _ _ h4⟩
set_option maxRecDepth 20000 in
set_option maxHeartbeats 4000000 in
theorem pay8_con (f : Flo) (x : Pay) (hS : Sml f) : Con Tryd.prog 25 [.agg (flC f), .agg (payC x)] [] (Is (flT (payR f x)) []) := by
  have C := floors_con f hS
  have hpsl := hS.ps
  cases hok : floOk f with
  | false =>
    rw [hok] at C
    rw [show payR f x = (floE, 80) by unfold payR; rw [hok]; rfl]
    refine con_of Tryd.func25 rfl (enters_of Tryd.func25 (by kernel_rfl) rfl) rfl ?_; intro n w0 F0 G0
    (refine W_seq ?_; refine W_region ?_; (apply wl_boxv; exact rfl; exact inferInstance; exact rfl; intro p hp); (apply wl_boxv; exact rfl; exact inferInstance; exact rfl; intro p hp); (apply wl_alloc; exact rfl; intro p hp); (apply wl_assign; exact rfl; exact rfl); refine WL_nil ?_; refine th_norm ?_; refine W_seq ?_; refine W_seq ?_; refine W_region ?_; (apply wl_loadN; (first | exact .inl rfl | exact .inr ⟨rfl, rfl⟩); (repeat (first | exact At.here | apply At.there)); exact rfl; exact rfl))
    (first | (apply wl_call (C); exact rfl; exact rfl) | (apply wl_callR (C); exact rfl; (repeat (first | exact At.here | apply At.there)); exact rfl))
    ((apply wl_not; exact rfl; exact rfl); refine WL_nil ?_; refine th_norm ?_; (apply w_true; exact rfl); refine W_seq ?_; refine W_region ?_; (apply wl_build; (repeat (first | exact Parts.nil | (apply Parts.cons; exact rfl; exact rfl; exact inferInstance; exact rfl; exact (of_decide_eq_true rfl)))); exact rfl); (apply wl_store; (first | exact .inl rfl | exact .inr ⟨rfl, rfl⟩); (repeat (first | exact At.here | apply At.there)); exact rfl; exact inferInstance; exact inferInstance; exact inferInstance; exact rfl; (first | exact (of_decide_eq_true rfl) | (simp; omega) | decide)); (apply wl_assign; exact rfl; exact rfl); refine WL_nil ?_; refine th_norm ?_; refine W_ret ?_; refine th_ret ?_; refine rt_norm ?_)
    refine Res_imp (floE_imp _) ?_
    (apply resN1; exact rfl; exact rfl; (repeat (first | exact At.here | apply At.there)); exact inferInstance; exact rfl; exact rfl; exact ⟨rfl, rfl⟩)
  | true =>
    rw [hok] at C
    refine con_of Tryd.func25 rfl (enters_of Tryd.func25 (by kernel_rfl) rfl) rfl ?_; intro n w0 F0 G0
    (refine W_seq ?_; refine W_region ?_; (apply wl_boxv; exact rfl; exact inferInstance; exact rfl; intro p hp); (apply wl_boxv; exact rfl; exact inferInstance; exact rfl; intro p hp); (apply wl_alloc; exact rfl; intro p hp); (apply wl_assign; exact rfl; exact rfl); refine WL_nil ?_; refine th_norm ?_; refine W_seq ?_; refine W_seq ?_; refine W_region ?_; (apply wl_loadN; (first | exact .inl rfl | exact .inr ⟨rfl, rfl⟩); (repeat (first | exact At.here | apply At.there)); exact rfl; exact rfl))
    (first | (apply wl_call (C); exact rfl; exact rfl) | (apply wl_callR (C); exact rfl; (repeat (first | exact At.here | apply At.there)); exact rfl))
    ((apply wl_not; exact rfl; exact rfl); refine WL_nil ?_; refine th_norm ?_; (apply w_false; exact rfl); refine W_skip ?_; refine th_norm ?_; refine W_seq ?_; refine W_seq ?_; refine W_region ?_; (apply wl_field; exact rfl; (repeat (first | exact At.here | apply At.there)); exact rfl); (apply wl_load1; (first | exact .inl rfl | exact .inr ⟨rfl, rfl⟩); (repeat (first | exact At.here | apply At.there)); exact rfl; exact rfl); (apply wl_lenSl; exact rfl; exact rfl); (apply wl_eql; exact rfl; exact rfl; exact rfl); refine WL_nil ?_; refine th_norm ?_)
    refine w_cond rfl (fun g => ?_) (fun g => ?_)
    · rw [show payR f x = (floE, 9) by unfold payR; rw [if_pos hok, if_pos (by simp at g; omega)]]
      (refine W_seq ?_; refine W_region ?_; (apply wl_build; (repeat (first | exact Parts.nil | (apply Parts.cons; exact rfl; exact rfl; exact inferInstance; exact rfl; exact (of_decide_eq_true rfl)))); exact rfl); (apply wl_store; (first | exact .inl rfl | exact .inr ⟨rfl, rfl⟩); (repeat (first | exact At.here | apply At.there)); exact rfl; exact inferInstance; exact inferInstance; exact inferInstance; exact rfl; (first | exact (of_decide_eq_true rfl) | (simp; omega) | decide)); (apply wl_assign; exact rfl; exact rfl); refine WL_nil ?_; refine th_norm ?_; refine W_ret ?_; refine th_ret ?_; refine rt_norm ?_)
      refine Res_imp (floE_imp _) ?_
      (apply resN1; exact rfl; exact rfl; (repeat (first | exact At.here | apply At.there)); exact inferInstance; exact rfl; exact rfl; exact ⟨rfl, rfl⟩)
    · have hn : ¬ f.ps.length = 12 := by simp at g; omega
      have hS' : Sml { f with ps := f.ps ++ [x] } := ⟨hS.ids, hS.qs, hS.bs, by have := (flo_f hok).ps; simp; omega, hS.st⟩
      (refine W_skip ?_; refine th_norm ?_; refine W_seq ?_; refine W_region ?_; (apply wl_loadN; (first | exact .inl rfl | exact .inr ⟨rfl, rfl⟩); (repeat (first | exact At.here | apply At.there)); exact rfl; exact rfl))
      (first | (apply wl_call (twin8_con f hS); exact rfl; exact rfl) | (apply wl_callR (twin8_con f hS); exact rfl; (repeat (first | exact At.here | apply At.there)); exact rfl))
      ((apply wl_alloc; exact rfl; intro p hp); (apply wl_store; (first | exact .inl rfl | exact .inr ⟨rfl, rfl⟩); (repeat (first | exact At.here | apply At.there)); exact rfl; exact inferInstance; exact inferInstance; exact inferInstance; exact rfl; (first | exact (of_decide_eq_true rfl) | (simp; omega) | decide)); refine WL_nil ?_; refine th_norm ?_; refine W_seq ?_)
      refine W_run 6 [18, 19, 20, 21, 22, 23] [1, 2, 3, 4, 5] Cut.nil rfl (by repeat (first | exact Flt.nil | (apply Flt.keep; exact rfl) | (apply Flt.drop; exact rfl))) mixedS (by kernel_rfl) rfl ?_
      apply Run.tok [] []
      · exact rfl
      · intro vs; apply ltr_pk; (repeat (first | exact Pk.nil | (apply Pk.pv; exact rfl; exact rfl) | (apply Pk.tok; exact rfl; exact rfl)))
        (refine ltr ?_; apply lt_lit (f := payC); (repeat (first | exact Elems.nil | (apply Elems.cons; exact rfl; exact inferInstance; exact rfl))); exact rfl; (first | exact (of_decide_eq_true rfl) | decide | (simp; done) | (simp; omega)))
      · repeat (first | exact App.nil | apply App.cons)
      apply Run.pv [] []
      · exact rfl
      · intro vs; apply ltr_pk; (repeat (first | exact Pk.nil | (apply Pk.pv; exact rfl; exact rfl) | (apply Pk.tok; exact rfl; exact rfl)))
        (first | (refine ltr ?_; apply lt_fieldAt; exact rfl; exact rfl) | (apply ltr_field; exact rfl; (repeat (first | exact At.here | apply At.there))) | (refine ltr ?_; apply lt_fieldEl; exact rfl; exact rfl) | (refine ltr ?_; apply lt_fieldRat; exact rfl; exact rfl))
      · repeat (first | exact App.nil | apply App.cons)
      apply Run.pv [1] []
      · exact rfl
      · intro vs; apply ltr_pk; (repeat (first | exact Pk.nil | (apply Pk.pv; exact rfl; exact rfl) | (apply Pk.tok; exact rfl; exact rfl)))
        (first | (apply ltr_load1; (first | exact .inl rfl | exact .inr ⟨rfl, rfl⟩); (repeat (first | exact At.here | apply At.there)); exact rfl) | (refine ltr ?_; apply lt_loadE1'; exact rfl; assumption; exact rfl) | (refine ltr ?_; apply lt_loadEN'; exact rfl; assumption; exact rfl) | (apply ltr_loadN; (first | exact .inl rfl | exact .inr ⟨rfl, rfl⟩); (repeat (first | exact At.here | apply At.there)); exact rfl) | (apply ltr_loadR1; exact rfl; (repeat (first | exact At.here | apply At.there)); assumption; exact rfl) | (apply ltr_loadRN; exact rfl; (repeat (first | exact At.here | apply At.there)); assumption))
      · repeat (first | exact App.nil | apply App.cons)
      apply Run.tok [0, 2] [0]
      · exact rfl
      · intro vs; apply ltr_pk; (repeat (first | exact Pk.nil | (apply Pk.pv; exact rfl; exact rfl) | (apply Pk.tok; exact rfl; exact rfl)))
        (refine ltr ?_; apply lt_append; exact rfl; exact rfl; (first | omega | (simp; omega)))
      · repeat (first | exact App.nil | apply App.cons)
      apply Run.pv [] []
      · exact rfl
      · intro vs; apply ltr_pk; (repeat (first | exact Pk.nil | (apply Pk.pv; exact rfl; exact rfl) | (apply Pk.tok; exact rfl; exact rfl)))
        (first | (apply ltr_load1; (first | exact .inl rfl | exact .inr ⟨rfl, rfl⟩); (repeat (first | exact At.here | apply At.there)); exact rfl) | (refine ltr ?_; apply lt_loadE1'; exact rfl; assumption; exact rfl) | (refine ltr ?_; apply lt_loadEN'; exact rfl; assumption; exact rfl) | (apply ltr_loadN; (first | exact .inl rfl | exact .inr ⟨rfl, rfl⟩); (repeat (first | exact At.here | apply At.there)); exact rfl) | (apply ltr_loadR1; exact rfl; (repeat (first | exact At.here | apply At.there)); assumption; exact rfl) | (apply ltr_loadRN; exact rfl; (repeat (first | exact At.here | apply At.there)); assumption))
      · repeat (first | exact App.nil | apply App.cons)
      apply Run.pv [4] []
      · exact rfl
      · intro vs; apply ltr_pk; (repeat (first | exact Pk.nil | (apply Pk.pv; exact rfl; exact rfl) | (apply Pk.tok; exact rfl; exact rfl)))
        (refine ltr ?_; apply LT_frz; apply lt_lit (f := payC); (repeat (first | exact Elems.nil | (apply Elems.cons; exact rfl; exact inferInstance; exact rfl))); exact rfl; (first | exact (of_decide_eq_true rfl) | decide | (simp; done) | (simp; omega)))
      · repeat (first | exact App.nil | apply App.cons)
      refine ⟨⟨by kernel_rfl, by kernel_rfl⟩, fun vs => ?_⟩
      apply WL_auto [3, 5]
      · repeat (first | exact Pk.nil | (apply Pk.pv; exact rfl; exact rfl) | (apply Pk.tok; exact rfl; exact rfl))
      · repeat (first | exact Nrm.nil | apply Nrm.cons)
      · kernel_rfl
      · kernel_rfl
      skip
      (first | (apply wl_append; exact rfl; exact rfl; (repeat (first | exact Rm.here | apply Rm.there)); exact inferInstance; exact inferInstance; (first | omega | (simp; omega)); exact rfl) | (apply wl_appendN; exact rfl; exact rfl; exact inferInstance; exact inferInstance; (first | omega | (simp; omega)); exact rfl))
      intro v1
      (apply WL_frz 24; exact rfl; (repeat (first | exact Rm.here | apply Rm.there)))
      ((apply wl_field; exact rfl; (repeat (first | exact At.here | apply At.there)); exact rfl); (apply wl_store; (first | exact .inl rfl | exact .inr ⟨rfl, rfl⟩); (repeat (first | exact At.here | apply At.there)); exact rfl; exact inferInstance; exact inferInstance; exact inferInstance; exact rfl; (first | exact (of_decide_eq_true rfl) | (simp; omega) | decide)); refine WL_nil ?_; refine th_norm ?_; refine W_seq ?_; refine W_seq ?_; refine W_region ?_; (apply wl_loadN; (first | exact .inl rfl | exact .inr ⟨rfl, rfl⟩); (repeat (first | exact At.here | apply At.there)); exact rfl; exact rfl))
      refine WL_as 26 (.agg (flC { f with ps := f.ps ++ [x] })) rfl ?_
      (first | (apply wl_call (floors_con { f with ps := f.ps ++ [x] } hS'); exact rfl; exact rfl) | (apply wl_callR (floors_con { f with ps := f.ps ++ [x] } hS'); exact rfl; (repeat (first | exact At.here | apply At.there)); exact rfl))
      have hW : payR f x = if floOk { f with ps := f.ps ++ [x] } = true then ({ f with ps := f.ps ++ [x] }, 0) else (floE, 82) := by unfold payR; rw [if_pos hok, if_neg hn]
      rw [hW]
      cases hok2 : floOk { f with ps := f.ps ++ [x] } with
      | false =>
        ((apply wl_not; exact rfl; exact rfl); refine WL_nil ?_; refine th_norm ?_; (apply w_true; exact rfl); refine W_seq ?_; refine W_region ?_; (apply wl_build; (repeat (first | exact Parts.nil | (apply Parts.cons; exact rfl; exact rfl; exact inferInstance; exact rfl; exact (of_decide_eq_true rfl)))); exact rfl); (apply wl_store; (first | exact .inl rfl | exact .inr ⟨rfl, rfl⟩); (repeat (first | exact At.here | apply At.there)); exact rfl; exact inferInstance; exact inferInstance; exact inferInstance; exact rfl; (first | exact (of_decide_eq_true rfl) | (simp; omega) | decide)); (apply wl_assign; exact rfl; exact rfl); refine WL_nil ?_; refine th_norm ?_; refine W_ret ?_; refine th_ret ?_; refine rt_norm ?_)
        rw [if_neg (by simp)]
        refine Res_imp (floE_imp _) ?_
        (apply resN1; exact rfl; exact rfl; (repeat (first | exact At.here | apply At.there)); exact inferInstance; exact rfl; exact rfl; exact ⟨rfl, rfl⟩)
      | true =>
        ((apply wl_not; exact rfl; exact rfl); refine WL_nil ?_; refine th_norm ?_; (apply w_false; exact rfl); refine W_skip ?_; refine th_norm ?_; refine W_seq ?_; refine W_region ?_; (apply wl_loadN; (first | exact .inl rfl | exact .inr ⟨rfl, rfl⟩); (repeat (first | exact At.here | apply At.there)); exact rfl; exact rfl); (apply wl_store; (first | exact .inl rfl | exact .inr ⟨rfl, rfl⟩); (repeat (first | exact At.here | apply At.there)); exact rfl; exact inferInstance; exact inferInstance; exact inferInstance; exact rfl; (first | exact (of_decide_eq_true rfl) | (simp; omega) | decide)); (apply wl_assign; exact rfl; exact rfl); refine WL_nil ?_; refine th_norm ?_; refine W_ret ?_; refine rt_norm ?_)
        rw [if_pos rfl]
        (apply resN1; exact rfl; exact rfl; (repeat (first | exact At.here | apply At.there)); exact inferInstance; exact rfl; exact rfl; exact ⟨rfl, rfl⟩)
end Go.Proofs.YtbkellknlcageaaDoor.Sw
/- The reference's 'Mend'. -/
namespace Go.Proofs.YtbkellknlcageaaDoor.Sw
open Go.RowKit Go Go.Shelf Go.Proofs
def mend8R (f : Flo) (x : Qu) : Flo × Int :=
  if floOk f = true then (if (f.qs.filter (fun y => !decide (y = x))).length = f.qs.length then (floE, 6) else ({ f with qs := f.qs.filter (fun y => !decide (y = x)) }, 0)) else (floE, 80)
set_option maxRecDepth 20000 in
set_option maxHeartbeats 4000000 in
theorem mend8_con (f : Flo) (x : Qu) (hS : Sml f) : Con Tryd.prog 29 [.agg (flC f), .agg (quC x)] [] (Is (flT (mend8R f x)) []) := by
  have C := floors_con f hS
  have hqsl := hS.qs
  cases hok : floOk f with
  | false =>
    rw [hok] at C
    rw [show mend8R f x = (floE, 80) by unfold mend8R; rw [hok]; rfl]
    refine con_of Tryd.func29 rfl (enters_of Tryd.func29 (by kernel_rfl) rfl) rfl ?_; intro n w0 F0 G0
    (refine W_seq ?_; refine W_region ?_; (apply wl_boxv; exact rfl; exact inferInstance; exact rfl; intro p hp); (apply wl_boxv; exact rfl; exact inferInstance; exact rfl; intro p hp); (apply wl_alloc; exact rfl; intro p hp); (apply wl_assign; exact rfl; exact rfl); refine WL_nil ?_; refine th_norm ?_; refine W_seq ?_; refine W_seq ?_; refine W_region ?_; (apply wl_loadN; (first | exact .inl rfl | exact .inr ⟨rfl, rfl⟩); (repeat (first | exact At.here | apply At.there)); exact rfl; exact rfl))
    (first | (apply wl_call (C); exact rfl; exact rfl) | (apply wl_callR (C); exact rfl; (repeat (first | exact At.here | apply At.there)); exact rfl))
    ((apply wl_not; exact rfl; exact rfl); refine WL_nil ?_; refine th_norm ?_; (apply w_true; exact rfl); refine W_seq ?_; refine W_region ?_; (apply wl_build; (repeat (first | exact Parts.nil | (apply Parts.cons; exact rfl; exact rfl; exact inferInstance; exact rfl; exact (of_decide_eq_true rfl)))); exact rfl); (apply wl_store; (first | exact .inl rfl | exact .inr ⟨rfl, rfl⟩); (repeat (first | exact At.here | apply At.there)); exact rfl; exact inferInstance; exact inferInstance; exact inferInstance; exact rfl; (first | exact (of_decide_eq_true rfl) | (simp; omega) | decide)); (apply wl_assign; exact rfl; exact rfl); refine WL_nil ?_; refine th_norm ?_; refine W_ret ?_; refine th_ret ?_; refine rt_norm ?_)
    refine Res_imp (floE_imp _) ?_
    (apply resN1; exact rfl; exact rfl; (repeat (first | exact At.here | apply At.there)); exact inferInstance; exact rfl; exact rfl; exact ⟨rfl, rfl⟩)
  | true =>
    rw [hok] at C
    refine con_of Tryd.func29 rfl (enters_of Tryd.func29 (by kernel_rfl) rfl) rfl ?_; intro n w0 F0 G0
    (refine W_seq ?_; refine W_region ?_; (apply wl_boxv; exact rfl; exact inferInstance; exact rfl; intro p hp); (apply wl_boxv; exact rfl; exact inferInstance; exact rfl; intro p hp); (apply wl_alloc; exact rfl; intro p hp); (apply wl_assign; exact rfl; exact rfl); refine WL_nil ?_; refine th_norm ?_; refine W_seq ?_; refine W_seq ?_; refine W_region ?_; (apply wl_loadN; (first | exact .inl rfl | exact .inr ⟨rfl, rfl⟩); (repeat (first | exact At.here | apply At.there)); exact rfl; exact rfl))
    rename_i p2 hp2 p3 hp3
    (first | (apply wl_call (C); exact rfl; exact rfl) | (apply wl_callR (C); exact rfl; (repeat (first | exact At.here | apply At.there)); exact rfl))
    ((apply wl_not; exact rfl; exact rfl); refine WL_nil ?_; refine th_norm ?_; (apply w_false; exact rfl); refine W_skip ?_; refine th_norm ?_; refine W_seq ?_; refine W_region ?_; (apply wl_loadN; (first | exact .inl rfl | exact .inr ⟨rfl, rfl⟩); (repeat (first | exact At.here | apply At.there)); exact rfl; exact rfl))
    (first | (apply wl_call (twin8_con f hS); exact rfl; exact rfl) | (apply wl_callR (twin8_con f hS); exact rfl; (repeat (first | exact At.here | apply At.there)); exact rfl))
    ((apply wl_alloc; exact rfl; intro p hp); (apply wl_store; (first | exact .inl rfl | exact .inr ⟨rfl, rfl⟩); (repeat (first | exact At.here | apply At.there)); exact rfl; exact inferInstance; exact inferInstance; exact inferInstance; exact rfl; (first | exact (of_decide_eq_true rfl) | (simp; omega) | decide)); refine WL_nil ?_; refine th_norm ?_; refine W_seq ?_; refine W_region ?_; (apply wl_field; exact rfl; (repeat (first | exact At.here | apply At.there)); exact rfl); (apply wl_store; (first | exact .inl rfl | exact .inr ⟨rfl, rfl⟩); (repeat (first | exact At.here | apply At.there)); exact rfl; exact inferInstance; exact inferInstance; exact inferInstance; exact rfl; (first | exact (of_decide_eq_true rfl) | (simp; omega) | decide)); refine WL_nil ?_; refine th_norm ?_; refine W_seq ?_; refine W_seq ?_; refine W_region ?_; (apply wl_field; exact rfl; (repeat (first | exact At.here | apply At.there)); exact rfl); (apply wl_load1; (first | exact .inl rfl | exact .inr ⟨rfl, rfl⟩); (repeat (first | exact At.here | apply At.there)); exact rfl; exact rfl); (apply wl_lenSl; exact rfl; exact rfl); (apply wl_move; exact rfl; exact rfl); refine WL_nil ?_; refine th_norm ?_; refine W_block ?_)
    rename_i p4 hp4

    refine W_loopJ (fun (b : Nat × Value) => ⟨[(2, .val p2), (3, .val p3), (4, .val p4), (6, .val p), (17, .sl 2 quC f.qs), (18, .val (.int .i64 f.qs.length)), (19, .val (.int .i64 b.1))], [.row b.2 55 2 quC ((f.qs.take b.1).filter (fun y => !decide (y = x))), .box p [.sl 1 iC f.ids, .val b.2, .sl 4 biC f.bs, .sl 3 payC f.ps] 27, .box p2 (flC f) 27, .box p3 (quC x) 55, .box p4 [.val (.slice none 0 0), .val (.slice none 0 0), .val (.slice none 0 0), .val (.slice none 0 0)] 27]⟩) (fun b => b.1 ≤ f.qs.length) (fun b => f.qs.length - b.1) (0, .slice none 0 0) (fun _ _ st => st_sub2 (st_nil 55 2 quC st) (by (repeat (first | exact trivial | refine ⟨rfl, ?_⟩))) (by (repeat (first | exact SubP.nil | (apply SubP.cons; (repeat (first | exact Rm.here | apply Rm.there))))))) (Nat.zero_le _) ?_
    rintro ⟨k, v⟩ hk
    dsimp only at hk ⊢
    (refine W_seq ?_; refine W_region ?_; (apply wl_lss; exact rfl; exact rfl; exact rfl); refine WL_nil ?_; refine th_norm ?_; refine W_seq ?_)
    refine w_cond rfl (fun hlt => ?_) (fun hlt => ?_)
    · have hlt' : k < f.qs.length := by simpa using hlt
      have htk : f.qs.take (k + 1) = f.qs.take k ++ [f.qs[k]] := List.take_succ_eq_append_getElem hlt'
      (refine W_skip ?_; refine th_norm ?_; refine W_seq ?_; refine W_block ?_; refine W_seq ?_; refine W_region ?_; (apply wl_indexSl; exact rfl; exact rfl; exact rfl; (first | assumption | omega | (simp; omega)); exact rfl); (apply wl_loadEN; exact rfl; (case hk => first | assumption | omega | exact Nat.one_pos | (simp; omega)); exact rfl; exact rfl); (apply wl_alloc; exact rfl; intro p hp); (apply wl_store; (first | exact .inl rfl | exact .inr ⟨rfl, rfl⟩); (repeat (first | exact At.here | apply At.there)); exact rfl; exact inferInstance; exact inferInstance; exact inferInstance; exact rfl; (first | exact (of_decide_eq_true rfl) | (simp; omega) | decide)); refine WL_nil ?_; refine th_norm ?_; refine W_seq ?_; refine W_region ?_; (apply wl_loadN; (first | exact .inl rfl | exact .inr ⟨rfl, rfl⟩); (repeat (first | exact At.here | apply At.there)); exact rfl; exact rfl); (apply wl_loadN; (first | exact .inl rfl | exact .inr ⟨rfl, rfl⟩); (repeat (first | exact At.here | apply At.there)); exact rfl; exact rfl); (apply wl_neqN; exact rfl; exact rfl; (repeat (first | exact Ints.nil | apply Ints.cons)); (repeat (first | exact Ints.nil | apply Ints.cons)); exact rfl; exact rfl; exact rfl); refine WL_nil ?_; refine th_norm ?_)
      refine w_cond rfl (fun g => ?_) (fun g => ?_)
      · have g' : (!decide (f.qs[k] = x)) = true := by
          cases hx : decide (f.qs[k] = x) with
          | false => rfl
          | true => rw [of_decide_eq_true hx] at g; simp at g
        have hfk : (f.qs.take (k + 1)).filter (fun y => !decide (y = x)) = (f.qs.take k).filter (fun y => !decide (y = x)) ++ [f.qs[k]] := by
          rw [htk, List.filter_append, List.filter_cons, if_pos g']; rfl
        have hfl := List.length_filter_le (fun y => !decide (y = x)) (f.qs.take k)
        have htl := List.length_take_le k f.qs
        (refine W_region ?_; (apply wl_field; exact rfl; (repeat (first | exact At.here | apply At.there)); exact rfl); (apply wl_load1; (first | exact .inl rfl | exact .inr ⟨rfl, rfl⟩); (repeat (first | exact At.here | apply At.there)); exact rfl; exact rfl); (apply wl_loadN; (first | exact .inl rfl | exact .inr ⟨rfl, rfl⟩); (repeat (first | exact At.here | apply At.there)); exact rfl; exact rfl))
        refine WL_as 28 (.agg (quC f.qs[k])) rfl ?_
        (apply wl_litF quC; exact inferInstance; exact inferInstance; exact inferInstance; (repeat (first | exact Elems.nil | (apply Elems.cons; exact rfl; exact inferInstance; exact rfl))); exact rfl; (first | exact (of_decide_eq_true rfl) | decide | (simp; done) | (simp; omega)); exact rfl)
        (first | (apply wl_append; exact rfl; exact rfl; (repeat (first | exact Rm.here | apply Rm.there)); exact inferInstance; exact inferInstance; (first | omega | (simp; omega)); exact rfl) | (apply wl_appendN; exact rfl; exact rfl; exact inferInstance; exact inferInstance; (first | omega | (simp; omega)); exact rfl))
        intro v'
        rw [← hfk]
        refine WL_one At.here (fun hone => ?_)
        ((apply wl_field; exact rfl; (repeat (first | exact At.here | apply At.there)); exact rfl); (apply wl_store; (first | exact .inl rfl | exact .inr ⟨rfl, rfl⟩); (repeat (first | exact At.here | apply At.there)); exact rfl; exact inferInstance; exact inferInstance; exact inferInstance; exact rfl; (first | exact (of_decide_eq_true rfl) | (simp; omega) | decide)); refine WL_nil ?_; refine bl_norm ?_; refine th_norm ?_; refine W_region ?_; (apply wl_add; exact rfl; exact rfl; omega; omega; exact rfl); (apply wl_move; exact rfl; exact rfl); refine WL_nil ?_; refine th_norm ?_)
        (refine ⟨(k + 1, v'), fun _ _ st => st_sub2 st ?_ ?_, ?_, ?_⟩; (repeat (first | exact trivial | refine ⟨rfl, ?_⟩)); (repeat (first | exact SubP.nil | (apply SubP.cons; (repeat (first | exact Rm.here | apply Rm.there))))))
        · dsimp only; omega
        · dsimp only; omega
      · have g' : (!decide (f.qs[k] = x)) = false := by
          cases hx : decide (f.qs[k] = x) with
          | true => rfl
          | false =>
            exfalso
            have h1 := of_decide_eq_false hx
            simp at g
            apply h1
            cases hq : f.qs[k] with
            | mk a b => cases x with | mk c d => rw [hq] at g; simp at g; rw [g.1, g.2]
        have hfk : (f.qs.take (k + 1)).filter (fun y => !decide (y = x)) = (f.qs.take k).filter (fun y => !decide (y = x)) := by
          rw [htk, List.filter_append, List.filter_cons, if_neg (by rw [g']; simp)]; simp
        rw [← hfk]
        (refine W_skip ?_; refine bl_norm ?_; refine th_norm ?_; refine W_region ?_; (apply wl_add; exact rfl; exact rfl; omega; omega; exact rfl); (apply wl_move; exact rfl; exact rfl); refine WL_nil ?_; refine th_norm ?_)
        (refine ⟨(k + 1, v), fun _ _ st => st_sub2 st ?_ ?_, ?_, ?_⟩; (repeat (first | exact trivial | refine ⟨rfl, ?_⟩)); (repeat (first | exact SubP.nil | (apply SubP.cons; (repeat (first | exact Rm.here | apply Rm.there))))))
        · dsimp only; omega
        · dsimp only; omega
    · have hkk : k = f.qs.length := by simp at hlt; omega
      subst hkk
      rw [List.take_length]
      have hW : mend8R f x = if (f.qs.filter (fun y => !decide (y = x))).length = f.qs.length then (floE, 6) else ({ f with qs := f.qs.filter (fun y => !decide (y = x)) }, 0) := by unfold mend8R; rw [if_pos hok]
      rw [hW]
      generalize f.qs.filter (fun y => !decide (y = x)) = g
      (refine W_exit ?_; refine th_exit ?_; refine th_exit ?_; refine bl_eq ?_; refine th_norm ?_; refine W_seq ?_; refine W_seq ?_; refine W_region ?_; (apply wl_field; exact rfl; (repeat (first | exact At.here | apply At.there)); exact rfl); (apply wl_load1; (first | exact .inl rfl | exact .inr ⟨rfl, rfl⟩); (repeat (first | exact At.here | apply At.there)); exact rfl; exact rfl); (apply wl_lenRow; exact rfl; (repeat (first | exact At.here | apply At.there)); exact rfl); (apply wl_field; exact rfl; (repeat (first | exact At.here | apply At.there)); exact rfl); (apply wl_load1; (first | exact .inl rfl | exact .inr ⟨rfl, rfl⟩); (repeat (first | exact At.here | apply At.there)); exact rfl; exact rfl); (apply wl_lenSl; exact rfl; exact rfl); (apply wl_eql; exact rfl; exact rfl; exact rfl); refine WL_nil ?_; refine th_norm ?_)
      refine w_cond rfl (fun hc => ?_) (fun hc => ?_)
      · have hc' : g.length = f.qs.length := by simp at hc; omega
        rw [if_pos hc']
        (refine W_seq ?_; refine W_region ?_; (apply wl_build; (repeat (first | exact Parts.nil | (apply Parts.cons; exact rfl; exact rfl; exact inferInstance; exact rfl; exact (of_decide_eq_true rfl)))); exact rfl); (apply wl_store; (first | exact .inl rfl | exact .inr ⟨rfl, rfl⟩); (repeat (first | exact At.here | apply At.there)); exact rfl; exact inferInstance; exact inferInstance; exact inferInstance; exact rfl; (first | exact (of_decide_eq_true rfl) | (simp; omega) | decide)); (apply wl_assign; exact rfl; exact rfl); refine WL_nil ?_; refine th_norm ?_; refine W_ret ?_; refine th_ret ?_; refine rt_norm ?_)
        refine Res_imp (floE_imp _) ?_
        (apply resN1; exact rfl; exact rfl; (repeat (first | exact At.here | apply At.there)); exact inferInstance; exact rfl; exact rfl; exact ⟨rfl, rfl⟩)
      · have hc' : ¬ g.length = f.qs.length := by simp at hc; omega
        rw [if_neg hc']
        (refine W_skip ?_; refine th_norm ?_; refine W_seq ?_; refine W_region ?_; (apply wl_loadN; (first | exact .inl rfl | exact .inr ⟨rfl, rfl⟩); (repeat (first | exact At.here | apply At.there)); exact rfl; exact rfl))
        (apply WL_frzA 41 1; exact rfl; exact rfl; (repeat (first | exact Rm.here | apply Rm.there)))
        refine WL_as 41 (.agg (flC { f with qs := g })) rfl ?_
        ((apply wl_store; (first | exact .inl rfl | exact .inr ⟨rfl, rfl⟩); (repeat (first | exact At.here | apply At.there)); exact rfl; exact inferInstance; exact inferInstance; exact inferInstance; exact rfl; (first | exact (of_decide_eq_true rfl) | (simp; omega) | decide)); (apply wl_assign; exact rfl; exact rfl); refine WL_nil ?_; refine th_norm ?_; refine W_ret ?_; refine rt_norm ?_)
        (apply resN1; exact rfl; exact rfl; (repeat (first | exact At.here | apply At.there)); exact inferInstance; exact rfl; exact rfl; exact ⟨rfl, rfl⟩)
end Go.Proofs.YtbkellknlcageaaDoor.Sw
/- The reference's 'Split'. -/
namespace Go.Proofs.YtbkellknlcageaaDoor.Sw
open Go.RowKit Go Go.Shelf Go.Proofs
/-- Where the new quarrel goes. -/
def atQ (l : List Qu) (x : Qu) : Nat := (l.takeWhile (fun y => qLt y x)).length
def insQ (l : List Qu) (x : Qu) : List Qu := l.take (atQ l x) ++ [x] ++ l.drop (atQ l x)
theorem insQ_len (l : List Qu) (x : Qu) : (insQ l x).length = l.length + 1 := by
  unfold insQ; simp only [List.length_append, List.length_take, List.length_drop, List.length_singleton]; omega
def split8R (f : Flo) (x : Qu) : Flo × Int :=
  if floOk f = true then (if floOk { f with qs := insQ f.qs x } = true then ({ f with qs := insQ f.qs x }, 0) else (floE, 83)) else (floE, 80)
theorem tw_le {α : Type} (p : α → Bool) : ∀ l : List α, (l.takeWhile p).length ≤ l.length
  | [] => Nat.le_refl _
  | x :: t => by
    rw [List.takeWhile_cons]
    split
    · exact Nat.succ_le_succ (tw_le p t)
    · exact Nat.zero_le _
theorem tw_lt {α : Type} (p : α → Bool) : ∀ (l : List α) (k : Nat) (h : k < l.length), k < (l.takeWhile p).length → p l[k] = true
  | x :: t, k, h, h2 => by
    rw [List.takeWhile_cons] at h2
    split at h2
    · rename_i hx
      cases k with
      | zero => exact hx
      | succ k => exact tw_lt p t k (by simpa using h) (by simpa using h2)
    · simp at h2
  | [], _, h, _ => by simp at h
theorem tw_at {α : Type} (p : α → Bool) : ∀ (l : List α) (h : (l.takeWhile p).length < l.length), p l[(l.takeWhile p).length] = false
  | x :: t, h => by
    cases hx : p x with
    | true =>
      have e : (x :: t).takeWhile p = x :: t.takeWhile p := by rw [List.takeWhile_cons, if_pos hx]
      simp only [e, List.length_cons, List.getElem_cons_succ]
      exact tw_at p t (by rw [e] at h; simpa using h)
    | false =>
      have e : (x :: t).takeWhile p = [] := by rw [List.takeWhile_cons, if_neg (by rw [hx]; simp)]
      simp only [e, List.length_nil, List.getElem_cons_zero]
      exact hx
  | [], h => by simp at h
set_option maxRecDepth 20000 in
set_option maxHeartbeats 4000000 in
theorem split8_con (f : Flo) (x : Qu) (hS : Sml f) (hq : floOk f = true → f.qs.length ≤ 999) : Con Tryd.prog 27 [.agg (flC f), .agg (quC x)] [] (Is (flT (split8R f x)) []) := by
  have C := floors_con f hS
  cases hok : floOk f with
  | false =>
    rw [hok] at C
    rw [show split8R f x = (floE, 80) by unfold split8R; rw [hok]; rfl]
    refine con_of Tryd.func27 rfl (enters_of Tryd.func27 (by kernel_rfl) rfl) rfl ?_; intro n w0 F0 G0
    (refine W_seq ?_; refine W_region ?_; (apply wl_boxv; exact rfl; exact inferInstance; exact rfl; intro p hp); (apply wl_boxv; exact rfl; exact inferInstance; exact rfl; intro p hp); (apply wl_alloc; exact rfl; intro p hp); (apply wl_assign; exact rfl; exact rfl); refine WL_nil ?_; refine th_norm ?_; refine W_seq ?_; refine W_seq ?_; refine W_region ?_; (apply wl_loadN; (first | exact .inl rfl | exact .inr ⟨rfl, rfl⟩); (repeat (first | exact At.here | apply At.there)); exact rfl; exact rfl))
    (first | (apply wl_call (C); exact rfl; exact rfl) | (apply wl_callR (C); exact rfl; (repeat (first | exact At.here | apply At.there)); exact rfl))
    ((apply wl_not; exact rfl; exact rfl); refine WL_nil ?_; refine th_norm ?_; (apply w_true; exact rfl); refine W_seq ?_; refine W_region ?_; (apply wl_build; (repeat (first | exact Parts.nil | (apply Parts.cons; exact rfl; exact rfl; exact inferInstance; exact rfl; exact (of_decide_eq_true rfl)))); exact rfl); (apply wl_store; (first | exact .inl rfl | exact .inr ⟨rfl, rfl⟩); (repeat (first | exact At.here | apply At.there)); exact rfl; exact inferInstance; exact inferInstance; exact inferInstance; exact rfl; (first | exact (of_decide_eq_true rfl) | (simp; omega) | decide)); (apply wl_assign; exact rfl; exact rfl); refine WL_nil ?_; refine th_norm ?_; refine W_ret ?_; refine th_ret ?_; refine rt_norm ?_)
    refine Res_imp (floE_imp _) ?_
    (apply resN1; exact rfl; exact rfl; (repeat (first | exact At.here | apply At.there)); exact inferInstance; exact rfl; exact rfl; exact ⟨rfl, rfl⟩)
  | true =>
    rw [hok] at C
    have hql := hq hok
    have hS' : Sml { f with qs := insQ f.qs x } := ⟨hS.ids, by show (insQ f.qs x).length ≤ 1000; rw [insQ_len]; omega, hS.bs, hS.ps, hS.st⟩
    have hal : atQ f.qs x ≤ f.qs.length := tw_le _ _
    have hins : [] ++ List.drop 0 (List.take (atQ f.qs x) f.qs) ++ [x] ++ List.drop (atQ f.qs x) (List.take f.qs.length f.qs) = insQ f.qs x := by simp [insQ]
    have hW : split8R f x = if floOk { f with qs := insQ f.qs x } = true then ({ f with qs := insQ f.qs x }, 0) else (floE, 83) := by unfold split8R; rw [if_pos hok]
    rw [hW]
    refine con_of Tryd.func27 rfl (enters_of Tryd.func27 (by kernel_rfl) rfl) rfl ?_; intro n w0 F0 G0
    (refine W_seq ?_; refine W_region ?_; (apply wl_boxv; exact rfl; exact inferInstance; exact rfl; intro p hp); (apply wl_boxv; exact rfl; exact inferInstance; exact rfl; intro p hp); (apply wl_alloc; exact rfl; intro p hp); (apply wl_assign; exact rfl; exact rfl); refine WL_nil ?_; refine th_norm ?_; refine W_seq ?_; refine W_seq ?_; refine W_region ?_; (apply wl_loadN; (first | exact .inl rfl | exact .inr ⟨rfl, rfl⟩); (repeat (first | exact At.here | apply At.there)); exact rfl; exact rfl))
    rename_i p2 hp2 p3 hp3
    (first | (apply wl_call (C); exact rfl; exact rfl) | (apply wl_callR (C); exact rfl; (repeat (first | exact At.here | apply At.there)); exact rfl))
    ((apply wl_not; exact rfl; exact rfl); refine WL_nil ?_; refine th_norm ?_; (apply w_false; exact rfl); refine W_skip ?_; refine th_norm ?_; refine W_seq ?_; refine W_region ?_; (apply wl_assign; exact rfl; exact rfl); refine WL_nil ?_; refine th_norm ?_; refine W_seq ?_; refine W_block ?_)
    refine W_loopJ (fun (k : Nat) => ⟨[(2, .val p2), (3, .val p3), (4, .val p), (6, .val (.int .i64 k))], [.box p2 (flC f) 27, .box p3 (quC x) 55, .box p [.val (.slice none 0 0), .val (.slice none 0 0), .val (.slice none 0 0), .val (.slice none 0 0)] 27]⟩) (fun k => k ≤ atQ f.qs x) (fun k => f.qs.length - k) 0 (fun _ _ st => st_sub2 st (by (repeat (first | exact trivial | refine ⟨rfl, ?_⟩))) (by (repeat (first | exact SubP.nil | (apply SubP.cons; (repeat (first | exact Rm.here | apply Rm.there))))))) (Nat.zero_le _) ?_
    intro k hk
    (refine W_seq ?_; refine W_seq ?_)
    by_cases hlt : k < f.qs.length
    · have hpq : f.qs[k]? = some f.qs[k] := List.getElem?_eq_getElem hlt
      cases hp : qLt f.qs[k] x with
      | true =>
        have hk2 : k + 1 ≤ atQ f.qs x := by
          rcases Nat.lt_or_ge k (atQ f.qs x) with h | h
          · exact h
          · have e : k = atQ f.qs x := Nat.le_antisymm hk h
            subst e
            have h3 := tw_at (fun y => qLt y x) f.qs hlt
            unfold atQ at hp
            rw [h3] at hp; simp at hp
        refine W_run 12 [12, 13, 14, 15, 16, 17, 18, 19, 20, 21, 22, 23] [0, 1, 2, 3, 4, 5, 6, 7, 8, 9, 10, 11] Cut.nil rfl (by repeat (first | exact Flt.nil | (apply Flt.keep; exact rfl) | (apply Flt.drop; exact rfl))) mixedS (by kernel_rfl) rfl ?_
        apply Run.pv [] []
        · exact rfl
        · intro vs; apply ltr_pk; (repeat (first | exact Pk.nil | (apply Pk.pv; exact rfl; exact rfl) | (apply Pk.tok; exact rfl; exact rfl)))
          (first | (refine ltr ?_; apply lt_move; exact rfl))
        · repeat (first | exact App.nil | apply App.cons)
        apply Run.pv [] []
        · exact rfl
        · intro vs; apply ltr_pk; (repeat (first | exact Pk.nil | (apply Pk.pv; exact rfl; exact rfl) | (apply Pk.tok; exact rfl; exact rfl)))
          (first | (refine ltr ?_; apply lt_fieldAt; exact rfl; exact rfl) | (apply ltr_field; exact rfl; (repeat (first | exact At.here | apply At.there))) | (refine ltr ?_; apply lt_fieldEl; exact rfl; exact rfl) | (refine ltr ?_; apply lt_fieldRat; exact rfl; exact rfl))
        · repeat (first | exact App.nil | apply App.cons)
        apply Run.pv [1] []
        · exact rfl
        · intro vs; apply ltr_pk; (repeat (first | exact Pk.nil | (apply Pk.pv; exact rfl; exact rfl) | (apply Pk.tok; exact rfl; exact rfl)))
          (first | (apply ltr_load1; (first | exact .inl rfl | exact .inr ⟨rfl, rfl⟩); (repeat (first | exact At.here | apply At.there)); exact rfl) | (refine ltr ?_; apply lt_loadE1'; exact rfl; assumption; exact rfl) | (refine ltr ?_; apply lt_loadEN'; exact rfl; assumption; exact rfl) | (apply ltr_loadN; (first | exact .inl rfl | exact .inr ⟨rfl, rfl⟩); (repeat (first | exact At.here | apply At.there)); exact rfl) | (apply ltr_loadR1; exact rfl; (repeat (first | exact At.here | apply At.there)); assumption; exact rfl) | (apply ltr_loadRN; exact rfl; (repeat (first | exact At.here | apply At.there)); assumption))
        · repeat (first | exact App.nil | apply App.cons)
        apply Run.pv [2] []
        · exact rfl
        · intro vs; apply ltr_pk; (repeat (first | exact Pk.nil | (apply Pk.pv; exact rfl; exact rfl) | (apply Pk.tok; exact rfl; exact rfl)))
          (first | (refine ltr ?_; apply lt_lenSl; exact rfl) | (apply ltr_lenRow; exact rfl; (repeat (first | exact At.here | apply At.there))))
        · repeat (first | exact App.nil | apply App.cons)
        apply Run.pv [0, 3] []
        · exact rfl
        · intro vs; apply ltr_pk; (repeat (first | exact Pk.nil | (apply Pk.pv; exact rfl; exact rfl) | (apply Pk.tok; exact rfl; exact rfl)))
          (refine ltr ?_; apply LT_bool true; apply lt_lss; exact rfl; exact rfl; (simp; omega))
        · repeat (first | exact App.nil | apply App.cons)
        apply Run.pv [4] []
        · exact rfl
        · intro vs; apply ltr_pk; (repeat (first | exact Pk.nil | (apply Pk.pv; exact rfl; exact rfl) | (apply Pk.tok; exact rfl; exact rfl)))
          (first | (refine ltr ?_; apply lt_move; exact rfl))
        · repeat (first | exact App.nil | apply App.cons)
        apply Run.yes [5] []
        · exact rfl
        · exact rfl
        · intro vs; apply look_pk; (repeat (first | exact Pk.nil | (apply Pk.pv; exact rfl; exact rfl) | (apply Pk.tok; exact rfl; exact rfl))); exact rfl
        · intro vs; apply ltr_pk; (repeat (first | exact Pk.nil | (apply Pk.pv; exact rfl; exact rfl) | (apply Pk.tok; exact rfl; exact rfl)))
          (first | (refine ltr ?_; apply lt_fieldAt; exact rfl; exact rfl) | (apply ltr_field; exact rfl; (repeat (first | exact At.here | apply At.there))) | (refine ltr ?_; apply lt_fieldEl; exact rfl; exact rfl) | (refine ltr ?_; apply lt_fieldRat; exact rfl; exact rfl))
        · repeat (first | exact App.nil | apply App.cons)
        apply Run.yes [5, 6] []
        · exact rfl
        · exact rfl
        · intro vs; apply look_pk; (repeat (first | exact Pk.nil | (apply Pk.pv; exact rfl; exact rfl) | (apply Pk.tok; exact rfl; exact rfl))); exact rfl
        · intro vs; apply ltr_pk; (repeat (first | exact Pk.nil | (apply Pk.pv; exact rfl; exact rfl) | (apply Pk.tok; exact rfl; exact rfl)))
          (first | (apply ltr_load1; (first | exact .inl rfl | exact .inr ⟨rfl, rfl⟩); (repeat (first | exact At.here | apply At.there)); exact rfl) | (refine ltr ?_; apply lt_loadE1'; exact rfl; assumption; exact rfl) | (refine ltr ?_; apply lt_loadEN'; exact rfl; assumption; exact rfl) | (apply ltr_loadN; (first | exact .inl rfl | exact .inr ⟨rfl, rfl⟩); (repeat (first | exact At.here | apply At.there)); exact rfl) | (apply ltr_loadR1; exact rfl; (repeat (first | exact At.here | apply At.there)); assumption; exact rfl) | (apply ltr_loadRN; exact rfl; (repeat (first | exact At.here | apply At.there)); assumption))
        · repeat (first | exact App.nil | apply App.cons)
        apply Run.yes [5] []
        · exact rfl
        · exact rfl
        · intro vs; apply look_pk; (repeat (first | exact Pk.nil | (apply Pk.pv; exact rfl; exact rfl) | (apply Pk.tok; exact rfl; exact rfl))); exact rfl
        · intro vs; apply ltr_pk; (repeat (first | exact Pk.nil | (apply Pk.pv; exact rfl; exact rfl) | (apply Pk.tok; exact rfl; exact rfl)))
          (first | (refine ltr ?_; apply lt_move; exact rfl))
        · repeat (first | exact App.nil | apply App.cons)
        apply Run.yes [5, 7, 8] []
        · exact rfl
        · exact rfl
        · intro vs; apply look_pk; (repeat (first | exact Pk.nil | (apply Pk.pv; exact rfl; exact rfl) | (apply Pk.tok; exact rfl; exact rfl))); exact rfl
        · intro vs; apply ltr_pk; (repeat (first | exact Pk.nil | (apply Pk.pv; exact rfl; exact rfl) | (apply Pk.tok; exact rfl; exact rfl)))
          (first | (refine ltr ?_; apply lt_indexSl; exact rfl; exact rfl; exact rfl; (first | assumption | omega | (simp; omega))) | (apply ltr_indexRow; exact rfl; (repeat (first | exact At.here | apply At.there)); exact rfl; exact rfl; (first | assumption | omega | (simp; omega))) | (apply ltr_indexArr; exact rfl; (repeat (first | exact At.here | apply At.there)); exact rfl; exact rfl; (first | assumption | omega | decide)))
        · repeat (first | exact App.nil | apply App.cons)
        apply Run.yes [5, 9] []
        · exact rfl
        · exact rfl
        · intro vs; apply look_pk; (repeat (first | exact Pk.nil | (apply Pk.pv; exact rfl; exact rfl) | (apply Pk.tok; exact rfl; exact rfl))); exact rfl
        · intro vs; apply ltr_pk; (repeat (first | exact Pk.nil | (apply Pk.pv; exact rfl; exact rfl) | (apply Pk.tok; exact rfl; exact rfl)))
          (first | (apply ltr_load1; (first | exact .inl rfl | exact .inr ⟨rfl, rfl⟩); (repeat (first | exact At.here | apply At.there)); exact rfl) | (refine ltr ?_; apply lt_loadE1'; exact rfl; assumption; exact rfl) | (refine ltr ?_; apply lt_loadEN'; exact rfl; assumption; exact rfl) | (apply ltr_loadN; (first | exact .inl rfl | exact .inr ⟨rfl, rfl⟩); (repeat (first | exact At.here | apply At.there)); exact rfl) | (apply ltr_loadR1; exact rfl; (repeat (first | exact At.here | apply At.there)); assumption; exact rfl) | (apply ltr_loadRN; exact rfl; (repeat (first | exact At.here | apply At.there)); assumption))
        · repeat (first | exact App.nil | apply App.cons)
        apply Run.yes [5] []
        · exact rfl
        · exact rfl
        · intro vs; apply look_pk; (repeat (first | exact Pk.nil | (apply Pk.pv; exact rfl; exact rfl) | (apply Pk.tok; exact rfl; exact rfl))); exact rfl
        · intro vs; apply ltr_pk; (repeat (first | exact Pk.nil | (apply Pk.pv; exact rfl; exact rfl) | (apply Pk.tok; exact rfl; exact rfl)))
          (first | (apply ltr_load1; (first | exact .inl rfl | exact .inr ⟨rfl, rfl⟩); (repeat (first | exact At.here | apply At.there)); exact rfl) | (refine ltr ?_; apply lt_loadE1'; exact rfl; assumption; exact rfl) | (refine ltr ?_; apply lt_loadEN'; exact rfl; assumption; exact rfl) | (apply ltr_loadN; (first | exact .inl rfl | exact .inr ⟨rfl, rfl⟩); (repeat (first | exact At.here | apply At.there)); exact rfl) | (apply ltr_loadR1; exact rfl; (repeat (first | exact At.here | apply At.there)); assumption; exact rfl) | (apply ltr_loadRN; exact rfl; (repeat (first | exact At.here | apply At.there)); assumption))
        · repeat (first | exact App.nil | apply App.cons)
        refine ⟨⟨by kernel_rfl, by kernel_rfl⟩, fun vs => ?_⟩
        apply WL_auto [5, 10, 11]
        · repeat (first | exact Pk.nil | (apply Pk.pv; exact rfl; exact rfl) | (apply Pk.tok; exact rfl; exact rfl))
        · repeat (first | exact Nrm.nil | apply Nrm.cons)
        · kernel_rfl
        · kernel_rfl
        ((apply wl_yes; exact rfl; exact rfl; exact rfl))
        (first | (apply wl_call (earlier_con f.qs[k] x); exact rfl; exact rfl) | (apply wl_callR (earlier_con f.qs[k] x); exact rfl; (repeat (first | exact At.here | apply At.there)); exact rfl))
        rw [hp]
        ((apply wl_pick_t; exact rfl; exact rfl; exact rfl); refine WL_nil ?_; refine th_norm ?_; (apply w_true; exact rfl); refine W_skip ?_; refine th_norm ?_; refine W_block ?_; refine W_region ?_; (apply wl_move; exact rfl; exact rfl); (apply wl_add; exact rfl; exact rfl; omega; omega; exact rfl); (apply wl_assign; exact rfl; exact rfl); refine WL_nil ?_; refine bl_norm ?_; refine th_norm ?_)
        refine ⟨k + 1, fun _ _ st => st_sub2 st (by (repeat (first | exact trivial | refine ⟨rfl, ?_⟩))) (by (repeat (first | exact SubP.nil | (apply SubP.cons; (repeat (first | exact Rm.here | apply Rm.there)))))), hk2, ?_⟩
        omega
      | false =>
        have hkk : k = atQ f.qs x := by
          rcases Nat.lt_or_ge k (atQ f.qs x) with h | h
          · have h3 := tw_lt (fun y => qLt y x) f.qs k hlt h
            rw [hp] at h3; simp at h3
          · exact Nat.le_antisymm hk h
        subst hkk
        refine W_run 12 [12, 13, 14, 15, 16, 17, 18, 19, 20, 21, 22, 23] [0, 1, 2, 3, 4, 5, 6, 7, 8, 9, 10, 11] Cut.nil rfl (by repeat (first | exact Flt.nil | (apply Flt.keep; exact rfl) | (apply Flt.drop; exact rfl))) mixedS (by kernel_rfl) rfl ?_
        apply Run.pv [] []
        · exact rfl
        · intro vs; apply ltr_pk; (repeat (first | exact Pk.nil | (apply Pk.pv; exact rfl; exact rfl) | (apply Pk.tok; exact rfl; exact rfl)))
          (first | (refine ltr ?_; apply lt_move; exact rfl))
        · repeat (first | exact App.nil | apply App.cons)
        apply Run.pv [] []
        · exact rfl
        · intro vs; apply ltr_pk; (repeat (first | exact Pk.nil | (apply Pk.pv; exact rfl; exact rfl) | (apply Pk.tok; exact rfl; exact rfl)))
          (first | (refine ltr ?_; apply lt_fieldAt; exact rfl; exact rfl) | (apply ltr_field; exact rfl; (repeat (first | exact At.here | apply At.there))) | (refine ltr ?_; apply lt_fieldEl; exact rfl; exact rfl) | (refine ltr ?_; apply lt_fieldRat; exact rfl; exact rfl))
        · repeat (first | exact App.nil | apply App.cons)
        apply Run.pv [1] []
        · exact rfl
        · intro vs; apply ltr_pk; (repeat (first | exact Pk.nil | (apply Pk.pv; exact rfl; exact rfl) | (apply Pk.tok; exact rfl; exact rfl)))
          (first | (apply ltr_load1; (first | exact .inl rfl | exact .inr ⟨rfl, rfl⟩); (repeat (first | exact At.here | apply At.there)); exact rfl) | (refine ltr ?_; apply lt_loadE1'; exact rfl; assumption; exact rfl) | (refine ltr ?_; apply lt_loadEN'; exact rfl; assumption; exact rfl) | (apply ltr_loadN; (first | exact .inl rfl | exact .inr ⟨rfl, rfl⟩); (repeat (first | exact At.here | apply At.there)); exact rfl) | (apply ltr_loadR1; exact rfl; (repeat (first | exact At.here | apply At.there)); assumption; exact rfl) | (apply ltr_loadRN; exact rfl; (repeat (first | exact At.here | apply At.there)); assumption))
        · repeat (first | exact App.nil | apply App.cons)
        apply Run.pv [2] []
        · exact rfl
        · intro vs; apply ltr_pk; (repeat (first | exact Pk.nil | (apply Pk.pv; exact rfl; exact rfl) | (apply Pk.tok; exact rfl; exact rfl)))
          (first | (refine ltr ?_; apply lt_lenSl; exact rfl) | (apply ltr_lenRow; exact rfl; (repeat (first | exact At.here | apply At.there))))
        · repeat (first | exact App.nil | apply App.cons)
        apply Run.pv [0, 3] []
        · exact rfl
        · intro vs; apply ltr_pk; (repeat (first | exact Pk.nil | (apply Pk.pv; exact rfl; exact rfl) | (apply Pk.tok; exact rfl; exact rfl)))
          (refine ltr ?_; apply LT_bool true; apply lt_lss; exact rfl; exact rfl; (simp; omega))
        · repeat (first | exact App.nil | apply App.cons)
        apply Run.pv [4] []
        · exact rfl
        · intro vs; apply ltr_pk; (repeat (first | exact Pk.nil | (apply Pk.pv; exact rfl; exact rfl) | (apply Pk.tok; exact rfl; exact rfl)))
          (first | (refine ltr ?_; apply lt_move; exact rfl))
        · repeat (first | exact App.nil | apply App.cons)
        apply Run.yes [5] []
        · exact rfl
        · exact rfl
        · intro vs; apply look_pk; (repeat (first | exact Pk.nil | (apply Pk.pv; exact rfl; exact rfl) | (apply Pk.tok; exact rfl; exact rfl))); exact rfl
        · intro vs; apply ltr_pk; (repeat (first | exact Pk.nil | (apply Pk.pv; exact rfl; exact rfl) | (apply Pk.tok; exact rfl; exact rfl)))
          (first | (refine ltr ?_; apply lt_fieldAt; exact rfl; exact rfl) | (apply ltr_field; exact rfl; (repeat (first | exact At.here | apply At.there))) | (refine ltr ?_; apply lt_fieldEl; exact rfl; exact rfl) | (refine ltr ?_; apply lt_fieldRat; exact rfl; exact rfl))
        · repeat (first | exact App.nil | apply App.cons)
        apply Run.yes [5, 6] []
        · exact rfl
        · exact rfl
        · intro vs; apply look_pk; (repeat (first | exact Pk.nil | (apply Pk.pv; exact rfl; exact rfl) | (apply Pk.tok; exact rfl; exact rfl))); exact rfl
        · intro vs; apply ltr_pk; (repeat (first | exact Pk.nil | (apply Pk.pv; exact rfl; exact rfl) | (apply Pk.tok; exact rfl; exact rfl)))
          (first | (apply ltr_load1; (first | exact .inl rfl | exact .inr ⟨rfl, rfl⟩); (repeat (first | exact At.here | apply At.there)); exact rfl) | (refine ltr ?_; apply lt_loadE1'; exact rfl; assumption; exact rfl) | (refine ltr ?_; apply lt_loadEN'; exact rfl; assumption; exact rfl) | (apply ltr_loadN; (first | exact .inl rfl | exact .inr ⟨rfl, rfl⟩); (repeat (first | exact At.here | apply At.there)); exact rfl) | (apply ltr_loadR1; exact rfl; (repeat (first | exact At.here | apply At.there)); assumption; exact rfl) | (apply ltr_loadRN; exact rfl; (repeat (first | exact At.here | apply At.there)); assumption))
        · repeat (first | exact App.nil | apply App.cons)
        apply Run.yes [5] []
        · exact rfl
        · exact rfl
        · intro vs; apply look_pk; (repeat (first | exact Pk.nil | (apply Pk.pv; exact rfl; exact rfl) | (apply Pk.tok; exact rfl; exact rfl))); exact rfl
        · intro vs; apply ltr_pk; (repeat (first | exact Pk.nil | (apply Pk.pv; exact rfl; exact rfl) | (apply Pk.tok; exact rfl; exact rfl)))
          (first | (refine ltr ?_; apply lt_move; exact rfl))
        · repeat (first | exact App.nil | apply App.cons)
        apply Run.yes [5, 7, 8] []
        · exact rfl
        · exact rfl
        · intro vs; apply look_pk; (repeat (first | exact Pk.nil | (apply Pk.pv; exact rfl; exact rfl) | (apply Pk.tok; exact rfl; exact rfl))); exact rfl
        · intro vs; apply ltr_pk; (repeat (first | exact Pk.nil | (apply Pk.pv; exact rfl; exact rfl) | (apply Pk.tok; exact rfl; exact rfl)))
          (first | (refine ltr ?_; apply lt_indexSl; exact rfl; exact rfl; exact rfl; (first | assumption | omega | (simp; omega))) | (apply ltr_indexRow; exact rfl; (repeat (first | exact At.here | apply At.there)); exact rfl; exact rfl; (first | assumption | omega | (simp; omega))) | (apply ltr_indexArr; exact rfl; (repeat (first | exact At.here | apply At.there)); exact rfl; exact rfl; (first | assumption | omega | decide)))
        · repeat (first | exact App.nil | apply App.cons)
        apply Run.yes [5, 9] []
        · exact rfl
        · exact rfl
        · intro vs; apply look_pk; (repeat (first | exact Pk.nil | (apply Pk.pv; exact rfl; exact rfl) | (apply Pk.tok; exact rfl; exact rfl))); exact rfl
        · intro vs; apply ltr_pk; (repeat (first | exact Pk.nil | (apply Pk.pv; exact rfl; exact rfl) | (apply Pk.tok; exact rfl; exact rfl)))
          (first | (apply ltr_load1; (first | exact .inl rfl | exact .inr ⟨rfl, rfl⟩); (repeat (first | exact At.here | apply At.there)); exact rfl) | (refine ltr ?_; apply lt_loadE1'; exact rfl; assumption; exact rfl) | (refine ltr ?_; apply lt_loadEN'; exact rfl; assumption; exact rfl) | (apply ltr_loadN; (first | exact .inl rfl | exact .inr ⟨rfl, rfl⟩); (repeat (first | exact At.here | apply At.there)); exact rfl) | (apply ltr_loadR1; exact rfl; (repeat (first | exact At.here | apply At.there)); assumption; exact rfl) | (apply ltr_loadRN; exact rfl; (repeat (first | exact At.here | apply At.there)); assumption))
        · repeat (first | exact App.nil | apply App.cons)
        apply Run.yes [5] []
        · exact rfl
        · exact rfl
        · intro vs; apply look_pk; (repeat (first | exact Pk.nil | (apply Pk.pv; exact rfl; exact rfl) | (apply Pk.tok; exact rfl; exact rfl))); exact rfl
        · intro vs; apply ltr_pk; (repeat (first | exact Pk.nil | (apply Pk.pv; exact rfl; exact rfl) | (apply Pk.tok; exact rfl; exact rfl)))
          (first | (apply ltr_load1; (first | exact .inl rfl | exact .inr ⟨rfl, rfl⟩); (repeat (first | exact At.here | apply At.there)); exact rfl) | (refine ltr ?_; apply lt_loadE1'; exact rfl; assumption; exact rfl) | (refine ltr ?_; apply lt_loadEN'; exact rfl; assumption; exact rfl) | (apply ltr_loadN; (first | exact .inl rfl | exact .inr ⟨rfl, rfl⟩); (repeat (first | exact At.here | apply At.there)); exact rfl) | (apply ltr_loadR1; exact rfl; (repeat (first | exact At.here | apply At.there)); assumption; exact rfl) | (apply ltr_loadRN; exact rfl; (repeat (first | exact At.here | apply At.there)); assumption))
        · repeat (first | exact App.nil | apply App.cons)
        refine ⟨⟨by kernel_rfl, by kernel_rfl⟩, fun vs => ?_⟩
        apply WL_auto [5, 10, 11]
        · repeat (first | exact Pk.nil | (apply Pk.pv; exact rfl; exact rfl) | (apply Pk.tok; exact rfl; exact rfl))
        · repeat (first | exact Nrm.nil | apply Nrm.cons)
        · kernel_rfl
        · kernel_rfl
        ((apply wl_yes; exact rfl; exact rfl; exact rfl))
        (first | (apply wl_call (earlier_con f.qs[atQ f.qs x] x); exact rfl; exact rfl) | (apply wl_callR (earlier_con f.qs[atQ f.qs x] x); exact rfl; (repeat (first | exact At.here | apply At.there)); exact rfl))
        rw [hp]
        ((apply wl_pick_t; exact rfl; exact rfl; exact rfl); refine WL_nil ?_; refine th_norm ?_; (apply w_false; exact rfl); refine W_exit ?_; refine th_exit ?_; refine th_exit ?_; refine bl_eq ?_; refine th_norm ?_; refine W_seq ?_; refine W_region ?_; (apply wl_loadN; (first | exact .inl rfl | exact .inr ⟨rfl, rfl⟩); (repeat (first | exact At.here | apply At.there)); exact rfl; exact rfl))
        (first | (apply wl_call (twin8_con f hS); exact rfl; exact rfl) | (apply wl_callR (twin8_con f hS); exact rfl; (repeat (first | exact At.here | apply At.there)); exact rfl))
        ((apply wl_alloc; exact rfl; intro p hp); (apply wl_store; (first | exact .inl rfl | exact .inr ⟨rfl, rfl⟩); (repeat (first | exact At.here | apply At.there)); exact rfl; exact inferInstance; exact inferInstance; exact inferInstance; exact rfl; (first | exact (of_decide_eq_true rfl) | (simp; omega) | decide)); refine WL_nil ?_; refine th_norm ?_; refine W_seq ?_)
        rename_i p4 hp4
        refine W_run 13 [30, 31, 32, 33, 34, 35, 36, 37, 38, 39, 40, 41, 42] [1, 2, 3, 4, 6, 7, 8, 9, 10, 11, 12] Cut.nil rfl (by repeat (first | exact Flt.nil | (apply Flt.keep; exact rfl) | (apply Flt.drop; exact rfl))) mixedS (by kernel_rfl) rfl ?_
        apply Run.tok [] []
        · exact rfl
        · intro vs; apply ltr_pk; (repeat (first | exact Pk.nil | (apply Pk.pv; exact rfl; exact rfl) | (apply Pk.tok; exact rfl; exact rfl)))
          (refine ltr ?_; apply lt_lit (f := quC); (repeat (first | exact Elems.nil | (apply Elems.cons; exact rfl; exact inferInstance; exact rfl))); exact rfl; (first | exact (of_decide_eq_true rfl) | decide | (simp; done) | (simp; omega)))
        · repeat (first | exact App.nil | apply App.cons)
        apply Run.pv [] []
        · exact rfl
        · intro vs; apply ltr_pk; (repeat (first | exact Pk.nil | (apply Pk.pv; exact rfl; exact rfl) | (apply Pk.tok; exact rfl; exact rfl)))
          (first | (refine ltr ?_; apply lt_fieldAt; exact rfl; exact rfl) | (apply ltr_field; exact rfl; (repeat (first | exact At.here | apply At.there))) | (refine ltr ?_; apply lt_fieldEl; exact rfl; exact rfl) | (refine ltr ?_; apply lt_fieldRat; exact rfl; exact rfl))
        · repeat (first | exact App.nil | apply App.cons)
        apply Run.pv [1] []
        · exact rfl
        · intro vs; apply ltr_pk; (repeat (first | exact Pk.nil | (apply Pk.pv; exact rfl; exact rfl) | (apply Pk.tok; exact rfl; exact rfl)))
          (first | (apply ltr_load1; (first | exact .inl rfl | exact .inr ⟨rfl, rfl⟩); (repeat (first | exact At.here | apply At.there)); exact rfl) | (refine ltr ?_; apply lt_loadE1'; exact rfl; assumption; exact rfl) | (refine ltr ?_; apply lt_loadEN'; exact rfl; assumption; exact rfl) | (apply ltr_loadN; (first | exact .inl rfl | exact .inr ⟨rfl, rfl⟩); (repeat (first | exact At.here | apply At.there)); exact rfl) | (apply ltr_loadR1; exact rfl; (repeat (first | exact At.here | apply At.there)); assumption; exact rfl) | (apply ltr_loadRN; exact rfl; (repeat (first | exact At.here | apply At.there)); assumption))
        · repeat (first | exact App.nil | apply App.cons)
        apply Run.pv [] []
        · exact rfl
        · intro vs; apply ltr_pk; (repeat (first | exact Pk.nil | (apply Pk.pv; exact rfl; exact rfl) | (apply Pk.tok; exact rfl; exact rfl)))
          (first | (refine ltr ?_; apply lt_move; exact rfl))
        · repeat (first | exact App.nil | apply App.cons)
        apply Run.pv [2, 3] []
        · exact rfl
        · intro vs; apply ltr_pk; (repeat (first | exact Pk.nil | (apply Pk.pv; exact rfl; exact rfl) | (apply Pk.tok; exact rfl; exact rfl)))
          (refine ltr ?_; refine lt_slice (l := 0) (h := atQ f.qs x) (li := 0) rfl (.inr ⟨rfl, rfl⟩) rfl (.inl rfl) rfl (Nat.zero_le _) hal)
        · repeat (first | exact App.nil | apply App.cons)
        apply Run.tok [0, 4] [0]
        · exact rfl
        · intro vs; apply ltr_pk; (repeat (first | exact Pk.nil | (apply Pk.pv; exact rfl; exact rfl) | (apply Pk.tok; exact rfl; exact rfl)))
          (refine ltr ?_; apply lt_append; exact rfl; exact rfl; (first | omega | (simp; omega)))
        · repeat (first | exact App.nil | apply App.cons)
        apply Run.pv [] []
        · exact rfl
        · intro vs; apply ltr_pk; (repeat (first | exact Pk.nil | (apply Pk.pv; exact rfl; exact rfl) | (apply Pk.tok; exact rfl; exact rfl)))
          (first | (apply ltr_load1; (first | exact .inl rfl | exact .inr ⟨rfl, rfl⟩); (repeat (first | exact At.here | apply At.there)); exact rfl) | (refine ltr ?_; apply lt_loadE1'; exact rfl; assumption; exact rfl) | (refine ltr ?_; apply lt_loadEN'; exact rfl; assumption; exact rfl) | (apply ltr_loadN; (first | exact .inl rfl | exact .inr ⟨rfl, rfl⟩); (repeat (first | exact At.here | apply At.there)); exact rfl) | (apply ltr_loadR1; exact rfl; (repeat (first | exact At.here | apply At.there)); assumption; exact rfl) | (apply ltr_loadRN; exact rfl; (repeat (first | exact At.here | apply At.there)); assumption))
        · repeat (first | exact App.nil | apply App.cons)
        apply Run.pv [6] []
        · exact rfl
        · intro vs; apply ltr_pk; (repeat (first | exact Pk.nil | (apply Pk.pv; exact rfl; exact rfl) | (apply Pk.tok; exact rfl; exact rfl)))
          (refine ltr ?_; apply LT_frz; apply lt_lit (f := quC); (repeat (first | exact Elems.nil | (apply Elems.cons; exact rfl; exact inferInstance; exact rfl))); exact rfl; (first | exact (of_decide_eq_true rfl) | decide | (simp; done) | (simp; omega)))
        · repeat (first | exact App.nil | apply App.cons)
        apply Run.tok [5, 7] [5]
        · exact rfl
        · intro vs; apply ltr_pk; (repeat (first | exact Pk.nil | (apply Pk.pv; exact rfl; exact rfl) | (apply Pk.tok; exact rfl; exact rfl)))
          (refine ltr ?_; apply lt_append; exact rfl; exact rfl; (first | omega | (simp; omega)))
        · repeat (first | exact App.nil | apply App.cons)
        apply Run.pv [] []
        · exact rfl
        · intro vs; apply ltr_pk; (repeat (first | exact Pk.nil | (apply Pk.pv; exact rfl; exact rfl) | (apply Pk.tok; exact rfl; exact rfl)))
          (first | (refine ltr ?_; apply lt_fieldAt; exact rfl; exact rfl) | (apply ltr_field; exact rfl; (repeat (first | exact At.here | apply At.there))) | (refine ltr ?_; apply lt_fieldEl; exact rfl; exact rfl) | (refine ltr ?_; apply lt_fieldRat; exact rfl; exact rfl))
        · repeat (first | exact App.nil | apply App.cons)
        apply Run.pv [9] []
        · exact rfl
        · intro vs; apply ltr_pk; (repeat (first | exact Pk.nil | (apply Pk.pv; exact rfl; exact rfl) | (apply Pk.tok; exact rfl; exact rfl)))
          (first | (apply ltr_load1; (first | exact .inl rfl | exact .inr ⟨rfl, rfl⟩); (repeat (first | exact At.here | apply At.there)); exact rfl) | (refine ltr ?_; apply lt_loadE1'; exact rfl; assumption; exact rfl) | (refine ltr ?_; apply lt_loadEN'; exact rfl; assumption; exact rfl) | (apply ltr_loadN; (first | exact .inl rfl | exact .inr ⟨rfl, rfl⟩); (repeat (first | exact At.here | apply At.there)); exact rfl) | (apply ltr_loadR1; exact rfl; (repeat (first | exact At.here | apply At.there)); assumption; exact rfl) | (apply ltr_loadRN; exact rfl; (repeat (first | exact At.here | apply At.there)); assumption))
        · repeat (first | exact App.nil | apply App.cons)
        apply Run.pv [] []
        · exact rfl
        · intro vs; apply ltr_pk; (repeat (first | exact Pk.nil | (apply Pk.pv; exact rfl; exact rfl) | (apply Pk.tok; exact rfl; exact rfl)))
          (first | (refine ltr ?_; apply lt_move; exact rfl))
        · repeat (first | exact App.nil | apply App.cons)
        apply Run.pv [10, 11] []
        · exact rfl
        · intro vs; apply ltr_pk; (repeat (first | exact Pk.nil | (apply Pk.pv; exact rfl; exact rfl) | (apply Pk.tok; exact rfl; exact rfl)))
          (refine ltr ?_; refine lt_slice (l := atQ f.qs x) (h := f.qs.length) (hi' := (f.qs.length : Int)) rfl (.inl rfl) rfl (.inr ⟨rfl, rfl⟩) rfl hal (Nat.le_refl _))
        · repeat (first | exact App.nil | apply App.cons)
        refine ⟨⟨by kernel_rfl, by kernel_rfl⟩, fun vs => ?_⟩
        apply WL_auto [8, 12]
        · repeat (first | exact Pk.nil | (apply Pk.pv; exact rfl; exact rfl) | (apply Pk.tok; exact rfl; exact rfl))
        · repeat (first | exact Nrm.nil | apply Nrm.cons)
        · kernel_rfl
        · kernel_rfl
        skip
        (first | (apply wl_append; exact rfl; exact rfl; (repeat (first | exact Rm.here | apply Rm.there)); exact inferInstance; exact inferInstance; (first | omega | (simp; omega)); exact rfl) | (apply wl_appendN; exact rfl; exact rfl; exact inferInstance; exact inferInstance; (first | omega | (simp; omega)); exact rfl))
        intro v1
        rw [hins]
        (apply WL_frz 43; exact rfl; (repeat (first | exact Rm.here | apply Rm.there)))
        ((apply wl_field; exact rfl; (repeat (first | exact At.here | apply At.there)); exact rfl); (apply wl_store; (first | exact .inl rfl | exact .inr ⟨rfl, rfl⟩); (repeat (first | exact At.here | apply At.there)); exact rfl; exact inferInstance; exact inferInstance; exact inferInstance; exact rfl; (first | exact (of_decide_eq_true rfl) | (simp; omega) | decide)); refine WL_nil ?_; refine th_norm ?_; refine W_seq ?_; refine W_seq ?_; refine W_region ?_; (apply wl_loadN; (first | exact .inl rfl | exact .inr ⟨rfl, rfl⟩); (repeat (first | exact At.here | apply At.there)); exact rfl; exact rfl))
        refine WL_as 45 (.agg (flC { f with qs := insQ f.qs x })) rfl ?_
        (first | (apply wl_call (floors_con { f with qs := insQ f.qs x } hS'); exact rfl; exact rfl) | (apply wl_callR (floors_con { f with qs := insQ f.qs x } hS'); exact rfl; (repeat (first | exact At.here | apply At.there)); exact rfl))
        cases hok2 : floOk { f with qs := insQ f.qs x } with
        | false =>
          ((apply wl_not; exact rfl; exact rfl); refine WL_nil ?_; refine th_norm ?_; (apply w_true; exact rfl); refine W_seq ?_; refine W_region ?_; (apply wl_build; (repeat (first | exact Parts.nil | (apply Parts.cons; exact rfl; exact rfl; exact inferInstance; exact rfl; exact (of_decide_eq_true rfl)))); exact rfl); (apply wl_store; (first | exact .inl rfl | exact .inr ⟨rfl, rfl⟩); (repeat (first | exact At.here | apply At.there)); exact rfl; exact inferInstance; exact inferInstance; exact inferInstance; exact rfl; (first | exact (of_decide_eq_true rfl) | (simp; omega) | decide)); (apply wl_assign; exact rfl; exact rfl); refine WL_nil ?_; refine th_norm ?_; refine W_ret ?_; refine th_ret ?_; refine rt_norm ?_)
          rw [if_neg (by simp)]
          refine Res_imp (floE_imp _) ?_
          (apply resN1; exact rfl; exact rfl; (repeat (first | exact At.here | apply At.there)); exact inferInstance; exact rfl; exact rfl; exact ⟨rfl, rfl⟩)
        | true =>
          ((apply wl_not; exact rfl; exact rfl); refine WL_nil ?_; refine th_norm ?_; (apply w_false; exact rfl); refine W_skip ?_; refine th_norm ?_; refine W_seq ?_; refine W_region ?_; (apply wl_loadN; (first | exact .inl rfl | exact .inr ⟨rfl, rfl⟩); (repeat (first | exact At.here | apply At.there)); exact rfl; exact rfl); (apply wl_store; (first | exact .inl rfl | exact .inr ⟨rfl, rfl⟩); (repeat (first | exact At.here | apply At.there)); exact rfl; exact inferInstance; exact inferInstance; exact inferInstance; exact rfl; (first | exact (of_decide_eq_true rfl) | (simp; omega) | decide)); (apply wl_assign; exact rfl; exact rfl); refine WL_nil ?_; refine th_norm ?_; refine W_ret ?_; refine rt_norm ?_)
          rw [if_pos rfl]
          (apply resN1; exact rfl; exact rfl; (repeat (first | exact At.here | apply At.there)); exact inferInstance; exact rfl; exact rfl; exact ⟨rfl, rfl⟩)
    · have hkk : k = atQ f.qs x := by omega
      subst hkk
      refine W_run 12 [12, 13, 14, 15, 16, 17, 18, 19, 20, 21, 22, 23] [0, 1, 2, 3, 4, 5, 6, 7, 8, 9, 10, 11] Cut.nil rfl (by repeat (first | exact Flt.nil | (apply Flt.keep; exact rfl) | (apply Flt.drop; exact rfl))) mixedS (by kernel_rfl) rfl ?_
      apply Run.pv [] []
      · exact rfl
      · intro vs; apply ltr_pk; (repeat (first | exact Pk.nil | (apply Pk.pv; exact rfl; exact rfl) | (apply Pk.tok; exact rfl; exact rfl)))
        (first | (refine ltr ?_; apply lt_move; exact rfl))
      · repeat (first | exact App.nil | apply App.cons)
      apply Run.pv [] []
      · exact rfl
      · intro vs; apply ltr_pk; (repeat (first | exact Pk.nil | (apply Pk.pv; exact rfl; exact rfl) | (apply Pk.tok; exact rfl; exact rfl)))
        (first | (refine ltr ?_; apply lt_fieldAt; exact rfl; exact rfl) | (apply ltr_field; exact rfl; (repeat (first | exact At.here | apply At.there))) | (refine ltr ?_; apply lt_fieldEl; exact rfl; exact rfl) | (refine ltr ?_; apply lt_fieldRat; exact rfl; exact rfl))
      · repeat (first | exact App.nil | apply App.cons)
      apply Run.pv [1] []
      · exact rfl
      · intro vs; apply ltr_pk; (repeat (first | exact Pk.nil | (apply Pk.pv; exact rfl; exact rfl) | (apply Pk.tok; exact rfl; exact rfl)))
        (first | (apply ltr_load1; (first | exact .inl rfl | exact .inr ⟨rfl, rfl⟩); (repeat (first | exact At.here | apply At.there)); exact rfl) | (refine ltr ?_; apply lt_loadE1'; exact rfl; assumption; exact rfl) | (refine ltr ?_; apply lt_loadEN'; exact rfl; assumption; exact rfl) | (apply ltr_loadN; (first | exact .inl rfl | exact .inr ⟨rfl, rfl⟩); (repeat (first | exact At.here | apply At.there)); exact rfl) | (apply ltr_loadR1; exact rfl; (repeat (first | exact At.here | apply At.there)); assumption; exact rfl) | (apply ltr_loadRN; exact rfl; (repeat (first | exact At.here | apply At.there)); assumption))
      · repeat (first | exact App.nil | apply App.cons)
      apply Run.pv [2] []
      · exact rfl
      · intro vs; apply ltr_pk; (repeat (first | exact Pk.nil | (apply Pk.pv; exact rfl; exact rfl) | (apply Pk.tok; exact rfl; exact rfl)))
        (first | (refine ltr ?_; apply lt_lenSl; exact rfl) | (apply ltr_lenRow; exact rfl; (repeat (first | exact At.here | apply At.there))))
      · repeat (first | exact App.nil | apply App.cons)
      apply Run.pv [0, 3] []
      · exact rfl
      · intro vs; apply ltr_pk; (repeat (first | exact Pk.nil | (apply Pk.pv; exact rfl; exact rfl) | (apply Pk.tok; exact rfl; exact rfl)))
        (refine ltr ?_; apply LT_bool false; apply lt_lss; exact rfl; exact rfl; (simp; omega))
      · repeat (first | exact App.nil | apply App.cons)
      apply Run.pv [4] []
      · exact rfl
      · intro vs; apply ltr_pk; (repeat (first | exact Pk.nil | (apply Pk.pv; exact rfl; exact rfl) | (apply Pk.tok; exact rfl; exact rfl)))
        (first | (refine ltr ?_; apply lt_move; exact rfl))
      · repeat (first | exact App.nil | apply App.cons)
      apply Run.no [5] []
      · exact rfl
      · exact rfl
      · intro vs; apply look_pk; (repeat (first | exact Pk.nil | (apply Pk.pv; exact rfl; exact rfl) | (apply Pk.tok; exact rfl; exact rfl))); exact rfl
      · exact rfl
      · repeat (first | exact App.nil | apply App.cons)
      apply Run.no [5, 6] []
      · exact rfl
      · exact rfl
      · intro vs; apply look_pk; (repeat (first | exact Pk.nil | (apply Pk.pv; exact rfl; exact rfl) | (apply Pk.tok; exact rfl; exact rfl))); exact rfl
      · exact rfl
      · repeat (first | exact App.nil | apply App.cons)
      apply Run.no [5] []
      · exact rfl
      · exact rfl
      · intro vs; apply look_pk; (repeat (first | exact Pk.nil | (apply Pk.pv; exact rfl; exact rfl) | (apply Pk.tok; exact rfl; exact rfl))); exact rfl
      · exact rfl
      · repeat (first | exact App.nil | apply App.cons)
      apply Run.no [5, 7, 8] []
      · exact rfl
      · exact rfl
      · intro vs; apply look_pk; (repeat (first | exact Pk.nil | (apply Pk.pv; exact rfl; exact rfl) | (apply Pk.tok; exact rfl; exact rfl))); exact rfl
      · exact rfl
      · repeat (first | exact App.nil | apply App.cons)
      apply Run.no [5, 9] []
      · exact rfl
      · exact rfl
      · intro vs; apply look_pk; (repeat (first | exact Pk.nil | (apply Pk.pv; exact rfl; exact rfl) | (apply Pk.tok; exact rfl; exact rfl))); exact rfl
      · exact rfl
      · repeat (first | exact App.nil | apply App.cons)
      apply Run.no [5] []
      · exact rfl
      · exact rfl
      · intro vs; apply look_pk; (repeat (first | exact Pk.nil | (apply Pk.pv; exact rfl; exact rfl) | (apply Pk.tok; exact rfl; exact rfl))); exact rfl
      · exact rfl
      · repeat (first | exact App.nil | apply App.cons)
      refine ⟨⟨by kernel_rfl, by kernel_rfl⟩, fun vs => ?_⟩
      apply WL_auto [5, 10, 11]
      · repeat (first | exact Pk.nil | (apply Pk.pv; exact rfl; exact rfl) | (apply Pk.tok; exact rfl; exact rfl))
      · repeat (first | exact Nrm.nil | apply Nrm.cons)
      · kernel_rfl
      · kernel_rfl
      ((apply wl_no; exact rfl; exact rfl; exact rfl; exact rfl; exact rfl); (apply wl_pick_f; exact rfl; exact rfl; exact rfl); refine WL_nil ?_; refine th_norm ?_; (apply w_false; exact rfl); refine W_exit ?_; refine th_exit ?_; refine th_exit ?_; refine bl_eq ?_; refine th_norm ?_; refine W_seq ?_; refine W_region ?_; (apply wl_loadN; (first | exact .inl rfl | exact .inr ⟨rfl, rfl⟩); (repeat (first | exact At.here | apply At.there)); exact rfl; exact rfl))
      skip
      (first | (apply wl_call (twin8_con f hS); exact rfl; exact rfl) | (apply wl_callR (twin8_con f hS); exact rfl; (repeat (first | exact At.here | apply At.there)); exact rfl))
      ((apply wl_alloc; exact rfl; intro p hp); (apply wl_store; (first | exact .inl rfl | exact .inr ⟨rfl, rfl⟩); (repeat (first | exact At.here | apply At.there)); exact rfl; exact inferInstance; exact inferInstance; exact inferInstance; exact rfl; (first | exact (of_decide_eq_true rfl) | (simp; omega) | decide)); refine WL_nil ?_; refine th_norm ?_; refine W_seq ?_)
      rename_i p4 hp4
      refine W_run 13 [30, 31, 32, 33, 34, 35, 36, 37, 38, 39, 40, 41, 42] [1, 2, 3, 4, 6, 7, 8, 9, 10, 11, 12] Cut.nil rfl (by repeat (first | exact Flt.nil | (apply Flt.keep; exact rfl) | (apply Flt.drop; exact rfl))) mixedS (by kernel_rfl) rfl ?_
      apply Run.tok [] []
      · exact rfl
      · intro vs; apply ltr_pk; (repeat (first | exact Pk.nil | (apply Pk.pv; exact rfl; exact rfl) | (apply Pk.tok; exact rfl; exact rfl)))
        (refine ltr ?_; apply lt_lit (f := quC); (repeat (first | exact Elems.nil | (apply Elems.cons; exact rfl; exact inferInstance; exact rfl))); exact rfl; (first | exact (of_decide_eq_true rfl) | decide | (simp; done) | (simp; omega)))
      · repeat (first | exact App.nil | apply App.cons)
      apply Run.pv [] []
      · exact rfl
      · intro vs; apply ltr_pk; (repeat (first | exact Pk.nil | (apply Pk.pv; exact rfl; exact rfl) | (apply Pk.tok; exact rfl; exact rfl)))
        (first | (refine ltr ?_; apply lt_fieldAt; exact rfl; exact rfl) | (apply ltr_field; exact rfl; (repeat (first | exact At.here | apply At.there))) | (refine ltr ?_; apply lt_fieldEl; exact rfl; exact rfl) | (refine ltr ?_; apply lt_fieldRat; exact rfl; exact rfl))
      · repeat (first | exact App.nil | apply App.cons)
      apply Run.pv [1] []
      · exact rfl
      · intro vs; apply ltr_pk; (repeat (first | exact Pk.nil | (apply Pk.pv; exact rfl; exact rfl) | (apply Pk.tok; exact rfl; exact rfl)))
        (first | (apply ltr_load1; (first | exact .inl rfl | exact .inr ⟨rfl, rfl⟩); (repeat (first | exact At.here | apply At.there)); exact rfl) | (refine ltr ?_; apply lt_loadE1'; exact rfl; assumption; exact rfl) | (refine ltr ?_; apply lt_loadEN'; exact rfl; assumption; exact rfl) | (apply ltr_loadN; (first | exact .inl rfl | exact .inr ⟨rfl, rfl⟩); (repeat (first | exact At.here | apply At.there)); exact rfl) | (apply ltr_loadR1; exact rfl; (repeat (first | exact At.here | apply At.there)); assumption; exact rfl) | (apply ltr_loadRN; exact rfl; (repeat (first | exact At.here | apply At.there)); assumption))
      · repeat (first | exact App.nil | apply App.cons)
      apply Run.pv [] []
      · exact rfl
      · intro vs; apply ltr_pk; (repeat (first | exact Pk.nil | (apply Pk.pv; exact rfl; exact rfl) | (apply Pk.tok; exact rfl; exact rfl)))
        (first | (refine ltr ?_; apply lt_move; exact rfl))
      · repeat (first | exact App.nil | apply App.cons)
      apply Run.pv [2, 3] []
      · exact rfl
      · intro vs; apply ltr_pk; (repeat (first | exact Pk.nil | (apply Pk.pv; exact rfl; exact rfl) | (apply Pk.tok; exact rfl; exact rfl)))
        (refine ltr ?_; refine lt_slice (l := 0) (h := atQ f.qs x) (li := 0) rfl (.inr ⟨rfl, rfl⟩) rfl (.inl rfl) rfl (Nat.zero_le _) hal)
      · repeat (first | exact App.nil | apply App.cons)
      apply Run.tok [0, 4] [0]
      · exact rfl
      · intro vs; apply ltr_pk; (repeat (first | exact Pk.nil | (apply Pk.pv; exact rfl; exact rfl) | (apply Pk.tok; exact rfl; exact rfl)))
        (refine ltr ?_; apply lt_append; exact rfl; exact rfl; (first | omega | (simp; omega)))
      · repeat (first | exact App.nil | apply App.cons)
      apply Run.pv [] []
      · exact rfl
      · intro vs; apply ltr_pk; (repeat (first | exact Pk.nil | (apply Pk.pv; exact rfl; exact rfl) | (apply Pk.tok; exact rfl; exact rfl)))
        (first | (apply ltr_load1; (first | exact .inl rfl | exact .inr ⟨rfl, rfl⟩); (repeat (first | exact At.here | apply At.there)); exact rfl) | (refine ltr ?_; apply lt_loadE1'; exact rfl; assumption; exact rfl) | (refine ltr ?_; apply lt_loadEN'; exact rfl; assumption; exact rfl) | (apply ltr_loadN; (first | exact .inl rfl | exact .inr ⟨rfl, rfl⟩); (repeat (first | exact At.here | apply At.there)); exact rfl) | (apply ltr_loadR1; exact rfl; (repeat (first | exact At.here | apply At.there)); assumption; exact rfl) | (apply ltr_loadRN; exact rfl; (repeat (first | exact At.here | apply At.there)); assumption))
      · repeat (first | exact App.nil | apply App.cons)
      apply Run.pv [6] []
      · exact rfl
      · intro vs; apply ltr_pk; (repeat (first | exact Pk.nil | (apply Pk.pv; exact rfl; exact rfl) | (apply Pk.tok; exact rfl; exact rfl)))
        (refine ltr ?_; apply LT_frz; apply lt_lit (f := quC); (repeat (first | exact Elems.nil | (apply Elems.cons; exact rfl; exact inferInstance; exact rfl))); exact rfl; (first | exact (of_decide_eq_true rfl) | decide | (simp; done) | (simp; omega)))
      · repeat (first | exact App.nil | apply App.cons)
      apply Run.tok [5, 7] [5]
      · exact rfl
      · intro vs; apply ltr_pk; (repeat (first | exact Pk.nil | (apply Pk.pv; exact rfl; exact rfl) | (apply Pk.tok; exact rfl; exact rfl)))
        (refine ltr ?_; apply lt_append; exact rfl; exact rfl; (first | omega | (simp; omega)))
      · repeat (first | exact App.nil | apply App.cons)
      apply Run.pv [] []
      · exact rfl
      · intro vs; apply ltr_pk; (repeat (first | exact Pk.nil | (apply Pk.pv; exact rfl; exact rfl) | (apply Pk.tok; exact rfl; exact rfl)))
        (first | (refine ltr ?_; apply lt_fieldAt; exact rfl; exact rfl) | (apply ltr_field; exact rfl; (repeat (first | exact At.here | apply At.there))) | (refine ltr ?_; apply lt_fieldEl; exact rfl; exact rfl) | (refine ltr ?_; apply lt_fieldRat; exact rfl; exact rfl))
      · repeat (first | exact App.nil | apply App.cons)
      apply Run.pv [9] []
      · exact rfl
      · intro vs; apply ltr_pk; (repeat (first | exact Pk.nil | (apply Pk.pv; exact rfl; exact rfl) | (apply Pk.tok; exact rfl; exact rfl)))
        (first | (apply ltr_load1; (first | exact .inl rfl | exact .inr ⟨rfl, rfl⟩); (repeat (first | exact At.here | apply At.there)); exact rfl) | (refine ltr ?_; apply lt_loadE1'; exact rfl; assumption; exact rfl) | (refine ltr ?_; apply lt_loadEN'; exact rfl; assumption; exact rfl) | (apply ltr_loadN; (first | exact .inl rfl | exact .inr ⟨rfl, rfl⟩); (repeat (first | exact At.here | apply At.there)); exact rfl) | (apply ltr_loadR1; exact rfl; (repeat (first | exact At.here | apply At.there)); assumption; exact rfl) | (apply ltr_loadRN; exact rfl; (repeat (first | exact At.here | apply At.there)); assumption))
      · repeat (first | exact App.nil | apply App.cons)
      apply Run.pv [] []
      · exact rfl
      · intro vs; apply ltr_pk; (repeat (first | exact Pk.nil | (apply Pk.pv; exact rfl; exact rfl) | (apply Pk.tok; exact rfl; exact rfl)))
        (first | (refine ltr ?_; apply lt_move; exact rfl))
      · repeat (first | exact App.nil | apply App.cons)
      apply Run.pv [10, 11] []
      · exact rfl
      · intro vs; apply ltr_pk; (repeat (first | exact Pk.nil | (apply Pk.pv; exact rfl; exact rfl) | (apply Pk.tok; exact rfl; exact rfl)))
        (refine ltr ?_; refine lt_slice (l := atQ f.qs x) (h := f.qs.length) (hi' := (f.qs.length : Int)) rfl (.inl rfl) rfl (.inr ⟨rfl, rfl⟩) rfl hal (Nat.le_refl _))
      · repeat (first | exact App.nil | apply App.cons)
      refine ⟨⟨by kernel_rfl, by kernel_rfl⟩, fun vs => ?_⟩
      apply WL_auto [8, 12]
      · repeat (first | exact Pk.nil | (apply Pk.pv; exact rfl; exact rfl) | (apply Pk.tok; exact rfl; exact rfl))
      · repeat (first | exact Nrm.nil | apply Nrm.cons)
      · kernel_rfl
      · kernel_rfl
      skip
      (first | (apply wl_append; exact rfl; exact rfl; (repeat (first | exact Rm.here | apply Rm.there)); exact inferInstance; exact inferInstance; (first | omega | (simp; omega)); exact rfl) | (apply wl_appendN; exact rfl; exact rfl; exact inferInstance; exact inferInstance; (first | omega | (simp; omega)); exact rfl))
      intro v1
      rw [hins]
      (apply WL_frz 43; exact rfl; (repeat (first | exact Rm.here | apply Rm.there)))
      ((apply wl_field; exact rfl; (repeat (first | exact At.here | apply At.there)); exact rfl); (apply wl_store; (first | exact .inl rfl | exact .inr ⟨rfl, rfl⟩); (repeat (first | exact At.here | apply At.there)); exact rfl; exact inferInstance; exact inferInstance; exact inferInstance; exact rfl; (first | exact (of_decide_eq_true rfl) | (simp; omega) | decide)); refine WL_nil ?_; refine th_norm ?_; refine W_seq ?_; refine W_seq ?_; refine W_region ?_; (apply wl_loadN; (first | exact .inl rfl | exact .inr ⟨rfl, rfl⟩); (repeat (first | exact At.here | apply At.there)); exact rfl; exact rfl))
      refine WL_as 45 (.agg (flC { f with qs := insQ f.qs x })) rfl ?_
      (first | (apply wl_call (floors_con { f with qs := insQ f.qs x } hS'); exact rfl; exact rfl) | (apply wl_callR (floors_con { f with qs := insQ f.qs x } hS'); exact rfl; (repeat (first | exact At.here | apply At.there)); exact rfl))
      cases hok2 : floOk { f with qs := insQ f.qs x } with
      | false =>
        ((apply wl_not; exact rfl; exact rfl); refine WL_nil ?_; refine th_norm ?_; (apply w_true; exact rfl); refine W_seq ?_; refine W_region ?_; (apply wl_build; (repeat (first | exact Parts.nil | (apply Parts.cons; exact rfl; exact rfl; exact inferInstance; exact rfl; exact (of_decide_eq_true rfl)))); exact rfl); (apply wl_store; (first | exact .inl rfl | exact .inr ⟨rfl, rfl⟩); (repeat (first | exact At.here | apply At.there)); exact rfl; exact inferInstance; exact inferInstance; exact inferInstance; exact rfl; (first | exact (of_decide_eq_true rfl) | (simp; omega) | decide)); (apply wl_assign; exact rfl; exact rfl); refine WL_nil ?_; refine th_norm ?_; refine W_ret ?_; refine th_ret ?_; refine rt_norm ?_)
        rw [if_neg (by simp)]
        refine Res_imp (floE_imp _) ?_
        (apply resN1; exact rfl; exact rfl; (repeat (first | exact At.here | apply At.there)); exact inferInstance; exact rfl; exact rfl; exact ⟨rfl, rfl⟩)
      | true =>
        ((apply wl_not; exact rfl; exact rfl); refine WL_nil ?_; refine th_norm ?_; (apply w_false; exact rfl); refine W_skip ?_; refine th_norm ?_; refine W_seq ?_; refine W_region ?_; (apply wl_loadN; (first | exact .inl rfl | exact .inr ⟨rfl, rfl⟩); (repeat (first | exact At.here | apply At.there)); exact rfl; exact rfl); (apply wl_store; (first | exact .inl rfl | exact .inr ⟨rfl, rfl⟩); (repeat (first | exact At.here | apply At.there)); exact rfl; exact inferInstance; exact inferInstance; exact inferInstance; exact rfl; (first | exact (of_decide_eq_true rfl) | (simp; omega) | decide)); (apply wl_assign; exact rfl; exact rfl); refine WL_nil ?_; refine th_norm ?_; refine W_ret ?_; refine rt_norm ?_)
        rw [if_pos rfl]
        (apply resN1; exact rfl; exact rfl; (repeat (first | exact At.here | apply At.there)); exact inferInstance; exact rfl; exact rfl; exact ⟨rfl, rfl⟩)
end Go.Proofs.YtbkellknlcageaaDoor.Sw
