/- Payments and stakes: the checks that lean on closures. -/
import Derived.Test.YtbkellknlcageaaDoorFloorE
namespace Go.Proofs.YtbkellknlcageaaDoor.Sw
open Go.RowKit Go Go.Shelf Go.Proofs
set_option maxRecDepth 20000 in
theorem chk41_con (f : Flo) (x : Pay) (hl : f.ids.length ≤ 1000000) : Con Tryd.prog 223 [.agg (payC x), .fp 4 (flC f)] [] (Is (.val (.bool (!payOk f.ids x))) []) := by
  refine con_of Tryd.func223 rfl (enters_of Tryd.func223 (by kernel_rfl) rfl) rfl ?_; intro n w0 F0 G0
  (refine W_seq ?_; refine W_region ?_; (apply wl_boxv; exact rfl; exact inferInstance; exact rfl; intro p hp); (apply wl_assign; exact rfl; exact rfl); refine WL_nil ?_; refine th_norm ?_; refine W_seq ?_; refine W_region ?_; (apply wl_loadEN; exact rfl; (case hk => first | assumption | omega | exact Nat.one_pos | (simp; omega)); exact rfl; exact rfl); (apply wl_loadN; (first | exact .inl rfl | exact .inr ⟨rfl, rfl⟩); (repeat (first | exact At.here | apply At.there)); exact rfl; exact rfl))
  (first | (apply wl_call (made_con f x hl); exact rfl; exact rfl) | (apply wl_callR (made_con f x hl); exact rfl; (repeat (first | exact At.here | apply At.there)); exact rfl))
  ((apply wl_not; exact rfl; exact rfl); (apply wl_assign; exact rfl; exact rfl); refine WL_nil ?_; refine th_norm ?_; refine W_ret ?_; refine rt_norm ?_)
  (apply res1; exact rfl; exact rfl; exact ⟨rfl, rfl⟩)
set_option maxRecDepth 20000 in
theorem chk31_con (s : Stk) : Con Tryd.prog 220 [.agg (stC s)] [] (Is (.val (.bool (!(decide (1 ≤ s.pt) && decide (s.pt ≤ 9))))) []) := by
  refine con_of Tryd.func220 rfl (enters_of Tryd.func220 (by kernel_rfl) rfl) rfl ?_; intro n w0 F0 G0
  (refine W_seq ?_; refine W_region ?_; (apply wl_boxv; exact rfl; exact inferInstance; exact rfl; intro p hp); (apply wl_assign; exact rfl; exact rfl); refine WL_nil ?_; refine th_norm ?_; refine W_seq ?_; refine W_region ?_; (apply wl_field; exact rfl; (repeat (first | exact At.here | apply At.there)); exact rfl); (apply wl_load1; (first | exact .inl rfl | exact .inr ⟨rfl, rfl⟩); (repeat (first | exact At.here | apply At.there)); exact rfl; exact rfl))
  (apply wl_litF iC; exact inferInstance; exact inferInstance; exact inferInstance; (repeat (first | exact Elems.nil | (apply Elems.cons; exact rfl; exact inferInstance; exact rfl))); exact rfl; (first | exact (of_decide_eq_true rfl) | decide | (simp; done) | (simp; omega)); exact rfl)
  skip
  (first | (apply wl_call (inOne_con _ _ _); exact rfl; exact rfl) | (apply wl_callR (inOne_con _ _ _); exact rfl; (repeat (first | exact At.here | apply At.there)); exact rfl))
  ((apply wl_not; exact rfl; exact rfl); (apply wl_assign; exact rfl; exact rfl); refine WL_nil ?_; refine th_norm ?_; refine W_ret ?_; refine rt_norm ?_)
  (apply res1; exact rfl; exact rfl; exact ⟨rfl, rfl⟩)
set_option maxRecDepth 20000 in
theorem indexFuncS_con (xs : List Stk) (k : FuncId) (caps : List AV) (p : Stk → Bool) (hl : xs.length ≤ 1000000) (hc : ∀ x ∈ xs, Con Tryd.prog k ([.agg (stC x)] ++ caps) [] (Is (.val (.bool (p x))) [])) : Con Tryd.prog 224 [.sl 2 stC xs, .clo k caps] [] (Is (.val (.int .i64 (fiX p xs))) []) := by
  refine con_of Tryd.func224 rfl (enters_of Tryd.func224 (by kernel_rfl) rfl) rfl ?_; intro n w0 F0 G0
  (refine W_seq ?_; refine W_region ?_; (apply wl_assign; exact rfl; exact rfl); refine WL_nil ?_; refine th_norm ?_; refine W_seq ?_; refine W_seq ?_; refine W_region ?_; (apply wl_move; exact rfl; exact rfl); (apply wl_lenSl; exact rfl; exact rfl); (apply wl_move; exact rfl; exact rfl); refine WL_nil ?_; refine th_norm ?_; refine W_block ?_)
  refine W_loopJ (fun (m : Nat) => ⟨[(0, .sl 2 stC xs), (1, .clo k caps), (7, .val (.int .i64 xs.length)), (8, .val (.int .i64 m))], []⟩) (fun m => m ≤ xs.length ∧ (xs.take m).any p = false) (fun m => xs.length - m) 0 (fun _ _ st => st_sub2 st (by (repeat (first | exact trivial | refine ⟨rfl, ?_⟩))) (by (repeat (first | exact SubP.nil | (apply SubP.cons; (repeat (first | exact Rm.here | apply Rm.there))))))) ?hj0 ?round
  case hj0 => simp
  case round =>
    rintro m ⟨hk, hno⟩
    (refine W_seq ?_; refine W_region ?_; (apply wl_lss; exact rfl; exact rfl; exact rfl); refine WL_nil ?_; refine th_norm ?_; refine W_seq ?_)
    refine w_cond rfl (fun hlt => ?_) (fun hlt => ?_)
    · have hlt' : m < xs.length := by simpa using hlt
      (refine W_skip ?_; refine th_norm ?_; refine W_seq ?_; refine W_block ?_; refine W_seq ?_; refine W_region ?_; (apply wl_move; exact rfl; exact rfl); (apply wl_assign; exact rfl; exact rfl); refine WL_nil ?_; refine th_norm ?_; refine W_seq ?_; refine W_region ?_; (apply wl_move; exact rfl; exact rfl); (apply wl_move; exact rfl; exact rfl); (apply wl_move; exact rfl; exact rfl); (apply wl_indexSl; exact rfl; exact rfl; exact rfl; (first | assumption | omega | (simp; omega)); exact rfl); (apply wl_loadEN; exact rfl; (case hk => first | assumption | omega | exact Nat.one_pos | (simp; omega)); exact rfl; exact rfl))
      (apply wl_callV (hc xs[m] (List.getElem_mem hlt')); exact rfl; exact rfl; exact rfl)
      (refine WL_nil ?_; refine th_norm ?_)
      refine w_cond rfl (fun he => ?_) (fun he => ?_)
      · (refine W_seq ?_; refine W_region ?_; (apply wl_move; exact rfl; exact rfl); (apply wl_assign; exact rfl; exact rfl); refine WL_nil ?_; refine th_norm ?_; refine W_ret ?_; refine bl_ret ?_; refine th_ret ?_; refine th_ret ?_; refine bl_ret ?_; refine th_ret ?_; refine rt_norm ?_)
        (apply res1; exact rfl; exact rfl; exact ⟨(congrArg (fun b => AV.val (Value.int .i64 b)) (fiX_at hlt' hno he).symm), rfl⟩)
      · (refine W_skip ?_; refine bl_norm ?_; refine th_norm ?_; refine W_region ?_; (apply wl_add; exact rfl; exact rfl; omega; omega; exact rfl); (apply wl_move; exact rfl; exact rfl); refine WL_nil ?_; refine th_norm ?_)
        (refine ⟨m + 1, fun _ _ st => st_sub2 st ?_ ?_, ?_, ?_⟩; (repeat (first | exact trivial | refine ⟨rfl, ?_⟩)); (repeat (first | exact SubP.nil | (apply SubP.cons; (repeat (first | exact Rm.here | apply Rm.there))))))
        · refine ⟨by omega, ?_⟩
          rw [List.take_succ_eq_append_getElem hlt', List.any_append, hno]
          simpa using he
        · omega
    · (refine W_exit ?_; refine th_exit ?_; refine th_exit ?_; refine bl_eq ?_; refine th_norm ?_; refine W_seq ?_; refine W_region ?_; (apply wl_assign; exact rfl; exact rfl); refine WL_nil ?_; refine th_norm ?_; refine W_ret ?_; refine rt_norm ?_)
      have hkk : m = xs.length := by simp at hlt; omega
      subst hkk
      rw [List.take_length] at hno
      (apply res1; exact rfl; exact rfl; exact ⟨(congrArg (fun b => AV.val (Value.int .i64 b)) (fiX_none hno).symm), rfl⟩)
set_option maxRecDepth 20000 in
theorem containsFuncS_con (xs : List Stk) (k : FuncId) (caps : List AV) (p : Stk → Bool) (hl : xs.length ≤ 1000000) (hc : ∀ x ∈ xs, Con Tryd.prog k ([.agg (stC x)] ++ caps) [] (Is (.val (.bool (p x))) [])) : Con Tryd.prog 219 [.sl 2 stC xs, .clo k caps] [] (Is (.val (.bool (xs.any p))) []) := by
  refine con_of Tryd.func219 rfl (enters_of Tryd.func219 (by kernel_rfl) rfl) rfl ?_; intro n w0 F0 G0
  (refine W_seq ?_; refine W_region ?_; (apply wl_assign; exact rfl; exact rfl); refine WL_nil ?_; refine th_norm ?_; refine W_seq ?_; refine W_region ?_; (apply wl_move; exact rfl; exact rfl); (apply wl_move; exact rfl; exact rfl))
  (first | (apply wl_call (indexFuncS_con xs k caps p hl hc); exact rfl; exact rfl) | (apply wl_callR (indexFuncS_con xs k caps p hl hc); exact rfl; (repeat (first | exact At.here | apply At.there)); exact rfl))
  ((apply wl_geq; exact rfl; exact rfl; exact rfl); (apply wl_assign; exact rfl; exact rfl); refine WL_nil ?_; refine th_norm ?_; refine W_ret ?_; refine rt_norm ?_)
  (apply res1; exact rfl; exact rfl; exact ⟨(congrArg (fun b => AV.val (Value.bool b)) fiX_ge), rfl⟩)
set_option maxRecDepth 20000 in
theorem indexFuncP_con (xs : List Pay) (k : FuncId) (caps : List AV) (p : Pay → Bool) (hl : xs.length ≤ 1000000) (hc : ∀ x ∈ xs, Con Tryd.prog k ([.agg (payC x)] ++ caps) [] (Is (.val (.bool (p x))) [])) : Con Tryd.prog 225 [.sl 3 payC xs, .clo k caps] [] (Is (.val (.int .i64 (fiX p xs))) []) := by
  refine con_of Tryd.func225 rfl (enters_of Tryd.func225 (by kernel_rfl) rfl) rfl ?_; intro n w0 F0 G0
  (refine W_seq ?_; refine W_region ?_; (apply wl_assign; exact rfl; exact rfl); refine WL_nil ?_; refine th_norm ?_; refine W_seq ?_; refine W_seq ?_; refine W_region ?_; (apply wl_move; exact rfl; exact rfl); (apply wl_lenSl; exact rfl; exact rfl); (apply wl_move; exact rfl; exact rfl); refine WL_nil ?_; refine th_norm ?_; refine W_block ?_)
  refine W_loopJ (fun (m : Nat) => ⟨[(0, .sl 3 payC xs), (1, .clo k caps), (7, .val (.int .i64 xs.length)), (8, .val (.int .i64 m))], []⟩) (fun m => m ≤ xs.length ∧ (xs.take m).any p = false) (fun m => xs.length - m) 0 (fun _ _ st => st_sub2 st (by (repeat (first | exact trivial | refine ⟨rfl, ?_⟩))) (by (repeat (first | exact SubP.nil | (apply SubP.cons; (repeat (first | exact Rm.here | apply Rm.there))))))) ?hj0 ?round
  case hj0 => simp
  case round =>
    rintro m ⟨hk, hno⟩
    (refine W_seq ?_; refine W_region ?_; (apply wl_lss; exact rfl; exact rfl; exact rfl); refine WL_nil ?_; refine th_norm ?_; refine W_seq ?_)
    refine w_cond rfl (fun hlt => ?_) (fun hlt => ?_)
    · have hlt' : m < xs.length := by simpa using hlt
      (refine W_skip ?_; refine th_norm ?_; refine W_seq ?_; refine W_block ?_; refine W_seq ?_; refine W_region ?_; (apply wl_move; exact rfl; exact rfl); (apply wl_assign; exact rfl; exact rfl); refine WL_nil ?_; refine th_norm ?_; refine W_seq ?_; refine W_region ?_; (apply wl_move; exact rfl; exact rfl); (apply wl_move; exact rfl; exact rfl); (apply wl_move; exact rfl; exact rfl); (apply wl_indexSl; exact rfl; exact rfl; exact rfl; (first | assumption | omega | (simp; omega)); exact rfl); (apply wl_loadEN; exact rfl; (case hk => first | assumption | omega | exact Nat.one_pos | (simp; omega)); exact rfl; exact rfl))
      (apply wl_callV (hc xs[m] (List.getElem_mem hlt')); exact rfl; exact rfl; exact rfl)
      (refine WL_nil ?_; refine th_norm ?_)
      refine w_cond rfl (fun he => ?_) (fun he => ?_)
      · (refine W_seq ?_; refine W_region ?_; (apply wl_move; exact rfl; exact rfl); (apply wl_assign; exact rfl; exact rfl); refine WL_nil ?_; refine th_norm ?_; refine W_ret ?_; refine bl_ret ?_; refine th_ret ?_; refine th_ret ?_; refine bl_ret ?_; refine th_ret ?_; refine rt_norm ?_)
        (apply res1; exact rfl; exact rfl; exact ⟨(congrArg (fun b => AV.val (Value.int .i64 b)) (fiX_at hlt' hno he).symm), rfl⟩)
      · (refine W_skip ?_; refine bl_norm ?_; refine th_norm ?_; refine W_region ?_; (apply wl_add; exact rfl; exact rfl; omega; omega; exact rfl); (apply wl_move; exact rfl; exact rfl); refine WL_nil ?_; refine th_norm ?_)
        (refine ⟨m + 1, fun _ _ st => st_sub2 st ?_ ?_, ?_, ?_⟩; (repeat (first | exact trivial | refine ⟨rfl, ?_⟩)); (repeat (first | exact SubP.nil | (apply SubP.cons; (repeat (first | exact Rm.here | apply Rm.there))))))
        · refine ⟨by omega, ?_⟩
          rw [List.take_succ_eq_append_getElem hlt', List.any_append, hno]
          simpa using he
        · omega
    · (refine W_exit ?_; refine th_exit ?_; refine th_exit ?_; refine bl_eq ?_; refine th_norm ?_; refine W_seq ?_; refine W_region ?_; (apply wl_assign; exact rfl; exact rfl); refine WL_nil ?_; refine th_norm ?_; refine W_ret ?_; refine rt_norm ?_)
      have hkk : m = xs.length := by simp at hlt; omega
      subst hkk
      rw [List.take_length] at hno
      (apply res1; exact rfl; exact rfl; exact ⟨(congrArg (fun b => AV.val (Value.int .i64 b)) (fiX_none hno).symm), rfl⟩)
set_option maxRecDepth 20000 in
theorem containsFuncP_con (xs : List Pay) (k : FuncId) (caps : List AV) (p : Pay → Bool) (hl : xs.length ≤ 1000000) (hc : ∀ x ∈ xs, Con Tryd.prog k ([.agg (payC x)] ++ caps) [] (Is (.val (.bool (p x))) [])) : Con Tryd.prog 222 [.sl 3 payC xs, .clo k caps] [] (Is (.val (.bool (xs.any p))) []) := by
  refine con_of Tryd.func222 rfl (enters_of Tryd.func222 (by kernel_rfl) rfl) rfl ?_; intro n w0 F0 G0
  (refine W_seq ?_; refine W_region ?_; (apply wl_assign; exact rfl; exact rfl); refine WL_nil ?_; refine th_norm ?_; refine W_seq ?_; refine W_region ?_; (apply wl_move; exact rfl; exact rfl); (apply wl_move; exact rfl; exact rfl))
  (first | (apply wl_call (indexFuncP_con xs k caps p hl hc); exact rfl; exact rfl) | (apply wl_callR (indexFuncP_con xs k caps p hl hc); exact rfl; (repeat (first | exact At.here | apply At.there)); exact rfl))
  ((apply wl_geq; exact rfl; exact rfl; exact rfl); (apply wl_assign; exact rfl; exact rfl); refine WL_nil ?_; refine th_norm ?_; refine W_ret ?_; refine rt_norm ?_)
  (apply res1; exact rfl; exact rfl; exact ⟨(congrArg (fun b => AV.val (Value.bool b)) fiX_ge), rfl⟩)
end Go.Proofs.YtbkellknlcageaaDoor.Sw
