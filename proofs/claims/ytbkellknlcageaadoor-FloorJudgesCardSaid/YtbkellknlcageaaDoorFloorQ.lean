/- The program's 'rising' and 'of'. -/
import Derived.Test.YtbkellknlcageaaDoorFloorP
namespace Go.Proofs.YtbkellknlcageaaDoor.Sw
open Go.RowKit Go Go.Shelf Go.Proofs
theorem in_one (lo hi n : Int) : (!([n].any fun n => decide (n < lo) || decide (hi < n))) = (decide (lo ≤ n) && decide (n ≤ hi)) := by
  simp only [List.any_cons, List.any_nil, Bool.or_false, Bool.not_or, ← decide_not, Int.not_lt]
theorem inOne_con (lo hi n : Int) : Con Tryd.prog 83 [.val (.int .i64 lo), .val (.int .i64 hi), .sl 1 iC [n]] [] (Is (.val (.bool (decide (lo ≤ n) && decide (n ≤ hi)))) []) := by
  have := in_con lo hi [n] (by simp)
  rwa [in_one] at this
set_option maxRecDepth 20000 in
theorem rising_con (xs : List Int) (hl : xs.length ≤ 1000000) : Con Tryd.prog 130 [.sl 1 iC xs] [] (Is (.val (.bool (rises 0 xs))) []) := by
  refine con_of Tryd.func130 rfl (enters_of Tryd.func130 (by kernel_rfl) rfl) rfl ?_; intro n w0 F0 G0
  (refine W_seq ?_; refine W_region ?_; (apply wl_assign; exact rfl; exact rfl); refine WL_nil ?_; refine th_norm ?_; refine W_seq ?_; refine W_region ?_; (apply wl_assign; exact rfl; exact rfl); refine WL_nil ?_; refine th_norm ?_; refine W_seq ?_; refine W_seq ?_; refine W_region ?_; (apply wl_move; exact rfl; exact rfl); (apply wl_lenSl; exact rfl; exact rfl); (apply wl_move; exact rfl; exact rfl); refine WL_nil ?_; refine th_norm ?_; refine W_block ?_)
  refine W_loopJ (fun (b : Nat × Int) => ⟨[(6, .sl 1 iC xs), (7, .val (.int .i64 xs.length)), (8, .val (.int .i64 b.1)), (3, .val (.int .i64 b.2))], []⟩) (fun b => b.1 ≤ xs.length ∧ rises b.2 (xs.drop b.1) = rises 0 xs ∧ 0 ≤ b.2 ∧ b.2 ≤ 9999) (fun b => xs.length - b.1) (0, 0) (fun _ _ st => st_sub2 st (by (repeat (first | exact trivial | refine ⟨rfl, ?_⟩))) (by (repeat (first | exact SubP.nil | (apply SubP.cons; (repeat (first | exact Rm.here | apply Rm.there))))))) ?hj0 ?round
  case hj0 => simp
  case round =>
    rintro ⟨k, last⟩ ⟨hk, hno, hl0, hl1⟩
    dsimp only at hk hno hl0 hl1 ⊢
    (refine W_seq ?_; refine W_region ?_; (apply wl_lss; exact rfl; exact rfl; exact rfl); refine WL_nil ?_; refine th_norm ?_; refine W_seq ?_)
    refine w_cond rfl (fun hlt => ?_) (fun hlt => ?_)
    · have hlt' : k < xs.length := by simpa using hlt
      rw [drop_step hlt', rises] at hno
      (refine W_skip ?_; refine th_norm ?_; refine W_seq ?_; refine W_block ?_; refine W_seq ?_; refine W_region ?_; (apply wl_indexSl; exact rfl; exact rfl; exact rfl; (first | assumption | omega | (simp; omega)); exact rfl); (apply wl_loadE1; exact rfl; (case hk => first | assumption | omega | exact Nat.one_pos | (simp; omega)); exact rfl; exact rfl); (apply wl_assign; exact rfl; exact rfl); refine WL_nil ?_; refine th_norm ?_; refine W_seq ?_; refine W_seq ?_; refine W_region ?_; (apply wl_move; exact rfl; exact rfl); (apply wl_add; exact rfl; exact rfl; omega; omega; exact rfl); (apply wl_move; exact rfl; exact rfl))
      (apply wl_litF iC; exact inferInstance; exact inferInstance; exact inferInstance; (repeat (first | exact Elems.nil | (apply Elems.cons; exact rfl; exact inferInstance; exact rfl))); exact rfl; (first | exact (of_decide_eq_true rfl) | decide | (simp; done) | (simp; omega)); exact rfl)
      skip
      (first | (apply wl_call (inOne_con _ _ _); exact rfl; exact rfl) | (apply wl_callR (inOne_con _ _ _); exact rfl; (repeat (first | exact At.here | apply At.there)); exact rfl))
      ((apply wl_not; exact rfl; exact rfl); refine WL_nil ?_; refine th_norm ?_)
      refine w_cond rfl (fun g3 => ?_) (fun g3 => ?_)
      · (refine W_seq ?_; refine W_region ?_; (apply wl_assign; exact rfl; exact rfl); refine WL_nil ?_; refine th_norm ?_; refine W_ret ?_; refine th_ret ?_; refine bl_ret ?_; refine th_ret ?_; refine th_ret ?_; refine bl_ret ?_; refine th_ret ?_; refine rt_norm ?_)
        (apply res1; exact rfl; exact rfl; exact ⟨(congrArg (fun b => AV.val (Value.bool b)) (by rw [← hno]; simp only [Bool.not_eq_true'] at g3; simp [g3])), rfl⟩)
      · have g3' : (decide (last + 1 ≤ xs[k]) && decide (xs[k] ≤ 9999)) = true := by simpa using g3
        rw [g3', Bool.true_and] at hno
        simp only [Bool.and_eq_true, decide_eq_true_eq] at g3'
        (refine W_skip ?_; refine th_norm ?_; refine W_region ?_; (apply wl_move; exact rfl; exact rfl); (apply wl_assign; exact rfl; exact rfl); refine WL_nil ?_; refine bl_norm ?_; refine th_norm ?_; refine W_region ?_; (apply wl_add; exact rfl; exact rfl; omega; omega; exact rfl); (apply wl_move; exact rfl; exact rfl); refine WL_nil ?_; refine th_norm ?_)
        (refine ⟨(k + 1, xs[k]), fun _ _ st => st_sub2 st ?_ ?_, ?_, ?_⟩; (repeat (first | exact trivial | refine ⟨rfl, ?_⟩)); (repeat (first | exact SubP.nil | (apply SubP.cons; (repeat (first | exact Rm.here | apply Rm.there))))))
        · exact ⟨hlt', hno, by dsimp only; omega, by dsimp only; omega⟩
        · dsimp only; omega
    · (refine W_exit ?_; refine th_exit ?_; refine th_exit ?_; refine bl_eq ?_; refine th_norm ?_; refine W_seq ?_; refine W_region ?_; (apply wl_assign; exact rfl; exact rfl); refine WL_nil ?_; refine th_norm ?_; refine W_ret ?_; refine rt_norm ?_)
      have hkk : k = xs.length := by simp at hlt; omega
      subst hkk
      rw [List.drop_length, rises] at hno
      (apply res1; exact rfl; exact rfl; exact ⟨(congrArg (fun b => AV.val (Value.bool b)) hno), rfl⟩)
set_option maxRecDepth 20000 in
theorem of1_con (x : Int) (all : List Int) (hl : all.length ≤ 1000000) : Con Tryd.prog 131 [.val (.int .i64 x), .fp 1 [.sl 1 iC all]] [] (Is (.val (.bool (!decide (x ∈ all)))) []) := by
  refine con_of Tryd.func131 rfl (enters_of Tryd.func131 (by kernel_rfl) rfl) rfl ?_; intro n w0 F0 G0
  (refine W_seq ?_; refine W_region ?_; (apply wl_assign; exact rfl; exact rfl); refine WL_nil ?_; refine th_norm ?_; refine W_seq ?_; refine W_region ?_; (apply wl_loadE1; exact rfl; (case hk => first | assumption | omega | exact Nat.one_pos | (simp; omega)); exact rfl; exact rfl); (apply wl_move; exact rfl; exact rfl))
  (first | (apply wl_call (containsI_con all x hl); exact rfl; exact rfl) | (apply wl_callR (containsI_con all x hl); exact rfl; (repeat (first | exact At.here | apply At.there)); exact rfl))
  ((apply wl_not; exact rfl; exact rfl); (apply wl_assign; exact rfl; exact rfl); refine WL_nil ?_; refine th_norm ?_; refine W_ret ?_; refine rt_norm ?_)
  (apply res1; exact rfl; exact rfl; exact ⟨rfl, rfl⟩)
set_option maxRecDepth 20000 in
theorem of_con (xs all : List Int) (hl : xs.length ≤ 1000000) (hl2 : all.length ≤ 1000000) : Con Tryd.prog 91 [.sl 1 iC xs, .sl 1 iC all] [] (Is (.val (.bool (rises 0 xs && !xs.any fun n => !decide (n ∈ all)))) []) := by
  refine con_of Tryd.func91 rfl (enters_of Tryd.func91 (by kernel_rfl) rfl) rfl ?_; intro n w0 F0 G0
  (refine W_seq ?_; refine W_region ?_; (apply wl_boxv; exact rfl; exact inferInstance; exact rfl; intro p hp); (apply wl_assign; exact rfl; exact rfl); refine WL_nil ?_; refine th_norm ?_; refine W_seq ?_; refine W_region ?_; (apply wl_move; exact rfl; exact rfl))
  (first | (apply wl_call (rising_con xs hl); exact rfl; exact rfl) | (apply wl_callR (rising_con xs hl); exact rfl; (repeat (first | exact At.here | apply At.there)); exact rfl))
  ((apply wl_move; exact rfl; exact rfl))
  refine wl_part rfl rfl (fun g => ?_) (fun g => ?_)
  · ((apply wl_yes; exact rfl; exact rfl; exact rfl); (apply wl_move; exact rfl; exact rfl); (apply wl_yes; exact rfl; exact rfl; exact rfl); (apply wl_makeClo; exact rfl; exact rfl); (apply wl_yes; exact rfl; exact rfl; exact rfl))
    (apply WL_frzC 9 0 1; exact rfl; exact rfl; (repeat (first | exact Rm.here | apply Rm.there)))
    (first | (apply wl_call (containsFuncI_con xs _ _ _ hl (fun x _ => of1_con x all hl2)); exact rfl; exact rfl) | (apply wl_callR (containsFuncI_con xs _ _ _ hl (fun x _ => of1_con x all hl2)); exact rfl; (repeat (first | exact At.here | apply At.there)); exact rfl))
    ((apply wl_yes; exact rfl; exact rfl; exact rfl); (apply wl_not; exact rfl; exact rfl); (apply wl_pick_t; exact rfl; exact rfl; exact rfl); (apply wl_assign; exact rfl; exact rfl); refine WL_nil ?_; refine th_norm ?_; refine W_ret ?_; refine rt_norm ?_)
    (apply res1; exact rfl; exact rfl; exact ⟨(congrArg (fun b => AV.val (Value.bool b)) (by rw [g, Bool.true_and])), rfl⟩)
  · ((apply wl_no; exact rfl; exact rfl; exact rfl; exact rfl; exact rfl); (apply wl_no; exact rfl; exact rfl; exact rfl; exact rfl; exact rfl); (apply wl_no; exact rfl; exact rfl; exact rfl; exact rfl; exact rfl); (apply wl_no; exact rfl; exact rfl; exact rfl; exact rfl; exact rfl); (apply wl_pick_f; exact rfl; exact rfl; exact rfl); (apply wl_assign; exact rfl; exact rfl); refine WL_nil ?_; refine th_norm ?_; refine W_ret ?_; refine rt_norm ?_)
    (apply res1; exact rfl; exact rfl; exact ⟨(congrArg (fun b => AV.val (Value.bool b)) (by rw [g]; rfl)), rfl⟩)
end Go.Proofs.YtbkellknlcageaaDoor.Sw
