/- FloorC: several parts in one text. -/
import Derived.Test.YtbkellknlcageaaDoorFloorR2
/- The program's 'in', 'rising', 'of', and what of Go's slices they lean on. -/
namespace Go.Proofs.YtbkellknlcageaaDoor.Sw
open Go.RowKit Go Go.Shelf Go.Proofs
set_option maxRecDepth 20000 in
theorem indexI_con (xs : List Int) (x : Int) (hl : xs.length ≤ 1000000) : Con Tryd.prog 111 [.sl 1 iC xs, .val (.int .i64 x)] [] (Is (.val (.int .i64 (ixOf xs x))) []) := by
  refine con_of Tryd.func111 rfl (enters_of Tryd.func111 (by kernel_rfl) rfl) rfl ?_; intro n w0 F0 G0
  (refine W_seq ?_; refine W_region ?_; (apply wl_assign; exact rfl; exact rfl); refine WL_nil ?_; refine th_norm ?_; refine W_seq ?_; refine W_seq ?_; refine W_region ?_; (apply wl_move; exact rfl; exact rfl); (apply wl_lenSl; exact rfl; exact rfl); (apply wl_move; exact rfl; exact rfl); refine WL_nil ?_; refine th_norm ?_; refine W_block ?_)
  refine W_loopJ (fun (k : Nat) => ⟨[(0, .sl 1 iC xs), (1, .val (.int .i64 x)), (7, .val (.int .i64 xs.length)), (8, .val (.int .i64 k))], []⟩) (fun k => k ≤ xs.length ∧ x ∉ xs.take k) (fun k => xs.length - k) 0 (fun _ _ st => st_sub2 st (by (repeat (first | exact trivial | refine ⟨rfl, ?_⟩))) (by (repeat (first | exact SubP.nil | (apply SubP.cons; (repeat (first | exact Rm.here | apply Rm.there))))))) ?hj0 ?round
  case hj0 => simp
  case round =>
    rintro k ⟨hk, hno⟩
    (refine W_seq ?_; refine W_region ?_; (apply wl_lss; exact rfl; exact rfl; exact rfl); refine WL_nil ?_; refine th_norm ?_; refine W_seq ?_)
    refine w_cond rfl (fun hlt => ?_) (fun hlt => ?_)
    · have hlt' : k < xs.length := by simpa using hlt
      (refine W_skip ?_; refine th_norm ?_; refine W_seq ?_; refine W_block ?_; refine W_seq ?_; refine W_region ?_; (apply wl_move; exact rfl; exact rfl); (apply wl_assign; exact rfl; exact rfl); refine WL_nil ?_; refine th_norm ?_; refine W_seq ?_; refine W_region ?_; (apply wl_move; exact rfl; exact rfl); (apply wl_move; exact rfl; exact rfl); (apply wl_move; exact rfl; exact rfl); (apply wl_indexSl; exact rfl; exact rfl; exact rfl; (first | assumption | omega | (simp; omega)); exact rfl); (apply wl_loadE1; exact rfl; (case hk => first | assumption | omega | exact Nat.one_pos | (simp; omega)); exact rfl; exact rfl); (apply wl_eql; exact rfl; exact rfl; exact rfl); refine WL_nil ?_; refine th_norm ?_)
      refine w_cond rfl (fun he => ?_) (fun he => ?_)
      · (refine W_seq ?_; refine W_region ?_; (apply wl_move; exact rfl; exact rfl); (apply wl_assign; exact rfl; exact rfl); refine WL_nil ?_; refine th_norm ?_; refine W_ret ?_; refine bl_ret ?_; refine th_ret ?_; refine th_ret ?_; refine bl_ret ?_; refine th_ret ?_; refine rt_norm ?_)
        (apply res1; exact rfl; exact rfl; exact ⟨(congrArg (fun b => AV.val (Value.int .i64 b)) (ixOf_at hlt' hno (by simp at he; exact he.symm)).symm), rfl⟩)
      · (refine W_skip ?_; refine bl_norm ?_; refine th_norm ?_; refine W_region ?_; (apply wl_add; exact rfl; exact rfl; omega; omega; exact rfl); (apply wl_move; exact rfl; exact rfl); refine WL_nil ?_; refine th_norm ?_)
        (refine ⟨k + 1, fun _ _ st => st_sub2 st ?_ ?_, ?_, ?_⟩; (repeat (first | exact trivial | refine ⟨rfl, ?_⟩)); (repeat (first | exact SubP.nil | (apply SubP.cons; (repeat (first | exact Rm.here | apply Rm.there))))))
        · refine ⟨by omega, ?_⟩
          rw [List.take_succ_eq_append_getElem hlt', List.mem_append, not_or]
          exact ⟨hno, by simp at he; simpa using he⟩
        · omega
    · (refine W_exit ?_; refine th_exit ?_; refine th_exit ?_; refine bl_eq ?_; refine th_norm ?_; refine W_seq ?_; refine W_region ?_; (apply wl_assign; exact rfl; exact rfl); refine WL_nil ?_; refine th_norm ?_; refine W_ret ?_; refine rt_norm ?_)
      have hkk : k = xs.length := by simp at hlt; omega
      subst hkk
      rw [List.take_length] at hno
      (apply res1; exact rfl; exact rfl; exact ⟨(congrArg (fun b => AV.val (Value.int .i64 b)) (ixOf_none hno).symm), rfl⟩)
set_option maxRecDepth 20000 in
theorem containsI_con (xs : List Int) (x : Int) (hl : xs.length ≤ 1000000) : Con Tryd.prog 109 [.sl 1 iC xs, .val (.int .i64 x)] [] (Is (.val (.bool (decide (x ∈ xs)))) []) := by
  refine con_of Tryd.func109 rfl (enters_of Tryd.func109 (by kernel_rfl) rfl) rfl ?_; intro n w0 F0 G0
  (refine W_seq ?_; refine W_region ?_; (apply wl_assign; exact rfl; exact rfl); refine WL_nil ?_; refine th_norm ?_; refine W_seq ?_; refine W_region ?_; (apply wl_move; exact rfl; exact rfl); (apply wl_move; exact rfl; exact rfl))
  (first | (apply wl_call (indexI_con xs x hl); exact rfl; exact rfl) | (apply wl_callR (indexI_con xs x hl); exact rfl; (repeat (first | exact At.here | apply At.there)); exact rfl))
  ((apply wl_geq; exact rfl; exact rfl; exact rfl); (apply wl_assign; exact rfl; exact rfl); refine WL_nil ?_; refine th_norm ?_; refine W_ret ?_; refine rt_norm ?_)
  (apply res1; exact rfl; exact rfl; exact ⟨(congrArg (fun b => AV.val (Value.bool b)) ixOf_ge), rfl⟩)
/-- The index of the first that is so; -1 if there is none. -/
def fiX {α : Type} (p : α → Bool) (xs : List α) : Int := if xs.any p = true then (xs.findIdx p : Int) else -1
theorem fiX_none {α : Type} {p : α → Bool} {xs : List α} (h : xs.any p = false) : fiX p xs = -1 := by unfold fiX; rw [if_neg (by rw [h]; simp)]
theorem fiX_at {α : Type} {p : α → Bool} {xs : List α} {k : Nat} (hk : k < xs.length) (h1 : (xs.take k).any p = false) (h2 : p xs[k] = true) : fiX p xs = k := by
  unfold fiX
  rw [if_pos (List.any_eq_true.2 ⟨_, List.getElem_mem hk, h2⟩)]
  congr 1
  rw [List.findIdx_eq hk]
  refine ⟨h2, fun j hj => ?_⟩
  have := List.any_eq_false.1 h1 xs[j] (by
    rw [List.mem_iff_getElem]
    exact ⟨j, by rw [List.length_take]; omega, by rw [List.getElem_take]⟩)
  simpa using this
theorem fiX_ge {α : Type} {p : α → Bool} {xs : List α} : decide (0 ≤ fiX p xs) = xs.any p := by
  unfold fiX
  cases h : xs.any p
  · simp
  · simp
set_option maxRecDepth 20000 in
theorem indexFuncI_con (xs : List Int) (k : FuncId) (caps : List AV) (p : Int → Bool) (hl : xs.length ≤ 1000000) (hc : ∀ x ∈ xs, Con Tryd.prog k ([.val (.int .i64 x)] ++ caps) [] (Is (.val (.bool (p x))) [])) : Con Tryd.prog 152 [.sl 1 iC xs, .clo k caps] [] (Is (.val (.int .i64 (fiX p xs))) []) := by
  refine con_of Tryd.func152 rfl (enters_of Tryd.func152 (by kernel_rfl) rfl) rfl ?_; intro n w0 F0 G0
  (refine W_seq ?_; refine W_region ?_; (apply wl_assign; exact rfl; exact rfl); refine WL_nil ?_; refine th_norm ?_; refine W_seq ?_; refine W_seq ?_; refine W_region ?_; (apply wl_move; exact rfl; exact rfl); (apply wl_lenSl; exact rfl; exact rfl); (apply wl_move; exact rfl; exact rfl); refine WL_nil ?_; refine th_norm ?_; refine W_block ?_)
  refine W_loopJ (fun (m : Nat) => ⟨[(0, .sl 1 iC xs), (1, .clo k caps), (7, .val (.int .i64 xs.length)), (8, .val (.int .i64 m))], []⟩) (fun m => m ≤ xs.length ∧ (xs.take m).any p = false) (fun m => xs.length - m) 0 (fun _ _ st => st_sub2 st (by (repeat (first | exact trivial | refine ⟨rfl, ?_⟩))) (by (repeat (first | exact SubP.nil | (apply SubP.cons; (repeat (first | exact Rm.here | apply Rm.there))))))) ?hj0 ?round
  case hj0 => simp
  case round =>
    rintro m ⟨hk, hno⟩
    (refine W_seq ?_; refine W_region ?_; (apply wl_lss; exact rfl; exact rfl; exact rfl); refine WL_nil ?_; refine th_norm ?_; refine W_seq ?_)
    refine w_cond rfl (fun hlt => ?_) (fun hlt => ?_)
    · have hlt' : m < xs.length := by simpa using hlt
      (refine W_skip ?_; refine th_norm ?_; refine W_seq ?_; refine W_block ?_; refine W_seq ?_; refine W_region ?_; (apply wl_move; exact rfl; exact rfl); (apply wl_assign; exact rfl; exact rfl); refine WL_nil ?_; refine th_norm ?_; refine W_seq ?_; refine W_region ?_; (apply wl_move; exact rfl; exact rfl); (apply wl_move; exact rfl; exact rfl); (apply wl_move; exact rfl; exact rfl); (apply wl_indexSl; exact rfl; exact rfl; exact rfl; (first | assumption | omega | (simp; omega)); exact rfl); (apply wl_loadE1; exact rfl; (case hk => first | assumption | omega | exact Nat.one_pos | (simp; omega)); exact rfl; exact rfl))
      (apply wl_callV (hc xs[m] (List.getElem_mem hlt')); exact rfl; exact rfl; exact rfl)
      (refine WL_nil ?_; refine th_norm ?_)
      refine w_cond rfl (fun he => ?_) (fun he => ?_)
      · (refine W_seq ?_; refine W_region ?_; (apply wl_move; exact rfl; exact rfl); (apply wl_assign; exact rfl; exact rfl); refine WL_nil ?_; refine th_norm ?_; refine W_ret ?_; refine bl_ret ?_; refine th_ret ?_; refine th_ret ?_; refine bl_ret ?_; refine th_ret ?_; refine rt_norm ?_)
        (apply res1; exact rfl; exact rfl; exact ⟨(congrArg (fun b => AV.val (Value.int .i64 b)) (fiX_at hlt' hno he).symm), rfl⟩)
      · (refine W_skip ?_; refine bl_norm ?_; refine th_norm ?_; refine W_region ?_; (apply wl_add; exact rfl; exact rfl; omega; omega; exact rfl); (apply wl_move; exact rfl; exact rfl); refine WL_nil ?_; refine th_norm ?_)
        (refine ⟨m + 1, fun _ _ st => st_sub2 st ?_ ?_, ?_, ?_⟩; (repeat (first | exact trivial | refine ⟨rfl, ?_⟩)); (repeat (first | exact SubP.nil | (apply SubP.cons; (repeat (first | exact Rm.here | apply Rm.there))))))
        · refine ⟨by omega, ?_⟩
          rw [List.take_succ_eq_append_getElem hlt', List.any_append, hno]
          simpa using he
        · omega
    · (refine W_exit ?_; refine th_exit ?_; refine th_exit ?_; refine bl_eq ?_; refine th_norm ?_; refine W_seq ?_; refine W_region ?_; (apply wl_assign; exact rfl; exact rfl); refine WL_nil ?_; refine th_norm ?_; refine W_ret ?_; refine rt_norm ?_)
      have hkk : m = xs.length := by simp at hlt; omega
      subst hkk
      rw [List.take_length] at hno
      (apply res1; exact rfl; exact rfl; exact ⟨(congrArg (fun b => AV.val (Value.int .i64 b)) (fiX_none hno).symm), rfl⟩)
set_option maxRecDepth 20000 in
theorem containsFuncI_con (xs : List Int) (k : FuncId) (caps : List AV) (p : Int → Bool) (hl : xs.length ≤ 1000000) (hc : ∀ x ∈ xs, Con Tryd.prog k ([.val (.int .i64 x)] ++ caps) [] (Is (.val (.bool (p x))) [])) : Con Tryd.prog 125 [.sl 1 iC xs, .clo k caps] [] (Is (.val (.bool (xs.any p))) []) := by
  refine con_of Tryd.func125 rfl (enters_of Tryd.func125 (by kernel_rfl) rfl) rfl ?_; intro n w0 F0 G0
  (refine W_seq ?_; refine W_region ?_; (apply wl_assign; exact rfl; exact rfl); refine WL_nil ?_; refine th_norm ?_; refine W_seq ?_; refine W_region ?_; (apply wl_move; exact rfl; exact rfl); (apply wl_move; exact rfl; exact rfl))
  (first | (apply wl_call (indexFuncI_con xs k caps p hl hc); exact rfl; exact rfl) | (apply wl_callR (indexFuncI_con xs k caps p hl hc); exact rfl; (repeat (first | exact At.here | apply At.there)); exact rfl))
  ((apply wl_geq; exact rfl; exact rfl; exact rfl); (apply wl_assign; exact rfl; exact rfl); refine WL_nil ?_; refine th_norm ?_; refine W_ret ?_; refine rt_norm ?_)
  (apply res1; exact rfl; exact rfl; exact ⟨(congrArg (fun b => AV.val (Value.bool b)) fiX_ge), rfl⟩)
set_option maxRecDepth 20000 in
theorem in1_con (n lo hi : Int) : Con Tryd.prog 126 [.val (.int .i64 n), .fp 1 [.val (.int .i64 lo)], .fp 1 [.val (.int .i64 hi)]] [] (Is (.val (.bool (decide (n < lo) || decide (hi < n)))) []) := by
  refine con_of Tryd.func126 rfl (enters_of Tryd.func126 (by kernel_rfl) rfl) rfl ?_; intro n w0 F0 G0
  (refine W_seq ?_; refine W_region ?_; (apply wl_assign; exact rfl; exact rfl); refine WL_nil ?_; refine th_norm ?_; refine W_seq ?_; refine W_region ?_; (apply wl_move; exact rfl; exact rfl); (apply wl_loadE1; exact rfl; (case hk => first | assumption | omega | exact Nat.one_pos | (simp; omega)); exact rfl; exact rfl); (apply wl_lss; exact rfl; exact rfl; exact rfl); (apply wl_move; exact rfl; exact rfl))
  refine wl_part rfl rfl (fun h => ?_) (fun h => ?_)
  · ((apply wl_no; exact rfl; exact rfl; exact rfl; exact rfl; exact rfl); (apply wl_no; exact rfl; exact rfl; exact rfl; exact rfl; exact rfl); (apply wl_no; exact rfl; exact rfl; exact rfl; exact rfl; exact rfl); (apply wl_pick_t; exact rfl; exact rfl; exact rfl); (apply wl_assign; exact rfl; exact rfl); refine WL_nil ?_; refine th_norm ?_; refine W_ret ?_; refine rt_norm ?_)
    (apply res1; exact rfl; exact rfl; exact ⟨(congrArg (fun b => AV.val (Value.bool b)) (by simp [h])), rfl⟩)
  · ((apply wl_yes; exact rfl; exact rfl; exact rfl); (apply wl_move; exact rfl; exact rfl); (apply wl_yes; exact rfl; exact rfl; exact rfl); (apply wl_loadE1; exact rfl; (case hk => first | assumption | omega | exact Nat.one_pos | (simp; omega)); exact rfl; exact rfl); (apply wl_yes; exact rfl; exact rfl; exact rfl); (apply wl_gtr; exact rfl; exact rfl; exact rfl); (apply wl_pick_f; exact rfl; exact rfl; exact rfl); (apply wl_assign; exact rfl; exact rfl); refine WL_nil ?_; refine th_norm ?_; refine W_ret ?_; refine rt_norm ?_)
    (apply res1; exact rfl; exact rfl; exact ⟨(congrArg (fun b => AV.val (Value.bool b)) (by simp [h])), rfl⟩)
set_option maxRecDepth 20000 in
theorem in_con (lo hi : Int) (xs : List Int) (hl : xs.length ≤ 1000000) : Con Tryd.prog 83 [.val (.int .i64 lo), .val (.int .i64 hi), .sl 1 iC xs] [] (Is (.val (.bool (!xs.any fun n => decide (n < lo) || decide (hi < n)))) []) := by
  refine con_of Tryd.func83 rfl (enters_of Tryd.func83 (by kernel_rfl) rfl) rfl ?_; intro n w0 F0 G0
  (refine W_seq ?_; refine W_region ?_; (apply wl_boxv; exact rfl; exact inferInstance; exact rfl; intro p hp); (apply wl_boxv; exact rfl; exact inferInstance; exact rfl; intro p hp); (apply wl_assign; exact rfl; exact rfl); refine WL_nil ?_; refine th_norm ?_; refine W_seq ?_; refine W_region ?_; (apply wl_move; exact rfl; exact rfl); (apply wl_makeClo; exact rfl; exact rfl))
  (apply WL_frzC 8 0 1; exact rfl; exact rfl; (repeat (first | exact Rm.here | apply Rm.there)))
  (apply WL_frzC 8 1 1; exact rfl; exact rfl; (repeat (first | exact Rm.here | apply Rm.there)))
  (first | (apply wl_call (containsFuncI_con xs _ _ _ hl (fun x _ => in1_con x lo hi)); exact rfl; exact rfl) | (apply wl_callR (containsFuncI_con xs _ _ _ hl (fun x _ => in1_con x lo hi)); exact rfl; (repeat (first | exact At.here | apply At.there)); exact rfl))
  ((apply wl_not; exact rfl; exact rfl); (apply wl_assign; exact rfl; exact rfl); refine WL_nil ?_; refine th_norm ?_; refine W_ret ?_; refine rt_norm ?_)
  (apply res1; exact rfl; exact rfl; exact ⟨rfl, rfl⟩)
end Go.Proofs.YtbkellknlcageaaDoor.Sw
/- The program's 'rising' and 'of'. -/
namespace Go.Proofs.YtbkellknlcageaaDoor.Sw
open Go.RowKit Go Go.Shelf Go.Proofs
theorem in_one (lo hi n : Int) : (!([n].any fun n => decide (n < lo) || decide (hi < n))) = (decide (lo ≤ n) && decide (n ≤ hi)) := by
  simp only [List.any_cons, List.any_nil, Bool.or_false, Bool.not_or, ← decide_not, Int.not_lt]
theorem inOne_con (lo hi n : Int) : Con Tryd.prog 83 [.val (.int .i64 lo), .val (.int .i64 hi), .sl 1 iC [n]] [] (Is (.val (.bool (decide (lo ≤ n) && decide (n ≤ hi)))) []) := by
  have := in_con lo hi [n] (by simp)
  rwa [in_one] at this
set_option maxRecDepth 20000 in
theorem rising_con (xs : List Int) (hl : xs.length ≤ 1000000) : Con Tryd.prog 130 [.sl 1 iC xs] [] (Is (.val (.bool (rises 0 xs))) []) := by
  refine con_of Tryd.func130 rfl (enters_of Tryd.func130 (by kernel_rfl) rfl) rfl ?_; intro n w0 F0 G0
  (refine W_seq ?_; refine W_region ?_; (apply wl_assign; exact rfl; exact rfl); refine WL_nil ?_; refine th_norm ?_; refine W_seq ?_; refine W_region ?_; (apply wl_assign; exact rfl; exact rfl); refine WL_nil ?_; refine th_norm ?_; refine W_seq ?_; refine W_seq ?_; refine W_region ?_; (apply wl_move; exact rfl; exact rfl); (apply wl_lenSl; exact rfl; exact rfl); (apply wl_move; exact rfl; exact rfl); refine WL_nil ?_; refine th_norm ?_; refine W_block ?_)
  refine W_loopJ (fun (b : Nat × Int) => ⟨[(6, .sl 1 iC xs), (7, .val (.int .i64 xs.length)), (8, .val (.int .i64 b.1)), (3, .val (.int .i64 b.2))], []⟩) (fun b => b.1 ≤ xs.length ∧ rises b.2 (xs.drop b.1) = rises 0 xs ∧ 0 ≤ b.2 ∧ b.2 ≤ 9999) (fun b => xs.length - b.1) (0, 0) (fun _ _ st => st_sub2 st (by (repeat (first | exact trivial | refine ⟨rfl, ?_⟩))) (by (repeat (first | exact SubP.nil | (apply SubP.cons; (repeat (first | exact Rm.here | apply Rm.there))))))) ?hj0 ?round
  case hj0 => simp
  case round =>
    rintro ⟨k, last⟩ ⟨hk, hno, hl0, hl1⟩
    dsimp only at hk hno hl0 hl1 ⊢
    (refine W_seq ?_; refine W_region ?_; (apply wl_lss; exact rfl; exact rfl; exact rfl); refine WL_nil ?_; refine th_norm ?_; refine W_seq ?_)
    refine w_cond rfl (fun hlt => ?_) (fun hlt => ?_)
    · have hlt' : k < xs.length := by simpa using hlt
      rw [drop_step hlt', rises] at hno
      (refine W_skip ?_; refine th_norm ?_; refine W_seq ?_; refine W_block ?_; refine W_seq ?_; refine W_region ?_; (apply wl_indexSl; exact rfl; exact rfl; exact rfl; (first | assumption | omega | (simp; omega)); exact rfl); (apply wl_loadE1; exact rfl; (case hk => first | assumption | omega | exact Nat.one_pos | (simp; omega)); exact rfl; exact rfl); (apply wl_assign; exact rfl; exact rfl); refine WL_nil ?_; refine th_norm ?_; refine W_seq ?_; refine W_seq ?_; refine W_region ?_; (apply wl_move; exact rfl; exact rfl); (apply wl_add; exact rfl; exact rfl; omega; omega; exact rfl); (apply wl_move; exact rfl; exact rfl))
      (apply wl_litF iC; exact inferInstance; exact inferInstance; exact inferInstance; (repeat (first | exact Elems.nil | (apply Elems.cons; exact rfl; exact inferInstance; exact rfl))); exact rfl; (first | exact (of_decide_eq_true rfl) | decide | (simp; done) | (simp; omega)); exact rfl)
      skip
      (first | (apply wl_call (inOne_con _ _ _); exact rfl; exact rfl) | (apply wl_callR (inOne_con _ _ _); exact rfl; (repeat (first | exact At.here | apply At.there)); exact rfl))
      ((apply wl_not; exact rfl; exact rfl); refine WL_nil ?_; refine th_norm ?_)
      refine w_cond rfl (fun g3 => ?_) (fun g3 => ?_)
      · (refine W_seq ?_; refine W_region ?_; (apply wl_assign; exact rfl; exact rfl); refine WL_nil ?_; refine th_norm ?_; refine W_ret ?_; refine th_ret ?_; refine bl_ret ?_; refine th_ret ?_; refine th_ret ?_; refine bl_ret ?_; refine th_ret ?_; refine rt_norm ?_)
        (apply res1; exact rfl; exact rfl; exact ⟨(congrArg (fun b => AV.val (Value.bool b)) (by rw [← hno]; simp only [Bool.not_eq_true'] at g3; simp [g3])), rfl⟩)
      · have g3' : (decide (last + 1 ≤ xs[k]) && decide (xs[k] ≤ 9999)) = true := by simpa using g3
        rw [g3', Bool.true_and] at hno
        simp only [Bool.and_eq_true, decide_eq_true_eq] at g3'
        (refine W_skip ?_; refine th_norm ?_; refine W_region ?_; (apply wl_move; exact rfl; exact rfl); (apply wl_assign; exact rfl; exact rfl); refine WL_nil ?_; refine bl_norm ?_; refine th_norm ?_; refine W_region ?_; (apply wl_add; exact rfl; exact rfl; omega; omega; exact rfl); (apply wl_move; exact rfl; exact rfl); refine WL_nil ?_; refine th_norm ?_)
        (refine ⟨(k + 1, xs[k]), fun _ _ st => st_sub2 st ?_ ?_, ?_, ?_⟩; (repeat (first | exact trivial | refine ⟨rfl, ?_⟩)); (repeat (first | exact SubP.nil | (apply SubP.cons; (repeat (first | exact Rm.here | apply Rm.there))))))
        · exact ⟨hlt', hno, by dsimp only; omega, by dsimp only; omega⟩
        · dsimp only; omega
    · (refine W_exit ?_; refine th_exit ?_; refine th_exit ?_; refine bl_eq ?_; refine th_norm ?_; refine W_seq ?_; refine W_region ?_; (apply wl_assign; exact rfl; exact rfl); refine WL_nil ?_; refine th_norm ?_; refine W_ret ?_; refine rt_norm ?_)
      have hkk : k = xs.length := by simp at hlt; omega
      subst hkk
      rw [List.drop_length, rises] at hno
      (apply res1; exact rfl; exact rfl; exact ⟨(congrArg (fun b => AV.val (Value.bool b)) hno), rfl⟩)
set_option maxRecDepth 20000 in
theorem of1_con (x : Int) (all : List Int) (hl : all.length ≤ 1000000) : Con Tryd.prog 131 [.val (.int .i64 x), .fp 1 [.sl 1 iC all]] [] (Is (.val (.bool (!decide (x ∈ all)))) []) := by
  refine con_of Tryd.func131 rfl (enters_of Tryd.func131 (by kernel_rfl) rfl) rfl ?_; intro n w0 F0 G0
  (refine W_seq ?_; refine W_region ?_; (apply wl_assign; exact rfl; exact rfl); refine WL_nil ?_; refine th_norm ?_; refine W_seq ?_; refine W_region ?_; (apply wl_loadE1; exact rfl; (case hk => first | assumption | omega | exact Nat.one_pos | (simp; omega)); exact rfl; exact rfl); (apply wl_move; exact rfl; exact rfl))
  (first | (apply wl_call (containsI_con all x hl); exact rfl; exact rfl) | (apply wl_callR (containsI_con all x hl); exact rfl; (repeat (first | exact At.here | apply At.there)); exact rfl))
  ((apply wl_not; exact rfl; exact rfl); (apply wl_assign; exact rfl; exact rfl); refine WL_nil ?_; refine th_norm ?_; refine W_ret ?_; refine rt_norm ?_)
  (apply res1; exact rfl; exact rfl; exact ⟨rfl, rfl⟩)
set_option maxRecDepth 20000 in
theorem of_con (xs all : List Int) (hl : xs.length ≤ 1000000) (hl2 : all.length ≤ 1000000) : Con Tryd.prog 91 [.sl 1 iC xs, .sl 1 iC all] [] (Is (.val (.bool (rises 0 xs && !xs.any fun n => !decide (n ∈ all)))) []) := by
  refine con_of Tryd.func91 rfl (enters_of Tryd.func91 (by kernel_rfl) rfl) rfl ?_; intro n w0 F0 G0
  (refine W_seq ?_; refine W_region ?_; (apply wl_boxv; exact rfl; exact inferInstance; exact rfl; intro p hp); (apply wl_assign; exact rfl; exact rfl); refine WL_nil ?_; refine th_norm ?_; refine W_seq ?_; refine W_region ?_; (apply wl_move; exact rfl; exact rfl))
  (first | (apply wl_call (rising_con xs hl); exact rfl; exact rfl) | (apply wl_callR (rising_con xs hl); exact rfl; (repeat (first | exact At.here | apply At.there)); exact rfl))
  ((apply wl_move; exact rfl; exact rfl))
  refine wl_part rfl rfl (fun g => ?_) (fun g => ?_)
  · ((apply wl_yes; exact rfl; exact rfl; exact rfl); (apply wl_move; exact rfl; exact rfl); (apply wl_yes; exact rfl; exact rfl; exact rfl); (apply wl_makeClo; exact rfl; exact rfl); (apply wl_yes; exact rfl; exact rfl; exact rfl))
    (apply WL_frzC 9 0 1; exact rfl; exact rfl; (repeat (first | exact Rm.here | apply Rm.there)))
    (first | (apply wl_call (containsFuncI_con xs _ _ _ hl (fun x _ => of1_con x all hl2)); exact rfl; exact rfl) | (apply wl_callR (containsFuncI_con xs _ _ _ hl (fun x _ => of1_con x all hl2)); exact rfl; (repeat (first | exact At.here | apply At.there)); exact rfl))
    ((apply wl_yes; exact rfl; exact rfl; exact rfl); (apply wl_not; exact rfl; exact rfl); (apply wl_pick_t; exact rfl; exact rfl; exact rfl); (apply wl_assign; exact rfl; exact rfl); refine WL_nil ?_; refine th_norm ?_; refine W_ret ?_; refine rt_norm ?_)
    (apply res1; exact rfl; exact rfl; exact ⟨(congrArg (fun b => AV.val (Value.bool b)) (by rw [g, Bool.true_and])), rfl⟩)
  · ((apply wl_no; exact rfl; exact rfl; exact rfl; exact rfl; exact rfl); (apply wl_no; exact rfl; exact rfl; exact rfl; exact rfl; exact rfl); (apply wl_no; exact rfl; exact rfl; exact rfl; exact rfl; exact rfl); (apply wl_no; exact rfl; exact rfl; exact rfl; exact rfl; exact rfl); (apply wl_pick_f; exact rfl; exact rfl; exact rfl); (apply wl_assign; exact rfl; exact rfl); refine WL_nil ?_; refine th_norm ?_; refine W_ret ?_; refine rt_norm ?_)
    (apply res1; exact rfl; exact rfl; exact ⟨(congrArg (fun b => AV.val (Value.bool b)) (by rw [g]; rfl)), rfl⟩)
end Go.Proofs.YtbkellknlcageaaDoor.Sw
/- The program's orders, and 'made'. -/
namespace Go.Proofs.YtbkellknlcageaaDoor.Sw
open Go.RowKit Go Go.Shelf Go.Proofs
def cmpR (x y : Int) : Int := if x < y then -1 else if y < x then 1 else 0
def firstNZ : List Int → Int
  | [] => 0
  | v :: t => if v = 0 then firstNZ t else v
set_option maxRecDepth 20000 in
theorem isNaN_con (x : Int) : Con Tryd.prog 123 [.val (.int .i64 x)] [] (Is (.val (.bool false)) []) := by
  refine con_of Tryd.func123 rfl (enters_of Tryd.func123 (by kernel_rfl) rfl) rfl ?_; intro n w0 F0 G0
  (refine W_seq ?_; refine W_region ?_; (apply wl_assign; exact rfl; exact rfl); refine WL_nil ?_; refine th_norm ?_; refine W_seq ?_; refine W_region ?_; (apply wl_move; exact rfl; exact rfl); (apply wl_move; exact rfl; exact rfl); (apply wl_neq; exact rfl; exact rfl; exact rfl); (apply wl_assign; exact rfl; exact rfl); refine WL_nil ?_; refine th_norm ?_; refine W_ret ?_; refine rt_norm ?_)
  (apply res1; exact rfl; exact rfl; exact ⟨(congrArg (fun b => AV.val (Value.bool b)) (by simp)), rfl⟩)
set_option maxRecDepth 20000 in
theorem compare_con (x y : Int) : Con Tryd.prog 81 [.val (.int .i64 x), .val (.int .i64 y)] [] (Is (.val (.int .i64 (cmpR x y))) []) := by
  refine con_of Tryd.func81 rfl (enters_of Tryd.func81 (by kernel_rfl) rfl) rfl ?_; intro n w0 F0 G0
  (refine W_seq ?_; refine W_region ?_; (apply wl_assign; exact rfl; exact rfl); refine WL_nil ?_; refine th_norm ?_; refine W_seq ?_; refine W_region ?_; (apply wl_move; exact rfl; exact rfl))
  (first | (apply wl_call (isNaN_con x); exact rfl; exact rfl) | (apply wl_callR (isNaN_con x); exact rfl; (repeat (first | exact At.here | apply At.there)); exact rfl))
  ((apply wl_assign; exact rfl; exact rfl); refine WL_nil ?_; refine th_norm ?_; refine W_seq ?_; refine W_region ?_; (apply wl_move; exact rfl; exact rfl))
  (first | (apply wl_call (isNaN_con y); exact rfl; exact rfl) | (apply wl_callR (isNaN_con y); exact rfl; (repeat (first | exact At.here | apply At.there)); exact rfl))
  ((apply wl_assign; exact rfl; exact rfl); refine WL_nil ?_; refine th_norm ?_; refine W_seq ?_; refine W_seq ?_; refine W_region ?_; (apply wl_move; exact rfl; exact rfl); refine WL_nil ?_; refine th_norm ?_; (apply w_false; exact rfl); refine W_skip ?_; refine th_norm ?_; refine W_seq ?_; refine W_seq ?_; refine W_region ?_; (apply wl_move; exact rfl; exact rfl); refine WL_nil ?_; refine th_norm ?_; (apply w_false; exact rfl); refine W_skip ?_; refine th_norm ?_; refine W_seq ?_; refine W_seq ?_; refine W_region ?_; (apply wl_move; exact rfl; exact rfl); (apply wl_move; exact rfl; exact rfl); (apply wl_lss; exact rfl; exact rfl; exact rfl); refine WL_nil ?_; refine th_norm ?_)
  refine w_cond rfl (fun h1 => ?_) (fun h1 => ?_)
  · have : cmpR x y = -1 := if_pos (by simpa using h1)
    (refine W_seq ?_; refine W_region ?_; (apply wl_assign; exact rfl; exact rfl); refine WL_nil ?_; refine th_norm ?_; refine W_ret ?_; refine th_ret ?_; refine rt_norm ?_)
    (apply res1; exact rfl; exact rfl; exact ⟨(congrArg (fun b => AV.val (Value.int .i64 b)) this.symm), rfl⟩)
  · (refine W_skip ?_; refine th_norm ?_; refine W_seq ?_; refine W_seq ?_; refine W_region ?_; (apply wl_move; exact rfl; exact rfl); (apply wl_move; exact rfl; exact rfl); (apply wl_gtr; exact rfl; exact rfl; exact rfl); refine WL_nil ?_; refine th_norm ?_)
    refine w_cond rfl (fun h2 => ?_) (fun h2 => ?_)
    · have : cmpR x y = 1 := by unfold cmpR; rw [if_neg (by simpa using h1), if_pos (by simpa using h2)]
      (refine W_seq ?_; refine W_region ?_; (apply wl_assign; exact rfl; exact rfl); refine WL_nil ?_; refine th_norm ?_; refine W_ret ?_; refine th_ret ?_; refine rt_norm ?_)
      (apply res1; exact rfl; exact rfl; exact ⟨(congrArg (fun b => AV.val (Value.int .i64 b)) this.symm), rfl⟩)
    · have : cmpR x y = 0 := by unfold cmpR; rw [if_neg (by simpa using h1), if_neg (by simpa using h2)]
      (refine W_skip ?_; refine th_norm ?_; refine W_seq ?_; refine W_region ?_; (apply wl_assign; exact rfl; exact rfl); refine WL_nil ?_; refine th_norm ?_; refine W_ret ?_; refine rt_norm ?_)
      (apply res1; exact rfl; exact rfl; exact ⟨(congrArg (fun b => AV.val (Value.int .i64 b)) this.symm), rfl⟩)
set_option maxRecDepth 20000 in
theorem or_con (xs : List Int) (hl : xs.length ≤ 1000000) : Con Tryd.prog 121 [.sl 1 iC xs] [] (Is (.val (.int .i64 (firstNZ xs))) []) := by
  refine con_of Tryd.func121 rfl (enters_of Tryd.func121 (by kernel_rfl) rfl) rfl ?_; intro n w0 F0 G0
  (refine W_seq ?_; refine W_region ?_; (apply wl_assign; exact rfl; exact rfl); refine WL_nil ?_; refine th_norm ?_; refine W_seq ?_; refine W_region ?_; (apply wl_assign; exact rfl; exact rfl); refine WL_nil ?_; refine th_norm ?_; refine W_seq ?_; refine W_seq ?_; refine W_region ?_; (apply wl_move; exact rfl; exact rfl); (apply wl_lenSl; exact rfl; exact rfl); (apply wl_move; exact rfl; exact rfl); refine WL_nil ?_; refine th_norm ?_; refine W_block ?_)
  refine W_loopJ (fun (k : Nat) => ⟨[(3, .val (.int .i64 0)), (6, .sl 1 iC xs), (7, .val (.int .i64 xs.length)), (8, .val (.int .i64 k))], []⟩) (fun k => k ≤ xs.length ∧ firstNZ (xs.drop k) = firstNZ xs) (fun k => xs.length - k) 0 (fun _ _ st => st_sub2 st (by (repeat (first | exact trivial | refine ⟨rfl, ?_⟩))) (by (repeat (first | exact SubP.nil | (apply SubP.cons; (repeat (first | exact Rm.here | apply Rm.there))))))) ?hj0 ?round
  case hj0 => simp
  case round =>
    rintro k ⟨hk, hno⟩
    (refine W_seq ?_; refine W_region ?_; (apply wl_lss; exact rfl; exact rfl; exact rfl); refine WL_nil ?_; refine th_norm ?_; refine W_seq ?_)
    refine w_cond rfl (fun hlt => ?_) (fun hlt => ?_)
    · have hlt' : k < xs.length := by simpa using hlt
      rw [drop_step hlt', firstNZ] at hno
      (refine W_skip ?_; refine th_norm ?_; refine W_seq ?_; refine W_block ?_; refine W_seq ?_; refine W_region ?_; (apply wl_indexSl; exact rfl; exact rfl; exact rfl; (first | assumption | omega | (simp; omega)); exact rfl); (apply wl_loadE1; exact rfl; (case hk => first | assumption | omega | exact Nat.one_pos | (simp; omega)); exact rfl; exact rfl); (apply wl_assign; exact rfl; exact rfl); refine WL_nil ?_; refine th_norm ?_; refine W_seq ?_; refine W_region ?_; (apply wl_move; exact rfl; exact rfl); (apply wl_move; exact rfl; exact rfl); (apply wl_neq; exact rfl; exact rfl; exact rfl); refine WL_nil ?_; refine th_norm ?_)
      refine w_cond rfl (fun he => ?_) (fun he => ?_)
      · rw [if_neg (by simpa using he)] at hno
        (refine W_seq ?_; refine W_region ?_; (apply wl_move; exact rfl; exact rfl); (apply wl_assign; exact rfl; exact rfl); refine WL_nil ?_; refine th_norm ?_; refine W_ret ?_; refine bl_ret ?_; refine th_ret ?_; refine th_ret ?_; refine bl_ret ?_; refine th_ret ?_; refine rt_norm ?_)
        (apply res1; exact rfl; exact rfl; exact ⟨(congrArg (fun b => AV.val (Value.int .i64 b)) hno), rfl⟩)
      · rw [if_pos (by simpa using he)] at hno
        (refine W_skip ?_; refine bl_norm ?_; refine th_norm ?_; refine W_region ?_; (apply wl_add; exact rfl; exact rfl; omega; omega; exact rfl); (apply wl_move; exact rfl; exact rfl); refine WL_nil ?_; refine th_norm ?_)
        (refine ⟨k + 1, fun _ _ st => st_sub2 st ?_ ?_, ?_, ?_⟩; (repeat (first | exact trivial | refine ⟨rfl, ?_⟩)); (repeat (first | exact SubP.nil | (apply SubP.cons; (repeat (first | exact Rm.here | apply Rm.there))))))
        · exact ⟨hlt', hno⟩
        · omega
    · (refine W_exit ?_; refine th_exit ?_; refine th_exit ?_; refine bl_eq ?_; refine th_norm ?_; refine W_seq ?_; refine W_region ?_; (apply wl_move; exact rfl; exact rfl); (apply wl_assign; exact rfl; exact rfl); refine WL_nil ?_; refine th_norm ?_; refine W_ret ?_; refine rt_norm ?_)
      have hkk : k = xs.length := by simp at hlt; omega
      subst hkk
      rw [List.drop_length, firstNZ] at hno
      (apply res1; exact rfl; exact rfl; exact ⟨(congrArg (fun b => AV.val (Value.int .i64 b)) hno), rfl⟩)
set_option maxRecDepth 20000 in
theorem made_con (f : Flo) (x : Pay) (hl : f.ids.length ≤ 1000000) : Con Tryd.prog 56 [.agg (flC f), .agg (payC x)] [] (Is (.val (.bool (payOk f.ids x))) []) := by
  refine con_of Tryd.func56 rfl (enters_of Tryd.func56 (by kernel_rfl) rfl) rfl ?_; intro n w0 F0 G0
  (refine W_seq ?_; refine W_region ?_; (apply wl_boxv; exact rfl; exact inferInstance; exact rfl; intro p hp); (apply wl_boxv; exact rfl; exact inferInstance; exact rfl; intro p hp); (apply wl_assign; exact rfl; exact rfl); refine WL_nil ?_; refine th_norm ?_; refine W_seq ?_; refine W_region ?_; (apply wl_field; exact rfl; (repeat (first | exact At.here | apply At.there)); exact rfl); (apply wl_load1; (first | exact .inl rfl | exact .inr ⟨rfl, rfl⟩); (repeat (first | exact At.here | apply At.there)); exact rfl; exact rfl); (apply wl_field; exact rfl; (repeat (first | exact At.here | apply At.there)); exact rfl); (apply wl_load1; (first | exact .inl rfl | exact .inr ⟨rfl, rfl⟩); (repeat (first | exact At.here | apply At.there)); exact rfl; exact rfl))
  (first | (apply wl_call (containsI_con f.ids x.a hl); exact rfl; exact rfl) | (apply wl_callR (containsI_con f.ids x.a hl); exact rfl; (repeat (first | exact At.here | apply At.there)); exact rfl))
  ((apply wl_move; exact rfl; exact rfl))
  refine wl_part rfl rfl (fun h1 => ?_) (fun h1 => ?_)
  rotate_left
  · ((apply wl_no; exact rfl; exact rfl; exact rfl; exact rfl; exact rfl); (apply wl_no; exact rfl; exact rfl; exact rfl; exact rfl; exact rfl); (apply wl_no; exact rfl; exact rfl; exact rfl; exact rfl; exact rfl); (apply wl_no; exact rfl; exact rfl; exact rfl; exact rfl; exact rfl); (apply wl_no; exact rfl; exact rfl; exact rfl; exact rfl; exact rfl); (apply wl_pick_f; exact rfl; exact rfl; exact rfl); (apply wl_move; exact rfl; exact rfl); (apply wl_no; exact rfl; exact rfl; exact rfl; exact rfl; exact rfl); (apply wl_no; exact rfl; exact rfl; exact rfl; exact rfl; exact rfl); (apply wl_no; exact rfl; exact rfl; exact rfl; exact rfl; exact rfl); (apply wl_no; exact rfl; exact rfl; exact rfl; exact rfl; exact rfl); (apply wl_no; exact rfl; exact rfl; exact rfl; exact rfl; exact rfl); (apply wl_pick_f; exact rfl; exact rfl; exact rfl); (apply wl_move; exact rfl; exact rfl); (apply wl_no; exact rfl; exact rfl; exact rfl; exact rfl; exact rfl); (apply wl_no; exact rfl; exact rfl; exact rfl; exact rfl; exact rfl); (apply wl_no; exact rfl; exact rfl; exact rfl; exact rfl; exact rfl); (apply wl_no; exact rfl; exact rfl; exact rfl; exact rfl; exact rfl); (apply wl_pick_f; exact rfl; exact rfl; exact rfl); (apply wl_assign; exact rfl; exact rfl); refine WL_nil ?_; refine th_norm ?_; refine W_ret ?_; refine rt_norm ?_)
    (apply res1; exact rfl; exact rfl; exact ⟨(congrArg (fun b => AV.val (Value.bool b)) (by simp [payOk, h1])), rfl⟩)
  · ((apply wl_yes; exact rfl; exact rfl; exact rfl); (apply wl_field; exact rfl; (repeat (first | exact At.here | apply At.there)); exact rfl); (apply wl_yes; exact rfl; exact rfl; exact rfl); (apply wl_load1; (first | exact .inl rfl | exact .inr ⟨rfl, rfl⟩); (repeat (first | exact At.here | apply At.there)); exact rfl; exact rfl); (apply wl_yes; exact rfl; exact rfl; exact rfl); (apply wl_field; exact rfl; (repeat (first | exact At.here | apply At.there)); exact rfl); (apply wl_yes; exact rfl; exact rfl; exact rfl); (apply wl_load1; (first | exact .inl rfl | exact .inr ⟨rfl, rfl⟩); (repeat (first | exact At.here | apply At.there)); exact rfl; exact rfl); (apply wl_yes; exact rfl; exact rfl; exact rfl))
    (first | (apply wl_call (containsI_con f.ids x.b hl); exact rfl; exact rfl) | (apply wl_callR (containsI_con f.ids x.b hl); exact rfl; (repeat (first | exact At.here | apply At.there)); exact rfl))
    ((apply wl_pick_t; exact rfl; exact rfl; exact rfl); (apply wl_move; exact rfl; exact rfl))
    refine wl_part rfl rfl (fun h2 => ?_) (fun h2 => ?_)
    rotate_left
    · ((apply wl_no; exact rfl; exact rfl; exact rfl; exact rfl; exact rfl); (apply wl_no; exact rfl; exact rfl; exact rfl; exact rfl; exact rfl); (apply wl_no; exact rfl; exact rfl; exact rfl; exact rfl; exact rfl); (apply wl_no; exact rfl; exact rfl; exact rfl; exact rfl; exact rfl); (apply wl_no; exact rfl; exact rfl; exact rfl; exact rfl; exact rfl); (apply wl_pick_f; exact rfl; exact rfl; exact rfl); (apply wl_move; exact rfl; exact rfl); (apply wl_no; exact rfl; exact rfl; exact rfl; exact rfl; exact rfl); (apply wl_no; exact rfl; exact rfl; exact rfl; exact rfl; exact rfl); (apply wl_no; exact rfl; exact rfl; exact rfl; exact rfl; exact rfl); (apply wl_no; exact rfl; exact rfl; exact rfl; exact rfl; exact rfl); (apply wl_pick_f; exact rfl; exact rfl; exact rfl); (apply wl_assign; exact rfl; exact rfl); refine WL_nil ?_; refine th_norm ?_; refine W_ret ?_; refine rt_norm ?_)
      (apply res1; exact rfl; exact rfl; exact ⟨(congrArg (fun b => AV.val (Value.bool b)) (by simp [payOk, h2])), rfl⟩)
    · ((apply wl_yes; exact rfl; exact rfl; exact rfl); (apply wl_field; exact rfl; (repeat (first | exact At.here | apply At.there)); exact rfl); (apply wl_yes; exact rfl; exact rfl; exact rfl); (apply wl_load1; (first | exact .inl rfl | exact .inr ⟨rfl, rfl⟩); (repeat (first | exact At.here | apply At.there)); exact rfl; exact rfl); (apply wl_yes; exact rfl; exact rfl; exact rfl); (apply wl_field; exact rfl; (repeat (first | exact At.here | apply At.there)); exact rfl); (apply wl_yes; exact rfl; exact rfl; exact rfl); (apply wl_load1; (first | exact .inl rfl | exact .inr ⟨rfl, rfl⟩); (repeat (first | exact At.here | apply At.there)); exact rfl; exact rfl); (apply wl_yes; exact rfl; exact rfl; exact rfl); (apply wl_neq; exact rfl; exact rfl; exact rfl); (apply wl_pick_t; exact rfl; exact rfl; exact rfl); (apply wl_move; exact rfl; exact rfl))
      refine wl_part rfl rfl (fun h3 => ?_) (fun h3 => ?_)
      rotate_left
      · ((apply wl_no; exact rfl; exact rfl; exact rfl; exact rfl; exact rfl); (apply wl_no; exact rfl; exact rfl; exact rfl; exact rfl; exact rfl); (apply wl_no; exact rfl; exact rfl; exact rfl; exact rfl; exact rfl); (apply wl_no; exact rfl; exact rfl; exact rfl; exact rfl; exact rfl); (apply wl_pick_f; exact rfl; exact rfl; exact rfl); (apply wl_assign; exact rfl; exact rfl); refine WL_nil ?_; refine th_norm ?_; refine W_ret ?_; refine rt_norm ?_)
        (apply res1; exact rfl; exact rfl; exact ⟨(congrArg (fun b => AV.val (Value.bool b)) (by simp at h3; simp [payOk, h3])), rfl⟩)
      · ((apply wl_yes; exact rfl; exact rfl; exact rfl); (apply wl_field; exact rfl; (repeat (first | exact At.here | apply At.there)); exact rfl); (apply wl_yes; exact rfl; exact rfl; exact rfl); (apply wl_load1; (first | exact .inl rfl | exact .inr ⟨rfl, rfl⟩); (repeat (first | exact At.here | apply At.there)); exact rfl; exact rfl); (apply wl_yes; exact rfl; exact rfl; exact rfl))
        (apply wl_litF iC; exact inferInstance; exact inferInstance; exact inferInstance; (repeat (first | exact Elems.nil | (apply Elems.cons; exact rfl; exact inferInstance; exact rfl))); exact rfl; (first | exact (of_decide_eq_true rfl) | decide | (simp; done) | (simp; omega)); exact rfl)
        ((apply wl_yes; exact rfl; exact rfl; exact rfl))
        (first | (apply wl_call (inOne_con _ _ _); exact rfl; exact rfl) | (apply wl_callR (inOne_con _ _ _); exact rfl; (repeat (first | exact At.here | apply At.there)); exact rfl))
        ((apply wl_pick_t; exact rfl; exact rfl; exact rfl); (apply wl_assign; exact rfl; exact rfl); refine WL_nil ?_; refine th_norm ?_; refine W_ret ?_; refine rt_norm ?_)
        (apply res1; exact rfl; exact rfl; exact ⟨(congrArg (fun b => AV.val (Value.bool b)) (by simp at h1 h2 h3; simp [payOk, h1, h2, h3])), rfl⟩)
end Go.Proofs.YtbkellknlcageaaDoor.Sw
/- The program's order of quarrels. -/
namespace Go.Proofs.YtbkellknlcageaaDoor.Sw
open Go.RowKit Go Go.Shelf Go.Proofs
def quCmp (x y : Qu) : Int := firstNZ [cmpR x.a y.a, cmpR x.b y.b]
theorem quCmp_ge (x y : Qu) : decide (0 ≤ quCmp x y) = !qLt x y := by
  unfold quCmp firstNZ firstNZ firstNZ cmpR qLt
  by_cases h1 : x.a < y.a
  · simp [h1]
  · by_cases h2 : y.a < x.a
    · have : ¬ x.a = y.a := by omega
      simp [h1, h2, this]
    · have e : x.a = y.a := by omega
      by_cases h3 : x.b < y.b
      · simp [e, h3]
      · by_cases h4 : y.b < x.b
        · simp [e, h3, h4]
        · simp [e, h3, h4]
set_option maxRecDepth 20000 in
theorem quarrels_con (x y : Qu) : Con Tryd.prog 74 [.agg (quC x), .agg (quC y)] [] (Is (.val (.int .i64 (quCmp x y))) []) := by
  refine con_of Tryd.func74 rfl (enters_of Tryd.func74 (by kernel_rfl) rfl) rfl ?_; intro n w0 F0 G0
  (refine W_seq ?_; refine W_region ?_; (apply wl_boxv; exact rfl; exact inferInstance; exact rfl; intro p hp); (apply wl_boxv; exact rfl; exact inferInstance; exact rfl; intro p hp); (apply wl_assign; exact rfl; exact rfl); refine WL_nil ?_; refine th_norm ?_; refine W_seq ?_)
  rename_i pf hpf
  refine W_run 9 [5, 6, 7, 8, 9, 10, 11, 12, 13] [0, 1, 2, 3, 4, 5, 6, 7, 8] Cut.nil rfl (by repeat (first | exact Flt.nil | (apply Flt.keep; exact rfl) | (apply Flt.drop; exact rfl))) mixedS (by kernel_rfl) rfl ?_
  apply Run.pv [] []
  · exact rfl
  · intro vs; apply ltr_pk; (repeat (first | exact Pk.nil | (apply Pk.pv; exact rfl; exact rfl) | (apply Pk.tok; exact rfl; exact rfl)))
    (first | (refine ltr ?_; apply lt_fieldAt; exact rfl; exact rfl) | (apply ltr_field; exact rfl; (repeat (first | exact At.here | apply At.there))) | (refine ltr ?_; apply lt_fieldEl; exact rfl; exact rfl) | (refine ltr ?_; apply lt_fieldRat; exact rfl; exact rfl))
  · repeat (first | exact App.nil | apply App.cons)
  apply Run.pv [0] []
  · exact rfl
  · intro vs; apply ltr_pk; (repeat (first | exact Pk.nil | (apply Pk.pv; exact rfl; exact rfl) | (apply Pk.tok; exact rfl; exact rfl)))
    (first | (apply ltr_load1; (first | exact .inl rfl | exact .inr ⟨rfl, rfl⟩); (repeat (first | exact At.here | apply At.there)); exact rfl) | (refine ltr ?_; apply lt_loadE1'; exact rfl; assumption; exact rfl) | (refine ltr ?_; apply lt_loadEN'; exact rfl; assumption; exact rfl) | (apply ltr_loadN; (first | exact .inl rfl | exact .inr ⟨rfl, rfl⟩); (repeat (first | exact At.here | apply At.there)); exact rfl) | (apply ltr_loadR1; exact rfl; (repeat (first | exact At.here | apply At.there)); assumption; exact rfl) | (apply ltr_loadRN; exact rfl; (repeat (first | exact At.here | apply At.there)); assumption))
  · repeat (first | exact App.nil | apply App.cons)
  apply Run.pv [] []
  · exact rfl
  · intro vs; apply ltr_pk; (repeat (first | exact Pk.nil | (apply Pk.pv; exact rfl; exact rfl) | (apply Pk.tok; exact rfl; exact rfl)))
    (first | (refine ltr ?_; apply lt_fieldAt; exact rfl; exact rfl) | (apply ltr_field; exact rfl; (repeat (first | exact At.here | apply At.there))) | (refine ltr ?_; apply lt_fieldEl; exact rfl; exact rfl) | (refine ltr ?_; apply lt_fieldRat; exact rfl; exact rfl))
  · repeat (first | exact App.nil | apply App.cons)
  apply Run.pv [2] []
  · exact rfl
  · intro vs; apply ltr_pk; (repeat (first | exact Pk.nil | (apply Pk.pv; exact rfl; exact rfl) | (apply Pk.tok; exact rfl; exact rfl)))
    (first | (apply ltr_load1; (first | exact .inl rfl | exact .inr ⟨rfl, rfl⟩); (repeat (first | exact At.here | apply At.there)); exact rfl) | (refine ltr ?_; apply lt_loadE1'; exact rfl; assumption; exact rfl) | (refine ltr ?_; apply lt_loadEN'; exact rfl; assumption; exact rfl) | (apply ltr_loadN; (first | exact .inl rfl | exact .inr ⟨rfl, rfl⟩); (repeat (first | exact At.here | apply At.there)); exact rfl) | (apply ltr_loadR1; exact rfl; (repeat (first | exact At.here | apply At.there)); assumption; exact rfl) | (apply ltr_loadRN; exact rfl; (repeat (first | exact At.here | apply At.there)); assumption))
  · repeat (first | exact App.nil | apply App.cons)
  apply Run.pv [1, 3] []
  · exact rfl
  · intro vs; apply ltr_pk; (repeat (first | exact Pk.nil | (apply Pk.pv; exact rfl; exact rfl) | (apply Pk.tok; exact rfl; exact rfl)))
    (refine ltr ?_; refine lt_call ?_ ((compare_con x.a y.a)); exact rfl)
  · repeat (first | exact App.nil | apply App.cons)
  apply Run.pv [] []
  · exact rfl
  · intro vs; apply ltr_pk; (repeat (first | exact Pk.nil | (apply Pk.pv; exact rfl; exact rfl) | (apply Pk.tok; exact rfl; exact rfl)))
    (first | (refine ltr ?_; apply lt_fieldAt; exact rfl; exact rfl) | (apply ltr_field; exact rfl; (repeat (first | exact At.here | apply At.there))) | (refine ltr ?_; apply lt_fieldEl; exact rfl; exact rfl) | (refine ltr ?_; apply lt_fieldRat; exact rfl; exact rfl))
  · repeat (first | exact App.nil | apply App.cons)
  apply Run.pv [5] []
  · exact rfl
  · intro vs; apply ltr_pk; (repeat (first | exact Pk.nil | (apply Pk.pv; exact rfl; exact rfl) | (apply Pk.tok; exact rfl; exact rfl)))
    (first | (apply ltr_load1; (first | exact .inl rfl | exact .inr ⟨rfl, rfl⟩); (repeat (first | exact At.here | apply At.there)); exact rfl) | (refine ltr ?_; apply lt_loadE1'; exact rfl; assumption; exact rfl) | (refine ltr ?_; apply lt_loadEN'; exact rfl; assumption; exact rfl) | (apply ltr_loadN; (first | exact .inl rfl | exact .inr ⟨rfl, rfl⟩); (repeat (first | exact At.here | apply At.there)); exact rfl) | (apply ltr_loadR1; exact rfl; (repeat (first | exact At.here | apply At.there)); assumption; exact rfl) | (apply ltr_loadRN; exact rfl; (repeat (first | exact At.here | apply At.there)); assumption))
  · repeat (first | exact App.nil | apply App.cons)
  apply Run.pv [] []
  · exact rfl
  · intro vs; apply ltr_pk; (repeat (first | exact Pk.nil | (apply Pk.pv; exact rfl; exact rfl) | (apply Pk.tok; exact rfl; exact rfl)))
    (first | (refine ltr ?_; apply lt_fieldAt; exact rfl; exact rfl) | (apply ltr_field; exact rfl; (repeat (first | exact At.here | apply At.there))) | (refine ltr ?_; apply lt_fieldEl; exact rfl; exact rfl) | (refine ltr ?_; apply lt_fieldRat; exact rfl; exact rfl))
  · repeat (first | exact App.nil | apply App.cons)
  apply Run.pv [7] []
  · exact rfl
  · intro vs; apply ltr_pk; (repeat (first | exact Pk.nil | (apply Pk.pv; exact rfl; exact rfl) | (apply Pk.tok; exact rfl; exact rfl)))
    (first | (apply ltr_load1; (first | exact .inl rfl | exact .inr ⟨rfl, rfl⟩); (repeat (first | exact At.here | apply At.there)); exact rfl) | (refine ltr ?_; apply lt_loadE1'; exact rfl; assumption; exact rfl) | (refine ltr ?_; apply lt_loadEN'; exact rfl; assumption; exact rfl) | (apply ltr_loadN; (first | exact .inl rfl | exact .inr ⟨rfl, rfl⟩); (repeat (first | exact At.here | apply At.there)); exact rfl) | (apply ltr_loadR1; exact rfl; (repeat (first | exact At.here | apply At.there)); assumption; exact rfl) | (apply ltr_loadRN; exact rfl; (repeat (first | exact At.here | apply At.there)); assumption))
  · repeat (first | exact App.nil | apply App.cons)
  refine ⟨⟨by kernel_rfl, by kernel_rfl⟩, fun vs => ?_⟩
  refine WL_to [(9, .val (.int .i64 (cmpR x.a y.a))), (11, .val (.int .i64 x.b)), (13, .val (.int .i64 y.b))] [.box p (quC y) 55, .box pf (quC x) 55] (by kernel_rfl) (by kernel_rfl) ?_
  skip
  (first | (apply wl_call (compare_con x.b y.b); exact rfl; exact rfl) | (apply wl_callR (compare_con x.b y.b); exact rfl; (repeat (first | exact At.here | apply At.there)); exact rfl))
  skip
  (apply wl_litF iC; exact inferInstance; exact inferInstance; exact inferInstance; (repeat (first | exact Elems.nil | (apply Elems.cons; exact rfl; exact inferInstance; exact rfl))); exact rfl; (first | exact (of_decide_eq_true rfl) | decide | (simp; done) | (simp; omega)); exact rfl)
  skip
  (first | (apply wl_call (or_con [cmpR x.a y.a, cmpR x.b y.b] (by simp)); exact rfl; exact rfl) | (apply wl_callR (or_con [cmpR x.a y.a, cmpR x.b y.b] (by simp)); exact rfl; (repeat (first | exact At.here | apply At.there)); exact rfl))
  ((apply wl_assign; exact rfl; exact rfl); refine WL_nil ?_; refine th_norm ?_; refine W_ret ?_; refine rt_norm ?_)
  (apply res1; exact rfl; exact rfl; exact ⟨rfl, rfl⟩)
end Go.Proofs.YtbkellknlcageaaDoor.Sw
/- The program's checks of floors: lengths and rising numbers; payments. -/
namespace Go.Proofs.YtbkellknlcageaaDoor.Sw
open Go.RowKit Go Go.Shelf Go.Proofs
set_option maxRecDepth 20000 in
theorem check1_con (f : Flo) (hS : Sml f) : Con Tryd.prog 215 [.agg (flC f)] [] (Is (.val (.bool (decide (f.ids.length ≤ 6) && decide (f.bs.length ≤ 10) && decide (f.ps.length ≤ 12) && rises 0 f.ids))) []) := by
  have hidsl := hS.ids
  refine con_of Tryd.func215 rfl (enters_of Tryd.func215 (by kernel_rfl) rfl) rfl ?_; intro n w0 F0 G0
  (refine W_seq ?_; refine W_region ?_; (apply wl_boxv; exact rfl; exact inferInstance; exact rfl; intro p hp); (apply wl_assign; exact rfl; exact rfl); refine WL_nil ?_; refine th_norm ?_; refine W_seq ?_; refine W_region ?_; (apply wl_field; exact rfl; (repeat (first | exact At.here | apply At.there)); exact rfl); (apply wl_load1; (first | exact .inl rfl | exact .inr ⟨rfl, rfl⟩); (repeat (first | exact At.here | apply At.there)); exact rfl; exact rfl); (apply wl_lenSl; exact rfl; exact rfl); (apply wl_leq; exact rfl; exact rfl; exact rfl); (apply wl_move; exact rfl; exact rfl))
  refine wl_part rfl rfl (fun h1 => ?_) (fun h1 => ?_)
  rotate_left
  · ((apply wl_no; exact rfl; exact rfl; exact rfl; exact rfl; exact rfl); (apply wl_no; exact rfl; exact rfl; exact rfl; exact rfl; exact rfl); (apply wl_no; exact rfl; exact rfl; exact rfl; exact rfl; exact rfl); (apply wl_no; exact rfl; exact rfl; exact rfl; exact rfl; exact rfl); (apply wl_pick_f; exact rfl; exact rfl; exact rfl); (apply wl_move; exact rfl; exact rfl); (apply wl_no; exact rfl; exact rfl; exact rfl; exact rfl; exact rfl); (apply wl_no; exact rfl; exact rfl; exact rfl; exact rfl; exact rfl); (apply wl_no; exact rfl; exact rfl; exact rfl; exact rfl; exact rfl); (apply wl_no; exact rfl; exact rfl; exact rfl; exact rfl; exact rfl); (apply wl_pick_f; exact rfl; exact rfl; exact rfl); (apply wl_move; exact rfl; exact rfl); (apply wl_no; exact rfl; exact rfl; exact rfl; exact rfl; exact rfl); (apply wl_no; exact rfl; exact rfl; exact rfl; exact rfl; exact rfl); (apply wl_no; exact rfl; exact rfl; exact rfl; exact rfl; exact rfl); (apply wl_pick_f; exact rfl; exact rfl; exact rfl); (apply wl_assign; exact rfl; exact rfl); refine WL_nil ?_; refine th_norm ?_; refine W_ret ?_; refine rt_norm ?_)
    (apply res1; exact rfl; exact rfl; exact ⟨(congrArg (fun b => AV.val (Value.bool b)) (by simp at h1; rw [show decide (f.ids.length ≤ 6) = false from by simp; omega]; rfl)), rfl⟩)
  · have h1' : decide (f.ids.length ≤ 6) = true := by simp at h1 ⊢; omega
    ((apply wl_yes; exact rfl; exact rfl; exact rfl); (apply wl_field; exact rfl; (repeat (first | exact At.here | apply At.there)); exact rfl); (apply wl_yes; exact rfl; exact rfl; exact rfl); (apply wl_load1; (first | exact .inl rfl | exact .inr ⟨rfl, rfl⟩); (repeat (first | exact At.here | apply At.there)); exact rfl; exact rfl); (apply wl_yes; exact rfl; exact rfl; exact rfl); (apply wl_lenSl; exact rfl; exact rfl); (apply wl_yes; exact rfl; exact rfl; exact rfl); (apply wl_leq; exact rfl; exact rfl; exact rfl); (apply wl_pick_t; exact rfl; exact rfl; exact rfl); (apply wl_move; exact rfl; exact rfl))
    refine wl_part rfl rfl (fun h2 => ?_) (fun h2 => ?_)
    rotate_left
    · ((apply wl_no; exact rfl; exact rfl; exact rfl; exact rfl; exact rfl); (apply wl_no; exact rfl; exact rfl; exact rfl; exact rfl; exact rfl); (apply wl_no; exact rfl; exact rfl; exact rfl; exact rfl; exact rfl); (apply wl_no; exact rfl; exact rfl; exact rfl; exact rfl; exact rfl); (apply wl_pick_f; exact rfl; exact rfl; exact rfl); (apply wl_move; exact rfl; exact rfl); (apply wl_no; exact rfl; exact rfl; exact rfl; exact rfl; exact rfl); (apply wl_no; exact rfl; exact rfl; exact rfl; exact rfl; exact rfl); (apply wl_no; exact rfl; exact rfl; exact rfl; exact rfl; exact rfl); (apply wl_pick_f; exact rfl; exact rfl; exact rfl); (apply wl_assign; exact rfl; exact rfl); refine WL_nil ?_; refine th_norm ?_; refine W_ret ?_; refine rt_norm ?_)
      (apply res1; exact rfl; exact rfl; exact ⟨(congrArg (fun b => AV.val (Value.bool b)) (by simp at h2; rw [h1', show decide (f.bs.length ≤ 10) = false from by simp; omega]; rfl)), rfl⟩)
    · have h2' : decide (f.bs.length ≤ 10) = true := by simp at h2 ⊢; omega
      ((apply wl_yes; exact rfl; exact rfl; exact rfl); (apply wl_field; exact rfl; (repeat (first | exact At.here | apply At.there)); exact rfl); (apply wl_yes; exact rfl; exact rfl; exact rfl); (apply wl_load1; (first | exact .inl rfl | exact .inr ⟨rfl, rfl⟩); (repeat (first | exact At.here | apply At.there)); exact rfl; exact rfl); (apply wl_yes; exact rfl; exact rfl; exact rfl); (apply wl_lenSl; exact rfl; exact rfl); (apply wl_yes; exact rfl; exact rfl; exact rfl); (apply wl_leq; exact rfl; exact rfl; exact rfl); (apply wl_pick_t; exact rfl; exact rfl; exact rfl); (apply wl_move; exact rfl; exact rfl))
      refine wl_part rfl rfl (fun h3 => ?_) (fun h3 => ?_)
      rotate_left
      · ((apply wl_no; exact rfl; exact rfl; exact rfl; exact rfl; exact rfl); (apply wl_no; exact rfl; exact rfl; exact rfl; exact rfl; exact rfl); (apply wl_no; exact rfl; exact rfl; exact rfl; exact rfl; exact rfl); (apply wl_pick_f; exact rfl; exact rfl; exact rfl); (apply wl_assign; exact rfl; exact rfl); refine WL_nil ?_; refine th_norm ?_; refine W_ret ?_; refine rt_norm ?_)
        (apply res1; exact rfl; exact rfl; exact ⟨(congrArg (fun b => AV.val (Value.bool b)) (by simp at h3; rw [h1', h2', show decide (f.ps.length ≤ 12) = false from by simp; omega]; rfl)), rfl⟩)
      · have h3' : decide (f.ps.length ≤ 12) = true := by simp at h3 ⊢; omega
        ((apply wl_yes; exact rfl; exact rfl; exact rfl); (apply wl_field; exact rfl; (repeat (first | exact At.here | apply At.there)); exact rfl); (apply wl_yes; exact rfl; exact rfl; exact rfl); (apply wl_load1; (first | exact .inl rfl | exact .inr ⟨rfl, rfl⟩); (repeat (first | exact At.here | apply At.there)); exact rfl; exact rfl); (apply wl_yes; exact rfl; exact rfl; exact rfl))
        (first | (apply wl_call (rising_con f.ids (by omega)); exact rfl; exact rfl) | (apply wl_callR (rising_con f.ids (by omega)); exact rfl; (repeat (first | exact At.here | apply At.there)); exact rfl))
        ((apply wl_pick_t; exact rfl; exact rfl; exact rfl); (apply wl_assign; exact rfl; exact rfl); refine WL_nil ?_; refine th_norm ?_; refine W_ret ?_; refine rt_norm ?_)
        (apply res1; exact rfl; exact rfl; exact ⟨(congrArg (fun b => AV.val (Value.bool b)) (by rw [h1', h2', h3']; rfl)), rfl⟩)
end Go.Proofs.YtbkellknlcageaaDoor.Sw
/- Payments and stakes: the checks that lean on closures. -/
namespace Go.Proofs.YtbkellknlcageaaDoor.Sw
open Go.RowKit Go Go.Shelf Go.Proofs
set_option maxRecDepth 20000 in
theorem chk41_con (f : Flo) (x : Pay) (hl : f.ids.length ≤ 1000000) : Con Tryd.prog 223 [.agg (payC x), .fp 4 (flC f)] [] (Is (.val (.bool (!payOk f.ids x))) []) := by
  refine con_of Tryd.func223 rfl (enters_of Tryd.func223 (by kernel_rfl) rfl) rfl ?_; intro n w0 F0 G0
  (refine W_seq ?_; refine W_region ?_; (apply wl_boxv; exact rfl; exact inferInstance; exact rfl; intro p hp); (apply wl_assign; exact rfl; exact rfl); refine WL_nil ?_; refine th_norm ?_; refine W_seq ?_; refine W_region ?_; (apply wl_loadEN; exact rfl; (case hk => first | assumption | omega | exact Nat.one_pos | (simp; omega)); exact rfl; exact rfl); (apply wl_loadN; (first | exact .inl rfl | exact .inr ⟨rfl, rfl⟩); (repeat (first | exact At.here | apply At.there)); exact rfl; exact rfl))
  (first | (apply wl_call (made_con f x hl); exact rfl; exact rfl) | (apply wl_callR (made_con f x hl); exact rfl; (repeat (first | exact At.here | apply At.there)); exact rfl))
  ((apply wl_not; exact rfl; exact rfl); (apply wl_assign; exact rfl; exact rfl); refine WL_nil ?_; refine th_norm ?_; refine W_ret ?_; refine rt_norm ?_)
  (apply res1; exact rfl; exact rfl; exact ⟨rfl, rfl⟩)
set_option maxRecDepth 20000 in
theorem chk31_con (s : Stk) : Con Tryd.prog 220 [.agg (stC s)] [] (Is (.val (.bool (!(decide (1 ≤ s.pt) && decide (s.pt ≤ 9))))) []) := by
  refine con_of Tryd.func220 rfl (enters_of Tryd.func220 (by kernel_rfl) rfl) rfl ?_; intro n w0 F0 G0
  (refine W_seq ?_; refine W_region ?_; (apply wl_boxv; exact rfl; exact inferInstance; exact rfl; intro p hp); (apply wl_assign; exact rfl; exact rfl); refine WL_nil ?_; refine th_norm ?_; refine W_seq ?_; refine W_region ?_; (apply wl_field; exact rfl; (repeat (first | exact At.here | apply At.there)); exact rfl); (apply wl_load1; (first | exact .inl rfl | exact .inr ⟨rfl, rfl⟩); (repeat (first | exact At.here | apply At.there)); exact rfl; exact rfl))
  (apply wl_litF iC; exact inferInstance; exact inferInstance; exact inferInstance; (repeat (first | exact Elems.nil | (apply Elems.cons; exact rfl; exact inferInstance; exact rfl))); exact rfl; (first | exact (of_decide_eq_true rfl) | decide | (simp; done) | (simp; omega)); exact rfl)
  skip
  (first | (apply wl_call (inOne_con _ _ _); exact rfl; exact rfl) | (apply wl_callR (inOne_con _ _ _); exact rfl; (repeat (first | exact At.here | apply At.there)); exact rfl))
  ((apply wl_not; exact rfl; exact rfl); (apply wl_assign; exact rfl; exact rfl); refine WL_nil ?_; refine th_norm ?_; refine W_ret ?_; refine rt_norm ?_)
  (apply res1; exact rfl; exact rfl; exact ⟨rfl, rfl⟩)
set_option maxRecDepth 20000 in
theorem indexFuncS_con (xs : List Stk) (k : FuncId) (caps : List AV) (p : Stk → Bool) (hl : xs.length ≤ 1000000) (hc : ∀ x ∈ xs, Con Tryd.prog k ([.agg (stC x)] ++ caps) [] (Is (.val (.bool (p x))) [])) : Con Tryd.prog 224 [.sl 2 stC xs, .clo k caps] [] (Is (.val (.int .i64 (fiX p xs))) []) := by
  refine con_of Tryd.func224 rfl (enters_of Tryd.func224 (by kernel_rfl) rfl) rfl ?_; intro n w0 F0 G0
  (refine W_seq ?_; refine W_region ?_; (apply wl_assign; exact rfl; exact rfl); refine WL_nil ?_; refine th_norm ?_; refine W_seq ?_; refine W_seq ?_; refine W_region ?_; (apply wl_move; exact rfl; exact rfl); (apply wl_lenSl; exact rfl; exact rfl); (apply wl_move; exact rfl; exact rfl); refine WL_nil ?_; refine th_norm ?_; refine W_block ?_)
  refine W_loopJ (fun (m : Nat) => ⟨[(0, .sl 2 stC xs), (1, .clo k caps), (7, .val (.int .i64 xs.length)), (8, .val (.int .i64 m))], []⟩) (fun m => m ≤ xs.length ∧ (xs.take m).any p = false) (fun m => xs.length - m) 0 (fun _ _ st => st_sub2 st (by (repeat (first | exact trivial | refine ⟨rfl, ?_⟩))) (by (repeat (first | exact SubP.nil | (apply SubP.cons; (repeat (first | exact Rm.here | apply Rm.there))))))) ?hj0 ?round
  case hj0 => simp
  case round =>
    rintro m ⟨hk, hno⟩
    (refine W_seq ?_; refine W_region ?_; (apply wl_lss; exact rfl; exact rfl; exact rfl); refine WL_nil ?_; refine th_norm ?_; refine W_seq ?_)
    refine w_cond rfl (fun hlt => ?_) (fun hlt => ?_)
    · have hlt' : m < xs.length := by simpa using hlt
      (refine W_skip ?_; refine th_norm ?_; refine W_seq ?_; refine W_block ?_; refine W_seq ?_; refine W_region ?_; (apply wl_move; exact rfl; exact rfl); (apply wl_assign; exact rfl; exact rfl); refine WL_nil ?_; refine th_norm ?_; refine W_seq ?_; refine W_region ?_; (apply wl_move; exact rfl; exact rfl); (apply wl_move; exact rfl; exact rfl); (apply wl_move; exact rfl; exact rfl); (apply wl_indexSl; exact rfl; exact rfl; exact rfl; (first | assumption | omega | (simp; omega)); exact rfl); (apply wl_loadEN; exact rfl; (case hk => first | assumption | omega | exact Nat.one_pos | (simp; omega)); exact rfl; exact rfl))
      (apply wl_callV (hc xs[m] (List.getElem_mem hlt')); exact rfl; exact rfl; exact rfl)
      (refine WL_nil ?_; refine th_norm ?_)
      refine w_cond rfl (fun he => ?_) (fun he => ?_)
      · (refine W_seq ?_; refine W_region ?_; (apply wl_move; exact rfl; exact rfl); (apply wl_assign; exact rfl; exact rfl); refine WL_nil ?_; refine th_norm ?_; refine W_ret ?_; refine bl_ret ?_; refine th_ret ?_; refine th_ret ?_; refine bl_ret ?_; refine th_ret ?_; refine rt_norm ?_)
        (apply res1; exact rfl; exact rfl; exact ⟨(congrArg (fun b => AV.val (Value.int .i64 b)) (fiX_at hlt' hno he).symm), rfl⟩)
      · (refine W_skip ?_; refine bl_norm ?_; refine th_norm ?_; refine W_region ?_; (apply wl_add; exact rfl; exact rfl; omega; omega; exact rfl); (apply wl_move; exact rfl; exact rfl); refine WL_nil ?_; refine th_norm ?_)
        (refine ⟨m + 1, fun _ _ st => st_sub2 st ?_ ?_, ?_, ?_⟩; (repeat (first | exact trivial | refine ⟨rfl, ?_⟩)); (repeat (first | exact SubP.nil | (apply SubP.cons; (repeat (first | exact Rm.here | apply Rm.there))))))
        · refine ⟨by omega, ?_⟩
          rw [List.take_succ_eq_append_getElem hlt', List.any_append, hno]
          simpa using he
        · omega
    · (refine W_exit ?_; refine th_exit ?_; refine th_exit ?_; refine bl_eq ?_; refine th_norm ?_; refine W_seq ?_; refine W_region ?_; (apply wl_assign; exact rfl; exact rfl); refine WL_nil ?_; refine th_norm ?_; refine W_ret ?_; refine rt_norm ?_)
      have hkk : m = xs.length := by simp at hlt; omega
      subst hkk
      rw [List.take_length] at hno
      (apply res1; exact rfl; exact rfl; exact ⟨(congrArg (fun b => AV.val (Value.int .i64 b)) (fiX_none hno).symm), rfl⟩)
set_option maxRecDepth 20000 in
theorem containsFuncS_con (xs : List Stk) (k : FuncId) (caps : List AV) (p : Stk → Bool) (hl : xs.length ≤ 1000000) (hc : ∀ x ∈ xs, Con Tryd.prog k ([.agg (stC x)] ++ caps) [] (Is (.val (.bool (p x))) [])) : Con Tryd.prog 219 [.sl 2 stC xs, .clo k caps] [] (Is (.val (.bool (xs.any p))) []) := by
  refine con_of Tryd.func219 rfl (enters_of Tryd.func219 (by kernel_rfl) rfl) rfl ?_; intro n w0 F0 G0
  (refine W_seq ?_; refine W_region ?_; (apply wl_assign; exact rfl; exact rfl); refine WL_nil ?_; refine th_norm ?_; refine W_seq ?_; refine W_region ?_; (apply wl_move; exact rfl; exact rfl); (apply wl_move; exact rfl; exact rfl))
  (first | (apply wl_call (indexFuncS_con xs k caps p hl hc); exact rfl; exact rfl) | (apply wl_callR (indexFuncS_con xs k caps p hl hc); exact rfl; (repeat (first | exact At.here | apply At.there)); exact rfl))
  ((apply wl_geq; exact rfl; exact rfl; exact rfl); (apply wl_assign; exact rfl; exact rfl); refine WL_nil ?_; refine th_norm ?_; refine W_ret ?_; refine rt_norm ?_)
  (apply res1; exact rfl; exact rfl; exact ⟨(congrArg (fun b => AV.val (Value.bool b)) fiX_ge), rfl⟩)
set_option maxRecDepth 20000 in
theorem indexFuncP_con (xs : List Pay) (k : FuncId) (caps : List AV) (p : Pay → Bool) (hl : xs.length ≤ 1000000) (hc : ∀ x ∈ xs, Con Tryd.prog k ([.agg (payC x)] ++ caps) [] (Is (.val (.bool (p x))) [])) : Con Tryd.prog 225 [.sl 3 payC xs, .clo k caps] [] (Is (.val (.int .i64 (fiX p xs))) []) := by
  refine con_of Tryd.func225 rfl (enters_of Tryd.func225 (by kernel_rfl) rfl) rfl ?_; intro n w0 F0 G0
  (refine W_seq ?_; refine W_region ?_; (apply wl_assign; exact rfl; exact rfl); refine WL_nil ?_; refine th_norm ?_; refine W_seq ?_; refine W_seq ?_; refine W_region ?_; (apply wl_move; exact rfl; exact rfl); (apply wl_lenSl; exact rfl; exact rfl); (apply wl_move; exact rfl; exact rfl); refine WL_nil ?_; refine th_norm ?_; refine W_block ?_)
  refine W_loopJ (fun (m : Nat) => ⟨[(0, .sl 3 payC xs), (1, .clo k caps), (7, .val (.int .i64 xs.length)), (8, .val (.int .i64 m))], []⟩) (fun m => m ≤ xs.length ∧ (xs.take m).any p = false) (fun m => xs.length - m) 0 (fun _ _ st => st_sub2 st (by (repeat (first | exact trivial | refine ⟨rfl, ?_⟩))) (by (repeat (first | exact SubP.nil | (apply SubP.cons; (repeat (first | exact Rm.here | apply Rm.there))))))) ?hj0 ?round
  case hj0 => simp
  case round =>
    rintro m ⟨hk, hno⟩
    (refine W_seq ?_; refine W_region ?_; (apply wl_lss; exact rfl; exact rfl; exact rfl); refine WL_nil ?_; refine th_norm ?_; refine W_seq ?_)
    refine w_cond rfl (fun hlt => ?_) (fun hlt => ?_)
    · have hlt' : m < xs.length := by simpa using hlt
      (refine W_skip ?_; refine th_norm ?_; refine W_seq ?_; refine W_block ?_; refine W_seq ?_; refine W_region ?_; (apply wl_move; exact rfl; exact rfl); (apply wl_assign; exact rfl; exact rfl); refine WL_nil ?_; refine th_norm ?_; refine W_seq ?_; refine W_region ?_; (apply wl_move; exact rfl; exact rfl); (apply wl_move; exact rfl; exact rfl); (apply wl_move; exact rfl; exact rfl); (apply wl_indexSl; exact rfl; exact rfl; exact rfl; (first | assumption | omega | (simp; omega)); exact rfl); (apply wl_loadEN; exact rfl; (case hk => first | assumption | omega | exact Nat.one_pos | (simp; omega)); exact rfl; exact rfl))
      (apply wl_callV (hc xs[m] (List.getElem_mem hlt')); exact rfl; exact rfl; exact rfl)
      (refine WL_nil ?_; refine th_norm ?_)
      refine w_cond rfl (fun he => ?_) (fun he => ?_)
      · (refine W_seq ?_; refine W_region ?_; (apply wl_move; exact rfl; exact rfl); (apply wl_assign; exact rfl; exact rfl); refine WL_nil ?_; refine th_norm ?_; refine W_ret ?_; refine bl_ret ?_; refine th_ret ?_; refine th_ret ?_; refine bl_ret ?_; refine th_ret ?_; refine rt_norm ?_)
        (apply res1; exact rfl; exact rfl; exact ⟨(congrArg (fun b => AV.val (Value.int .i64 b)) (fiX_at hlt' hno he).symm), rfl⟩)
      · (refine W_skip ?_; refine bl_norm ?_; refine th_norm ?_; refine W_region ?_; (apply wl_add; exact rfl; exact rfl; omega; omega; exact rfl); (apply wl_move; exact rfl; exact rfl); refine WL_nil ?_; refine th_norm ?_)
        (refine ⟨m + 1, fun _ _ st => st_sub2 st ?_ ?_, ?_, ?_⟩; (repeat (first | exact trivial | refine ⟨rfl, ?_⟩)); (repeat (first | exact SubP.nil | (apply SubP.cons; (repeat (first | exact Rm.here | apply Rm.there))))))
        · refine ⟨by omega, ?_⟩
          rw [List.take_succ_eq_append_getElem hlt', List.any_append, hno]
          simpa using he
        · omega
    · (refine W_exit ?_; refine th_exit ?_; refine th_exit ?_; refine bl_eq ?_; refine th_norm ?_; refine W_seq ?_; refine W_region ?_; (apply wl_assign; exact rfl; exact rfl); refine WL_nil ?_; refine th_norm ?_; refine W_ret ?_; refine rt_norm ?_)
      have hkk : m = xs.length := by simp at hlt; omega
      subst hkk
      rw [List.take_length] at hno
      (apply res1; exact rfl; exact rfl; exact ⟨(congrArg (fun b => AV.val (Value.int .i64 b)) (fiX_none hno).symm), rfl⟩)
set_option maxRecDepth 20000 in
theorem containsFuncP_con (xs : List Pay) (k : FuncId) (caps : List AV) (p : Pay → Bool) (hl : xs.length ≤ 1000000) (hc : ∀ x ∈ xs, Con Tryd.prog k ([.agg (payC x)] ++ caps) [] (Is (.val (.bool (p x))) [])) : Con Tryd.prog 222 [.sl 3 payC xs, .clo k caps] [] (Is (.val (.bool (xs.any p))) []) := by
  refine con_of Tryd.func222 rfl (enters_of Tryd.func222 (by kernel_rfl) rfl) rfl ?_; intro n w0 F0 G0
  (refine W_seq ?_; refine W_region ?_; (apply wl_assign; exact rfl; exact rfl); refine WL_nil ?_; refine th_norm ?_; refine W_seq ?_; refine W_region ?_; (apply wl_move; exact rfl; exact rfl); (apply wl_move; exact rfl; exact rfl))
  (first | (apply wl_call (indexFuncP_con xs k caps p hl hc); exact rfl; exact rfl) | (apply wl_callR (indexFuncP_con xs k caps p hl hc); exact rfl; (repeat (first | exact At.here | apply At.there)); exact rfl))
  ((apply wl_geq; exact rfl; exact rfl; exact rfl); (apply wl_assign; exact rfl; exact rfl); refine WL_nil ?_; refine th_norm ?_; refine W_ret ?_; refine rt_norm ?_)
  (apply res1; exact rfl; exact rfl; exact ⟨(congrArg (fun b => AV.val (Value.bool b)) fiX_ge), rfl⟩)
end Go.Proofs.YtbkellknlcageaaDoor.Sw
/- The program's check of payments. -/
namespace Go.Proofs.YtbkellknlcageaaDoor.Sw
open Go.RowKit Go Go.Shelf Go.Proofs
theorem paysOk_any (ids : List Int) : ∀ (l : List Pay), (!l.any fun x => !payOk ids x) = paysOk ids l
  | [] => rfl
  | x :: t => by
    rw [paysOk, ← paysOk_any ids t, List.any_cons]
    cases payOk ids x <;> simp
set_option maxRecDepth 20000 in
theorem check4_con (f : Flo) (hS : Sml f) : Con Tryd.prog 221 [.agg (flC f)] [] (Is (.val (.bool (paysOk f.ids f.ps))) []) := by
  have hidsl := hS.ids
  have hpsl := hS.ps
  refine con_of Tryd.func221 rfl (enters_of Tryd.func221 (by kernel_rfl) rfl) rfl ?_; intro n w0 F0 G0
  (refine W_seq ?_; refine W_region ?_; (apply wl_boxv; exact rfl; exact inferInstance; exact rfl; intro p hp); (apply wl_assign; exact rfl; exact rfl); refine WL_nil ?_; refine th_norm ?_; refine W_seq ?_; refine W_region ?_; (apply wl_field; exact rfl; (repeat (first | exact At.here | apply At.there)); exact rfl); (apply wl_load1; (first | exact .inl rfl | exact .inr ⟨rfl, rfl⟩); (repeat (first | exact At.here | apply At.there)); exact rfl; exact rfl); (apply wl_makeClo; exact rfl; exact rfl))
  (apply WL_frzC 5 0 4; exact rfl; exact rfl; (repeat (first | exact Rm.here | apply Rm.there)))
  (first | (apply wl_call (containsFuncP_con f.ps _ _ _ (by omega) (fun x _ => chk41_con f x (by omega))); exact rfl; exact rfl) | (apply wl_callR (containsFuncP_con f.ps _ _ _ (by omega) (fun x _ => chk41_con f x (by omega))); exact rfl; (repeat (first | exact At.here | apply At.there)); exact rfl))
  ((apply wl_not; exact rfl; exact rfl); (apply wl_assign; exact rfl; exact rfl); refine WL_nil ?_; refine th_norm ?_; refine W_ret ?_; refine rt_norm ?_)
  (apply res1; exact rfl; exact rfl; exact ⟨(congrArg (fun b => AV.val (Value.bool b)) (paysOk_any _ _)), rfl⟩)
end Go.Proofs.YtbkellknlcageaaDoor.Sw
/- The floors of stakes. -/
namespace Go.Proofs.YtbkellknlcageaaDoor.Sw
open Go.RowKit Go Go.Shelf Go.Proofs
set_option maxRecDepth 20000 in
theorem floorsOf_con (l : List Stk) (hl : l.length ≤ 100000) : Con Tryd.prog 218 [.sl 2 stC l] [] (Is (.sl 1 iC (l.map Stk.fl)) []) := by
  refine con_of Tryd.func218 rfl (enters_of Tryd.func218 (by kernel_rfl) rfl) rfl ?_; intro n w0 F0 G0
  (refine W_seq ?_; refine W_region ?_; (apply wl_assign; exact rfl; exact rfl); refine WL_nil ?_; refine th_norm ?_; refine W_seq ?_; refine W_region ?_; (apply wl_assign; exact rfl; exact rfl); refine WL_nil ?_; refine th_norm ?_; refine W_seq ?_; refine W_seq ?_; refine W_region ?_; (apply wl_move; exact rfl; exact rfl); (apply wl_lenSl; exact rfl; exact rfl); (apply wl_move; exact rfl; exact rfl); refine WL_nil ?_; refine th_norm ?_; refine W_block ?_)
  refine W_loopJ (fun (b : Nat × Value) => ⟨[(3, .val b.2), (6, .sl 2 stC l), (7, .val (.int .i64 l.length)), (8, .val (.int .i64 b.1))], [.row b.2 3 1 iC ((l.map Stk.fl).take b.1)]⟩) (fun b => b.1 ≤ l.length) (fun b => l.length - b.1) (0, .slice none 0 0) (fun _ _ st => st_sub2 (st_nil 3 1 iC st) (by (repeat (first | exact trivial | refine ⟨rfl, ?_⟩))) (by (repeat (first | exact SubP.nil | (apply SubP.cons; (repeat (first | exact Rm.here | apply Rm.there))))))) (Nat.zero_le _) ?_
  rintro ⟨k, v⟩ hk
  dsimp only at hk ⊢
  have hll : ((l.map Stk.fl).take k).length ≤ 100000 := by rw [List.length_take, List.length_map]; omega
  (refine W_seq ?_; refine W_region ?_; (apply wl_lss; exact rfl; exact rfl; exact rfl); refine WL_nil ?_; refine th_norm ?_; refine W_seq ?_)
  refine w_cond rfl (fun hlt => ?_) (fun hlt => ?_)
  · have hlt' : k < l.length := by simpa using hlt
    have htk : (l.map Stk.fl).take (k + 1) = (l.map Stk.fl).take k ++ [l[k].fl] := by rw [List.take_succ_eq_append_getElem (by simpa using hlt'), List.getElem_map]
    (refine W_skip ?_; refine th_norm ?_; refine W_seq ?_; refine W_block ?_; refine W_seq ?_; refine W_region ?_; (apply wl_indexSl; exact rfl; exact rfl; exact rfl; (first | assumption | omega | (simp; omega)); exact rfl); (apply wl_loadEN; exact rfl; (case hk => first | assumption | omega | exact Nat.one_pos | (simp; omega)); exact rfl; exact rfl); (apply wl_alloc; exact rfl; intro p hp); (apply wl_store; (first | exact .inl rfl | exact .inr ⟨rfl, rfl⟩); (repeat (first | exact At.here | apply At.there)); exact rfl; exact inferInstance; exact inferInstance; exact inferInstance; exact rfl; (first | exact (of_decide_eq_true rfl) | (simp; omega) | decide)); refine WL_nil ?_; refine th_norm ?_; refine W_region ?_; (apply wl_move; exact rfl; exact rfl); (apply wl_field; exact rfl; (repeat (first | exact At.here | apply At.there)); exact rfl); (apply wl_load1; (first | exact .inl rfl | exact .inr ⟨rfl, rfl⟩); (repeat (first | exact At.here | apply At.there)); exact rfl; exact rfl))
    (apply wl_litF iC; exact inferInstance; exact inferInstance; exact inferInstance; (repeat (first | exact Elems.nil | (apply Elems.cons; exact rfl; exact inferInstance; exact rfl))); exact rfl; (first | exact (of_decide_eq_true rfl) | decide | (simp; done) | (simp; omega)); exact rfl)
    (first | (apply wl_append; exact rfl; exact rfl; (repeat (first | exact Rm.here | apply Rm.there)); exact inferInstance; exact inferInstance; (first | omega | (simp; omega)); exact rfl) | (apply wl_appendN; exact rfl; exact rfl; exact inferInstance; exact inferInstance; (first | omega | (simp; omega)); exact rfl))
    intro v'
    rw [← htk]
    ((apply wl_assign; exact rfl; exact rfl); refine WL_nil ?_; refine bl_norm ?_; refine th_norm ?_; refine W_region ?_; (apply wl_add; exact rfl; exact rfl; omega; omega; exact rfl); (apply wl_move; exact rfl; exact rfl); refine WL_nil ?_; refine th_norm ?_)
    (refine ⟨(k + 1, v'), fun _ _ st => st_sub2 st ?_ ?_, ?_, ?_⟩; (repeat (first | exact trivial | refine ⟨rfl, ?_⟩)); (repeat (first | exact SubP.nil | (apply SubP.cons; (repeat (first | exact Rm.here | apply Rm.there))))))
    · dsimp only; omega
    · dsimp only; omega
  · have hkk : k = l.length := by simp at hlt; omega
    subst hkk
    rw [List.take_of_length_le (by simp)]
    (apply W_frz 3; exact rfl; (repeat (first | exact Rm.here | apply Rm.there)))
    (refine W_exit ?_; refine th_exit ?_; refine th_exit ?_; refine bl_eq ?_; refine th_norm ?_; refine W_seq ?_; refine W_region ?_; (apply wl_move; exact rfl; exact rfl); (apply wl_assign; exact rfl; exact rfl); refine WL_nil ?_; refine th_norm ?_; refine W_ret ?_; refine rt_norm ?_)
    (apply res1; exact rfl; exact rfl; exact ⟨rfl, rfl⟩)
end Go.Proofs.YtbkellknlcageaaDoor.Sw
/- Plain: the program's checks tell what the reference's 'Floors' tells. -/
namespace Go.Proofs.YtbkellknlcageaaDoor.Sw
open Go.RowKit Go Go.Shelf Go.Proofs
def ofB (xs all : List Int) : Bool := rises 0 xs && !xs.any fun n => !decide (n ∈ all)
theorem rises_all : ∀ {l : List Int} {last : Int}, rises last l = true → ∀ x ∈ l, last + 1 ≤ x ∧ x ≤ 9999
  | [], _, _, x, hx => by cases hx
  | y :: t, last, h, x, hx => by
    simp only [rises, Bool.and_eq_true, decide_eq_true_eq] at h
    rcases List.mem_cons.1 hx with rfl | hx
    · exact h.1
    · have := rises_all h.2 x hx; omega
theorem ofB_two {ids : List Int} (h : rises 0 ids = true) (a b : Int) : ofB [a, b] ids = (decide (a ∈ ids) && decide (b ∈ ids) && decide (a < b)) := by
  unfold ofB
  by_cases h1 : a ∈ ids
  · by_cases h2 : b ∈ ids
    · have k1 := rises_all h a h1
      have k2 := rises_all h b h2
      by_cases h3 : a < b
      · simp [rises, h1, h2, h3]; omega
      · simp [rises, h1, h2, h3]; omega
    · simp [h2]
  · simp [h1]
end Go.Proofs.YtbkellknlcageaaDoor.Sw
