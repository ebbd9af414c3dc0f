/- The program's 'in', 'rising', 'of', and what of Go's slices they lean on. -/
import Derived.Test.YtbkellknlcageaaDoorFloorR2
namespace Go.Proofs.YtbkellknlcageaaDoor.Sw
open Go.RowKit Go Go.Shelf Go.Proofs
set_option maxRecDepth 20000 in
theorem indexI_con (xs : List Int) (x : Int) (hl : xs.length ≤ 1000000) : Con Tryd.prog 111 [.sl 1 iC xs, .val (.int .i64 x)] [] (Is (.val (.int .i64 (ixOf xs x))) []) := by
  refine con_of Tryd.func111 rfl (enters_of Tryd.func111 (by kernel_rfl) rfl) rfl ?_; intro n w0 F0 G0
  (refine W_seq ?_; refine W_region ?_; (apply wl_assign; exact rfl; exact rfl); refine WL_nil ?_; refine th_norm ?_; refine W_seq ?_; refine W_seq ?_; refine W_region ?_; (apply wl_move; exact rfl; exact rfl); (apply wl_lenSl; exact rfl; exact rfl); (apply wl_move; exact rfl; exact rfl); refine WL_nil ?_; refine th_norm ?_; refine W_block ?_)
  refine W_loopJ (fun (k : Nat) => ⟨[(0, .sl 1 iC xs), (1, .val (.int .i64 x)), (7, .val (.int .i64 xs.length)), (8, .val (.int .i64 k))], []⟩) (fun k => k ≤ xs.length ∧ x ∉ xs.take k) (fun k => xs.length - k) 0 (fun _ _ st => st_sub2 st (by (repeat (first | exact trivial | refine ⟨rfl, ?_⟩))) (by (repeat (first | exact SubP.nil | (apply SubP.cons; (repeat (first | exact Rm.here | apply Rm.there))))))) ?hj0 ?round
  case hj0 => simp
  case round =>
    rintro k ⟨hk, hno⟩
    (refine W_seq ?_; refine W_region ?_; (apply wl_lss; exact rfl; exact rfl; exact rfl); refine WL_nil ?_; refine th_norm ?_; refine W_seq ?_)
    refine w_cond rfl (fun hlt => ?_) (fun hlt => ?_)
    · have hlt' : k < xs.length := by simpa using hlt
      (refine W_skip ?_; refine th_norm ?_; refine W_seq ?_; refine W_block ?_; refine W_seq ?_; refine W_region ?_; (apply wl_move; exact rfl; exact rfl); (apply wl_assign; exact rfl; exact rfl); refine WL_nil ?_; refine th_norm ?_; refine W_seq ?_; refine W_region ?_; (apply wl_move; exact rfl; exact rfl); (apply wl_move; exact rfl; exact rfl); (apply wl_move; exact rfl; exact rfl); (apply wl_indexSl; exact rfl; exact rfl; exact rfl; (first | assumption | omega | (simp; omega)); exact rfl); (apply wl_loadE1; exact rfl; (case hk => first | assumption | omega | exact Nat.one_pos | (simp; omega)); exact rfl; exact rfl); (apply wl_eql; exact rfl; exact rfl; exact rfl); refine WL_nil ?_; refine th_norm ?_)
      refine w_cond rfl (fun he => ?_) (fun he => ?_)
      · (refine W_seq ?_; refine W_region ?_; (apply wl_move; exact rfl; exact rfl); (apply wl_assign; exact rfl; exact rfl); refine WL_nil ?_; refine th_norm ?_; refine W_ret ?_; refine bl_ret ?_; refine th_ret ?_; refine th_ret ?_; refine bl_ret ?_; refine th_ret ?_; refine rt_norm ?_)
        (apply res1; exact rfl; exact rfl; exact ⟨(congrArg (fun b => AV.val (Value.int .i64 b)) (ixOf_at hlt' hno (by simp at he; exact he.symm)).symm), rfl⟩)
      · (refine W_skip ?_; refine bl_norm ?_; refine th_norm ?_; refine W_region ?_; (apply wl_add; exact rfl; exact rfl; omega; omega; exact rfl); (apply wl_move; exact rfl; exact rfl); refine WL_nil ?_; refine th_norm ?_)
        (refine ⟨k + 1, fun _ _ st => st_sub2 st ?_ ?_, ?_, ?_⟩; (repeat (first | exact trivial | refine ⟨rfl, ?_⟩)); (repeat (first | exact SubP.nil | (apply SubP.cons; (repeat (first | exact Rm.here | apply Rm.there))))))
        · refine ⟨by omega, ?_⟩
          rw [List.take_succ_eq_append_getElem hlt', List.mem_append, not_or]
          exact ⟨hno, by simp at he; simpa using he⟩
        · omega
    · (refine W_exit ?_; refine th_exit ?_; refine th_exit ?_; refine bl_eq ?_; refine th_norm ?_; refine W_seq ?_; refine W_region ?_; (apply wl_assign; exact rfl; exact rfl); refine WL_nil ?_; refine th_norm ?_; refine W_ret ?_; refine rt_norm ?_)
      have hkk : k = xs.length := by simp at hlt; omega
      subst hkk
      rw [List.take_length] at hno
      (apply res1; exact rfl; exact rfl; exact ⟨(congrArg (fun b => AV.val (Value.int .i64 b)) (ixOf_none hno).symm), rfl⟩)
set_option maxRecDepth 20000 in
theorem containsI_con (xs : List Int) (x : Int) (hl : xs.length ≤ 1000000) : Con Tryd.prog 109 [.sl 1 iC xs, .val (.int .i64 x)] [] (Is (.val (.bool (decide (x ∈ xs)))) []) := by
  refine con_of Tryd.func109 rfl (enters_of Tryd.func109 (by kernel_rfl) rfl) rfl ?_; intro n w0 F0 G0
  (refine W_seq ?_; refine W_region ?_; (apply wl_assign; exact rfl; exact rfl); refine WL_nil ?_; refine th_norm ?_; refine W_seq ?_; refine W_region ?_; (apply wl_move; exact rfl; exact rfl); (apply wl_move; exact rfl; exact rfl))
  (first | (apply wl_call (indexI_con xs x hl); exact rfl; exact rfl) | (apply wl_callR (indexI_con xs x hl); exact rfl; (repeat (first | exact At.here | apply At.there)); exact rfl))
  ((apply wl_geq; exact rfl; exact rfl; exact rfl); (apply wl_assign; exact rfl; exact rfl); refine WL_nil ?_; refine th_norm ?_; refine W_ret ?_; refine rt_norm ?_)
  (apply res1; exact rfl; exact rfl; exact ⟨(congrArg (fun b => AV.val (Value.bool b)) ixOf_ge), rfl⟩)
/-- The index of the first that is so; -1 if there is none. -/
def fiX {α : Type} (p : α → Bool) (xs : List α) : Int := if xs.any p = true then (xs.findIdx p : Int) else -1
theorem fiX_none {α : Type} {p : α → Bool} {xs : List α} (h : xs.any p = false) : fiX p xs = -1 := by unfold fiX; rw [if_neg (by rw [h]; simp)]
theorem fiX_at {α : Type} {p : α → Bool} {xs : List α} {k : Nat} (hk : k < xs.length) (h1 : (xs.take k).any p = false) (h2 : p xs[k] = true) : fiX p xs = k := by
  unfold fiX
  rw [if_pos (List.any_eq_true.2 ⟨_, List.getElem_mem hk, h2⟩)]
  congr 1
  rw [List.findIdx_eq hk]
  refine ⟨h2, fun j hj => ?_⟩
  have := List.any_eq_false.1 h1 xs[j] (by
    rw [List.mem_iff_getElem]
    exact ⟨j, by rw [List.length_take]; omega, by rw [List.getElem_take]⟩)
  simpa using this
theorem fiX_ge {α : Type} {p : α → Bool} {xs : List α} : decide (0 ≤ fiX p xs) = xs.any p := by
  unfold fiX
  cases h : xs.any p
  · simp
  · simp
set_option maxRecDepth 20000 in
theorem indexFuncI_con (xs : List Int) (k : FuncId) (caps : List AV) (p : Int → Bool) (hl : xs.length ≤ 1000000) (hc : ∀ x ∈ xs, Con Tryd.prog k ([.val (.int .i64 x)] ++ caps) [] (Is (.val (.bool (p x))) [])) : Con Tryd.prog 152 [.sl 1 iC xs, .clo k caps] [] (Is (.val (.int .i64 (fiX p xs))) []) := by
  refine con_of Tryd.func152 rfl (enters_of Tryd.func152 (by kernel_rfl) rfl) rfl ?_; intro n w0 F0 G0
  (refine W_seq ?_; refine W_region ?_; (apply wl_assign; exact rfl; exact rfl); refine WL_nil ?_; refine th_norm ?_; refine W_seq ?_; refine W_seq ?_; refine W_region ?_; (apply wl_move; exact rfl; exact rfl); (apply wl_lenSl; exact rfl; exact rfl); (apply wl_move; exact rfl; exact rfl); refine WL_nil ?_; refine th_norm ?_; refine W_block ?_)
  refine W_loopJ (fun (m : Nat) => ⟨[(0, .sl 1 iC xs), (1, .clo k caps), (7, .val (.int .i64 xs.length)), (8, .val (.int .i64 m))], []⟩) (fun m => m ≤ xs.length ∧ (xs.take m).any p = false) (fun m => xs.length - m) 0 (fun _ _ st => st_sub2 st (by (repeat (first | exact trivial | refine ⟨rfl, ?_⟩))) (by (repeat (first | exact SubP.nil | (apply SubP.cons; (repeat (first | exact Rm.here | apply Rm.there))))))) ?hj0 ?round
  case hj0 => simp
  case round =>
    rintro m ⟨hk, hno⟩
    (refine W_seq ?_; refine W_region ?_; (apply wl_lss; exact rfl; exact rfl; exact rfl); refine WL_nil ?_; refine th_norm ?_; refine W_seq ?_)
    refine w_cond rfl (fun hlt => ?_) (fun hlt => ?_)
    · have hlt' : m < xs.length := by simpa using hlt
      (refine W_skip ?_; refine th_norm ?_; refine W_seq ?_; refine W_block ?_; refine W_seq ?_; refine W_region ?_; (apply wl_move; exact rfl; exact rfl); (apply wl_assign; exact rfl; exact rfl); refine WL_nil ?_; refine th_norm ?_; refine W_seq ?_; refine W_region ?_; (apply wl_move; exact rfl; exact rfl); (apply wl_move; exact rfl; exact rfl); (apply wl_move; exact rfl; exact rfl); (apply wl_indexSl; exact rfl; exact rfl; exact rfl; (first | assumption | omega | (simp; omega)); exact rfl); (apply wl_loadE1; exact rfl; (case hk => first | assumption | omega | exact Nat.one_pos | (simp; omega)); exact rfl; exact rfl))
      (apply wl_callV (hc xs[m] (List.getElem_mem hlt')); exact rfl; exact rfl; exact rfl)
      (refine WL_nil ?_; refine th_norm ?_)
      refine w_cond rfl (fun he => ?_) (fun he => ?_)
      · (refine W_seq ?_; refine W_region ?_; (apply wl_move; exact rfl; exact rfl); (apply wl_assign; exact rfl; exact rfl); refine WL_nil ?_; refine th_norm ?_; refine W_ret ?_; refine bl_ret ?_; refine th_ret ?_; refine th_ret ?_; refine bl_ret ?_; refine th_ret ?_; refine rt_norm ?_)
        (apply res1; exact rfl; exact rfl; exact ⟨(congrArg (fun b => AV.val (Value.int .i64 b)) (fiX_at hlt' hno he).symm), rfl⟩)
      · (refine W_skip ?_; refine bl_norm ?_; refine th_norm ?_; refine W_region ?_; (apply wl_add; exact rfl; exact rfl; omega; omega; exact rfl); (apply wl_move; exact rfl; exact rfl); refine WL_nil ?_; refine th_norm ?_)
        (refine ⟨m + 1, fun _ _ st => st_sub2 st ?_ ?_, ?_, ?_⟩; (repeat (first | exact trivial | refine ⟨rfl, ?_⟩)); (repeat (first | exact SubP.nil | (apply SubP.cons; (repeat (first | exact Rm.here | apply Rm.there))))))
        · refine ⟨by omega, ?_⟩
          rw [List.take_succ_eq_append_getElem hlt', List.any_append, hno]
          simpa using he
        · omega
    · (refine W_exit ?_; refine th_exit ?_; refine th_exit ?_; refine bl_eq ?_; refine th_norm ?_; refine W_seq ?_; refine W_region ?_; (apply wl_assign; exact rfl; exact rfl); refine WL_nil ?_; refine th_norm ?_; refine W_ret ?_; refine rt_norm ?_)
      have hkk : m = xs.length := by simp at hlt; omega
      subst hkk
      rw [List.take_length] at hno
      (apply res1; exact rfl; exact rfl; exact ⟨(congrArg (fun b => AV.val (Value.int .i64 b)) (fiX_none hno).symm), rfl⟩)
set_option maxRecDepth 20000 in
theorem containsFuncI_con (xs : List Int) (k : FuncId) (caps : List AV) (p : Int → Bool) (hl : xs.length ≤ 1000000) (hc : ∀ x ∈ xs, Con Tryd.prog k ([.val (.int .i64 x)] ++ caps) [] (Is (.val (.bool (p x))) [])) : Con Tryd.prog 125 [.sl 1 iC xs, .clo k caps] [] (Is (.val (.bool (xs.any p))) []) := by
  refine con_of Tryd.func125 rfl (enters_of Tryd.func125 (by kernel_rfl) rfl) rfl ?_; intro n w0 F0 G0
  (refine W_seq ?_; refine W_region ?_; (apply wl_assign; exact rfl; exact rfl); refine WL_nil ?_; refine th_norm ?_; refine W_seq ?_; refine W_region ?_; (apply wl_move; exact rfl; exact rfl); (apply wl_move; exact rfl; exact rfl))
  (first | (apply wl_call (indexFuncI_con xs k caps p hl hc); exact rfl; exact rfl) | (apply wl_callR (indexFuncI_con xs k caps p hl hc); exact rfl; (repeat (first | exact At.here | apply At.there)); exact rfl))
  ((apply wl_geq; exact rfl; exact rfl; exact rfl); (apply wl_assign; exact rfl; exact rfl); refine WL_nil ?_; refine th_norm ?_; refine W_ret ?_; refine rt_norm ?_)
  (apply res1; exact rfl; exact rfl; exact ⟨(congrArg (fun b => AV.val (Value.bool b)) fiX_ge), rfl⟩)
set_option maxRecDepth 20000 in
theorem in1_con (n lo hi : Int) : Con Tryd.prog 126 [.val (.int .i64 n), .fp 1 [.val (.int .i64 lo)], .fp 1 [.val (.int .i64 hi)]] [] (Is (.val (.bool (decide (n < lo) || decide (hi < n)))) []) := by
  refine con_of Tryd.func126 rfl (enters_of Tryd.func126 (by kernel_rfl) rfl) rfl ?_; intro n w0 F0 G0
  (refine W_seq ?_; refine W_region ?_; (apply wl_assign; exact rfl; exact rfl); refine WL_nil ?_; refine th_norm ?_; refine W_seq ?_; refine W_region ?_; (apply wl_move; exact rfl; exact rfl); (apply wl_loadE1; exact rfl; (case hk => first | assumption | omega | exact Nat.one_pos | (simp; omega)); exact rfl; exact rfl); (apply wl_lss; exact rfl; exact rfl; exact rfl); (apply wl_move; exact rfl; exact rfl))
  refine wl_part rfl rfl (fun h => ?_) (fun h => ?_)
  · ((apply wl_no; exact rfl; exact rfl; exact rfl; exact rfl; exact rfl); (apply wl_no; exact rfl; exact rfl; exact rfl; exact rfl; exact rfl); (apply wl_no; exact rfl; exact rfl; exact rfl; exact rfl; exact rfl); (apply wl_pick_t; exact rfl; exact rfl; exact rfl); (apply wl_assign; exact rfl; exact rfl); refine WL_nil ?_; refine th_norm ?_; refine W_ret ?_; refine rt_norm ?_)
    (apply res1; exact rfl; exact rfl; exact ⟨(congrArg (fun b => AV.val (Value.bool b)) (by simp [h])), rfl⟩)
  · ((apply wl_yes; exact rfl; exact rfl; exact rfl); (apply wl_move; exact rfl; exact rfl); (apply wl_yes; exact rfl; exact rfl; exact rfl); (apply wl_loadE1; exact rfl; (case hk => first | assumption | omega | exact Nat.one_pos | (simp; omega)); exact rfl; exact rfl); (apply wl_yes; exact rfl; exact rfl; exact rfl); (apply wl_gtr; exact rfl; exact rfl; exact rfl); (apply wl_pick_f; exact rfl; exact rfl; exact rfl); (apply wl_assign; exact rfl; exact rfl); refine WL_nil ?_; refine th_norm ?_; refine W_ret ?_; refine rt_norm ?_)
    (apply res1; exact rfl; exact rfl; exact ⟨(congrArg (fun b => AV.val (Value.bool b)) (by simp [h])), rfl⟩)
set_option maxRecDepth 20000 in
theorem in_con (lo hi : Int) (xs : List Int) (hl : xs.length ≤ 1000000) : Con Tryd.prog 83 [.val (.int .i64 lo), .val (.int .i64 hi), .sl 1 iC xs] [] (Is (.val (.bool (!xs.any fun n => decide (n < lo) || decide (hi < n)))) []) := by
  refine con_of Tryd.func83 rfl (enters_of Tryd.func83 (by kernel_rfl) rfl) rfl ?_; intro n w0 F0 G0
  (refine W_seq ?_; refine W_region ?_; (apply wl_boxv; exact rfl; exact inferInstance; exact rfl; intro p hp); (apply wl_boxv; exact rfl; exact inferInstance; exact rfl; intro p hp); (apply wl_assign; exact rfl; exact rfl); refine WL_nil ?_; refine th_norm ?_; refine W_seq ?_; refine W_region ?_; (apply wl_move; exact rfl; exact rfl); (apply wl_makeClo; exact rfl; exact rfl))
  (apply WL_frzC 8 0 1; exact rfl; exact rfl; (repeat (first | exact Rm.here | apply Rm.there)))
  (apply WL_frzC 8 1 1; exact rfl; exact rfl; (repeat (first | exact Rm.here | apply Rm.there)))
  (first | (apply wl_call (containsFuncI_con xs _ _ _ hl (fun x _ => in1_con x lo hi)); exact rfl; exact rfl) | (apply wl_callR (containsFuncI_con xs _ _ _ hl (fun x _ => in1_con x lo hi)); exact rfl; (repeat (first | exact At.here | apply At.there)); exact rfl))
  ((apply wl_not; exact rfl; exact rfl); (apply wl_assign; exact rfl; exact rfl); refine WL_nil ?_; refine th_norm ?_; refine W_ret ?_; refine rt_norm ?_)
  (apply res1; exact rfl; exact rfl; exact ⟨rfl, rfl⟩)
end Go.Proofs.YtbkellknlcageaaDoor.Sw
