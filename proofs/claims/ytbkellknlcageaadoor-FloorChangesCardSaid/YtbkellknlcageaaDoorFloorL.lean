/- The program's 'Check'. -/
import Derived.Test.YtbkellknlcageaaDoorFloorK
import Derived.Test.YtbkellknlcageaaDoorSwH
namespace Go.Proofs.YtbkellknlcageaaDoor.Sw
open Go.RowKit Go Go.Shelf Go.Proofs
def chk8 : List AV := [.clo 215 [], .clo 216 [], .clo 217 [], .clo 221 []]
abbrev tab8 : HA := HA.glob 0 chk8
def errF (f : Flo) : Int := if floOk f = true then 0 else 80
def chkA (f : Flo) : Bool := decide (f.ids.length ≤ 6) && decide (f.bs.length ≤ 10) && decide (f.ps.length ≤ 12) && rises 0 f.ids
theorem floOk_of (f : Flo) : floOk f = (chkA f && qusOk f.ids none f.qs && bilsOk f.ids 0 f.bs && paysOk f.ids f.ps) := rfl
set_option maxRecDepth 20000 in
set_option maxHeartbeats 4000000 in
theorem check_con (f : Flo) (hS : Sml f) : Con Tryd.prog 22 [.agg (flC f)] [tab8] (Is (.val (.int .i64 (errF f))) [tab8]) := by
  have hE : errF f = (if (chkA f && qusOk f.ids none f.qs && bilsOk f.ids 0 f.bs && paysOk f.ids f.ps) = true then 0 else 80) := rfl
  rw [hE]
  clear hE
  refine con_of Tryd.func22 rfl (enters_of Tryd.func22 (by kernel_rfl) rfl) rfl ?_; intro n w0 F0 G0
  (refine W_seq ?_; refine W_region ?_; (apply wl_boxv; exact rfl; exact inferInstance; exact rfl; intro p hp); (apply wl_assign; exact rfl; exact rfl); refine WL_nil ?_; refine th_norm ?_; refine W_seq ?_; refine W_seq ?_; refine W_region ?_; (apply wl_loadG; (repeat (first | exact At.here | apply At.there)); exact rfl; exact rfl); (apply wl_move; exact rfl; exact rfl); refine WL_nil ?_; refine th_norm ?_; refine W_block ?_)
  refine W_rounds 5 (WR_step ?_)
  have C0 := check1_con f hS
  rw [show (decide (f.ids.length ≤ 6) && decide (f.bs.length ≤ 10) && decide (f.ps.length ≤ 12) && rises 0 f.ids) = chkA f from rfl] at C0
  (refine W_seq ?_; refine W_region ?_; (apply wl_lss; exact rfl; exact rfl; exact rfl); refine WL_nil ?_; refine th_norm ?_; refine W_seq ?_; (apply w_true; exact rfl); refine W_skip ?_; refine th_norm ?_; refine W_seq ?_; refine W_block ?_; refine W_seq ?_; refine W_region ?_)
  (apply wl_indexVN (e := 122) (n := 1); exact (show Tryd.prog.underlying 123 = some (.array 4 122) by kernel_rfl); exact rfl; exact rfl; exact (show _ = ((0 : Nat) : Int) from rfl); decide; exact (show _ = [AV.clo 215 []] from rfl); exact rfl)
  ((apply wl_alloc; exact rfl; intro p hp); (apply wl_store; (first | exact .inl rfl | exact .inr ⟨rfl, rfl⟩); (repeat (first | exact At.here | apply At.there)); exact rfl; exact inferInstance; exact inferInstance; exact inferInstance; exact rfl; (first | exact (of_decide_eq_true rfl) | (simp; omega) | decide)); refine WL_nil ?_; refine th_norm ?_; refine W_seq ?_; refine W_region ?_; (apply wl_field; exact rfl; (repeat (first | exact At.here | apply At.there)); exact rfl); (apply wl_load1; (first | exact .inl rfl | exact .inr ⟨rfl, rfl⟩); (repeat (first | exact At.here | apply At.there)); exact rfl; exact rfl); (apply wl_loadN; (first | exact .inl rfl | exact .inr ⟨rfl, rfl⟩); (repeat (first | exact At.here | apply At.there)); exact rfl; exact rfl))
  (apply wl_callV0 (C0); exact rfl; exact rfl; exact rfl)
  ((apply wl_not; exact rfl; exact rfl); refine WL_nil ?_; refine th_norm ?_)
  cases h0 : chkA f with
  | false =>
    simp only [Bool.true_and, Bool.false_and, Bool.and_false, Bool.false_eq_true, if_false, Bool.not_false]
    ((apply w_true; exact rfl); refine W_seq ?_; refine W_region ?_; (apply wl_assign; exact rfl; exact rfl); refine WL_nil ?_; refine th_norm ?_; refine W_ret ?_; refine bl_ret ?_; refine th_ret ?_; refine th_ret ?_; refine bl_ret ?_; refine th_ret ?_; refine rt_norm ?_)
    (apply resK; exact rfl; exact rfl; (apply Cut.cons (h := tab8); (repeat (first | exact Rm.here | apply Rm.there)); exact Cut.nil); exact ⟨rfl, rfl⟩)
  | true =>
    simp only [Bool.true_and, Bool.and_true, Bool.not_true]
    ((apply w_false; exact rfl); refine W_skip ?_; refine bl_norm ?_; refine th_norm ?_; refine W_region ?_; (apply wl_add; exact rfl; exact rfl; omega; omega; exact rfl); (apply wl_move; exact rfl; exact rfl); refine WL_nil ?_; refine th_norm ?_; refine W_seq ?_; refine W_region ?_; (apply wl_lss; exact rfl; exact rfl; exact rfl); refine WL_nil ?_; refine th_norm ?_; refine W_seq ?_; (apply w_true; exact rfl); refine W_skip ?_; refine th_norm ?_; refine W_seq ?_; refine W_block ?_; refine W_seq ?_; refine W_region ?_)
    have hr : rises 0 f.ids = true := by unfold chkA at h0; simp only [Bool.and_eq_true] at h0; exact h0.2
    skip
    (apply wl_indexVN (e := 122) (n := 1); exact (show Tryd.prog.underlying 123 = some (.array 4 122) by kernel_rfl); exact rfl; exact rfl; exact (show _ = ((1 : Nat) : Int) from rfl); decide; exact (show _ = [AV.clo 216 []] from rfl); exact rfl)
    ((apply wl_alloc; exact rfl; intro p hp); (apply wl_store; (first | exact .inl rfl | exact .inr ⟨rfl, rfl⟩); (repeat (first | exact At.here | apply At.there)); exact rfl; exact inferInstance; exact inferInstance; exact inferInstance; exact rfl; (first | exact (of_decide_eq_true rfl) | (simp; omega) | decide)); refine WL_nil ?_; refine th_norm ?_; refine W_seq ?_; refine W_region ?_; (apply wl_field; exact rfl; (repeat (first | exact At.here | apply At.there)); exact rfl); (apply wl_load1; (first | exact .inl rfl | exact .inr ⟨rfl, rfl⟩); (repeat (first | exact At.here | apply At.there)); exact rfl; exact rfl); (apply wl_loadN; (first | exact .inl rfl | exact .inr ⟨rfl, rfl⟩); (repeat (first | exact At.here | apply At.there)); exact rfl; exact rfl))
    (apply wl_callV0 (check2_con f hS hr); exact rfl; exact rfl; exact rfl)
    ((apply wl_not; exact rfl; exact rfl); refine WL_nil ?_; refine th_norm ?_)
    cases h1 : qusOk f.ids none f.qs with
    | false =>
      simp only [Bool.true_and, Bool.false_and, Bool.and_false, Bool.false_eq_true, if_false, Bool.not_false]
      ((apply w_true; exact rfl); refine W_seq ?_; refine W_region ?_; (apply wl_assign; exact rfl; exact rfl); refine WL_nil ?_; refine th_norm ?_; refine W_ret ?_; refine bl_ret ?_; refine th_ret ?_; refine th_ret ?_; refine bl_ret ?_; refine th_ret ?_; refine rt_norm ?_)
      (apply resK; exact rfl; exact rfl; (apply Cut.cons (h := tab8); (repeat (first | exact Rm.here | apply Rm.there)); exact Cut.nil); exact ⟨rfl, rfl⟩)
    | true =>
      simp only [Bool.true_and, Bool.and_true, Bool.not_true]
      ((apply w_false; exact rfl); refine W_skip ?_; refine bl_norm ?_; refine th_norm ?_; refine W_region ?_; (apply wl_add; exact rfl; exact rfl; omega; omega; exact rfl); (apply wl_move; exact rfl; exact rfl); refine WL_nil ?_; refine th_norm ?_; refine W_seq ?_; refine W_region ?_; (apply wl_lss; exact rfl; exact rfl; exact rfl); refine WL_nil ?_; refine th_norm ?_; refine W_seq ?_; (apply w_true; exact rfl); refine W_skip ?_; refine th_norm ?_; refine W_seq ?_; refine W_block ?_; refine W_seq ?_; refine W_region ?_)
      skip
      (apply wl_indexVN (e := 122) (n := 1); exact (show Tryd.prog.underlying 123 = some (.array 4 122) by kernel_rfl); exact rfl; exact rfl; exact (show _ = ((2 : Nat) : Int) from rfl); decide; exact (show _ = [AV.clo 217 []] from rfl); exact rfl)
      ((apply wl_alloc; exact rfl; intro p hp); (apply wl_store; (first | exact .inl rfl | exact .inr ⟨rfl, rfl⟩); (repeat (first | exact At.here | apply At.there)); exact rfl; exact inferInstance; exact inferInstance; exact inferInstance; exact rfl; (first | exact (of_decide_eq_true rfl) | (simp; omega) | decide)); refine WL_nil ?_; refine th_norm ?_; refine W_seq ?_; refine W_region ?_; (apply wl_field; exact rfl; (repeat (first | exact At.here | apply At.there)); exact rfl); (apply wl_load1; (first | exact .inl rfl | exact .inr ⟨rfl, rfl⟩); (repeat (first | exact At.here | apply At.there)); exact rfl; exact rfl); (apply wl_loadN; (first | exact .inl rfl | exact .inr ⟨rfl, rfl⟩); (repeat (first | exact At.here | apply At.there)); exact rfl; exact rfl))
      (apply wl_callV0 (check3_con f hS hr); exact rfl; exact rfl; exact rfl)
      ((apply wl_not; exact rfl; exact rfl); refine WL_nil ?_; refine th_norm ?_)
      cases h2 : bilsOk f.ids 0 f.bs with
      | false =>
        simp only [Bool.true_and, Bool.false_and, Bool.and_false, Bool.false_eq_true, if_false, Bool.not_false]
        ((apply w_true; exact rfl); refine W_seq ?_; refine W_region ?_; (apply wl_assign; exact rfl; exact rfl); refine WL_nil ?_; refine th_norm ?_; refine W_ret ?_; refine bl_ret ?_; refine th_ret ?_; refine th_ret ?_; refine bl_ret ?_; refine th_ret ?_; refine rt_norm ?_)
        (apply resK; exact rfl; exact rfl; (apply Cut.cons (h := tab8); (repeat (first | exact Rm.here | apply Rm.there)); exact Cut.nil); exact ⟨rfl, rfl⟩)
      | true =>
        simp only [Bool.true_and, Bool.and_true, Bool.not_true]
        ((apply w_false; exact rfl); refine W_skip ?_; refine bl_norm ?_; refine th_norm ?_; refine W_region ?_; (apply wl_add; exact rfl; exact rfl; omega; omega; exact rfl); (apply wl_move; exact rfl; exact rfl); refine WL_nil ?_; refine th_norm ?_; refine W_seq ?_; refine W_region ?_; (apply wl_lss; exact rfl; exact rfl; exact rfl); refine WL_nil ?_; refine th_norm ?_; refine W_seq ?_; (apply w_true; exact rfl); refine W_skip ?_; refine th_norm ?_; refine W_seq ?_; refine W_block ?_; refine W_seq ?_; refine W_region ?_)
        skip
        (apply wl_indexVN (e := 122) (n := 1); exact (show Tryd.prog.underlying 123 = some (.array 4 122) by kernel_rfl); exact rfl; exact rfl; exact (show _ = ((3 : Nat) : Int) from rfl); decide; exact (show _ = [AV.clo 221 []] from rfl); exact rfl)
        ((apply wl_alloc; exact rfl; intro p hp); (apply wl_store; (first | exact .inl rfl | exact .inr ⟨rfl, rfl⟩); (repeat (first | exact At.here | apply At.there)); exact rfl; exact inferInstance; exact inferInstance; exact inferInstance; exact rfl; (first | exact (of_decide_eq_true rfl) | (simp; omega) | decide)); refine WL_nil ?_; refine th_norm ?_; refine W_seq ?_; refine W_region ?_; (apply wl_field; exact rfl; (repeat (first | exact At.here | apply At.there)); exact rfl); (apply wl_load1; (first | exact .inl rfl | exact .inr ⟨rfl, rfl⟩); (repeat (first | exact At.here | apply At.there)); exact rfl; exact rfl); (apply wl_loadN; (first | exact .inl rfl | exact .inr ⟨rfl, rfl⟩); (repeat (first | exact At.here | apply At.there)); exact rfl; exact rfl))
        (apply wl_callV0 (check4_con f hS); exact rfl; exact rfl; exact rfl)
        ((apply wl_not; exact rfl; exact rfl); refine WL_nil ?_; refine th_norm ?_)
        cases h3 : paysOk f.ids f.ps with
        | false =>
          simp only [Bool.true_and, Bool.false_and, Bool.and_false, Bool.false_eq_true, if_false, Bool.not_false]
          ((apply w_true; exact rfl); refine W_seq ?_; refine W_region ?_; (apply wl_assign; exact rfl; exact rfl); refine WL_nil ?_; refine th_norm ?_; refine W_ret ?_; refine bl_ret ?_; refine th_ret ?_; refine th_ret ?_; refine bl_ret ?_; refine th_ret ?_; refine rt_norm ?_)
          (apply resK; exact rfl; exact rfl; (apply Cut.cons (h := tab8); (repeat (first | exact Rm.here | apply Rm.there)); exact Cut.nil); exact ⟨rfl, rfl⟩)
        | true =>
          simp only [Bool.true_and, Bool.and_true, Bool.not_true]
          ((apply w_false; exact rfl); refine W_skip ?_; refine bl_norm ?_; refine th_norm ?_; refine W_region ?_; (apply wl_add; exact rfl; exact rfl; omega; omega; exact rfl); (apply wl_move; exact rfl; exact rfl); refine WL_nil ?_; refine th_norm ?_; refine W_seq ?_; refine W_region ?_; (apply wl_lss; exact rfl; exact rfl; exact rfl); refine WL_nil ?_; refine th_norm ?_; refine W_seq ?_; (apply w_false; exact rfl); refine W_exit ?_; refine th_exit ?_; refine th_exit ?_; refine bl_eq ?_; refine th_norm ?_; refine W_seq ?_; refine W_region ?_; (apply wl_assign; exact rfl; exact rfl); refine WL_nil ?_; refine th_norm ?_; refine W_ret ?_; refine rt_norm ?_)
          skip
          rw [if_pos trivial]
          (apply resK; exact rfl; exact rfl; (apply Cut.cons (h := tab8); (repeat (first | exact Rm.here | apply Rm.there)); exact Cut.nil); exact ⟨rfl, rfl⟩)
end Go.Proofs.YtbkellknlcageaaDoor.Sw
