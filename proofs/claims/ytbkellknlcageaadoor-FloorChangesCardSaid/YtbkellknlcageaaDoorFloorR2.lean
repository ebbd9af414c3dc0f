/- The reference's 'Floors': whether floors are valid. -/
import Derived.Test.YtbkellknlcageaaDoorFloorR
namespace Go.Proofs.YtbkellknlcageaaDoor.Sw
open Go.RowKit Go Go.Shelf Go.Proofs
/-- What is not great. -/
structure Sml (f : Flo) : Prop where
  ids : f.ids.length ≤ 1000
  qs : f.qs.length ≤ 1000
  bs : f.bs.length ≤ 1000
  ps : f.ps.length ≤ 1000
  st : ∀ b ∈ f.bs, b.st.length ≤ 1000
def qLt (x y : Qu) : Bool := decide (x.a < y.a) || (decide (x.a = y.a) && decide (x.b < y.b))
def rises : Int → List Int → Bool
  | _, [] => true
  | last, n :: t => (decide (last + 1 ≤ n) && decide (n ≤ 9999)) && rises n t
def okPrev (prev : Option Qu) (q : Qu) : Bool := match prev with | none => true | some p => qLt p q
def qusOk (ids : List Int) : Option Qu → List Qu → Bool
  | _, [] => true
  | prev, q :: t => decide (q.a ∈ ids) && decide (q.b ∈ ids) && decide (q.a < q.b) && okPrev prev q && qusOk ids (some q) t
def bilsOk (ids : List Int) : Int → List Bil → Bool
  | _, [] => true
  | last, x :: t => (decide (last + 1 ≤ x.no) && decide (x.no ≤ 9999)) && bilOk ids x && bilsOk ids x.no t
def paysOk (ids : List Int) : List Pay → Bool
  | [] => true
  | x :: t => payOk ids x && paysOk ids t
def floOk (f : Flo) : Bool := decide (f.ids.length ≤ 6) && decide (f.bs.length ≤ 10) && decide (f.ps.length ≤ 12) && rises 0 f.ids && qusOk f.ids none f.qs && bilsOk f.ids 0 f.bs && paysOk f.ids f.ps
theorem qusOk_cons (ids : List Int) (prev : Option Qu) (q : Qu) (t : List Qu) : qusOk ids prev (q :: t) = (decide (q.a ∈ ids) && decide (q.b ∈ ids) && decide (q.a < q.b) && okPrev prev q && qusOk ids (some q) t) := rfl
def prevQ (l : List Qu) (k : Nat) : Option Qu := match k with | 0 => none | k + 1 => l[k]?
set_option maxRecDepth 20000 in
theorem earlier_con (x y : Qu) : Con Tryd.prog 75 [.agg (quC x), .agg (quC y)] [] (Is (.val (.bool (qLt x y))) []) := by
  refine con_of Tryd.func75 rfl (enters_of Tryd.func75 (by kernel_rfl) rfl) rfl ?_; intro n w0 F0 G0
  (refine W_seq ?_; refine W_region ?_; (apply wl_boxv; exact rfl; exact inferInstance; exact rfl; intro p hp); (apply wl_boxv; exact rfl; exact inferInstance; exact rfl; intro p hp); (apply wl_assign; exact rfl; exact rfl); refine WL_nil ?_; refine th_norm ?_; refine W_seq ?_; refine W_region ?_; (apply wl_field; exact rfl; (repeat (first | exact At.here | apply At.there)); exact rfl); (apply wl_load1; (first | exact .inl rfl | exact .inr ⟨rfl, rfl⟩); (repeat (first | exact At.here | apply At.there)); exact rfl; exact rfl); (apply wl_field; exact rfl; (repeat (first | exact At.here | apply At.there)); exact rfl); (apply wl_load1; (first | exact .inl rfl | exact .inr ⟨rfl, rfl⟩); (repeat (first | exact At.here | apply At.there)); exact rfl; exact rfl); (apply wl_lss; exact rfl; exact rfl; exact rfl); (apply wl_move; exact rfl; exact rfl))
  refine wl_part rfl rfl (fun h1 => ?_) (fun h1 => ?_)
  · ((apply wl_no; exact rfl; exact rfl; exact rfl; exact rfl; exact rfl); (apply wl_no; exact rfl; exact rfl; exact rfl; exact rfl; exact rfl); (apply wl_no; exact rfl; exact rfl; exact rfl; exact rfl; exact rfl); (apply wl_no; exact rfl; exact rfl; exact rfl; exact rfl; exact rfl); (apply wl_no; exact rfl; exact rfl; exact rfl; exact rfl; exact rfl); (apply wl_no; exact rfl; exact rfl; exact rfl; exact rfl; exact rfl); (apply wl_noU; exact rfl; exact rfl; exact rfl); (apply wl_noU; exact rfl; exact rfl; exact rfl); (apply wl_noU; exact rfl; exact rfl; exact rfl); (apply wl_noU; exact rfl; exact rfl; exact rfl); (apply wl_noU; exact rfl; exact rfl; exact rfl); (apply wl_no; exact rfl; exact rfl; exact rfl; exact rfl; exact rfl); (apply wl_pick_t; exact rfl; exact rfl; exact rfl); (apply wl_assign; exact rfl; exact rfl); refine WL_nil ?_; refine th_norm ?_; refine W_ret ?_; refine rt_norm ?_)
    (apply res1; exact rfl; exact rfl; exact ⟨(congrArg (fun b => AV.val (Value.bool b)) (by simp at h1; simp [qLt, h1])), rfl⟩)
  · ((apply wl_yes; exact rfl; exact rfl; exact rfl); (apply wl_field; exact rfl; (repeat (first | exact At.here | apply At.there)); exact rfl); (apply wl_yes; exact rfl; exact rfl; exact rfl); (apply wl_load1; (first | exact .inl rfl | exact .inr ⟨rfl, rfl⟩); (repeat (first | exact At.here | apply At.there)); exact rfl; exact rfl); (apply wl_yes; exact rfl; exact rfl; exact rfl); (apply wl_field; exact rfl; (repeat (first | exact At.here | apply At.there)); exact rfl); (apply wl_yes; exact rfl; exact rfl; exact rfl); (apply wl_load1; (first | exact .inl rfl | exact .inr ⟨rfl, rfl⟩); (repeat (first | exact At.here | apply At.there)); exact rfl; exact rfl); (apply wl_yes; exact rfl; exact rfl; exact rfl); (apply wl_eql; exact rfl; exact rfl; exact rfl); (apply wl_yes; exact rfl; exact rfl; exact rfl); (apply wl_move; exact rfl; exact rfl))
    refine wl_part rfl rfl (fun h2 => ?_) (fun h2 => ?_)
    · ((apply wl_yes; exact rfl; exact rfl; exact rfl); (apply wl_field; exact rfl; (repeat (first | exact At.here | apply At.there)); exact rfl); (apply wl_yes; exact rfl; exact rfl; exact rfl); (apply wl_load1; (first | exact .inl rfl | exact .inr ⟨rfl, rfl⟩); (repeat (first | exact At.here | apply At.there)); exact rfl; exact rfl); (apply wl_yes; exact rfl; exact rfl; exact rfl); (apply wl_field; exact rfl; (repeat (first | exact At.here | apply At.there)); exact rfl); (apply wl_yes; exact rfl; exact rfl; exact rfl); (apply wl_load1; (first | exact .inl rfl | exact .inr ⟨rfl, rfl⟩); (repeat (first | exact At.here | apply At.there)); exact rfl; exact rfl); (apply wl_yes; exact rfl; exact rfl; exact rfl); (apply wl_lss; exact rfl; exact rfl; exact rfl); (apply wl_yes; exact rfl; exact rfl; exact rfl); (apply wl_pick_t; exact rfl; exact rfl; exact rfl); (apply wl_pick_f; exact rfl; exact rfl; exact rfl); (apply wl_assign; exact rfl; exact rfl); refine WL_nil ?_; refine th_norm ?_; refine W_ret ?_; refine rt_norm ?_)
      (apply res1; exact rfl; exact rfl; exact ⟨(congrArg (fun b => AV.val (Value.bool b)) (by simp at h1 h2; simp [qLt, h2])), rfl⟩)
    · ((apply wl_no; exact rfl; exact rfl; exact rfl; exact rfl; exact rfl); (apply wl_no; exact rfl; exact rfl; exact rfl; exact rfl; exact rfl); (apply wl_no; exact rfl; exact rfl; exact rfl; exact rfl; exact rfl); (apply wl_no; exact rfl; exact rfl; exact rfl; exact rfl; exact rfl); (apply wl_no; exact rfl; exact rfl; exact rfl; exact rfl; exact rfl); (apply wl_yes; exact rfl; exact rfl; exact rfl); (apply wl_pick_f; exact rfl; exact rfl; exact rfl); (apply wl_pick_f; exact rfl; exact rfl; exact rfl); (apply wl_assign; exact rfl; exact rfl); refine WL_nil ?_; refine th_norm ?_; refine W_ret ?_; refine rt_norm ?_)
      (apply res1; exact rfl; exact rfl; exact ⟨(congrArg (fun b => AV.val (Value.bool b)) (by simp at h1 h2; simp [qLt, h2]; omega)), rfl⟩)
set_option maxRecDepth 20000 in
set_option maxHeartbeats 2000000 in
theorem floors_con (f : Flo) (hS : Sml f) : Con Tryd.prog 60 [.agg (flC f)] [] (Is (.val (.bool (floOk f))) []) := by
  refine con_of Tryd.func60 rfl (enters_of Tryd.func60 (by kernel_rfl) rfl) rfl ?_; intro n w0 F0 G0
  (refine W_seq ?_; refine W_region ?_; (apply wl_boxv; exact rfl; exact inferInstance; exact rfl; intro p hp); (apply wl_assign; exact rfl; exact rfl); refine WL_nil ?_; refine th_norm ?_; refine W_seq ?_; refine W_seq ?_; refine W_region ?_; (apply wl_field; exact rfl; (repeat (first | exact At.here | apply At.there)); exact rfl); (apply wl_load1; (first | exact .inl rfl | exact .inr ⟨rfl, rfl⟩); (repeat (first | exact At.here | apply At.there)); exact rfl; exact rfl); (apply wl_lenSl; exact rfl; exact rfl); (apply wl_gtr; exact rfl; exact rfl; exact rfl); (apply wl_move; exact rfl; exact rfl))
  have hidsl := hS.ids
  have hqsl := hS.qs
  have hbsl := hS.bs
  have hpsl := hS.ps
  by_cases hg : f.ids.length ≤ 6 ∧ f.bs.length ≤ 10 ∧ f.ps.length ≤ 12
  rotate_left
  · refine wl_part rfl rfl (fun g1 => ?_) (fun g1 => ?_)
    · ((apply wl_no; exact rfl; exact rfl; exact rfl; exact rfl; exact rfl); (apply wl_no; exact rfl; exact rfl; exact rfl; exact rfl; exact rfl); (apply wl_no; exact rfl; exact rfl; exact rfl; exact rfl; exact rfl); (apply wl_no; exact rfl; exact rfl; exact rfl; exact rfl; exact rfl); (apply wl_pick_t; exact rfl; exact rfl; exact rfl); (apply wl_move; exact rfl; exact rfl); (apply wl_no; exact rfl; exact rfl; exact rfl; exact rfl; exact rfl); (apply wl_no; exact rfl; exact rfl; exact rfl; exact rfl; exact rfl); (apply wl_no; exact rfl; exact rfl; exact rfl; exact rfl; exact rfl); (apply wl_no; exact rfl; exact rfl; exact rfl; exact rfl; exact rfl); (apply wl_pick_t; exact rfl; exact rfl; exact rfl); refine WL_nil ?_; refine th_norm ?_; (apply w_true; exact rfl); refine W_seq ?_; refine W_region ?_; (apply wl_assign; exact rfl; exact rfl); refine WL_nil ?_; refine th_norm ?_; refine W_ret ?_; refine th_ret ?_; refine rt_norm ?_)
      (apply res1; exact rfl; exact rfl; exact ⟨(congrArg (fun b => AV.val (Value.bool b)) (by simp at g1; simp [floOk]; intros; omega)), rfl⟩)
    · ((apply wl_yes; exact rfl; exact rfl; exact rfl); (apply wl_field; exact rfl; (repeat (first | exact At.here | apply At.there)); exact rfl); (apply wl_yes; exact rfl; exact rfl; exact rfl); (apply wl_load1; (first | exact .inl rfl | exact .inr ⟨rfl, rfl⟩); (repeat (first | exact At.here | apply At.there)); exact rfl; exact rfl); (apply wl_yes; exact rfl; exact rfl; exact rfl); (apply wl_lenSl; exact rfl; exact rfl); (apply wl_yes; exact rfl; exact rfl; exact rfl); (apply wl_gtr; exact rfl; exact rfl; exact rfl); (apply wl_pick_f; exact rfl; exact rfl; exact rfl); (apply wl_move; exact rfl; exact rfl))
      refine wl_part rfl rfl (fun g2 => ?_) (fun g2 => ?_)
      · ((apply wl_no; exact rfl; exact rfl; exact rfl; exact rfl; exact rfl); (apply wl_no; exact rfl; exact rfl; exact rfl; exact rfl; exact rfl); (apply wl_no; exact rfl; exact rfl; exact rfl; exact rfl; exact rfl); (apply wl_no; exact rfl; exact rfl; exact rfl; exact rfl; exact rfl); (apply wl_pick_t; exact rfl; exact rfl; exact rfl); refine WL_nil ?_; refine th_norm ?_; (apply w_true; exact rfl); refine W_seq ?_; refine W_region ?_; (apply wl_assign; exact rfl; exact rfl); refine WL_nil ?_; refine th_norm ?_; refine W_ret ?_; refine th_ret ?_; refine rt_norm ?_)
        (apply res1; exact rfl; exact rfl; exact ⟨(congrArg (fun b => AV.val (Value.bool b)) (by simp at g2; simp [floOk]; intros; omega)), rfl⟩)
      · ((apply wl_yes; exact rfl; exact rfl; exact rfl); (apply wl_field; exact rfl; (repeat (first | exact At.here | apply At.there)); exact rfl); (apply wl_yes; exact rfl; exact rfl; exact rfl); (apply wl_load1; (first | exact .inl rfl | exact .inr ⟨rfl, rfl⟩); (repeat (first | exact At.here | apply At.there)); exact rfl; exact rfl); (apply wl_yes; exact rfl; exact rfl; exact rfl); (apply wl_lenSl; exact rfl; exact rfl); (apply wl_yes; exact rfl; exact rfl; exact rfl); (apply wl_gtr; exact rfl; exact rfl; exact rfl); (apply wl_pick_f; exact rfl; exact rfl; exact rfl); refine WL_nil ?_; refine th_norm ?_)
        refine w_cond rfl (fun g3 => ?_) (fun g3 => ?_)
        · (refine W_seq ?_; refine W_region ?_; (apply wl_assign; exact rfl; exact rfl); refine WL_nil ?_; refine th_norm ?_; refine W_ret ?_; refine th_ret ?_; refine rt_norm ?_)
          (apply res1; exact rfl; exact rfl; exact ⟨(congrArg (fun b => AV.val (Value.bool b)) (by simp at g3; simp [floOk]; intros; omega)), rfl⟩)
        · exact absurd ⟨by simp at g1; omega, by simp at g2; omega, by simp at g3; omega⟩ hg
  · refine wl_part rfl rfl (fun g => absurd g (by simp; omega)) (fun _ => ?_)
    ((apply wl_yes; exact rfl; exact rfl; exact rfl); (apply wl_field; exact rfl; (repeat (first | exact At.here | apply At.there)); exact rfl); (apply wl_yes; exact rfl; exact rfl; exact rfl); (apply wl_load1; (first | exact .inl rfl | exact .inr ⟨rfl, rfl⟩); (repeat (first | exact At.here | apply At.there)); exact rfl; exact rfl); (apply wl_yes; exact rfl; exact rfl; exact rfl); (apply wl_lenSl; exact rfl; exact rfl); (apply wl_yes; exact rfl; exact rfl; exact rfl); (apply wl_gtr; exact rfl; exact rfl; exact rfl); (apply wl_pick_f; exact rfl; exact rfl; exact rfl); (apply wl_move; exact rfl; exact rfl))
    refine wl_part rfl rfl (fun g => absurd g (by simp; omega)) (fun _ => ?_)
    ((apply wl_yes; exact rfl; exact rfl; exact rfl); (apply wl_field; exact rfl; (repeat (first | exact At.here | apply At.there)); exact rfl); (apply wl_yes; exact rfl; exact rfl; exact rfl); (apply wl_load1; (first | exact .inl rfl | exact .inr ⟨rfl, rfl⟩); (repeat (first | exact At.here | apply At.there)); exact rfl; exact rfl); (apply wl_yes; exact rfl; exact rfl; exact rfl); (apply wl_lenSl; exact rfl; exact rfl); (apply wl_yes; exact rfl; exact rfl; exact rfl); (apply wl_gtr; exact rfl; exact rfl; exact rfl); (apply wl_pick_f; exact rfl; exact rfl; exact rfl); refine WL_nil ?_; refine th_norm ?_)
    refine w_cond rfl (fun g => absurd g (by simp; omega)) (fun _ => ?_)
    have hW : floOk f = (rises 0 f.ids && qusOk f.ids none f.qs && bilsOk f.ids 0 f.bs && paysOk f.ids f.ps) := by unfold floOk; simp [hg]
    rw [hW]
    clear hW
    (refine W_skip ?_; refine th_norm ?_; refine W_seq ?_; refine W_region ?_; (apply wl_assign; exact rfl; exact rfl); refine WL_nil ?_; refine th_norm ?_; refine W_seq ?_; refine W_seq ?_; refine W_region ?_; (apply wl_field; exact rfl; (repeat (first | exact At.here | apply At.there)); exact rfl); (apply wl_load1; (first | exact .inl rfl | exact .inr ⟨rfl, rfl⟩); (repeat (first | exact At.here | apply At.there)); exact rfl; exact rfl); (apply wl_lenSl; exact rfl; exact rfl); (apply wl_move; exact rfl; exact rfl); refine WL_nil ?_; refine th_norm ?_; refine W_block ?_)
    refine W_loopJ (fun (b : Nat × Int) => ⟨[(1, .val p), (29, .sl 1 iC f.ids), (30, .val (.int .i64 f.ids.length)), (31, .val (.int .i64 b.1)), (3, .val (.int .i64 b.2))], [.box p (flC f) 27]⟩) (fun b => b.1 ≤ f.ids.length ∧ rises b.2 (f.ids.drop b.1) = rises 0 f.ids ∧ 0 ≤ b.2 ∧ b.2 ≤ 9999) (fun b => f.ids.length - b.1) (0, 0) (fun _ _ st => st_sub2 st (by (repeat (first | exact trivial | refine ⟨rfl, ?_⟩))) (by (repeat (first | exact SubP.nil | (apply SubP.cons; (repeat (first | exact Rm.here | apply Rm.there))))))) ?hj0 ?round
    case hj0 => simp
    case round =>
      rintro ⟨k, last⟩ ⟨hk, hno, hl0, hl1⟩
      dsimp only at hk hno hl0 hl1 ⊢
      (refine W_seq ?_; refine W_region ?_; (apply wl_lss; exact rfl; exact rfl; exact rfl); refine WL_nil ?_; refine th_norm ?_; refine W_seq ?_)
      refine w_cond rfl (fun hlt => ?_) (fun hlt => ?_)
      · have hlt' : k < f.ids.length := by simpa using hlt
        rw [drop_step hlt', rises] at hno
        (refine W_skip ?_; refine th_norm ?_; refine W_seq ?_; refine W_block ?_; refine W_seq ?_; refine W_region ?_; (apply wl_indexSl; exact rfl; exact rfl; exact rfl; (first | assumption | omega | (simp; omega)); exact rfl); (apply wl_loadE1; exact rfl; (case hk => first | assumption | omega | exact Nat.one_pos | (simp; omega)); exact rfl; exact rfl); (apply wl_assign; exact rfl; exact rfl); refine WL_nil ?_; refine th_norm ?_; refine W_seq ?_; refine W_seq ?_; refine W_region ?_; (apply wl_move; exact rfl; exact rfl); (apply wl_move; exact rfl; exact rfl); (apply wl_add; exact rfl; exact rfl; omega; omega; exact rfl))
        (first | (apply wl_call (within8_con _ _ _); exact rfl; exact rfl) | (apply wl_callR (within8_con _ _ _); exact rfl; (repeat (first | exact At.here | apply At.there)); exact rfl))
        ((apply wl_not; exact rfl; exact rfl); refine WL_nil ?_; refine th_norm ?_)
        refine w_cond rfl (fun g3 => ?_) (fun g3 => ?_)
        · (refine W_seq ?_; refine W_region ?_; (apply wl_assign; exact rfl; exact rfl); refine WL_nil ?_; refine th_norm ?_; refine W_ret ?_; refine th_ret ?_; refine bl_ret ?_; refine th_ret ?_; refine th_ret ?_; refine bl_ret ?_; refine th_ret ?_; refine rt_norm ?_)
          (apply res1; exact rfl; exact rfl; exact ⟨(congrArg (fun b => AV.val (Value.bool b)) (by rw [← hno]; simp only [Bool.not_eq_true'] at g3; simp [g3])), rfl⟩)
        · have g3' : (decide (last + 1 ≤ f.ids[k]) && decide (f.ids[k] ≤ 9999)) = true := by simpa using g3
          rw [g3', Bool.true_and] at hno
          simp only [Bool.and_eq_true, decide_eq_true_eq] at g3'
          (refine W_skip ?_; refine th_norm ?_; refine W_region ?_; (apply wl_move; exact rfl; exact rfl); (apply wl_assign; exact rfl; exact rfl); refine WL_nil ?_; refine bl_norm ?_; refine th_norm ?_; refine W_region ?_; (apply wl_add; exact rfl; exact rfl; omega; omega; exact rfl); (apply wl_move; exact rfl; exact rfl); refine WL_nil ?_; refine th_norm ?_)
          (refine ⟨(k + 1, f.ids[k]), fun _ _ st => st_sub2 st ?_ ?_, ?_, ?_⟩; (repeat (first | exact trivial | refine ⟨rfl, ?_⟩)); (repeat (first | exact SubP.nil | (apply SubP.cons; (repeat (first | exact Rm.here | apply Rm.there))))))
          · exact ⟨hlt', hno, by dsimp only; omega, by dsimp only; omega⟩
          · dsimp only; omega
      · (refine W_exit ?_; refine th_exit ?_; refine th_exit ?_; refine bl_eq ?_; refine th_norm ?_; refine W_seq ?_; refine W_seq ?_; refine W_region ?_; (apply wl_field; exact rfl; (repeat (first | exact At.here | apply At.there)); exact rfl); (apply wl_load1; (first | exact .inl rfl | exact .inr ⟨rfl, rfl⟩); (repeat (first | exact At.here | apply At.there)); exact rfl; exact rfl); (apply wl_lenSl; exact rfl; exact rfl); (apply wl_move; exact rfl; exact rfl); refine WL_nil ?_; refine th_norm ?_; refine W_block ?_)
        have hkk : k = f.ids.length := by simp at hlt; omega
        subst hkk
        rw [List.drop_length, rises] at hno
        rw [← hno, Bool.true_and]
        clear hno hk hlt hl0 hl1
        refine W_loopJ (fun (k : Nat) => ⟨[(1, .val p), (43, .sl 2 quC f.qs), (44, .val (.int .i64 f.qs.length)), (45, .val (.int .i64 k))], [.box p (flC f) 27]⟩) (fun k => k ≤ f.qs.length ∧ qusOk f.ids (prevQ f.qs k) (f.qs.drop k) = qusOk f.ids none f.qs) (fun k => f.qs.length - k) 0 (fun _ _ st => st_sub2 st (by (repeat (first | exact trivial | refine ⟨rfl, ?_⟩))) (by (repeat (first | exact SubP.nil | (apply SubP.cons; (repeat (first | exact Rm.here | apply Rm.there))))))) ?hj0 ?round
        case hj0 => simp [prevQ]
        case round =>
          rintro k ⟨hk, hno⟩
          (refine W_seq ?_; refine W_region ?_; (apply wl_lss; exact rfl; exact rfl; exact rfl); refine WL_nil ?_; refine th_norm ?_; refine W_seq ?_)
          refine w_cond rfl (fun hlt => ?_) (fun hlt => ?_)
          · have hlt' : k < f.qs.length := by simpa using hlt
            rw [drop_step hlt', qusOk_cons] at hno
            (refine W_skip ?_; refine th_norm ?_; refine W_seq ?_; refine W_block ?_; refine W_seq ?_; refine W_region ?_; (apply wl_move; exact rfl; exact rfl); (apply wl_indexSl; exact rfl; exact rfl; exact rfl; (first | assumption | omega | (simp; omega)); exact rfl); (apply wl_loadEN; exact rfl; (case hk => first | assumption | omega | exact Nat.one_pos | (simp; omega)); exact rfl; exact rfl); (apply wl_alloc; exact rfl; intro p hp); (apply wl_assign; exact rfl; exact rfl); (apply wl_store; (first | exact .inl rfl | exact .inr ⟨rfl, rfl⟩); (repeat (first | exact At.here | apply At.there)); exact rfl; exact inferInstance; exact inferInstance; exact inferInstance; exact rfl; (first | exact (of_decide_eq_true rfl) | (simp; omega) | decide)); refine WL_nil ?_; refine th_norm ?_; refine W_seq ?_; refine W_seq ?_; refine W_region ?_; (apply wl_loadN; (first | exact .inl rfl | exact .inr ⟨rfl, rfl⟩); (repeat (first | exact At.here | apply At.there)); exact rfl; exact rfl); (apply wl_field; exact rfl; (repeat (first | exact At.here | apply At.there)); exact rfl); (apply wl_load1; (first | exact .inl rfl | exact .inr ⟨rfl, rfl⟩); (repeat (first | exact At.here | apply At.there)); exact rfl; exact rfl))
            rename_i pf hpf
            (first | (apply wl_call (floor_con f _ (by omega)); exact rfl; exact rfl) | (apply wl_callR (floor_con f _ (by omega)); exact rfl; (repeat (first | exact At.here | apply At.there)); exact rfl))
            ((apply wl_lss; exact rfl; exact rfl; exact rfl); (apply wl_move; exact rfl; exact rfl))
            rw [ixOf_lt]
            refine wl_part rfl rfl (fun g1 => ?_) (fun g1 => ?_)
            · ((apply wl_no; exact rfl; exact rfl; exact rfl; exact rfl; exact rfl); (apply wl_no; exact rfl; exact rfl; exact rfl; exact rfl; exact rfl); (apply wl_no; exact rfl; exact rfl; exact rfl; exact rfl; exact rfl); (apply wl_no; exact rfl; exact rfl; exact rfl; exact rfl; exact rfl); (apply wl_no; exact rfl; exact rfl; exact rfl; exact rfl; exact rfl); (apply wl_pick_t; exact rfl; exact rfl; exact rfl); (apply wl_move; exact rfl; exact rfl); (apply wl_no; exact rfl; exact rfl; exact rfl; exact rfl; exact rfl); (apply wl_no; exact rfl; exact rfl; exact rfl; exact rfl; exact rfl); (apply wl_no; exact rfl; exact rfl; exact rfl; exact rfl; exact rfl); (apply wl_no; exact rfl; exact rfl; exact rfl; exact rfl; exact rfl); (apply wl_no; exact rfl; exact rfl; exact rfl; exact rfl; exact rfl); (apply wl_pick_t; exact rfl; exact rfl; exact rfl); refine WL_nil ?_; refine th_norm ?_; (apply w_true; exact rfl); refine W_seq ?_; refine W_region ?_; (apply wl_assign; exact rfl; exact rfl); refine WL_nil ?_; refine th_norm ?_; refine W_ret ?_; refine th_ret ?_; refine bl_ret ?_; refine th_ret ?_; refine th_ret ?_; refine bl_ret ?_; refine th_ret ?_; refine rt_norm ?_)
              (apply res1; exact rfl; exact rfl; exact ⟨(congrArg (fun b => AV.val (Value.bool b)) (by rw [← hno]; simp at g1; simp [g1])), rfl⟩)
            · have g1' : decide (f.qs[k].a ∈ f.ids) = true := by simpa using g1
              rw [g1', Bool.true_and] at hno
              ((apply wl_yes; exact rfl; exact rfl; exact rfl); (apply wl_loadN; (first | exact .inl rfl | exact .inr ⟨rfl, rfl⟩); (repeat (first | exact At.here | apply At.there)); exact rfl; exact rfl); (apply wl_yes; exact rfl; exact rfl; exact rfl); (apply wl_field; exact rfl; (repeat (first | exact At.here | apply At.there)); exact rfl); (apply wl_yes; exact rfl; exact rfl; exact rfl); (apply wl_load1; (first | exact .inl rfl | exact .inr ⟨rfl, rfl⟩); (repeat (first | exact At.here | apply At.there)); exact rfl; exact rfl); (apply wl_yes; exact rfl; exact rfl; exact rfl))
              (first | (apply wl_call (floor_con f _ (by omega)); exact rfl; exact rfl) | (apply wl_callR (floor_con f _ (by omega)); exact rfl; (repeat (first | exact At.here | apply At.there)); exact rfl))
              ((apply wl_yes; exact rfl; exact rfl; exact rfl); (apply wl_lss; exact rfl; exact rfl; exact rfl); (apply wl_pick_f; exact rfl; exact rfl; exact rfl); (apply wl_move; exact rfl; exact rfl))
              rw [ixOf_lt]
              refine wl_part rfl rfl (fun g2 => ?_) (fun g2 => ?_)
              · ((apply wl_no; exact rfl; exact rfl; exact rfl; exact rfl; exact rfl); (apply wl_no; exact rfl; exact rfl; exact rfl; exact rfl; exact rfl); (apply wl_no; exact rfl; exact rfl; exact rfl; exact rfl; exact rfl); (apply wl_no; exact rfl; exact rfl; exact rfl; exact rfl; exact rfl); (apply wl_no; exact rfl; exact rfl; exact rfl; exact rfl; exact rfl); (apply wl_pick_t; exact rfl; exact rfl; exact rfl); refine WL_nil ?_; refine th_norm ?_; (apply w_true; exact rfl); refine W_seq ?_; refine W_region ?_; (apply wl_assign; exact rfl; exact rfl); refine WL_nil ?_; refine th_norm ?_; refine W_ret ?_; refine th_ret ?_; refine bl_ret ?_; refine th_ret ?_; refine th_ret ?_; refine bl_ret ?_; refine th_ret ?_; refine rt_norm ?_)
                (apply res1; exact rfl; exact rfl; exact ⟨(congrArg (fun b => AV.val (Value.bool b)) (by rw [← hno]; simp at g2; simp [g2])), rfl⟩)
              · have g2' : decide (f.qs[k].b ∈ f.ids) = true := by simpa using g2
                rw [g2', Bool.true_and] at hno
                ((apply wl_yes; exact rfl; exact rfl; exact rfl); (apply wl_field; exact rfl; (repeat (first | exact At.here | apply At.there)); exact rfl); (apply wl_yes; exact rfl; exact rfl; exact rfl); (apply wl_load1; (first | exact .inl rfl | exact .inr ⟨rfl, rfl⟩); (repeat (first | exact At.here | apply At.there)); exact rfl; exact rfl); (apply wl_yes; exact rfl; exact rfl; exact rfl); (apply wl_field; exact rfl; (repeat (first | exact At.here | apply At.there)); exact rfl); (apply wl_yes; exact rfl; exact rfl; exact rfl); (apply wl_load1; (first | exact .inl rfl | exact .inr ⟨rfl, rfl⟩); (repeat (first | exact At.here | apply At.there)); exact rfl; exact rfl); (apply wl_yes; exact rfl; exact rfl; exact rfl); (apply wl_geq; exact rfl; exact rfl; exact rfl); (apply wl_pick_f; exact rfl; exact rfl; exact rfl); refine WL_nil ?_; refine th_norm ?_)
                refine w_cond rfl (fun g3 => ?_) (fun g3 => ?_)
                · (refine W_seq ?_; refine W_region ?_; (apply wl_assign; exact rfl; exact rfl); refine WL_nil ?_; refine th_norm ?_; refine W_ret ?_; refine th_ret ?_; refine bl_ret ?_; refine th_ret ?_; refine th_ret ?_; refine bl_ret ?_; refine th_ret ?_; refine rt_norm ?_)
                  (apply res1; exact rfl; exact rfl; exact ⟨(congrArg (fun b => AV.val (Value.bool b)) (by rw [← hno]; simp at g3; simp [Int.not_lt.2 g3])), rfl⟩)
                · have g3' : decide (f.qs[k].a < f.qs[k].b) = true := by simpa using g3
                  rw [g3', Bool.true_and] at hno
                  (refine W_skip ?_; refine th_norm ?_; refine W_seq ?_)
                  cases k with
                  | zero =>
                    rw [show okPrev (prevQ f.qs 0) f.qs[0] = true from rfl, Bool.true_and] at hno
                    refine W_run 10 [69, 70, 71, 72, 73, 74, 75, 76, 77, 78] [0, 1, 2, 3, 4, 5, 6, 7, 8, 9] Cut.nil rfl (by repeat (first | exact Flt.nil | (apply Flt.keep; exact rfl) | (apply Flt.drop; exact rfl))) mixedS (by kernel_rfl) rfl ?_
                    apply Run.pv [] []
                    · exact rfl
                    · intro vs; apply ltr_pk; (repeat (first | exact Pk.nil | (apply Pk.pv; exact rfl; exact rfl) | (apply Pk.tok; exact rfl; exact rfl)))
                      (first | (refine ltr ?_; apply lt_move; exact rfl))
                    · repeat (first | exact App.nil | apply App.cons)
                    apply Run.pv [0] []
                    · exact rfl
                    · intro vs; apply ltr_pk; (repeat (first | exact Pk.nil | (apply Pk.pv; exact rfl; exact rfl) | (apply Pk.tok; exact rfl; exact rfl)))
                      (first | (refine ltr ?_; apply lt_gtr; exact rfl; exact rfl))
                    · repeat (first | exact App.nil | apply App.cons)
                    apply Run.pv [1] []
                    · exact rfl
                    · intro vs; apply ltr_pk; (repeat (first | exact Pk.nil | (apply Pk.pv; exact rfl; exact rfl) | (apply Pk.tok; exact rfl; exact rfl)))
                      (first | (refine ltr ?_; apply lt_move; exact rfl))
                    · repeat (first | exact App.nil | apply App.cons)
                    apply Run.no [2] []
                    · exact rfl
                    · exact rfl
                    · intro vs; apply look_pk; (repeat (first | exact Pk.nil | (apply Pk.pv; exact rfl; exact rfl) | (apply Pk.tok; exact rfl; exact rfl))); exact rfl
                    · exact rfl
                    · repeat (first | exact App.nil | apply App.cons)
                    apply Run.no [2, 3] []
                    · exact rfl
                    · exact rfl
                    · intro vs; apply look_pk; (repeat (first | exact Pk.nil | (apply Pk.pv; exact rfl; exact rfl) | (apply Pk.tok; exact rfl; exact rfl))); exact rfl
                    · exact rfl
                    · repeat (first | exact App.nil | apply App.cons)
                    apply Run.no [2] []
                    · exact rfl
                    · exact rfl
                    · intro vs; apply look_pk; (repeat (first | exact Pk.nil | (apply Pk.pv; exact rfl; exact rfl) | (apply Pk.tok; exact rfl; exact rfl))); exact rfl
                    · exact rfl
                    · repeat (first | exact App.nil | apply App.cons)
                    apply Run.no [2, 5] []
                    · exact rfl
                    · exact rfl
                    · intro vs; apply look_pk; (repeat (first | exact Pk.nil | (apply Pk.pv; exact rfl; exact rfl) | (apply Pk.tok; exact rfl; exact rfl))); exact rfl
                    · exact rfl
                    · repeat (first | exact App.nil | apply App.cons)
                    apply Run.no [2, 4, 6] []
                    · exact rfl
                    · exact rfl
                    · intro vs; apply look_pk; (repeat (first | exact Pk.nil | (apply Pk.pv; exact rfl; exact rfl) | (apply Pk.tok; exact rfl; exact rfl))); exact rfl
                    · exact rfl
                    · repeat (first | exact App.nil | apply App.cons)
                    apply Run.no [2, 7] []
                    · exact rfl
                    · exact rfl
                    · intro vs; apply look_pk; (repeat (first | exact Pk.nil | (apply Pk.pv; exact rfl; exact rfl) | (apply Pk.tok; exact rfl; exact rfl))); exact rfl
                    · exact rfl
                    · repeat (first | exact App.nil | apply App.cons)
                    apply Run.no [2] []
                    · exact rfl
                    · exact rfl
                    · intro vs; apply look_pk; (repeat (first | exact Pk.nil | (apply Pk.pv; exact rfl; exact rfl) | (apply Pk.tok; exact rfl; exact rfl))); exact rfl
                    · exact rfl
                    · repeat (first | exact App.nil | apply App.cons)
                    refine ⟨⟨by kernel_rfl, by kernel_rfl⟩, fun vs => ?_⟩
                    apply WL_auto [2, 8, 9]
                    · repeat (first | exact Pk.nil | (apply Pk.pv; exact rfl; exact rfl) | (apply Pk.tok; exact rfl; exact rfl))
                    · repeat (first | exact Nrm.nil | apply Nrm.cons)
                    · kernel_rfl
                    · kernel_rfl
                    ((apply wl_no; exact rfl; exact rfl; exact rfl; exact rfl; exact rfl); (apply wl_no; exact rfl; exact rfl; exact rfl; exact rfl; exact rfl); (apply wl_pick_f; exact rfl; exact rfl; exact rfl); refine WL_nil ?_; refine th_norm ?_; (apply w_false; exact rfl); refine W_skip ?_; refine bl_norm ?_; refine th_norm ?_; refine W_region ?_; (apply wl_add; exact rfl; exact rfl; omega; omega; exact rfl); (apply wl_move; exact rfl; exact rfl); refine WL_nil ?_; refine th_norm ?_)
                    (refine ⟨0 + 1, fun _ _ st => st_sub2 st ?_ ?_, ?_, ?_⟩; (repeat (first | exact trivial | refine ⟨rfl, ?_⟩)); (repeat (first | exact SubP.nil | (apply SubP.cons; (repeat (first | exact Rm.here | apply Rm.there))))))
                    · exact ⟨hlt', by rw [show prevQ f.qs (0 + 1) = some f.qs[0] from List.getElem?_eq_getElem (by omega)]; exact hno⟩
                    · omega
                  | succ k =>
                    have hq : f.qs[k]? = some f.qs[k] := List.getElem?_eq_getElem (by omega)
                    rw [show prevQ f.qs (k + 1) = some f.qs[k] from hq, show okPrev (some f.qs[k]) f.qs[k + 1] = qLt f.qs[k] f.qs[k + 1] from rfl] at hno
                    refine W_run 10 [69, 70, 71, 72, 73, 74, 75, 76, 77, 78] [0, 1, 2, 3, 4, 5, 6, 7, 8, 9] Cut.nil rfl (by repeat (first | exact Flt.nil | (apply Flt.keep; exact rfl) | (apply Flt.drop; exact rfl))) mixedS (by kernel_rfl) rfl ?_
                    apply Run.pv [] []
                    · exact rfl
                    · intro vs; apply ltr_pk; (repeat (first | exact Pk.nil | (apply Pk.pv; exact rfl; exact rfl) | (apply Pk.tok; exact rfl; exact rfl)))
                      (first | (refine ltr ?_; apply lt_move; exact rfl))
                    · repeat (first | exact App.nil | apply App.cons)
                    apply Run.pv [0] []
                    · exact rfl
                    · intro vs; apply ltr_pk; (repeat (first | exact Pk.nil | (apply Pk.pv; exact rfl; exact rfl) | (apply Pk.tok; exact rfl; exact rfl)))
                      (refine ltr ?_; apply LT_bool true; apply lt_gtr; exact rfl; exact rfl; (first | (simp; done) | (simp; omega)))
                    · repeat (first | exact App.nil | apply App.cons)
                    apply Run.pv [1] []
                    · exact rfl
                    · intro vs; apply ltr_pk; (repeat (first | exact Pk.nil | (apply Pk.pv; exact rfl; exact rfl) | (apply Pk.tok; exact rfl; exact rfl)))
                      (first | (refine ltr ?_; apply lt_move; exact rfl))
                    · repeat (first | exact App.nil | apply App.cons)
                    apply Run.yes [2] []
                    · exact rfl
                    · exact rfl
                    · intro vs; apply look_pk; (repeat (first | exact Pk.nil | (apply Pk.pv; exact rfl; exact rfl) | (apply Pk.tok; exact rfl; exact rfl))); exact rfl
                    · intro vs; apply ltr_pk; (repeat (first | exact Pk.nil | (apply Pk.pv; exact rfl; exact rfl) | (apply Pk.tok; exact rfl; exact rfl)))
                      (first | (refine ltr ?_; apply lt_fieldAt; exact rfl; exact rfl) | (apply ltr_field; exact rfl; (repeat (first | exact At.here | apply At.there))) | (refine ltr ?_; apply lt_fieldEl; exact rfl; exact rfl) | (refine ltr ?_; apply lt_fieldRat; exact rfl; exact rfl))
                    · repeat (first | exact App.nil | apply App.cons)
                    apply Run.yes [2, 3] []
                    · exact rfl
                    · exact rfl
                    · intro vs; apply look_pk; (repeat (first | exact Pk.nil | (apply Pk.pv; exact rfl; exact rfl) | (apply Pk.tok; exact rfl; exact rfl))); exact rfl
                    · intro vs; apply ltr_pk; (repeat (first | exact Pk.nil | (apply Pk.pv; exact rfl; exact rfl) | (apply Pk.tok; exact rfl; exact rfl)))
                      (first | (apply ltr_load1; (first | exact .inl rfl | exact .inr ⟨rfl, rfl⟩); (repeat (first | exact At.here | apply At.there)); exact rfl) | (refine ltr ?_; apply lt_loadE1'; exact rfl; assumption; exact rfl) | (refine ltr ?_; apply lt_loadEN'; exact rfl; assumption; exact rfl) | (apply ltr_loadN; (first | exact .inl rfl | exact .inr ⟨rfl, rfl⟩); (repeat (first | exact At.here | apply At.there)); exact rfl) | (apply ltr_loadR1; exact rfl; (repeat (first | exact At.here | apply At.there)); assumption; exact rfl) | (apply ltr_loadRN; exact rfl; (repeat (first | exact At.here | apply At.there)); assumption))
                    · repeat (first | exact App.nil | apply App.cons)
                    apply Run.yes [2] []
                    · exact rfl
                    · exact rfl
                    · intro vs; apply look_pk; (repeat (first | exact Pk.nil | (apply Pk.pv; exact rfl; exact rfl) | (apply Pk.tok; exact rfl; exact rfl))); exact rfl
                    · intro vs; apply ltr_pk; (repeat (first | exact Pk.nil | (apply Pk.pv; exact rfl; exact rfl) | (apply Pk.tok; exact rfl; exact rfl)))
                      (first | (refine ltr ?_; apply lt_move; exact rfl))
                    · repeat (first | exact App.nil | apply App.cons)
                    apply Run.yes [2, 5] []
                    · exact rfl
                    · exact rfl
                    · intro vs; apply look_pk; (repeat (first | exact Pk.nil | (apply Pk.pv; exact rfl; exact rfl) | (apply Pk.tok; exact rfl; exact rfl))); exact rfl
                    · intro vs; apply ltr_pk; (repeat (first | exact Pk.nil | (apply Pk.pv; exact rfl; exact rfl) | (apply Pk.tok; exact rfl; exact rfl)))
                      (refine ltr ?_; apply LT_int (k : Int); apply lt_sub; exact rfl; exact rfl; omega; omega; omega)
                    · repeat (first | exact App.nil | apply App.cons)
                    apply Run.yes [2, 4, 6] []
                    · exact rfl
                    · exact rfl
                    · intro vs; apply look_pk; (repeat (first | exact Pk.nil | (apply Pk.pv; exact rfl; exact rfl) | (apply Pk.tok; exact rfl; exact rfl))); exact rfl
                    · intro vs; apply ltr_pk; (repeat (first | exact Pk.nil | (apply Pk.pv; exact rfl; exact rfl) | (apply Pk.tok; exact rfl; exact rfl)))
                      (first | (refine ltr ?_; apply lt_indexSl; exact rfl; exact rfl; exact rfl; (first | assumption | omega | (simp; omega))) | (apply ltr_indexRow; exact rfl; (repeat (first | exact At.here | apply At.there)); exact rfl; exact rfl; (first | assumption | omega | (simp; omega))) | (apply ltr_indexArr; exact rfl; (repeat (first | exact At.here | apply At.there)); exact rfl; exact rfl; (first | assumption | omega | decide)))
                    · repeat (first | exact App.nil | apply App.cons)
                    apply Run.yes [2, 7] []
                    · exact rfl
                    · exact rfl
                    · intro vs; apply look_pk; (repeat (first | exact Pk.nil | (apply Pk.pv; exact rfl; exact rfl) | (apply Pk.tok; exact rfl; exact rfl))); exact rfl
                    · intro vs; apply ltr_pk; (repeat (first | exact Pk.nil | (apply Pk.pv; exact rfl; exact rfl) | (apply Pk.tok; exact rfl; exact rfl)))
                      (first | (apply ltr_load1; (first | exact .inl rfl | exact .inr ⟨rfl, rfl⟩); (repeat (first | exact At.here | apply At.there)); exact rfl) | (refine ltr ?_; apply lt_loadE1'; exact rfl; assumption; exact rfl) | (refine ltr ?_; apply lt_loadEN'; exact rfl; assumption; exact rfl) | (apply ltr_loadN; (first | exact .inl rfl | exact .inr ⟨rfl, rfl⟩); (repeat (first | exact At.here | apply At.there)); exact rfl) | (apply ltr_loadR1; exact rfl; (repeat (first | exact At.here | apply At.there)); assumption; exact rfl) | (apply ltr_loadRN; exact rfl; (repeat (first | exact At.here | apply At.there)); assumption))
                    · repeat (first | exact App.nil | apply App.cons)
                    apply Run.yes [2] []
                    · exact rfl
                    · exact rfl
                    · intro vs; apply look_pk; (repeat (first | exact Pk.nil | (apply Pk.pv; exact rfl; exact rfl) | (apply Pk.tok; exact rfl; exact rfl))); exact rfl
                    · intro vs; apply ltr_pk; (repeat (first | exact Pk.nil | (apply Pk.pv; exact rfl; exact rfl) | (apply Pk.tok; exact rfl; exact rfl)))
                      (first | (apply ltr_load1; (first | exact .inl rfl | exact .inr ⟨rfl, rfl⟩); (repeat (first | exact At.here | apply At.there)); exact rfl) | (refine ltr ?_; apply lt_loadE1'; exact rfl; assumption; exact rfl) | (refine ltr ?_; apply lt_loadEN'; exact rfl; assumption; exact rfl) | (apply ltr_loadN; (first | exact .inl rfl | exact .inr ⟨rfl, rfl⟩); (repeat (first | exact At.here | apply At.there)); exact rfl) | (apply ltr_loadR1; exact rfl; (repeat (first | exact At.here | apply At.there)); assumption; exact rfl) | (apply ltr_loadRN; exact rfl; (repeat (first | exact At.here | apply At.there)); assumption))
                    · repeat (first | exact App.nil | apply App.cons)
                    refine ⟨⟨by kernel_rfl, by kernel_rfl⟩, fun vs => ?_⟩
                    apply WL_auto [2, 8, 9]
                    · repeat (first | exact Pk.nil | (apply Pk.pv; exact rfl; exact rfl) | (apply Pk.tok; exact rfl; exact rfl))
                    · repeat (first | exact Nrm.nil | apply Nrm.cons)
                    · kernel_rfl
                    · kernel_rfl
                    ((apply wl_yes; exact rfl; exact rfl; exact rfl))
                    (first | (apply wl_call (earlier_con _ _); exact rfl; exact rfl) | (apply wl_callR (earlier_con _ _); exact rfl; (repeat (first | exact At.here | apply At.there)); exact rfl))
                    ((apply wl_yes; exact rfl; exact rfl; exact rfl); (apply wl_not; exact rfl; exact rfl); (apply wl_pick_t; exact rfl; exact rfl; exact rfl); refine WL_nil ?_; refine th_norm ?_)
                    skip
                    refine w_cond rfl (fun g4 => ?_) (fun g4 => ?_)
                    · (refine W_seq ?_; refine W_region ?_; (apply wl_assign; exact rfl; exact rfl); refine WL_nil ?_; refine th_norm ?_; refine W_ret ?_; refine bl_ret ?_; refine th_ret ?_; refine th_ret ?_; refine bl_ret ?_; refine th_ret ?_; refine rt_norm ?_)
                      (apply res1; exact rfl; exact rfl; exact ⟨(congrArg (fun b => AV.val (Value.bool b)) (by rw [← hno]; simp at g4; simp [g4])), rfl⟩)
                    · have g4' : qLt f.qs[k] f.qs[k + 1] = true := by simpa using g4
                      rw [g4', Bool.true_and] at hno
                      (refine W_skip ?_; refine bl_norm ?_; refine th_norm ?_; refine W_region ?_; (apply wl_add; exact rfl; exact rfl; omega; omega; exact rfl); (apply wl_move; exact rfl; exact rfl); refine WL_nil ?_; refine th_norm ?_)
                      (refine ⟨k + 1 + 1, fun _ _ st => st_sub2 st ?_ ?_, ?_, ?_⟩; (repeat (first | exact trivial | refine ⟨rfl, ?_⟩)); (repeat (first | exact SubP.nil | (apply SubP.cons; (repeat (first | exact Rm.here | apply Rm.there))))))
                      · exact ⟨hlt', by rw [show prevQ f.qs (k + 1 + 1) = some f.qs[k + 1] from List.getElem?_eq_getElem (by omega)]; exact hno⟩
                      · omega
          · (refine W_exit ?_; refine th_exit ?_; refine th_exit ?_; refine bl_eq ?_; refine th_norm ?_; refine W_seq ?_; refine W_region ?_; (apply wl_assign; exact rfl; exact rfl); refine WL_nil ?_; refine th_norm ?_; refine W_seq ?_; refine W_seq ?_; refine W_region ?_; (apply wl_field; exact rfl; (repeat (first | exact At.here | apply At.there)); exact rfl); (apply wl_load1; (first | exact .inl rfl | exact .inr ⟨rfl, rfl⟩); (repeat (first | exact At.here | apply At.there)); exact rfl; exact rfl); (apply wl_lenSl; exact rfl; exact rfl); (apply wl_move; exact rfl; exact rfl); refine WL_nil ?_; refine th_norm ?_; refine W_block ?_)
            have hkk : k = f.qs.length := by simp at hlt; omega
            subst hkk
            rw [List.drop_length, qusOk] at hno
            rw [← hno, Bool.true_and]
            clear hno hk hlt
            refine W_loopJ (fun (b : Nat × Int) => ⟨[(1, .val p), (84, .sl 4 biC f.bs), (85, .val (.int .i64 f.bs.length)), (86, .val (.int .i64 b.1)), (3, .val (.int .i64 b.2))], [.box p (flC f) 27]⟩) (fun b => b.1 ≤ f.bs.length ∧ bilsOk f.ids b.2 (f.bs.drop b.1) = bilsOk f.ids 0 f.bs ∧ 0 ≤ b.2 ∧ b.2 ≤ 9999) (fun b => f.bs.length - b.1) (0, 0) (fun _ _ st => st_sub2 st (by (repeat (first | exact trivial | refine ⟨rfl, ?_⟩))) (by (repeat (first | exact SubP.nil | (apply SubP.cons; (repeat (first | exact Rm.here | apply Rm.there))))))) ?hj0 ?round
            case hj0 => simp
            case round =>
              rintro ⟨k, last⟩ ⟨hk, hno, hl0, hl1⟩
              dsimp only at hk hno hl0 hl1 ⊢
              (refine W_seq ?_; refine W_region ?_; (apply wl_lss; exact rfl; exact rfl; exact rfl); refine WL_nil ?_; refine th_norm ?_; refine W_seq ?_)
              refine w_cond rfl (fun hlt => ?_) (fun hlt => ?_)
              · have hlt' : k < f.bs.length := by simpa using hlt
                rw [drop_step hlt', bilsOk] at hno
                (refine W_skip ?_; refine th_norm ?_; refine W_seq ?_; refine W_block ?_; refine W_seq ?_; refine W_region ?_; (apply wl_indexSl; exact rfl; exact rfl; exact rfl; (first | assumption | omega | (simp; omega)); exact rfl); (apply wl_loadEN; exact rfl; (case hk => first | assumption | omega | exact Nat.one_pos | (simp; omega)); exact rfl; exact rfl); (apply wl_alloc; exact rfl; intro p hp); (apply wl_store; (first | exact .inl rfl | exact .inr ⟨rfl, rfl⟩); (repeat (first | exact At.here | apply At.there)); exact rfl; exact inferInstance; exact inferInstance; exact inferInstance; exact rfl; (first | exact (of_decide_eq_true rfl) | (simp; omega) | decide)); refine WL_nil ?_; refine th_norm ?_; refine W_seq ?_; refine W_seq ?_; refine W_region ?_; (apply wl_field; exact rfl; (repeat (first | exact At.here | apply At.there)); exact rfl); (apply wl_load1; (first | exact .inl rfl | exact .inr ⟨rfl, rfl⟩); (repeat (first | exact At.here | apply At.there)); exact rfl; exact rfl); (apply wl_move; exact rfl; exact rfl); (apply wl_add; exact rfl; exact rfl; omega; omega; exact rfl))
                rename_i pf hpf
                (first | (apply wl_call (within8_con _ _ _); exact rfl; exact rfl) | (apply wl_callR (within8_con _ _ _); exact rfl; (repeat (first | exact At.here | apply At.there)); exact rfl))
                ((apply wl_not; exact rfl; exact rfl); (apply wl_move; exact rfl; exact rfl))
                refine wl_part rfl rfl (fun g1 => ?_) (fun g1 => ?_)
                · ((apply wl_no; exact rfl; exact rfl; exact rfl; exact rfl; exact rfl); (apply wl_no; exact rfl; exact rfl; exact rfl; exact rfl; exact rfl); (apply wl_no; exact rfl; exact rfl; exact rfl; exact rfl; exact rfl); (apply wl_no; exact rfl; exact rfl; exact rfl; exact rfl; exact rfl); (apply wl_pick_t; exact rfl; exact rfl; exact rfl); refine WL_nil ?_; refine th_norm ?_; (apply w_true; exact rfl); refine W_seq ?_; refine W_region ?_; (apply wl_assign; exact rfl; exact rfl); refine WL_nil ?_; refine th_norm ?_; refine W_ret ?_; refine th_ret ?_; refine bl_ret ?_; refine th_ret ?_; refine th_ret ?_; refine bl_ret ?_; refine th_ret ?_; refine rt_norm ?_)
                  (apply res1; exact rfl; exact rfl; exact ⟨(congrArg (fun b => AV.val (Value.bool b)) (by rw [← hno]; simp only [Bool.not_eq_true'] at g1; simp [g1])), rfl⟩)
                · have g1' : (decide (last + 1 ≤ f.bs[k].no) && decide (f.bs[k].no ≤ 9999)) = true := by simpa using g1
                  rw [g1', Bool.true_and] at hno
                  simp only [Bool.and_eq_true, decide_eq_true_eq] at g1'
                  ((apply wl_yes; exact rfl; exact rfl; exact rfl); (apply wl_loadN; (first | exact .inl rfl | exact .inr ⟨rfl, rfl⟩); (repeat (first | exact At.here | apply At.there)); exact rfl; exact rfl); (apply wl_yes; exact rfl; exact rfl; exact rfl); (apply wl_loadN; (first | exact .inl rfl | exact .inr ⟨rfl, rfl⟩); (repeat (first | exact At.here | apply At.there)); exact rfl; exact rfl); (apply wl_yes; exact rfl; exact rfl; exact rfl))
                  (first | (apply wl_call (bill_con f f.bs[k] (by omega) (by have := hS.st _ (List.getElem_mem hlt'); omega)); exact rfl; exact rfl) | (apply wl_callR (bill_con f f.bs[k] (by omega) (by have := hS.st _ (List.getElem_mem hlt'); omega)); exact rfl; (repeat (first | exact At.here | apply At.there)); exact rfl))
                  ((apply wl_yes; exact rfl; exact rfl; exact rfl); (apply wl_not; exact rfl; exact rfl); (apply wl_pick_f; exact rfl; exact rfl; exact rfl); refine WL_nil ?_; refine th_norm ?_)
                  refine w_cond rfl (fun g2 => ?_) (fun g2 => ?_)
                  · (refine W_seq ?_; refine W_region ?_; (apply wl_assign; exact rfl; exact rfl); refine WL_nil ?_; refine th_norm ?_; refine W_ret ?_; refine th_ret ?_; refine bl_ret ?_; refine th_ret ?_; refine th_ret ?_; refine bl_ret ?_; refine th_ret ?_; refine rt_norm ?_)
                    (apply res1; exact rfl; exact rfl; exact ⟨(congrArg (fun b => AV.val (Value.bool b)) (by rw [← hno]; simp only [Bool.not_eq_true'] at g2; simp [g2])), rfl⟩)
                  · have g2' : bilOk f.ids f.bs[k] = true := by simpa using g2
                    rw [g2', Bool.true_and] at hno
                    (refine W_skip ?_; refine th_norm ?_; refine W_region ?_; (apply wl_field; exact rfl; (repeat (first | exact At.here | apply At.there)); exact rfl); (apply wl_load1; (first | exact .inl rfl | exact .inr ⟨rfl, rfl⟩); (repeat (first | exact At.here | apply At.there)); exact rfl; exact rfl); (apply wl_assign; exact rfl; exact rfl); refine WL_nil ?_; refine bl_norm ?_; refine th_norm ?_; refine W_region ?_; (apply wl_add; exact rfl; exact rfl; omega; omega; exact rfl); (apply wl_move; exact rfl; exact rfl); refine WL_nil ?_; refine th_norm ?_)
                    (refine ⟨(k + 1, f.bs[k].no), fun _ _ st => st_sub2 st ?_ ?_, ?_, ?_⟩; (repeat (first | exact trivial | refine ⟨rfl, ?_⟩)); (repeat (first | exact SubP.nil | (apply SubP.cons; (repeat (first | exact Rm.here | apply Rm.there))))))
                    · exact ⟨hlt', hno, by dsimp only; omega, by dsimp only; omega⟩
                    · dsimp only; omega
              · (refine W_exit ?_; refine th_exit ?_; refine th_exit ?_; refine bl_eq ?_; refine th_norm ?_; refine W_seq ?_; refine W_seq ?_; refine W_region ?_; (apply wl_field; exact rfl; (repeat (first | exact At.here | apply At.there)); exact rfl); (apply wl_load1; (first | exact .inl rfl | exact .inr ⟨rfl, rfl⟩); (repeat (first | exact At.here | apply At.there)); exact rfl; exact rfl); (apply wl_lenSl; exact rfl; exact rfl); (apply wl_move; exact rfl; exact rfl); refine WL_nil ?_; refine th_norm ?_; refine W_block ?_)
                have hkk : k = f.bs.length := by simp at hlt; omega
                subst hkk
                rw [List.drop_length, bilsOk] at hno
                rw [← hno, Bool.true_and]
                clear hno hk hlt hl0 hl1
                refine W_loopJ (fun (k : Nat) => ⟨[(1, .val p), (106, .sl 3 payC f.ps), (107, .val (.int .i64 f.ps.length)), (108, .val (.int .i64 k))], [.box p (flC f) 27]⟩) (fun k => k ≤ f.ps.length ∧ paysOk f.ids (f.ps.drop k) = paysOk f.ids f.ps) (fun k => f.ps.length - k) 0 (fun _ _ st => st_sub2 st (by (repeat (first | exact trivial | refine ⟨rfl, ?_⟩))) (by (repeat (first | exact SubP.nil | (apply SubP.cons; (repeat (first | exact Rm.here | apply Rm.there))))))) ?hj0 ?round
                case hj0 => simp
                case round =>
                  rintro k ⟨hk, hno⟩
                  (refine W_seq ?_; refine W_region ?_; (apply wl_lss; exact rfl; exact rfl; exact rfl); refine WL_nil ?_; refine th_norm ?_; refine W_seq ?_)
                  refine w_cond rfl (fun hlt => ?_) (fun hlt => ?_)
                  · have hlt' : k < f.ps.length := by simpa using hlt
                    rw [drop_step hlt', paysOk] at hno
                    (refine W_skip ?_; refine th_norm ?_; refine W_seq ?_; refine W_block ?_; refine W_seq ?_; refine W_region ?_; (apply wl_indexSl; exact rfl; exact rfl; exact rfl; (first | assumption | omega | (simp; omega)); exact rfl); (apply wl_loadEN; exact rfl; (case hk => first | assumption | omega | exact Nat.one_pos | (simp; omega)); exact rfl; exact rfl); (apply wl_alloc; exact rfl; intro p hp); (apply wl_store; (first | exact .inl rfl | exact .inr ⟨rfl, rfl⟩); (repeat (first | exact At.here | apply At.there)); exact rfl; exact inferInstance; exact inferInstance; exact inferInstance; exact rfl; (first | exact (of_decide_eq_true rfl) | (simp; omega) | decide)); refine WL_nil ?_; refine th_norm ?_; refine W_seq ?_; refine W_region ?_; (apply wl_loadN; (first | exact .inl rfl | exact .inr ⟨rfl, rfl⟩); (repeat (first | exact At.here | apply At.there)); exact rfl; exact rfl); (apply wl_loadN; (first | exact .inl rfl | exact .inr ⟨rfl, rfl⟩); (repeat (first | exact At.here | apply At.there)); exact rfl; exact rfl))
                    rename_i pf hpf
                    (first | (apply wl_call (payment_con f _ (by omega)); exact rfl; exact rfl) | (apply wl_callR (payment_con f _ (by omega)); exact rfl; (repeat (first | exact At.here | apply At.there)); exact rfl))
                    ((apply wl_not; exact rfl; exact rfl); refine WL_nil ?_; refine th_norm ?_)
                    refine w_cond rfl (fun g2 => ?_) (fun g2 => ?_)
                    · (refine W_seq ?_; refine W_region ?_; (apply wl_assign; exact rfl; exact rfl); refine WL_nil ?_; refine th_norm ?_; refine W_ret ?_; refine bl_ret ?_; refine th_ret ?_; refine th_ret ?_; refine bl_ret ?_; refine th_ret ?_; refine rt_norm ?_)
                      (apply res1; exact rfl; exact rfl; exact ⟨(congrArg (fun b => AV.val (Value.bool b)) (by rw [← hno]; simp only [Bool.not_eq_true'] at g2; simp [g2])), rfl⟩)
                    · have g2' : payOk f.ids f.ps[k] = true := by simpa using g2
                      rw [g2', Bool.true_and] at hno
                      (refine W_skip ?_; refine bl_norm ?_; refine th_norm ?_; refine W_region ?_; (apply wl_add; exact rfl; exact rfl; omega; omega; exact rfl); (apply wl_move; exact rfl; exact rfl); refine WL_nil ?_; refine th_norm ?_)
                      (refine ⟨k + 1, fun _ _ st => st_sub2 st ?_ ?_, ?_, ?_⟩; (repeat (first | exact trivial | refine ⟨rfl, ?_⟩)); (repeat (first | exact SubP.nil | (apply SubP.cons; (repeat (first | exact Rm.here | apply Rm.there))))))
                      · exact ⟨hlt', hno⟩
                      · omega
                  · (refine W_exit ?_; refine th_exit ?_; refine th_exit ?_; refine bl_eq ?_; refine th_norm ?_; refine W_seq ?_; refine W_region ?_; (apply wl_assign; exact rfl; exact rfl); refine WL_nil ?_; refine th_norm ?_; refine W_ret ?_; refine rt_norm ?_)
                    have hkk : k = f.ps.length := by simp at hlt; omega
                    subst hkk
                    rw [List.drop_length, paysOk] at hno
                    (apply res1; exact rfl; exact rfl; exact ⟨(congrArg (fun b => AV.val (Value.bool b)) hno), rfl⟩)
end Go.Proofs.YtbkellknlcageaaDoor.Sw
