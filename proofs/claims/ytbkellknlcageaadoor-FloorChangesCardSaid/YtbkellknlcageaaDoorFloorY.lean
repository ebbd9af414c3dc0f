/- The reference's 'Speak' and 'Judge'. -/
import Derived.Test.YtbkellknlcageaaDoorFloorX
namespace Go.Proofs.YtbkellknlcageaaDoor.Sw
open Go.RowKit Go Go.Shelf Go.Proofs
def hits (a b : Int) (q : Qu) : Bool := decide (q.a = min a b) && decide (q.b = max a b)
def speakR (qs : List Qu) (a b : Int) : Bool := !(qs.any (hits a b)) && decide (a ≠ b)
set_option maxRecDepth 20000 in
theorem speak8_con (f : Flo) (a b : Int) (hl : f.qs.length ≤ 1000) : Con Tryd.prog 63 [.agg (flC f), .val (.int .i64 a), .val (.int .i64 b)] [] (Is (.val (.bool (speakR f.qs a b))) []) := by
  refine con_of Tryd.func63 rfl (enters_of Tryd.func63 (by kernel_rfl) rfl) rfl ?_; intro n w0 F0 G0
  (refine W_seq ?_; refine W_region ?_; (apply wl_boxv; exact rfl; exact inferInstance; exact rfl; intro p hp); (apply wl_assign; exact rfl; exact rfl); refine WL_nil ?_; refine th_norm ?_; refine W_seq ?_; refine W_seq ?_; refine W_region ?_; (apply wl_field; exact rfl; (repeat (first | exact At.here | apply At.there)); exact rfl); (apply wl_load1; (first | exact .inl rfl | exact .inr ⟨rfl, rfl⟩); (repeat (first | exact At.here | apply At.there)); exact rfl; exact rfl); (apply wl_lenSl; exact rfl; exact rfl); (apply wl_move; exact rfl; exact rfl); refine WL_nil ?_; refine th_norm ?_; refine W_block ?_)
  refine W_loopJ (fun (k : Nat) => ⟨[(1, .val (.int .i64 a)), (2, .val (.int .i64 b)), (10, .sl 2 quC f.qs), (11, .val (.int .i64 f.qs.length)), (12, .val (.int .i64 k))], []⟩) (fun k => k ≤ f.qs.length ∧ (f.qs.take k).any (hits a b) = false) (fun k => f.qs.length - k) 0 (fun _ _ st => st_sub2 st (by (repeat (first | exact trivial | refine ⟨rfl, ?_⟩))) (by (repeat (first | exact SubP.nil | (apply SubP.cons; (repeat (first | exact Rm.here | apply Rm.there))))))) ?hj0 ?round
  case hj0 => simp
  case round =>
    rintro k ⟨hk, hno⟩
    (refine W_seq ?_; refine W_region ?_; (apply wl_lss; exact rfl; exact rfl; exact rfl); refine WL_nil ?_; refine th_norm ?_; refine W_seq ?_)
    refine w_cond rfl (fun hlt => ?_) (fun hlt => ?_)
    · have hlt' : k < f.qs.length := by simpa using hlt
      have htk : f.qs.take (k + 1) = f.qs.take k ++ [f.qs[k]] := List.take_succ_eq_append_getElem hlt'
      (refine W_skip ?_; refine th_norm ?_; refine W_seq ?_; refine W_block ?_; refine W_seq ?_; refine W_region ?_; (apply wl_indexSl; exact rfl; exact rfl; exact rfl; (first | assumption | omega | (simp; omega)); exact rfl); (apply wl_loadEN; exact rfl; (case hk => first | assumption | omega | exact Nat.one_pos | (simp; omega)); exact rfl; exact rfl); (apply wl_alloc; exact rfl; intro p hp); (apply wl_store; (first | exact .inl rfl | exact .inr ⟨rfl, rfl⟩); (repeat (first | exact At.here | apply At.there)); exact rfl; exact inferInstance; exact inferInstance; exact inferInstance; exact rfl; (first | exact (of_decide_eq_true rfl) | (simp; omega) | decide)); refine WL_nil ?_; refine th_norm ?_; refine W_seq ?_; refine W_region ?_; (apply wl_field; exact rfl; (repeat (first | exact At.here | apply At.there)); exact rfl); (apply wl_load1; (first | exact .inl rfl | exact .inr ⟨rfl, rfl⟩); (repeat (first | exact At.here | apply At.there)); exact rfl; exact rfl); (apply wl_move; exact rfl; exact rfl); (apply wl_move; exact rfl; exact rfl); (apply wl_min2; exact rfl; exact rfl; exact rfl); (apply wl_eql; exact rfl; exact rfl; exact rfl); (apply wl_move; exact rfl; exact rfl))
      have fin : hits a b f.qs[k] = true → speakR f.qs a b = false := fun h => by
        have : f.qs.any (hits a b) = true := List.any_eq_true.2 ⟨_, List.getElem_mem hlt', h⟩
        simp [speakR, this]
      have nxt : hits a b f.qs[k] = false → (f.qs.take (k + 1)).any (hits a b) = false := fun h => by rw [htk, List.any_append, hno]; simpa using h
      refine wl_part rfl rfl (fun g1 => ?_) (fun g1 => ?_)
      · ((apply wl_yes; exact rfl; exact rfl; exact rfl); (apply wl_field; exact rfl; (repeat (first | exact At.here | apply At.there)); exact rfl); (apply wl_yes; exact rfl; exact rfl; exact rfl); (apply wl_load1; (first | exact .inl rfl | exact .inr ⟨rfl, rfl⟩); (repeat (first | exact At.here | apply At.there)); exact rfl; exact rfl); (apply wl_yes; exact rfl; exact rfl; exact rfl); (apply wl_move; exact rfl; exact rfl); (apply wl_yes; exact rfl; exact rfl; exact rfl); (apply wl_move; exact rfl; exact rfl); (apply wl_yes; exact rfl; exact rfl; exact rfl); (apply wl_max2; exact rfl; exact rfl; exact rfl); (apply wl_yes; exact rfl; exact rfl; exact rfl); (apply wl_eql; exact rfl; exact rfl; exact rfl); (apply wl_pick_t; exact rfl; exact rfl; exact rfl); refine WL_nil ?_; refine th_norm ?_)
        refine w_cond rfl (fun g2 => ?_) (fun g2 => ?_)
        · have := fin (by unfold hits; rw [g1, g2]; rfl)
          (refine W_seq ?_; refine W_region ?_; (apply wl_assign; exact rfl; exact rfl); refine WL_nil ?_; refine th_norm ?_; refine W_ret ?_; refine bl_ret ?_; refine th_ret ?_; refine th_ret ?_; refine bl_ret ?_; refine th_ret ?_; refine rt_norm ?_)
          (apply res1; exact rfl; exact rfl; exact ⟨(congrArg (fun b => AV.val (Value.bool b)) this.symm), rfl⟩)
        · have := nxt (by unfold hits; rw [g1, g2]; rfl)
          (refine W_skip ?_; refine bl_norm ?_; refine th_norm ?_; refine W_region ?_; (apply wl_add; exact rfl; exact rfl; omega; omega; exact rfl); (apply wl_move; exact rfl; exact rfl); refine WL_nil ?_; refine th_norm ?_)
          (refine ⟨k + 1, fun _ _ st => st_sub2 st ?_ ?_, ?_, ?_⟩; (repeat (first | exact trivial | refine ⟨rfl, ?_⟩)); (repeat (first | exact SubP.nil | (apply SubP.cons; (repeat (first | exact Rm.here | apply Rm.there))))))
          · exact ⟨by omega, this⟩
          · omega
      · have := nxt (by unfold hits; rw [g1]; rfl)
        ((apply wl_no; exact rfl; exact rfl; exact rfl; exact rfl; exact rfl); (apply wl_no; exact rfl; exact rfl; exact rfl; exact rfl; exact rfl); (apply wl_no; exact rfl; exact rfl; exact rfl; exact rfl; exact rfl); (apply wl_no; exact rfl; exact rfl; exact rfl; exact rfl; exact rfl); (apply wl_no; exact rfl; exact rfl; exact rfl; exact rfl; exact rfl); (apply wl_no; exact rfl; exact rfl; exact rfl; exact rfl; exact rfl); (apply wl_pick_f; exact rfl; exact rfl; exact rfl); refine WL_nil ?_; refine th_norm ?_; (apply w_false; exact rfl); refine W_skip ?_; refine bl_norm ?_; refine th_norm ?_; refine W_region ?_; (apply wl_add; exact rfl; exact rfl; omega; omega; exact rfl); (apply wl_move; exact rfl; exact rfl); refine WL_nil ?_; refine th_norm ?_)
        (refine ⟨k + 1, fun _ _ st => st_sub2 st ?_ ?_, ?_, ?_⟩; (repeat (first | exact trivial | refine ⟨rfl, ?_⟩)); (repeat (first | exact SubP.nil | (apply SubP.cons; (repeat (first | exact Rm.here | apply Rm.there))))))
        · exact ⟨by omega, this⟩
        · omega
    · (refine W_exit ?_; refine th_exit ?_; refine th_exit ?_; refine bl_eq ?_; refine th_norm ?_; refine W_seq ?_; refine W_region ?_; (apply wl_move; exact rfl; exact rfl); (apply wl_move; exact rfl; exact rfl); (apply wl_neq; exact rfl; exact rfl; exact rfl); (apply wl_assign; exact rfl; exact rfl); refine WL_nil ?_; refine th_norm ?_; refine W_ret ?_; refine rt_norm ?_)
      have hkk : k = f.qs.length := by simp at hlt; omega
      subst hkk
      rw [List.take_length] at hno
      (apply res1; exact rfl; exact rfl; exact ⟨(congrArg (fun b => AV.val (Value.bool b)) (by simp [speakR, hno])), rfl⟩)
def judgeGo (ids : List Int) (qs : List Qu) : Int → List Pay → List Int → List Int × Int × Int
  | _, [], cur => (cur, 0, 0)
  | k, x :: t, cur => if (payOk ids x && speakR qs x.a x.b) = true then judgeGo ids qs (k + 1) t (payStep ids x cur) else ([], k, 82)
def judgeR (f : Flo) (l : List Pay) : List Int × Int × Int :=
  if floOk f = true then (if l.length ≤ 12 then judgeGo f.ids f.qs 0 l (owed8 f) else ([], 0, 9)) else ([], 0, 80)
def jAV (r : List Int × Int × Int) : AV := .tup [.sl 1 iC r.1, .val (.int .i64 r.2.1), .val (.int .i64 r.2.2)]
theorem bilFold_len {ids : List Int} : ∀ (t : List Bil) (l : List Int), l.length = ids.length → (bilFold ids t l).length = ids.length
  | [], l, h => h
  | x :: t, l, h => by
    rw [bilFold]
    refine bilFold_len t _ ?_
    rw [subL_len (by rw [addAt_len, shares_len, h]), addAt_len, h]
theorem payFold_len {ids : List Int} : ∀ (t : List Pay) (l : List Int), (payFold ids t l).length = l.length
  | [], l => rfl
  | x :: t, l => by rw [payFold, payFold_len t]; unfold payStep; rw [addAt_len, addAt_len]
theorem owed8_len (f : Flo) : (owed8 f).length = f.ids.length := by unfold owed8; rw [payFold_len, bilFold_len _ _ (by simp)]
theorem bilFold_btw {ids : List Int} : ∀ (t : List Bil) (l : List Int) {c : Int}, 0 ≤ c → (∀ x ∈ t, BilF ids x ∧ x.st.length ≤ 1000) → Btw (-c) c l → Btw (-(c + 10000000 * t.length)) (c + 10000000 * t.length) (bilFold ids t l)
  | [], l, c, _, _, h => by simpa [bilFold] using h
  | x :: t, l, c, hc, hB, h => by
    have hx := hB x (by simp)
    have h1 := h.addAt (ids.idxOf x.py) (d := x.pe) (a := 0) (b := 1000000) (by omega) (by omega) (by have := hx.1.pe0; omega) hx.1.pe1 (by omega) (by omega)
    have h2 := (h1.subL (shares_btw hx.1 hx.2)).mono (lo' := -(c + 10000000)) (hi' := c + 10000000) (by omega) (by omega)
    have h3 := bilFold_btw (ids := ids) t _ (c := c + 10000000) (by omega) (fun y hy => hB y (by simp [hy])) h2
    rw [bilFold]
    exact h3.mono (by simp only [List.length_cons]; omega) (by simp only [List.length_cons]; omega)
theorem payStep_btw {ids : List Int} {x : Pay} {l : List Int} {c : Int} (hc : 0 ≤ c) (h1 : 1 ≤ x.p) (h2 : x.p ≤ 1000000) (h : Btw (-c) c l) : Btw (-(c + 1000000)) (c + 1000000) (payStep ids x l) := by
  have k1 := h.addAt (ids.idxOf x.a) (d := x.p) (a := 0) (b := 1000000) (by omega) (by omega) (by omega) h2 (by omega) (by omega)
  have k2 := k1.addAt (ids.idxOf x.b) (d := -x.p) (a := -1000000) (b := 0) (by omega) (by omega) (by omega) (by omega) (by omega) (by omega)
  exact k2.mono (by omega) (by omega)
theorem payFold_btw {ids : List Int} : ∀ (t : List Pay) (l : List Int) {c : Int}, 0 ≤ c → (∀ x ∈ t, 1 ≤ x.p ∧ x.p ≤ 1000000) → Btw (-c) c l → Btw (-(c + 1000000 * t.length)) (c + 1000000 * t.length) (payFold ids t l)
  | [], l, c, _, _, h => by simpa [payFold] using h
  | x :: t, l, c, hc, hB, h => by
    have hx := hB x (by simp)
    have h3 := payFold_btw (ids := ids) t _ (c := c + 1000000) (by omega) (fun y hy => hB y (by simp [hy])) (payStep_btw (ids := ids) hc hx.1 hx.2 h)
    rw [payFold]
    exact h3.mono (by simp only [List.length_cons]; omega) (by simp only [List.length_cons]; omega)
theorem owed8_btw {f : Flo} (hF : FloF f) (hS : Sml f) : Btw (-200000000) 200000000 (owed8 f) := by
  have h1 := bilFold_btw (ids := f.ids) f.bs (List.replicate f.ids.length 0) (c := 0) (by omega) (fun x hx => ⟨hF.bil x hx, hS.st x hx⟩) (Btw.rep _ (by omega) (by omega))
  have h2 := payFold_btw (ids := f.ids) f.ps _ (c := 0 + 10000000 * f.bs.length) (by omega) (fun x hx => (hF.pay x hx).2.2.2) h1
  have := hF.bs
  have := hF.ps
  exact h2.mono (by omega) (by omega)
set_option maxRecDepth 20000 in
set_option maxHeartbeats 2000000 in
theorem judge8_con (f : Flo) (l : List Pay) (hS : Sml f) (hl : l.length ≤ 1000) : Con Tryd.prog 12 [.agg (flC f), .sl 3 payC l] [] (Is (jAV (judgeR f l)) []) := by
  have hidl := hS.ids
  have hqsl := hS.qs
  refine con_of Tryd.func12 rfl (enters_of Tryd.func12 (by kernel_rfl) rfl) rfl ?_; intro n w0 F0 G0
  (refine W_seq ?_; refine W_region ?_; (apply wl_boxv; exact rfl; exact inferInstance; exact rfl; intro p hp); (apply wl_assign; exact rfl; exact rfl); (apply wl_assign; exact rfl; exact rfl); (apply wl_assign; exact rfl; exact rfl); refine WL_nil ?_; refine th_norm ?_; refine W_seq ?_; refine W_seq ?_; refine W_region ?_; (apply wl_loadN; (first | exact .inl rfl | exact .inr ⟨rfl, rfl⟩); (repeat (first | exact At.here | apply At.there)); exact rfl; exact rfl))
  (first | (apply wl_call (floors_con f hS); exact rfl; exact rfl) | (apply wl_callR (floors_con f hS); exact rfl; (repeat (first | exact At.here | apply At.there)); exact rfl))
  ((apply wl_not; exact rfl; exact rfl); refine WL_nil ?_; refine th_norm ?_)
  refine w_cond rfl (fun g1 => ?_) (fun g1 => ?_)
  · have hW : judgeR f l = ([], 0, 80) := by unfold judgeR; rw [if_neg (by simpa using g1)]
    rw [hW]
    (refine W_seq ?_; refine W_region ?_; (apply wl_assign; exact rfl; exact rfl); (apply wl_assign; exact rfl; exact rfl); (apply wl_assign; exact rfl; exact rfl); refine WL_nil ?_; refine th_norm ?_; refine W_ret ?_; refine th_ret ?_; refine rt_norm ?_)
    refine Res_nil 4 1 iC rfl ?_
    (apply res3; exact rfl; exact rfl; exact rfl; exact rfl; exact ⟨rfl, rfl⟩)
  · have hok : floOk f = true := by simpa using g1
    have hF := flo_f hok
    (refine W_skip ?_; refine th_norm ?_; refine W_seq ?_; refine W_seq ?_; refine W_region ?_; (apply wl_move; exact rfl; exact rfl); (apply wl_lenSl; exact rfl; exact rfl); (apply wl_gtr; exact rfl; exact rfl; exact rfl); refine WL_nil ?_; refine th_norm ?_)
    refine w_cond rfl (fun g2 => ?_) (fun g2 => ?_)
    · have hW : judgeR f l = ([], 0, 9) := by unfold judgeR; rw [if_pos hok, if_neg (by simp at g2; omega)]
      rw [hW]
      (refine W_seq ?_; refine W_region ?_; (apply wl_assign; exact rfl; exact rfl); (apply wl_assign; exact rfl; exact rfl); (apply wl_assign; exact rfl; exact rfl); refine WL_nil ?_; refine th_norm ?_; refine W_ret ?_; refine th_ret ?_; refine rt_norm ?_)
      refine Res_nil 4 1 iC rfl ?_
      (apply res3; exact rfl; exact rfl; exact rfl; exact rfl; exact ⟨rfl, rfl⟩)
    · have hl12 : l.length ≤ 12 := by simp at g2; omega
      have hW : judgeR f l = judgeGo f.ids f.qs 0 l (owed8 f) := by unfold judgeR; rw [if_pos hok, if_pos hl12]
      rw [hW]
      (refine W_skip ?_; refine th_norm ?_; refine W_seq ?_; refine W_region ?_; (apply wl_loadN; (first | exact .inl rfl | exact .inr ⟨rfl, rfl⟩); (repeat (first | exact At.here | apply At.there)); exact rfl; exact rfl))
      (apply wl_callC (owed8_con f hF hS); exact rfl; exact Cut.nil; exact rfl)
      rintro _ _ ⟨v, rfl, rfl⟩
      ((apply wl_assign; exact rfl; exact rfl); refine WL_nil ?_; refine th_norm ?_; refine W_seq ?_; refine W_seq ?_; refine W_region ?_; (apply wl_move; exact rfl; exact rfl); (apply wl_lenSl; exact rfl; exact rfl); (apply wl_move; exact rfl; exact rfl); refine WL_nil ?_; refine th_norm ?_; refine W_block ?_)
      refine W_loopJ (fun (b : Nat × List Int) => ⟨[(2, .val p), (7, .val v), (18, .sl 3 payC l), (19, .val (.int .i64 l.length)), (20, .val (.int .i64 b.1))], [.row v 3 1 iC b.2, .box p (flC f) 27]⟩)
        (fun b => b.1 ≤ l.length ∧ b.2.length = f.ids.length ∧ judgeGo f.ids f.qs b.1 (l.drop b.1) b.2 = judgeGo f.ids f.qs 0 l (owed8 f) ∧ Btw (-(200000000 + 2000000 * b.1)) (200000000 + 2000000 * b.1) b.2) (fun b => l.length - b.1) (0, owed8 f) (fun _ _ st => st_sub2 st (by (repeat (first | exact trivial | refine ⟨rfl, ?_⟩))) (by (repeat (first | exact SubP.nil | (apply SubP.cons; (repeat (first | exact Rm.here | apply Rm.there))))))) ⟨Nat.zero_le _, owed8_len f, rfl, (owed8_btw hF hS).mono (by dsimp only; omega) (by dsimp only; omega)⟩ ?_
      rintro ⟨k, cu⟩ ⟨hk, hcl, hno, hbt⟩
      dsimp only at hk hcl hno hbt ⊢
      (refine W_seq ?_; refine W_region ?_; (apply wl_lss; exact rfl; exact rfl; exact rfl); refine WL_nil ?_; refine th_norm ?_; refine W_seq ?_)
      refine w_cond rfl (fun hlt => ?_) (fun hlt => ?_)
      · have hlt' : k < l.length := by simpa using hlt
        rw [drop_step hlt', judgeGo] at hno
        (refine W_skip ?_; refine th_norm ?_; refine W_seq ?_; refine W_block ?_; refine W_seq ?_; refine W_region ?_; (apply wl_move; exact rfl; exact rfl); (apply wl_indexSl; exact rfl; exact rfl; exact rfl; (first | assumption | omega | (simp; omega)); exact rfl); (apply wl_loadEN; exact rfl; (case hk => first | assumption | omega | exact Nat.one_pos | (simp; omega)); exact rfl; exact rfl); (apply wl_alloc; exact rfl; intro p hp); (apply wl_assign; exact rfl; exact rfl); (apply wl_store; (first | exact .inl rfl | exact .inr ⟨rfl, rfl⟩); (repeat (first | exact At.here | apply At.there)); exact rfl; exact inferInstance; exact inferInstance; exact inferInstance; exact rfl; (first | exact (of_decide_eq_true rfl) | (simp; omega) | decide)); refine WL_nil ?_; refine th_norm ?_; refine W_seq ?_; refine W_seq ?_; refine W_region ?_; (apply wl_loadN; (first | exact .inl rfl | exact .inr ⟨rfl, rfl⟩); (repeat (first | exact At.here | apply At.there)); exact rfl; exact rfl); (apply wl_loadN; (first | exact .inl rfl | exact .inr ⟨rfl, rfl⟩); (repeat (first | exact At.here | apply At.there)); exact rfl; exact rfl))
        rename_i pb hpb
        (first | (apply wl_call (payment_con f _ (by omega)); exact rfl; exact rfl) | (apply wl_callR (payment_con f _ (by omega)); exact rfl; (repeat (first | exact At.here | apply At.there)); exact rfl))
        ((apply wl_not; exact rfl; exact rfl); (apply wl_move; exact rfl; exact rfl))
        refine wl_part rfl rfl (fun g3 => ?_) (fun g3 => ?_)
        · have hno2 : judgeGo f.ids f.qs 0 l (owed8 f) = ([], (k : Int), 82) := by
            rw [← hno, if_neg (by simp only [Bool.not_eq_true'] at g3; simp [g3])]
          rw [hno2]
          ((apply wl_no; exact rfl; exact rfl; exact rfl; exact rfl; exact rfl); (apply wl_no; exact rfl; exact rfl; exact rfl; exact rfl; exact rfl); (apply wl_no; exact rfl; exact rfl; exact rfl; exact rfl; exact rfl); (apply wl_no; exact rfl; exact rfl; exact rfl; exact rfl; exact rfl); (apply wl_no; exact rfl; exact rfl; exact rfl; exact rfl; exact rfl); (apply wl_no; exact rfl; exact rfl; exact rfl; exact rfl; exact rfl); (apply wl_no; exact rfl; exact rfl; exact rfl; exact rfl; exact rfl); (apply wl_pick_t; exact rfl; exact rfl; exact rfl); refine WL_nil ?_; refine th_norm ?_; (apply w_true; exact rfl); refine W_seq ?_; refine W_region ?_; (apply wl_move; exact rfl; exact rfl); (apply wl_assign; exact rfl; exact rfl); (apply wl_assign; exact rfl; exact rfl); (apply wl_assign; exact rfl; exact rfl); refine WL_nil ?_; refine th_norm ?_; refine W_ret ?_; refine th_ret ?_; refine bl_ret ?_; refine th_ret ?_; refine th_ret ?_; refine bl_ret ?_; refine th_ret ?_; refine rt_norm ?_)
          refine Res_nil 4 1 iC rfl ?_
          (apply res3; exact rfl; exact rfl; exact rfl; exact rfl; exact ⟨rfl, rfl⟩)
        · have hpo : payOk f.ids l[k] = true := by simpa using g3
          ((apply wl_yes; exact rfl; exact rfl; exact rfl); (apply wl_loadN; (first | exact .inl rfl | exact .inr ⟨rfl, rfl⟩); (repeat (first | exact At.here | apply At.there)); exact rfl; exact rfl); (apply wl_yes; exact rfl; exact rfl; exact rfl); (apply wl_field; exact rfl; (repeat (first | exact At.here | apply At.there)); exact rfl); (apply wl_yes; exact rfl; exact rfl; exact rfl); (apply wl_load1; (first | exact .inl rfl | exact .inr ⟨rfl, rfl⟩); (repeat (first | exact At.here | apply At.there)); exact rfl; exact rfl); (apply wl_yes; exact rfl; exact rfl; exact rfl); (apply wl_field; exact rfl; (repeat (first | exact At.here | apply At.there)); exact rfl); (apply wl_yes; exact rfl; exact rfl; exact rfl); (apply wl_load1; (first | exact .inl rfl | exact .inr ⟨rfl, rfl⟩); (repeat (first | exact At.here | apply At.there)); exact rfl; exact rfl); (apply wl_yes; exact rfl; exact rfl; exact rfl))
          (first | (apply wl_call (speak8_con f _ _ (by omega)); exact rfl; exact rfl) | (apply wl_callR (speak8_con f _ _ (by omega)); exact rfl; (repeat (first | exact At.here | apply At.there)); exact rfl))
          ((apply wl_yes; exact rfl; exact rfl; exact rfl); (apply wl_not; exact rfl; exact rfl); (apply wl_pick_f; exact rfl; exact rfl; exact rfl); refine WL_nil ?_; refine th_norm ?_)
          refine w_cond rfl (fun g4 => ?_) (fun g4 => ?_)
          · have hno2 : judgeGo f.ids f.qs 0 l (owed8 f) = ([], (k : Int), 82) := by
              rw [← hno, if_neg (by simp only [Bool.not_eq_true'] at g4; simp [g4])]
            rw [hno2]
            (refine W_seq ?_; refine W_region ?_; (apply wl_move; exact rfl; exact rfl); (apply wl_assign; exact rfl; exact rfl); (apply wl_assign; exact rfl; exact rfl); (apply wl_assign; exact rfl; exact rfl); refine WL_nil ?_; refine th_norm ?_; refine W_ret ?_; refine th_ret ?_; refine bl_ret ?_; refine th_ret ?_; refine th_ret ?_; refine bl_ret ?_; refine th_ret ?_; refine rt_norm ?_)
            refine Res_nil 4 1 iC rfl ?_
            (apply res3; exact rfl; exact rfl; exact rfl; exact rfl; exact ⟨rfl, rfl⟩)
          · rw [if_pos (by rw [hpo]; simpa using g4)] at hno
            have hP := pay_f hpo
            have hix : f.ids.idxOf l[k].a < cu.length := by rw [hcl]; exact List.idxOf_lt_length_of_mem hP.1
            have hq2 : cu[f.ids.idxOf l[k].a]? = some cu[f.ids.idxOf l[k].a] := List.getElem?_eq_getElem hix
            have hce := hbt.at hix
            rw [payStep, addAt_at hix] at hno
            have hb1 := hbt.addAt (f.ids.idxOf l[k].a) (d := l[k].p) (a := 0) (b := 1000000) (by omega) (by omega) (by omega) (by omega) (by omega) (by omega)
            rw [addAt_at hix] at hb1
            (refine W_skip ?_; refine th_norm ?_; refine W_seq ?_)
            refine W_run 9 [39, 40, 41, 42, 43, 44, 45, 46, 47] [0, 1, 2, 3, 4, 5, 6, 7, 8] Cut.nil rfl (by repeat (first | exact Flt.nil | (apply Flt.keep; exact rfl) | (apply Flt.drop; exact rfl))) mixedS (by kernel_rfl) rfl ?_
            apply Run.pv [] []
            · exact rfl
            · intro vs; apply ltr_pk; (repeat (first | exact Pk.nil | (apply Pk.pv; exact rfl; exact rfl) | (apply Pk.tok; exact rfl; exact rfl)))
              (first | (refine ltr ?_; apply lt_move; exact rfl))
            · repeat (first | exact App.nil | apply App.cons)
            apply Run.pv [] []
            · exact rfl
            · intro vs; apply ltr_pk; (repeat (first | exact Pk.nil | (apply Pk.pv; exact rfl; exact rfl) | (apply Pk.tok; exact rfl; exact rfl)))
              (first | (apply ltr_load1; (first | exact .inl rfl | exact .inr ⟨rfl, rfl⟩); (repeat (first | exact At.here | apply At.there)); exact rfl) | (refine ltr ?_; apply lt_loadE1'; exact rfl; assumption; exact rfl) | (refine ltr ?_; apply lt_loadEN'; exact rfl; assumption; exact rfl) | (apply ltr_loadN; (first | exact .inl rfl | exact .inr ⟨rfl, rfl⟩); (repeat (first | exact At.here | apply At.there)); exact rfl) | (apply ltr_loadR1; exact rfl; (repeat (first | exact At.here | apply At.there)); assumption; exact rfl) | (apply ltr_loadRN; exact rfl; (repeat (first | exact At.here | apply At.there)); assumption))
            · repeat (first | exact App.nil | apply App.cons)
            apply Run.pv [] []
            · exact rfl
            · intro vs; apply ltr_pk; (repeat (first | exact Pk.nil | (apply Pk.pv; exact rfl; exact rfl) | (apply Pk.tok; exact rfl; exact rfl)))
              (first | (refine ltr ?_; apply lt_fieldAt; exact rfl; exact rfl) | (apply ltr_field; exact rfl; (repeat (first | exact At.here | apply At.there))) | (refine ltr ?_; apply lt_fieldEl; exact rfl; exact rfl) | (refine ltr ?_; apply lt_fieldRat; exact rfl; exact rfl))
            · repeat (first | exact App.nil | apply App.cons)
            apply Run.pv [2] []
            · exact rfl
            · intro vs; apply ltr_pk; (repeat (first | exact Pk.nil | (apply Pk.pv; exact rfl; exact rfl) | (apply Pk.tok; exact rfl; exact rfl)))
              (first | (apply ltr_load1; (first | exact .inl rfl | exact .inr ⟨rfl, rfl⟩); (repeat (first | exact At.here | apply At.there)); exact rfl) | (refine ltr ?_; apply lt_loadE1'; exact rfl; assumption; exact rfl) | (refine ltr ?_; apply lt_loadEN'; exact rfl; assumption; exact rfl) | (apply ltr_loadN; (first | exact .inl rfl | exact .inr ⟨rfl, rfl⟩); (repeat (first | exact At.here | apply At.there)); exact rfl) | (apply ltr_loadR1; exact rfl; (repeat (first | exact At.here | apply At.there)); assumption; exact rfl) | (apply ltr_loadRN; exact rfl; (repeat (first | exact At.here | apply At.there)); assumption))
            · repeat (first | exact App.nil | apply App.cons)
            apply Run.pv [1, 3] []
            · exact rfl
            · intro vs; apply ltr_pk; (repeat (first | exact Pk.nil | (apply Pk.pv; exact rfl; exact rfl) | (apply Pk.tok; exact rfl; exact rfl)))
              (refine ltr ?_; refine lt_call ?_ ((floorAt_con f _ (by omega) hP.1)); exact rfl)
            · repeat (first | exact App.nil | apply App.cons)
            apply Run.pv [0, 4] []
            · exact rfl
            · intro vs; apply ltr_pk; (repeat (first | exact Pk.nil | (apply Pk.pv; exact rfl; exact rfl) | (apply Pk.tok; exact rfl; exact rfl)))
              (first | (refine ltr ?_; apply lt_indexSl; exact rfl; exact rfl; exact rfl; (first | assumption | omega | (simp; omega))) | (apply ltr_indexRow; exact rfl; (repeat (first | exact At.here | apply At.there)); exact rfl; exact rfl; (first | assumption | omega | (simp; omega))) | (apply ltr_indexArr; exact rfl; (repeat (first | exact At.here | apply At.there)); exact rfl; exact rfl; (first | assumption | omega | decide)))
            · repeat (first | exact App.nil | apply App.cons)
            apply Run.pv [5] []
            · exact rfl
            · intro vs; apply ltr_pk; (repeat (first | exact Pk.nil | (apply Pk.pv; exact rfl; exact rfl) | (apply Pk.tok; exact rfl; exact rfl)))
              (first | (apply ltr_load1; (first | exact .inl rfl | exact .inr ⟨rfl, rfl⟩); (repeat (first | exact At.here | apply At.there)); exact rfl) | (refine ltr ?_; apply lt_loadE1'; exact rfl; assumption; exact rfl) | (refine ltr ?_; apply lt_loadEN'; exact rfl; assumption; exact rfl) | (apply ltr_loadN; (first | exact .inl rfl | exact .inr ⟨rfl, rfl⟩); (repeat (first | exact At.here | apply At.there)); exact rfl) | (apply ltr_loadR1; exact rfl; (repeat (first | exact At.here | apply At.there)); assumption; exact rfl) | (apply ltr_loadRN; exact rfl; (repeat (first | exact At.here | apply At.there)); assumption))
            · repeat (first | exact App.nil | apply App.cons)
            apply Run.pv [] []
            · exact rfl
            · intro vs; apply ltr_pk; (repeat (first | exact Pk.nil | (apply Pk.pv; exact rfl; exact rfl) | (apply Pk.tok; exact rfl; exact rfl)))
              (first | (refine ltr ?_; apply lt_fieldAt; exact rfl; exact rfl) | (apply ltr_field; exact rfl; (repeat (first | exact At.here | apply At.there))) | (refine ltr ?_; apply lt_fieldEl; exact rfl; exact rfl) | (refine ltr ?_; apply lt_fieldRat; exact rfl; exact rfl))
            · repeat (first | exact App.nil | apply App.cons)
            apply Run.pv [7] []
            · exact rfl
            · intro vs; apply ltr_pk; (repeat (first | exact Pk.nil | (apply Pk.pv; exact rfl; exact rfl) | (apply Pk.tok; exact rfl; exact rfl)))
              (first | (apply ltr_load1; (first | exact .inl rfl | exact .inr ⟨rfl, rfl⟩); (repeat (first | exact At.here | apply At.there)); exact rfl) | (refine ltr ?_; apply lt_loadE1'; exact rfl; assumption; exact rfl) | (refine ltr ?_; apply lt_loadEN'; exact rfl; assumption; exact rfl) | (apply ltr_loadN; (first | exact .inl rfl | exact .inr ⟨rfl, rfl⟩); (repeat (first | exact At.here | apply At.there)); exact rfl) | (apply ltr_loadR1; exact rfl; (repeat (first | exact At.here | apply At.there)); assumption; exact rfl) | (apply ltr_loadRN; exact rfl; (repeat (first | exact At.here | apply At.there)); assumption))
            · repeat (first | exact App.nil | apply App.cons)
            refine ⟨⟨by kernel_rfl, by kernel_rfl⟩, fun vs => ?_⟩
            refine WL_to [(2, .val pb), (7, .val v), (18, .sl 3 payC l), (19, .val (.int .i64 l.length)), (20, .val (.int .i64 k)), (9, .val p), (39, .val v), (43, .val (.int .i64 ((f.ids.idxOf l[k].a : Nat) : Int))), (45, .val (.int .i64 cu[f.ids.idxOf l[k].a])), (47, .val (.int .i64 l[k].p))] [.box p (payC l[k]) 53, .row v 3 1 iC cu, .box pb (flC f) 27] (by kernel_rfl) (by kernel_rfl) ?_
            ((apply wl_add; exact rfl; exact rfl; omega; omega; exact rfl); (apply wl_indexRow; exact rfl; (repeat (first | exact At.here | apply At.there)); exact rfl; exact rfl; (first | assumption | omega | (simp; omega)); exact rfl); (apply wl_storeR1; exact rfl; (repeat (first | exact At.here | apply At.there)); exact rfl; exact inferInstance; (case hk => first | assumption | omega | exact Nat.one_pos | (simp; omega)); exact (of_decide_eq_true rfl); exact rfl); refine WL_nil ?_; refine th_norm ?_)
            generalize hc1 : cu.set (f.ids.idxOf l[k].a) (cu[f.ids.idxOf l[k].a] + l[k].p) = c1 at *
            have hc1l : c1.length = f.ids.length := by rw [← hc1, List.length_set, hcl]
            have hix2 : f.ids.idxOf l[k].b < c1.length := by rw [hc1l]; exact List.idxOf_lt_length_of_mem hP.2.1
            have hq3 : c1[f.ids.idxOf l[k].b]? = some c1[f.ids.idxOf l[k].b] := List.getElem?_eq_getElem hix2
            have hce2 := hb1.at hix2
            rw [addAt_at hix2] at hno
            have hb2 := hb1.addAt (f.ids.idxOf l[k].b) (d := -l[k].p) (a := -1000000) (b := 0) (by omega) (by omega) (by omega) (by omega) (by omega) (by omega)
            rw [addAt_at hix2] at hb2
            refine W_run 9 [50, 51, 52, 53, 54, 55, 56, 57, 58] [0, 1, 2, 3, 4, 5, 6, 7, 8] Cut.nil rfl (by repeat (first | exact Flt.nil | (apply Flt.keep; exact rfl) | (apply Flt.drop; exact rfl))) mixedS (by kernel_rfl) rfl ?_
            apply Run.pv [] []
            · exact rfl
            · intro vs; apply ltr_pk; (repeat (first | exact Pk.nil | (apply Pk.pv; exact rfl; exact rfl) | (apply Pk.tok; exact rfl; exact rfl)))
              (first | (refine ltr ?_; apply lt_move; exact rfl))
            · repeat (first | exact App.nil | apply App.cons)
            apply Run.pv [] []
            · exact rfl
            · intro vs; apply ltr_pk; (repeat (first | exact Pk.nil | (apply Pk.pv; exact rfl; exact rfl) | (apply Pk.tok; exact rfl; exact rfl)))
              (first | (apply ltr_load1; (first | exact .inl rfl | exact .inr ⟨rfl, rfl⟩); (repeat (first | exact At.here | apply At.there)); exact rfl) | (refine ltr ?_; apply lt_loadE1'; exact rfl; assumption; exact rfl) | (refine ltr ?_; apply lt_loadEN'; exact rfl; assumption; exact rfl) | (apply ltr_loadN; (first | exact .inl rfl | exact .inr ⟨rfl, rfl⟩); (repeat (first | exact At.here | apply At.there)); exact rfl) | (apply ltr_loadR1; exact rfl; (repeat (first | exact At.here | apply At.there)); assumption; exact rfl) | (apply ltr_loadRN; exact rfl; (repeat (first | exact At.here | apply At.there)); assumption))
            · repeat (first | exact App.nil | apply App.cons)
            apply Run.pv [] []
            · exact rfl
            · intro vs; apply ltr_pk; (repeat (first | exact Pk.nil | (apply Pk.pv; exact rfl; exact rfl) | (apply Pk.tok; exact rfl; exact rfl)))
              (first | (refine ltr ?_; apply lt_fieldAt; exact rfl; exact rfl) | (apply ltr_field; exact rfl; (repeat (first | exact At.here | apply At.there))) | (refine ltr ?_; apply lt_fieldEl; exact rfl; exact rfl) | (refine ltr ?_; apply lt_fieldRat; exact rfl; exact rfl))
            · repeat (first | exact App.nil | apply App.cons)
            apply Run.pv [2] []
            · exact rfl
            · intro vs; apply ltr_pk; (repeat (first | exact Pk.nil | (apply Pk.pv; exact rfl; exact rfl) | (apply Pk.tok; exact rfl; exact rfl)))
              (first | (apply ltr_load1; (first | exact .inl rfl | exact .inr ⟨rfl, rfl⟩); (repeat (first | exact At.here | apply At.there)); exact rfl) | (refine ltr ?_; apply lt_loadE1'; exact rfl; assumption; exact rfl) | (refine ltr ?_; apply lt_loadEN'; exact rfl; assumption; exact rfl) | (apply ltr_loadN; (first | exact .inl rfl | exact .inr ⟨rfl, rfl⟩); (repeat (first | exact At.here | apply At.there)); exact rfl) | (apply ltr_loadR1; exact rfl; (repeat (first | exact At.here | apply At.there)); assumption; exact rfl) | (apply ltr_loadRN; exact rfl; (repeat (first | exact At.here | apply At.there)); assumption))
            · repeat (first | exact App.nil | apply App.cons)
            apply Run.pv [1, 3] []
            · exact rfl
            · intro vs; apply ltr_pk; (repeat (first | exact Pk.nil | (apply Pk.pv; exact rfl; exact rfl) | (apply Pk.tok; exact rfl; exact rfl)))
              (refine ltr ?_; refine lt_call ?_ ((floorAt_con f _ (by omega) hP.2.1)); exact rfl)
            · repeat (first | exact App.nil | apply App.cons)
            apply Run.pv [0, 4] []
            · exact rfl
            · intro vs; apply ltr_pk; (repeat (first | exact Pk.nil | (apply Pk.pv; exact rfl; exact rfl) | (apply Pk.tok; exact rfl; exact rfl)))
              (first | (refine ltr ?_; apply lt_indexSl; exact rfl; exact rfl; exact rfl; (first | assumption | omega | (simp; omega))) | (apply ltr_indexRow; exact rfl; (repeat (first | exact At.here | apply At.there)); exact rfl; exact rfl; (first | assumption | omega | (simp; omega))) | (apply ltr_indexArr; exact rfl; (repeat (first | exact At.here | apply At.there)); exact rfl; exact rfl; (first | assumption | omega | decide)))
            · repeat (first | exact App.nil | apply App.cons)
            apply Run.pv [5] []
            · exact rfl
            · intro vs; apply ltr_pk; (repeat (first | exact Pk.nil | (apply Pk.pv; exact rfl; exact rfl) | (apply Pk.tok; exact rfl; exact rfl)))
              (first | (apply ltr_load1; (first | exact .inl rfl | exact .inr ⟨rfl, rfl⟩); (repeat (first | exact At.here | apply At.there)); exact rfl) | (refine ltr ?_; apply lt_loadE1'; exact rfl; assumption; exact rfl) | (refine ltr ?_; apply lt_loadEN'; exact rfl; assumption; exact rfl) | (apply ltr_loadN; (first | exact .inl rfl | exact .inr ⟨rfl, rfl⟩); (repeat (first | exact At.here | apply At.there)); exact rfl) | (apply ltr_loadR1; exact rfl; (repeat (first | exact At.here | apply At.there)); assumption; exact rfl) | (apply ltr_loadRN; exact rfl; (repeat (first | exact At.here | apply At.there)); assumption))
            · repeat (first | exact App.nil | apply App.cons)
            apply Run.pv [] []
            · exact rfl
            · intro vs; apply ltr_pk; (repeat (first | exact Pk.nil | (apply Pk.pv; exact rfl; exact rfl) | (apply Pk.tok; exact rfl; exact rfl)))
              (first | (refine ltr ?_; apply lt_fieldAt; exact rfl; exact rfl) | (apply ltr_field; exact rfl; (repeat (first | exact At.here | apply At.there))) | (refine ltr ?_; apply lt_fieldEl; exact rfl; exact rfl) | (refine ltr ?_; apply lt_fieldRat; exact rfl; exact rfl))
            · repeat (first | exact App.nil | apply App.cons)
            apply Run.pv [7] []
            · exact rfl
            · intro vs; apply ltr_pk; (repeat (first | exact Pk.nil | (apply Pk.pv; exact rfl; exact rfl) | (apply Pk.tok; exact rfl; exact rfl)))
              (first | (apply ltr_load1; (first | exact .inl rfl | exact .inr ⟨rfl, rfl⟩); (repeat (first | exact At.here | apply At.there)); exact rfl) | (refine ltr ?_; apply lt_loadE1'; exact rfl; assumption; exact rfl) | (refine ltr ?_; apply lt_loadEN'; exact rfl; assumption; exact rfl) | (apply ltr_loadN; (first | exact .inl rfl | exact .inr ⟨rfl, rfl⟩); (repeat (first | exact At.here | apply At.there)); exact rfl) | (apply ltr_loadR1; exact rfl; (repeat (first | exact At.here | apply At.there)); assumption; exact rfl) | (apply ltr_loadRN; exact rfl; (repeat (first | exact At.here | apply At.there)); assumption))
            · repeat (first | exact App.nil | apply App.cons)
            refine ⟨⟨by kernel_rfl, by kernel_rfl⟩, fun vs => ?_⟩
            refine WL_to [(2, .val pb), (7, .val v), (18, .sl 3 payC l), (19, .val (.int .i64 l.length)), (20, .val (.int .i64 k)), (9, .val p), (50, .val v), (54, .val (.int .i64 ((f.ids.idxOf l[k].b : Nat) : Int))), (56, .val (.int .i64 c1[f.ids.idxOf l[k].b])), (58, .val (.int .i64 l[k].p))] [.box p (payC l[k]) 53, .row v 3 1 iC c1, .box pb (flC f) 27] (by kernel_rfl) (by kernel_rfl) ?_
            ((apply wl_sub; exact rfl; exact rfl; omega; omega; exact rfl); (apply wl_indexRow; exact rfl; (repeat (first | exact At.here | apply At.there)); exact rfl; exact rfl; (first | assumption | omega | (simp; omega)); exact rfl); (apply wl_storeR1; exact rfl; (repeat (first | exact At.here | apply At.there)); exact rfl; exact inferInstance; (case hk => first | assumption | omega | exact Nat.one_pos | (simp; omega)); exact (of_decide_eq_true rfl); exact rfl); refine WL_nil ?_; refine bl_norm ?_; refine th_norm ?_; refine W_region ?_; (apply wl_add; exact rfl; exact rfl; omega; omega; exact rfl); (apply wl_move; exact rfl; exact rfl); refine WL_nil ?_; refine th_norm ?_)
            skip
            (refine ⟨(k + 1, c1.set (f.ids.idxOf l[k].b) (c1[f.ids.idxOf l[k].b] + -l[k].p)), fun _ _ st => st_sub2 st ?_ ?_, ?_, ?_⟩; (repeat (first | exact trivial | refine ⟨rfl, ?_⟩)); (repeat (first | exact SubP.nil | (apply SubP.cons; (repeat (first | exact Rm.here | apply Rm.there))))))
            · exact ⟨hlt', by dsimp only; rw [List.length_set]; exact hc1l, hno, hb2.mono (by dsimp only; omega) (by dsimp only; omega)⟩
            · dsimp only; omega
      · have hkk : k = l.length := by simp at hlt; omega
        subst hkk
        rw [List.drop_length, judgeGo] at hno
        rw [← hno]
        (apply W_frz 7; exact rfl; (repeat (first | exact Rm.here | apply Rm.there)))
        (refine W_exit ?_; refine th_exit ?_; refine th_exit ?_; refine bl_eq ?_; refine th_norm ?_; refine W_seq ?_; refine W_region ?_; (apply wl_move; exact rfl; exact rfl); (apply wl_assign; exact rfl; exact rfl); (apply wl_assign; exact rfl; exact rfl); (apply wl_assign; exact rfl; exact rfl); refine WL_nil ?_; refine th_norm ?_; refine W_ret ?_; refine rt_norm ?_)
        (apply res3; exact rfl; exact rfl; exact rfl; exact rfl; exact ⟨rfl, rfl⟩)
end Go.Proofs.YtbkellknlcageaaDoor.Sw
