/- The law's 'spoil': it writes over own memory. -/
import Derived.Test.YtbkellknlcageaaDoorFloorCg
namespace Go.Proofs.YtbkellknlcageaaDoor.Sw
open Go.RowKit Go Go.Shelf Go.Proofs
theorem stkR_perm : ∀ (bs : List Bil) (us : List Value) (k : Nat) (h : k < bs.length) (h2 : k < us.length), (stkR bs us).Perm (.row us[k] 113 2 stC bs[k].st :: stkR (bs.eraseIdx k) (us.eraseIdx k))
  | x :: t, u :: us, 0, _, _ => by simp [stkR]
  | x :: t, u :: us, k + 1, h, h2 => by
    simp only [stkR, List.eraseIdx_cons_succ, List.getElem_cons_succ]
    exact ((stkR_perm t us k (by simpa using h) (by simpa using h2)).cons _).trans (List.Perm.swap _ _ _)
  | [], _, _, h, _ => by simp at h
  | _ :: _, [], _, _, h2 => by simp at h2
theorem mixL_get : ∀ (bs : List Bil) (us : List Value) (k : Nat) (h : k < bs.length) (h2 : k < us.length), (mixL bs us)[k]? = some (bs[k], some us[k])
  | x :: t, u :: us, 0, _, _ => rfl
  | x :: t, u :: us, k + 1, h, h2 => by
    simp only [mixL, List.getElem?_cons_succ, List.getElem_cons_succ]
    exact mixL_get t us k (by simpa using h) (by simpa using h2)
  | [], _, _, h, _ => by simp at h
  | _ :: _, [], _, _, h2 => by simp at h2
theorem mixL_setx : ∀ (bs : List Bil) (us : List Value) (k : Nat) (h2 : k < us.length) (x : Bil), (mixL bs us).set k (x, some us[k]) = mixL (bs.set k x) us
  | y :: t, u :: us, 0, _, x => rfl
  | y :: t, u :: us, k + 1, h2, x => by
    simp only [mixL, List.set_cons_succ, List.getElem_cons_succ]
    rw [mixL_setx t us k (by simpa using h2) x]
  | [], _, _, _, _ => rfl
  | _ :: _, [], _, h2, _ => by simp at h2
theorem mbC_st (x y : Bil) (u : Value) (h : x.no = y.no) (h2 : x.py = y.py) (h3 : x.pe = y.pe) : mbC (x, some u) = mbC (y, some u) := by unfold mbC; simp [h, h2, h3]
set_option maxRecDepth 20000 in
set_option maxHeartbeats 4000000 in
theorem spoil_con (vi vq vb vp : Value) (f : Flo) (hS : Sml f) : Con Tryd.prog 30 [.agg [.val vi, .val vq, .val vb, .val vp]] [floOwn vi vq vb vp f] (Is (.tup []) []) := by
  have hidsl := hS.ids
  have hqsl := hS.qs
  have hbsl := hS.bs
  have hpsl := hS.ps
  refine con_of Tryd.func30 rfl (enters_of Tryd.func30 (by kernel_rfl) rfl) rfl ?_; intro n w0 F0 G0
  apply W_exs
  · (repeat (first | exact Rm.here | apply Rm.there))
  intro us
  apply W_fact
  · (repeat (first | exact Rm.here | apply Rm.there))
  intro hus
  (refine W_seq ?_; refine W_region ?_; (apply wl_boxv; exact rfl; exact inferInstance; exact rfl; intro p hp); refine WL_nil ?_; refine th_norm ?_; refine W_seq ?_; refine W_seq ?_; refine W_region ?_; (apply wl_field; exact rfl; (repeat (first | exact At.here | apply At.there)); exact rfl); (apply wl_load1; (first | exact .inl rfl | exact .inr ⟨rfl, rfl⟩); (repeat (first | exact At.here | apply At.there)); exact rfl; exact rfl); (apply wl_lenRow; exact rfl; (repeat (first | exact At.here | apply At.there)); exact rfl); (apply wl_move; exact rfl; exact rfl); refine WL_nil ?_; refine th_norm ?_; refine W_block ?_)
  refine W_loopJ (fun (b : Nat × List Int) => ⟨[(1, .val p), (9, .val (.int .i64 b.2.length)), (10, .val (.int .i64 b.1))], [.row vi 3 1 iC b.2, .row vq 55 2 quC f.qs, .row vb 66 4 mbC (mixL f.bs us), .row vp 53 3 payC f.ps, .pack (stkR f.bs us), .box p [.val vi, .val vq, .val vb, .val vp] 27]⟩) (fun b => b.1 ≤ b.2.length ∧ b.2.length ≤ 1000) (fun b => b.2.length - b.1) (0, f.ids) (fun _ _ st => st_sub2 st (by (repeat (first | exact trivial | refine ⟨rfl, ?_⟩))) (by (repeat (first | exact SubP.nil | (apply SubP.cons; (repeat (first | exact Rm.here | apply Rm.there))))))) ⟨Nat.zero_le _, by dsimp only; omega⟩ ?_
  rintro ⟨k, l⟩ ⟨hk, hkl⟩
  dsimp only at hk hkl ⊢
  (refine W_seq ?_; refine W_region ?_; (apply wl_lss; exact rfl; exact rfl; exact rfl); refine WL_nil ?_; refine th_norm ?_; refine W_seq ?_)
  refine w_cond rfl (fun hlt => ?_) (fun hlt => ?_)
  · have hlt' : k < l.length := by simpa using hlt
    (refine W_skip ?_; refine th_norm ?_; refine W_seq ?_; refine W_block ?_; refine W_seq ?_; refine W_region ?_; (apply wl_move; exact rfl; exact rfl); (apply wl_assign; exact rfl; exact rfl); refine WL_nil ?_; refine th_norm ?_; refine W_region ?_; (apply wl_field; exact rfl; (repeat (first | exact At.here | apply At.there)); exact rfl); (apply wl_load1; (first | exact .inl rfl | exact .inr ⟨rfl, rfl⟩); (repeat (first | exact At.here | apply At.there)); exact rfl; exact rfl); (apply wl_move; exact rfl; exact rfl); (apply wl_indexRow; exact rfl; (repeat (first | exact At.here | apply At.there)); exact rfl; exact rfl; (first | assumption | omega | (simp; omega)); exact rfl); (apply wl_storeR1; exact rfl; (repeat (first | exact At.here | apply At.there)); exact rfl; exact inferInstance; (case hk => first | assumption | omega | exact Nat.one_pos | (simp; omega)); exact (of_decide_eq_true rfl); exact rfl); refine WL_nil ?_; refine bl_norm ?_; refine th_norm ?_; refine W_region ?_; (apply wl_add; exact rfl; exact rfl; omega; omega; exact rfl); (apply wl_move; exact rfl; exact rfl); refine WL_nil ?_; refine th_norm ?_)
    refine ⟨(k + 1, l.set k (-7)), fun _ _ st => st_sub2 st ?_ ?_, ?_, ?_⟩
    · dsimp only; rw [List.length_set]; (repeat (first | exact trivial | refine ⟨rfl, ?_⟩))
    · (repeat (first | exact SubP.nil | (apply SubP.cons; (repeat (first | exact Rm.here | apply Rm.there)))))
    · dsimp only; rw [List.length_set]; omega
    · dsimp only; rw [List.length_set]; omega
  · clear hlt hk hkl
    (refine W_exit ?_; refine th_exit ?_; refine th_exit ?_; refine bl_eq ?_; refine th_norm ?_; refine W_seq ?_; refine W_seq ?_; refine W_region ?_; (apply wl_field; exact rfl; (repeat (first | exact At.here | apply At.there)); exact rfl); (apply wl_load1; (first | exact .inl rfl | exact .inr ⟨rfl, rfl⟩); (repeat (first | exact At.here | apply At.there)); exact rfl; exact rfl); (apply wl_lenRow; exact rfl; (repeat (first | exact At.here | apply At.there)); exact rfl); (apply wl_move; exact rfl; exact rfl); refine WL_nil ?_; refine th_norm ?_; refine W_block ?_)
    refine W_loopJ (fun (b : Nat × List Qu) => ⟨[(1, .val p), (20, .val (.int .i64 b.2.length)), (21, .val (.int .i64 b.1))], [.row vq 55 2 quC b.2, .row vb 66 4 mbC (mixL f.bs us), .row vp 53 3 payC f.ps, .pack (stkR f.bs us), .box p [.val vi, .val vq, .val vb, .val vp] 27]⟩) (fun b => b.1 ≤ b.2.length ∧ b.2.length ≤ 1000) (fun b => b.2.length - b.1) (0, f.qs) (fun _ _ st => st_sub2 st (by (repeat (first | exact trivial | refine ⟨rfl, ?_⟩))) (by (repeat (first | exact SubP.nil | (apply SubP.cons; (repeat (first | exact Rm.here | apply Rm.there))))))) ⟨Nat.zero_le _, by dsimp only; omega⟩ ?_
    rintro ⟨k, l⟩ ⟨hk, hkl⟩
    dsimp only at hk hkl ⊢
    (refine W_seq ?_; refine W_region ?_; (apply wl_lss; exact rfl; exact rfl; exact rfl); refine WL_nil ?_; refine th_norm ?_; refine W_seq ?_)
    refine w_cond rfl (fun hlt => ?_) (fun hlt => ?_)
    · have hlt' : k < l.length := by simpa using hlt
      (refine W_skip ?_; refine th_norm ?_; refine W_seq ?_; refine W_block ?_; refine W_seq ?_; refine W_region ?_; (apply wl_move; exact rfl; exact rfl); (apply wl_assign; exact rfl; exact rfl); refine WL_nil ?_; refine th_norm ?_; refine W_region ?_; (apply wl_field; exact rfl; (repeat (first | exact At.here | apply At.there)); exact rfl); (apply wl_load1; (first | exact .inl rfl | exact .inr ⟨rfl, rfl⟩); (repeat (first | exact At.here | apply At.there)); exact rfl; exact rfl); (apply wl_move; exact rfl; exact rfl); (apply wl_indexRow; exact rfl; (repeat (first | exact At.here | apply At.there)); exact rfl; exact rfl; (first | assumption | omega | (simp; omega)); exact rfl); (apply wl_fieldRat; exact rfl; exact rfl; exact rfl))
      apply wl_storeRx (⟨-7, l[k].b⟩ : Qu)
      · exact rfl
      · (repeat (first | exact At.here | apply At.there))
      · exact rfl
      · exact inferInstance
      · exact inferInstance
      case hk => exact hlt'
      · decide
      · rfl
      (refine WL_nil ?_; refine bl_norm ?_; refine th_norm ?_; refine W_region ?_; (apply wl_add; exact rfl; exact rfl; omega; omega; exact rfl); (apply wl_move; exact rfl; exact rfl); refine WL_nil ?_; refine th_norm ?_)
      refine ⟨(k + 1, l.set k ⟨-7, l[k].b⟩), fun _ _ st => st_sub2 st ?_ ?_, ?_, ?_⟩
      · dsimp only; rw [List.length_set]; (repeat (first | exact trivial | refine ⟨rfl, ?_⟩))
      · (repeat (first | exact SubP.nil | (apply SubP.cons; (repeat (first | exact Rm.here | apply Rm.there)))))
      · dsimp only; rw [List.length_set]; omega
      · dsimp only; rw [List.length_set]; omega
    · clear hlt hk hkl
      (refine W_exit ?_; refine th_exit ?_; refine th_exit ?_; refine bl_eq ?_; refine th_norm ?_; refine W_seq ?_; refine W_seq ?_; refine W_region ?_; (apply wl_field; exact rfl; (repeat (first | exact At.here | apply At.there)); exact rfl); (apply wl_load1; (first | exact .inl rfl | exact .inr ⟨rfl, rfl⟩); (repeat (first | exact At.here | apply At.there)); exact rfl; exact rfl); (apply wl_lenRow; exact rfl; (repeat (first | exact At.here | apply At.there)); exact rfl); (apply wl_move; exact rfl; exact rfl); refine WL_nil ?_; refine th_norm ?_; refine W_block ?_)
      refine W_loopJ (fun (b : Nat × List Pay) => ⟨[(1, .val p), (32, .val (.int .i64 b.2.length)), (33, .val (.int .i64 b.1))], [.row vb 66 4 mbC (mixL f.bs us), .row vp 53 3 payC b.2, .pack (stkR f.bs us), .box p [.val vi, .val vq, .val vb, .val vp] 27]⟩) (fun b => b.1 ≤ b.2.length ∧ b.2.length ≤ 1000) (fun b => b.2.length - b.1) (0, f.ps) (fun _ _ st => st_sub2 st (by (repeat (first | exact trivial | refine ⟨rfl, ?_⟩))) (by (repeat (first | exact SubP.nil | (apply SubP.cons; (repeat (first | exact Rm.here | apply Rm.there))))))) ⟨Nat.zero_le _, by dsimp only; omega⟩ ?_
      rintro ⟨k, l⟩ ⟨hk, hkl⟩
      dsimp only at hk hkl ⊢
      (refine W_seq ?_; refine W_region ?_; (apply wl_lss; exact rfl; exact rfl; exact rfl); refine WL_nil ?_; refine th_norm ?_; refine W_seq ?_)
      refine w_cond rfl (fun hlt => ?_) (fun hlt => ?_)
      · have hlt' : k < l.length := by simpa using hlt
        (refine W_skip ?_; refine th_norm ?_; refine W_seq ?_; refine W_block ?_; refine W_seq ?_; refine W_region ?_; (apply wl_move; exact rfl; exact rfl); (apply wl_assign; exact rfl; exact rfl); refine WL_nil ?_; refine th_norm ?_; refine W_region ?_; (apply wl_field; exact rfl; (repeat (first | exact At.here | apply At.there)); exact rfl); (apply wl_load1; (first | exact .inl rfl | exact .inr ⟨rfl, rfl⟩); (repeat (first | exact At.here | apply At.there)); exact rfl; exact rfl); (apply wl_move; exact rfl; exact rfl); (apply wl_indexRow; exact rfl; (repeat (first | exact At.here | apply At.there)); exact rfl; exact rfl; (first | assumption | omega | (simp; omega)); exact rfl); (apply wl_fieldRat; exact rfl; exact rfl; exact rfl))
        apply wl_storeRx (⟨l[k].a, l[k].b, -7⟩ : Pay)
        · exact rfl
        · (repeat (first | exact At.here | apply At.there))
        · exact rfl
        · exact inferInstance
        · exact inferInstance
        case hk => exact hlt'
        · decide
        · rfl
        (refine WL_nil ?_; refine bl_norm ?_; refine th_norm ?_; refine W_region ?_; (apply wl_add; exact rfl; exact rfl; omega; omega; exact rfl); (apply wl_move; exact rfl; exact rfl); refine WL_nil ?_; refine th_norm ?_)
        refine ⟨(k + 1, l.set k ⟨l[k].a, l[k].b, -7⟩), fun _ _ st => st_sub2 st ?_ ?_, ?_, ?_⟩
        · dsimp only; rw [List.length_set]; (repeat (first | exact trivial | refine ⟨rfl, ?_⟩))
        · (repeat (first | exact SubP.nil | (apply SubP.cons; (repeat (first | exact Rm.here | apply Rm.there)))))
        · dsimp only; rw [List.length_set]; omega
        · dsimp only; rw [List.length_set]; omega
      · clear hlt hk hkl
        have hml0 := mixL_len f.bs us
        (refine W_exit ?_; refine th_exit ?_; refine th_exit ?_; refine bl_eq ?_; refine th_norm ?_; refine W_seq ?_; refine W_region ?_; (apply wl_field; exact rfl; (repeat (first | exact At.here | apply At.there)); exact rfl); (apply wl_load1; (first | exact .inl rfl | exact .inr ⟨rfl, rfl⟩); (repeat (first | exact At.here | apply At.there)); exact rfl; exact rfl); (apply wl_lenRow; exact rfl; (repeat (first | exact At.here | apply At.there)); exact rfl); (apply wl_move; exact rfl; exact rfl); refine WL_nil ?_; refine th_norm ?_; refine W_block ?_)
        rw [hml0]
        refine W_loopJ (fun (b : Nat × List Bil) => ⟨[(1, .val p), (44, .val (.int .i64 b.2.length)), (45, .val (.int .i64 b.1))], [.row vb 66 4 mbC (mixL b.2 us), .pack (stkR b.2 us), .box p [.val vi, .val vq, .val vb, .val vp] 27]⟩) (fun b => b.1 ≤ b.2.length ∧ b.2.length = us.length ∧ b.2.length ≤ 1000 ∧ ∀ x ∈ b.2, x.st.length ≤ 1000) (fun b => b.2.length - b.1) (0, f.bs) (fun _ _ st => st_sub2 st (by (repeat (first | exact trivial | refine ⟨rfl, ?_⟩))) (by (repeat (first | exact SubP.nil | (apply SubP.cons; (repeat (first | exact Rm.here | apply Rm.there))))))) ⟨Nat.zero_le _, hus.symm, by dsimp only; omega, hS.st⟩ ?_
        rintro ⟨k, bs⟩ ⟨hk, hbu, hkl, hst⟩
        dsimp only at hk hbu hkl hst ⊢
        (refine W_seq ?_; refine W_region ?_; (apply wl_lss; exact rfl; exact rfl; exact rfl); refine WL_nil ?_; refine th_norm ?_; refine W_seq ?_)
        refine w_cond rfl (fun hlt => ?_) (fun hlt => ?_)
        · have hlt' : k < bs.length := by simpa using hlt
          have hku : k < us.length := by omega
          have hml := mixL_len bs us
          have hix : k < (mixL bs us).length := by omega
          have hmg := mixL_get bs us k hlt' hku
          have hge : (mixL bs us)[k] = (bs[k], some us[k]) := by rw [List.getElem?_eq_getElem hix] at hmg; exact Option.some.inj hmg
          have hstk := hst _ (List.getElem_mem hlt')
          (refine W_skip ?_; refine th_norm ?_; refine W_seq ?_; refine W_block ?_; refine W_seq ?_; refine W_region ?_; (apply wl_move; exact rfl; exact rfl); (apply wl_assign; exact rfl; exact rfl); refine WL_nil ?_; refine th_norm ?_; refine W_seq ?_; refine W_seq ?_; refine W_region ?_; (apply wl_field; exact rfl; (repeat (first | exact At.here | apply At.there)); exact rfl); (apply wl_load1; (first | exact .inl rfl | exact .inr ⟨rfl, rfl⟩); (repeat (first | exact At.here | apply At.there)); exact rfl; exact rfl); (apply wl_move; exact rfl; exact rfl); (apply wl_indexRow; exact rfl; (repeat (first | exact At.here | apply At.there)); exact rfl; exact rfl; (first | assumption | omega | (simp; omega)); exact rfl); (apply wl_fieldRat; exact rfl; exact rfl; exact rfl); (apply wl_loadR1; exact rfl; (repeat (first | exact At.here | apply At.there)); (case hk => first | assumption | omega | exact Nat.one_pos | (simp; omega)); exact rfl; exact rfl))
          apply WL_eqR 53 (.val us[k]) rfl (by simp only [hge])
          refine WL_unpack (stkR_perm bs us k hlt' hku) (by (repeat (first | exact Rm.here | apply Rm.there))) ?_
          ((apply wl_lenRow; exact rfl; (repeat (first | exact At.here | apply At.there)); exact rfl); (apply wl_move; exact rfl; exact rfl); refine WL_nil ?_; refine th_norm ?_; refine W_block ?_)
          refine W_loopJ (fun (b : Nat × List Stk) => ⟨[(1, .val p), (45, .val (.int .i64 k)), (5, .val (.int .i64 k)), (44, .val (.int .i64 bs.length)), (54, .val (.int .i64 b.2.length)), (55, .val (.int .i64 b.1))], [.row us[k] 113 2 stC b.2, .row vb 66 4 mbC (mixL bs us), .pack (stkR (bs.eraseIdx k) (us.eraseIdx k)), .box p [.val vi, .val vq, .val vb, .val vp] 27]⟩) (fun b => b.1 ≤ b.2.length ∧ b.2.length ≤ 1000) (fun b => b.2.length - b.1) (0, bs[k].st) (fun _ _ st => st_sub2 st (by (repeat (first | exact trivial | refine ⟨rfl, ?_⟩))) (by (repeat (first | exact SubP.nil | (apply SubP.cons; (repeat (first | exact Rm.here | apply Rm.there))))))) ⟨Nat.zero_le _, hstk⟩ ?_
          rintro ⟨j, l⟩ ⟨hj, hjl⟩
          dsimp only at hj hjl ⊢
          (refine W_seq ?_; refine W_region ?_; (apply wl_lss; exact rfl; exact rfl; exact rfl); refine WL_nil ?_; refine th_norm ?_; refine W_seq ?_)
          refine w_cond rfl (fun hlu => ?_) (fun hlu => ?_)
          · have hlu' : j < l.length := by simpa using hlu
            (refine W_skip ?_; refine th_norm ?_; refine W_seq ?_; refine W_block ?_; refine W_seq ?_; refine W_region ?_; (apply wl_move; exact rfl; exact rfl); (apply wl_assign; exact rfl; exact rfl); refine WL_nil ?_; refine th_norm ?_; refine W_region ?_; (apply wl_field; exact rfl; (repeat (first | exact At.here | apply At.there)); exact rfl); (apply wl_load1; (first | exact .inl rfl | exact .inr ⟨rfl, rfl⟩); (repeat (first | exact At.here | apply At.there)); exact rfl; exact rfl); (apply wl_move; exact rfl; exact rfl); (apply wl_indexRow; exact rfl; (repeat (first | exact At.here | apply At.there)); exact rfl; exact rfl; (first | assumption | omega | (simp; omega)); exact rfl); (apply wl_fieldRat; exact rfl; exact rfl; exact rfl); (apply wl_loadR1; exact rfl; (repeat (first | exact At.here | apply At.there)); (case hk => first | assumption | omega | exact Nat.one_pos | (simp; omega)); exact rfl; exact rfl); (apply wl_move; exact rfl; exact rfl))
            apply WL_eqR 63 (.val us[k]) rfl (by simp only [hge])
            ((apply wl_indexRow; exact rfl; (repeat (first | exact At.here | apply At.there)); exact rfl; exact rfl; (first | assumption | omega | (simp; omega)); exact rfl); (apply wl_fieldRat; exact rfl; exact rfl; exact rfl))
            apply wl_storeRx (⟨l[j].fl, -7⟩ : Stk)
            · exact rfl
            · (repeat (first | exact At.here | apply At.there))
            · exact rfl
            · exact inferInstance
            · exact inferInstance
            case hk => exact hlu'
            · decide
            · rfl
            (refine WL_nil ?_; refine bl_norm ?_; refine th_norm ?_; refine W_region ?_; (apply wl_add; exact rfl; exact rfl; omega; omega; exact rfl); (apply wl_move; exact rfl; exact rfl); refine WL_nil ?_; refine th_norm ?_)
            refine ⟨(j + 1, l.set j ⟨l[j].fl, -7⟩), fun _ _ st => st_sub2 st ?_ ?_, ?_, ?_⟩
            · dsimp only; rw [List.length_set]; (repeat (first | exact trivial | refine ⟨rfl, ?_⟩))
            · (repeat (first | exact SubP.nil | (apply SubP.cons; (repeat (first | exact Rm.here | apply Rm.there)))))
            · dsimp only; rw [List.length_set]; omega
            · dsimp only; rw [List.length_set]; omega
          · clear hlu hj
            have hp := stkR_perm (bs.set k ⟨bs[k].no, bs[k].py, -7, l⟩) us k (by rw [List.length_set]; exact hlt') hku
            rw [List.getElem_set_self, List.eraseIdx_set_eq] at hp
            refine W_repack hp (by (repeat (first | exact Rm.here | apply Rm.there))) (by (repeat (first | exact Rm.here | apply Rm.there))) ?_
            (refine W_exit ?_; refine th_exit ?_; refine th_exit ?_; refine bl_eq ?_; refine th_norm ?_; refine W_region ?_; (apply wl_field; exact rfl; (repeat (first | exact At.here | apply At.there)); exact rfl); (apply wl_load1; (first | exact .inl rfl | exact .inr ⟨rfl, rfl⟩); (repeat (first | exact At.here | apply At.there)); exact rfl; exact rfl); (apply wl_move; exact rfl; exact rfl); (apply wl_indexRow; exact rfl; (repeat (first | exact At.here | apply At.there)); exact rfl; exact rfl; (first | assumption | omega | (simp; omega)); exact rfl); (apply wl_fieldRat; exact rfl; exact rfl; exact rfl))
            apply wl_storeRx ((⟨bs[k].no, bs[k].py, -7, l⟩ : Bil), some us[k])
            · exact rfl
            · (repeat (first | exact At.here | apply At.there))
            · exact rfl
            · exact inferInstance
            · exact inferInstance
            case hk => exact hix
            · decide
            · rw [hge]; rfl
            rw [mixL_setx bs us k hku]
            (refine WL_nil ?_; refine bl_norm ?_; refine th_norm ?_; refine W_region ?_; (apply wl_add; exact rfl; exact rfl; omega; omega; exact rfl); (apply wl_move; exact rfl; exact rfl); refine WL_nil ?_; refine th_norm ?_)
            refine ⟨(k + 1, bs.set k ⟨bs[k].no, bs[k].py, -7, l⟩), fun _ _ st => st_sub2 st ?_ ?_, ?_, ?_⟩
            · dsimp only; rw [List.length_set]; (repeat (first | exact trivial | refine ⟨rfl, ?_⟩))
            · (repeat (first | exact SubP.nil | (apply SubP.cons; (repeat (first | exact Rm.here | apply Rm.there)))))
            · dsimp only
              refine ⟨?_, ?_, ?_, ?_⟩
              · rw [List.length_set]; omega
              · rw [List.length_set]; omega
              · rw [List.length_set]; omega
              · intro x hx
                rcases List.mem_or_eq_of_mem_set hx with h | rfl
                · exact hst x h
                · exact hjl
            · dsimp only; rw [List.length_set]; omega
        · clear hlt hk
          (refine W_exit ?_; refine th_exit ?_; refine th_exit ?_; refine bl_eq ?_; refine rt_norm ?_)
          (apply resK0; exact rfl; exact ⟨rfl, rfl⟩; (repeat (first | exact Cut.nil | (apply Cut.cons; (repeat (first | exact Rm.here | apply Rm.there))))))
end Go.Proofs.YtbkellknlcageaaDoor.Sw
