/- The reference's 'Owed'. -/
import Derived.Test.YtbkellknlcageaaDoorFloorW
namespace Go.Proofs.YtbkellknlcageaaDoor.Sw
open Go.RowKit Go Go.Shelf Go.Proofs
theorem subL_len {l m : List Int} (h : l.length = m.length) : (subL l m).length = l.length := by unfold subL; simp; omega
/-- The first so many entries less others. -/
def subTo (l m : List Int) (k : Nat) : List Int := (subL l m).take k ++ l.drop k
theorem subTo_len {l m : List Int} (h : l.length = m.length) (k : Nat) : (subTo l m k).length = l.length := by
  unfold subTo; rw [List.length_append, List.length_take, List.length_drop, subL_len h]; omega
theorem subTo_get {l m : List Int} {k : Nat} (h : l.length = m.length) (hk : k < l.length) : (subTo l m k)[k]? = some l[k] := by
  unfold subTo
  rw [List.getElem?_append_right (by rw [List.length_take, subL_len h]; omega), List.length_take, subL_len h, List.getElem?_drop]
  rw [show k + (k - min k l.length) = k by omega]; exact List.getElem?_eq_getElem hk
theorem subTo_set {l m : List Int} {k : Nat} (h : l.length = m.length) (hk : k < l.length) : (subTo l m k).set k (l[k] - m[k]) = subTo l m (k + 1) := by
  have hs := subL_len h
  have hk2 : k < (subL l m).length := by omega
  unfold subTo
  rw [List.set_append_right _ _ (by rw [List.length_take]; omega), List.length_take, hs, show k - min k l.length = 0 by omega, List.drop_eq_getElem_cons hk, List.set_cons_zero, List.take_succ_eq_append_getElem hk2, List.append_assoc]
  congr 1
  simp [subL]
theorem subTo_all {l m : List Int} (h : l.length = m.length) : subTo l m l.length = subL l m := by
  unfold subTo
  rw [List.drop_length, List.append_nil, List.take_of_length_le (by rw [subL_len h]; omega)]
theorem Btw.subL {lo hi a b : Int} {l m : List Int} (h : Btw lo hi l) (k : Btw a b m) : Btw (lo - b) (hi - a) (subL l m) := fun e he => by
  unfold Sw.subL at he
  rw [List.zipWith_eq_zipWith_take_min] at he
  obtain ⟨i, hi', rfl⟩ := List.getElem_of_mem he
  rw [List.getElem_zipWith]
  have h1 := h.at (i := i) (by simp at hi'; omega)
  have h2 := k.at (i := i) (by simp at hi'; omega)
  simp only [List.getElem_take] at *
  omega
set_option maxRecDepth 20000 in
set_option maxHeartbeats 2000000 in
theorem owed8_con (f : Flo) (hF : FloF f) (hS : Sml f) : Con Tryd.prog 61 [.agg (flC f)] [] (Tok 3 1 iC (owed8 f)) := by
  have hidsl := hF.ids
  have hbsl := hF.bs
  have hpsl := hF.ps
  refine con_of Tryd.func61 rfl (enters_of Tryd.func61 (by kernel_rfl) rfl) rfl ?_; intro n w0 F0 G0
  (refine W_seq ?_; refine W_region ?_; (apply wl_boxv; exact rfl; exact inferInstance; exact rfl; intro p hp); (apply wl_assign; exact rfl; exact rfl); refine WL_nil ?_; refine th_norm ?_; refine W_seq ?_; refine W_region ?_; (apply wl_field; exact rfl; (repeat (first | exact At.here | apply At.there)); exact rfl); (apply wl_load1; (first | exact .inl rfl | exact .inr ⟨rfl, rfl⟩); (repeat (first | exact At.here | apply At.there)); exact rfl; exact rfl); (apply wl_lenSl; exact rfl; exact rfl))
  (apply wl_make iC; exact inferInstance; exact inferInstance; exact inferInstance; exact inferInstance; exact rfl; exact rfl; exact rfl; (first | omega | (simp; omega)); exact rfl)
  intro v
  ((apply wl_assign; exact rfl; exact rfl); refine WL_nil ?_; refine th_norm ?_; refine W_seq ?_; refine W_seq ?_; refine W_region ?_; (apply wl_field; exact rfl; (repeat (first | exact At.here | apply At.there)); exact rfl); (apply wl_load1; (first | exact .inl rfl | exact .inr ⟨rfl, rfl⟩); (repeat (first | exact At.here | apply At.there)); exact rfl; exact rfl); (apply wl_lenSl; exact rfl; exact rfl); (apply wl_move; exact rfl; exact rfl); refine WL_nil ?_; refine th_norm ?_; refine W_block ?_)
  unfold owed8
  refine W_loopJ (fun (b : Nat × List Int) => ⟨[(1, .val p), (3, .val v), (15, .sl 4 biC f.bs), (16, .val (.int .i64 f.bs.length)), (17, .val (.int .i64 b.1))], [.row v 3 1 iC b.2, .box p (flC f) 27]⟩)
    (fun b => b.1 ≤ f.bs.length ∧ b.2.length = f.ids.length ∧ bilFold f.ids (f.bs.drop b.1) b.2 = bilFold f.ids f.bs (List.replicate f.ids.length 0) ∧ Btw (-(10000000 * b.1)) (10000000 * b.1) b.2) (fun b => f.bs.length - b.1) (0, List.replicate f.ids.length 0) (fun _ _ st => st_sub2 st (by (repeat (first | exact trivial | refine ⟨rfl, ?_⟩))) (by (repeat (first | exact SubP.nil | (apply SubP.cons; (repeat (first | exact Rm.here | apply Rm.there))))))) ⟨Nat.zero_le _, by simp, rfl, Btw.rep _ (by dsimp only; omega) (by dsimp only; omega)⟩ ?_
  rintro ⟨k, cur⟩ ⟨hk, hcl, hno, hbt⟩
  dsimp only at hk hcl hno hbt ⊢
  (refine W_seq ?_; refine W_region ?_; (apply wl_lss; exact rfl; exact rfl; exact rfl); refine WL_nil ?_; refine th_norm ?_; refine W_seq ?_)
  refine w_cond rfl (fun hlt => ?_) (fun hlt => ?_)
  · have hlt' : k < f.bs.length := by simpa using hlt
    have hB := hF.bil _ (List.getElem_mem hlt')
    have hsl := hS.st _ (List.getElem_mem hlt')
    have hpe0 := hB.pe0
    have hpe1 := hB.pe1
    have hix : f.ids.idxOf f.bs[k].py < cur.length := by rw [hcl]; exact List.idxOf_lt_length_of_mem hB.py
    have hq2 : cur[f.ids.idxOf f.bs[k].py]? = some cur[f.ids.idxOf f.bs[k].py] := List.getElem?_eq_getElem hix
    have hce := hbt.at hix
    rw [drop_step hlt', bilFold, addAt_at hix] at hno
    have hb1 := hbt.addAt (f.ids.idxOf f.bs[k].py) (d := f.bs[k].pe) (a := 0) (b := 1000000) (by omega) (by omega) (by omega) (by omega) (by omega) (by omega)
    rw [addAt_at hix] at hb1
    (refine W_skip ?_; refine th_norm ?_; refine W_seq ?_; refine W_block ?_; refine W_seq ?_; refine W_region ?_; (apply wl_indexSl; exact rfl; exact rfl; exact rfl; (first | assumption | omega | (simp; omega)); exact rfl); (apply wl_loadEN; exact rfl; (case hk => first | assumption | omega | exact Nat.one_pos | (simp; omega)); exact rfl; exact rfl); (apply wl_alloc; exact rfl; intro p hp); (apply wl_store; (first | exact .inl rfl | exact .inr ⟨rfl, rfl⟩); (repeat (first | exact At.here | apply At.there)); exact rfl; exact inferInstance; exact inferInstance; exact inferInstance; exact rfl; (first | exact (of_decide_eq_true rfl) | (simp; omega) | decide)); refine WL_nil ?_; refine th_norm ?_; refine W_seq ?_)
    rename_i pb hpb
    refine W_run 9 [21, 22, 23, 24, 25, 26, 27, 28, 29] [0, 1, 2, 3, 4, 5, 6, 7, 8] Cut.nil rfl (by repeat (first | exact Flt.nil | (apply Flt.keep; exact rfl) | (apply Flt.drop; exact rfl))) mixedS (by kernel_rfl) rfl ?_
    apply Run.pv [] []
    · exact rfl
    · intro vs; apply ltr_pk; (repeat (first | exact Pk.nil | (apply Pk.pv; exact rfl; exact rfl) | (apply Pk.tok; exact rfl; exact rfl)))
      (first | (refine ltr ?_; apply lt_move; exact rfl))
    · repeat (first | exact App.nil | apply App.cons)
    apply Run.pv [] []
    · exact rfl
    · intro vs; apply ltr_pk; (repeat (first | exact Pk.nil | (apply Pk.pv; exact rfl; exact rfl) | (apply Pk.tok; exact rfl; exact rfl)))
      (first | (apply ltr_load1; (first | exact .inl rfl | exact .inr ⟨rfl, rfl⟩); (repeat (first | exact At.here | apply At.there)); exact rfl) | (refine ltr ?_; apply lt_loadE1'; exact rfl; assumption; exact rfl) | (refine ltr ?_; apply lt_loadEN'; exact rfl; assumption; exact rfl) | (apply ltr_loadN; (first | exact .inl rfl | exact .inr ⟨rfl, rfl⟩); (repeat (first | exact At.here | apply At.there)); exact rfl) | (apply ltr_loadR1; exact rfl; (repeat (first | exact At.here | apply At.there)); assumption; exact rfl) | (apply ltr_loadRN; exact rfl; (repeat (first | exact At.here | apply At.there)); assumption))
    · repeat (first | exact App.nil | apply App.cons)
    apply Run.pv [] []
    · exact rfl
    · intro vs; apply ltr_pk; (repeat (first | exact Pk.nil | (apply Pk.pv; exact rfl; exact rfl) | (apply Pk.tok; exact rfl; exact rfl)))
      (first | (refine ltr ?_; apply lt_fieldAt; exact rfl; exact rfl) | (apply ltr_field; exact rfl; (repeat (first | exact At.here | apply At.there))) | (refine ltr ?_; apply lt_fieldEl; exact rfl; exact rfl) | (refine ltr ?_; apply lt_fieldRat; exact rfl; exact rfl))
    · repeat (first | exact App.nil | apply App.cons)
    apply Run.pv [2] []
    · exact rfl
    · intro vs; apply ltr_pk; (repeat (first | exact Pk.nil | (apply Pk.pv; exact rfl; exact rfl) | (apply Pk.tok; exact rfl; exact rfl)))
      (first | (apply ltr_load1; (first | exact .inl rfl | exact .inr ⟨rfl, rfl⟩); (repeat (first | exact At.here | apply At.there)); exact rfl) | (refine ltr ?_; apply lt_loadE1'; exact rfl; assumption; exact rfl) | (refine ltr ?_; apply lt_loadEN'; exact rfl; assumption; exact rfl) | (apply ltr_loadN; (first | exact .inl rfl | exact .inr ⟨rfl, rfl⟩); (repeat (first | exact At.here | apply At.there)); exact rfl) | (apply ltr_loadR1; exact rfl; (repeat (first | exact At.here | apply At.there)); assumption; exact rfl) | (apply ltr_loadRN; exact rfl; (repeat (first | exact At.here | apply At.there)); assumption))
    · repeat (first | exact App.nil | apply App.cons)
    apply Run.pv [1, 3] []
    · exact rfl
    · intro vs; apply ltr_pk; (repeat (first | exact Pk.nil | (apply Pk.pv; exact rfl; exact rfl) | (apply Pk.tok; exact rfl; exact rfl)))
      (refine ltr ?_; refine lt_call ?_ ((floorAt_con f _ (by omega) hB.py)); exact rfl)
    · repeat (first | exact App.nil | apply App.cons)
    apply Run.pv [0, 4] []
    · exact rfl
    · intro vs; apply ltr_pk; (repeat (first | exact Pk.nil | (apply Pk.pv; exact rfl; exact rfl) | (apply Pk.tok; exact rfl; exact rfl)))
      (first | (refine ltr ?_; apply lt_indexSl; exact rfl; exact rfl; exact rfl; (first | assumption | omega | (simp; omega))) | (apply ltr_indexRow; exact rfl; (repeat (first | exact At.here | apply At.there)); exact rfl; exact rfl; (first | assumption | omega | (simp; omega))) | (apply ltr_indexArr; exact rfl; (repeat (first | exact At.here | apply At.there)); exact rfl; exact rfl; (first | assumption | omega | decide)))
    · repeat (first | exact App.nil | apply App.cons)
    apply Run.pv [5] []
    · exact rfl
    · intro vs; apply ltr_pk; (repeat (first | exact Pk.nil | (apply Pk.pv; exact rfl; exact rfl) | (apply Pk.tok; exact rfl; exact rfl)))
      (first | (apply ltr_load1; (first | exact .inl rfl | exact .inr ⟨rfl, rfl⟩); (repeat (first | exact At.here | apply At.there)); exact rfl) | (refine ltr ?_; apply lt_loadE1'; exact rfl; assumption; exact rfl) | (refine ltr ?_; apply lt_loadEN'; exact rfl; assumption; exact rfl) | (apply ltr_loadN; (first | exact .inl rfl | exact .inr ⟨rfl, rfl⟩); (repeat (first | exact At.here | apply At.there)); exact rfl) | (apply ltr_loadR1; exact rfl; (repeat (first | exact At.here | apply At.there)); assumption; exact rfl) | (apply ltr_loadRN; exact rfl; (repeat (first | exact At.here | apply At.there)); assumption))
    · repeat (first | exact App.nil | apply App.cons)
    apply Run.pv [] []
    · exact rfl
    · intro vs; apply ltr_pk; (repeat (first | exact Pk.nil | (apply Pk.pv; exact rfl; exact rfl) | (apply Pk.tok; exact rfl; exact rfl)))
      (first | (refine ltr ?_; apply lt_fieldAt; exact rfl; exact rfl) | (apply ltr_field; exact rfl; (repeat (first | exact At.here | apply At.there))) | (refine ltr ?_; apply lt_fieldEl; exact rfl; exact rfl) | (refine ltr ?_; apply lt_fieldRat; exact rfl; exact rfl))
    · repeat (first | exact App.nil | apply App.cons)
    apply Run.pv [7] []
    · exact rfl
    · intro vs; apply ltr_pk; (repeat (first | exact Pk.nil | (apply Pk.pv; exact rfl; exact rfl) | (apply Pk.tok; exact rfl; exact rfl)))
      (first | (apply ltr_load1; (first | exact .inl rfl | exact .inr ⟨rfl, rfl⟩); (repeat (first | exact At.here | apply At.there)); exact rfl) | (refine ltr ?_; apply lt_loadE1'; exact rfl; assumption; exact rfl) | (refine ltr ?_; apply lt_loadEN'; exact rfl; assumption; exact rfl) | (apply ltr_loadN; (first | exact .inl rfl | exact .inr ⟨rfl, rfl⟩); (repeat (first | exact At.here | apply At.there)); exact rfl) | (apply ltr_loadR1; exact rfl; (repeat (first | exact At.here | apply At.there)); assumption; exact rfl) | (apply ltr_loadRN; exact rfl; (repeat (first | exact At.here | apply At.there)); assumption))
    · repeat (first | exact App.nil | apply App.cons)
    refine ⟨⟨by kernel_rfl, by kernel_rfl⟩, fun vs => ?_⟩
    refine WL_to [(1, .val pb), (3, .val v), (15, .sl 4 biC f.bs), (16, .val (.int .i64 f.bs.length)), (17, .val (.int .i64 k)), (5, .val p), (21, .val v), (25, .val (.int .i64 ((f.ids.idxOf f.bs[k].py : Nat) : Int))), (27, .val (.int .i64 cur[f.ids.idxOf f.bs[k].py])), (29, .val (.int .i64 f.bs[k].pe))] [.box p (biC f.bs[k]) 66, .row v 3 1 iC cur, .box pb (flC f) 27] (by kernel_rfl) (by kernel_rfl) ?_
    ((apply wl_add; exact rfl; exact rfl; omega; omega; exact rfl); (apply wl_indexRow; exact rfl; (repeat (first | exact At.here | apply At.there)); exact rfl; exact rfl; (first | assumption | omega | (simp; omega)); exact rfl); (apply wl_storeR1; exact rfl; (repeat (first | exact At.here | apply At.there)); exact rfl; exact inferInstance; (case hk => first | assumption | omega | exact Nat.one_pos | (simp; omega)); exact (of_decide_eq_true rfl); exact rfl); refine WL_nil ?_; refine th_norm ?_; refine W_seq ?_; refine W_region ?_; (apply wl_loadN; (first | exact .inl rfl | exact .inr ⟨rfl, rfl⟩); (repeat (first | exact At.here | apply At.there)); exact rfl; exact rfl); (apply wl_loadN; (first | exact .inl rfl | exact .inr ⟨rfl, rfl⟩); (repeat (first | exact At.here | apply At.there)); exact rfl; exact rfl))
    have hshl := shares_len f.ids f.bs[k]
    have hsb := shares_btw hB hsl
    generalize hsh : sharesR f.ids f.bs[k] = sh at *
    generalize hc1 : cur.set (f.ids.idxOf f.bs[k].py) (cur[f.ids.idxOf f.bs[k].py] + f.bs[k].pe) = c1 at *
    have hc1l : c1.length = sh.length := by rw [← hc1, List.length_set, hshl, hcl]
    have hsc := shares8_con f f.bs[k] (by omega) (by omega) hB
    rw [hsh] at hsc
    (first | (apply wl_call (hsc); exact rfl; exact rfl) | (apply wl_callR (hsc); exact rfl; (repeat (first | exact At.here | apply At.there)); exact rfl))
    ((apply wl_lenSl; exact rfl; exact rfl); (apply wl_move; exact rfl; exact rfl); refine WL_nil ?_; refine th_norm ?_; refine W_block ?_)
    refine W_loopJ (fun (m : Nat) => ⟨[(1, .val pb), (3, .val v), (15, .sl 4 biC f.bs), (16, .val (.int .i64 f.bs.length)), (17, .val (.int .i64 k)), (34, .sl 1 iC sh), (35, .val (.int .i64 sh.length)), (36, .val (.int .i64 m))], [.row v 3 1 iC (subTo c1 sh m), .box pb (flC f) 27]⟩)
      (fun m => m ≤ sh.length) (fun m => sh.length - m) 0 (fun _ _ st => st_sub2 st (by (repeat (first | exact trivial | refine ⟨rfl, ?_⟩))) (by (repeat (first | exact SubP.nil | (apply SubP.cons; (repeat (first | exact Rm.here | apply Rm.there))))))) (Nat.zero_le _) ?_
    rintro m hm
    (refine W_seq ?_; refine W_region ?_; (apply wl_lss; exact rfl; exact rfl; exact rfl); refine WL_nil ?_; refine th_norm ?_; refine W_seq ?_)
    refine w_cond rfl (fun hlm => ?_) (fun hlm => ?_)
    · have hlm' : m < sh.length := by simpa using hlm
      have hmc : m < c1.length := by omega
      have hmk : m < (subTo c1 sh m).length := by rw [subTo_len hc1l]; exact hmc
      have hv : (subTo c1 sh m)[m] = c1[m] := by
        have := subTo_get hc1l hmc
        rw [List.getElem?_eq_getElem hmk] at this
        exact Option.some.inj this
      have hb2 := hb1.at hmc
      have hb3 := hsb.at hlm'
      (refine W_skip ?_; refine th_norm ?_; refine W_seq ?_; refine W_block ?_; refine W_seq ?_; refine W_region ?_; (apply wl_move; exact rfl; exact rfl); (apply wl_indexSl; exact rfl; exact rfl; exact rfl; (first | assumption | omega | (simp; omega)); exact rfl); (apply wl_loadE1; exact rfl; (case hk => first | assumption | omega | exact Nat.one_pos | (simp; omega)); exact rfl; exact rfl); (apply wl_assign; exact rfl; exact rfl); (apply wl_assign; exact rfl; exact rfl); refine WL_nil ?_; refine th_norm ?_; refine W_region ?_; (apply wl_move; exact rfl; exact rfl); (apply wl_move; exact rfl; exact rfl); (apply wl_indexRow; exact rfl; (repeat (first | exact At.here | apply At.there)); exact rfl; exact rfl; (first | assumption | omega | (simp; omega)); exact rfl); (apply wl_loadR1; exact rfl; (repeat (first | exact At.here | apply At.there)); (case hk => first | assumption | omega | exact Nat.one_pos | (simp; omega)); exact rfl; exact rfl); (apply wl_move; exact rfl; exact rfl); (apply wl_sub; exact rfl; exact rfl; omega; omega; exact rfl); (apply wl_indexRow; exact rfl; (repeat (first | exact At.here | apply At.there)); exact rfl; exact rfl; (first | assumption | omega | (simp; omega)); exact rfl); (apply wl_storeR1; exact rfl; (repeat (first | exact At.here | apply At.there)); exact rfl; exact inferInstance; (case hk => first | assumption | omega | exact Nat.one_pos | (simp; omega)); exact (of_decide_eq_true rfl); exact rfl); refine WL_nil ?_; refine bl_norm ?_; refine th_norm ?_; refine W_region ?_; (apply wl_add; exact rfl; exact rfl; omega; omega; exact rfl); (apply wl_move; exact rfl; exact rfl); refine WL_nil ?_; refine th_norm ?_)
      rw [show (subTo c1 sh m).set m ((subTo c1 sh m)[m] - sh[m]) = subTo c1 sh (m + 1) from by rw [hv]; exact subTo_set hc1l hmc]
      (refine ⟨m + 1, fun _ _ st => st_sub2 st ?_ ?_, ?_, ?_⟩; (repeat (first | exact trivial | refine ⟨rfl, ?_⟩)); (repeat (first | exact SubP.nil | (apply SubP.cons; (repeat (first | exact Rm.here | apply Rm.there))))))
      · omega
      · omega
    · have hmm : m = sh.length := by simp at hlm; omega
      subst hmm
      rw [show subTo c1 sh sh.length = subL c1 sh from by rw [← hc1l]; exact subTo_all hc1l]
      (refine W_exit ?_; refine th_exit ?_; refine th_exit ?_; refine bl_eq ?_; refine bl_norm ?_; refine th_norm ?_; refine W_region ?_; (apply wl_add; exact rfl; exact rfl; omega; omega; exact rfl); (apply wl_move; exact rfl; exact rfl); refine WL_nil ?_; refine th_norm ?_)
      (refine ⟨(k + 1, subL c1 sh), fun _ _ st => st_sub2 st ?_ ?_, ?_, ?_⟩; (repeat (first | exact trivial | refine ⟨rfl, ?_⟩)); (repeat (first | exact SubP.nil | (apply SubP.cons; (repeat (first | exact Rm.here | apply Rm.there))))))
      · exact ⟨hlt', by dsimp only; rw [subL_len hc1l]; omega, hno, (hb1.subL hsb).mono (by dsimp only; omega) (by dsimp only; omega)⟩
      · dsimp only; omega
  · have hkk : k = f.bs.length := by simp at hlt; omega
    subst hkk
    rw [List.drop_length, bilFold] at hno
    rw [← hno]
    clear hno hlt hk
    (refine W_exit ?_; refine th_exit ?_; refine th_exit ?_; refine bl_eq ?_; refine th_norm ?_; refine W_seq ?_; refine W_seq ?_; refine W_region ?_; (apply wl_field; exact rfl; (repeat (first | exact At.here | apply At.there)); exact rfl); (apply wl_load1; (first | exact .inl rfl | exact .inr ⟨rfl, rfl⟩); (repeat (first | exact At.here | apply At.there)); exact rfl; exact rfl); (apply wl_lenSl; exact rfl; exact rfl); (apply wl_move; exact rfl; exact rfl); refine WL_nil ?_; refine th_norm ?_; refine W_block ?_)
    refine W_loopJ (fun (b : Nat × List Int) => ⟨[(1, .val p), (3, .val v), (51, .sl 3 payC f.ps), (52, .val (.int .i64 f.ps.length)), (53, .val (.int .i64 b.1))], [.row v 3 1 iC b.2, .box p (flC f) 27]⟩)
      (fun b => b.1 ≤ f.ps.length ∧ b.2.length = f.ids.length ∧ payFold f.ids (f.ps.drop b.1) b.2 = payFold f.ids f.ps cur ∧ Btw (-(200000000 + 2000000 * b.1)) (200000000 + 2000000 * b.1) b.2) (fun b => f.ps.length - b.1) (0, cur) (fun _ _ st => st_sub2 st (by (repeat (first | exact trivial | refine ⟨rfl, ?_⟩))) (by (repeat (first | exact SubP.nil | (apply SubP.cons; (repeat (first | exact Rm.here | apply Rm.there))))))) ⟨Nat.zero_le _, hcl, rfl, hbt.mono (by dsimp only; omega) (by dsimp only; omega)⟩ ?_
    clear hbt hcl
    rintro ⟨k, cu⟩ ⟨hk, hcl, hno, hbt⟩
    dsimp only at hk hcl hno hbt ⊢
    (refine W_seq ?_; refine W_region ?_; (apply wl_lss; exact rfl; exact rfl; exact rfl); refine WL_nil ?_; refine th_norm ?_; refine W_seq ?_)
    refine w_cond rfl (fun hlt => ?_) (fun hlt => ?_)
    · have hlt' : k < f.ps.length := by simpa using hlt
      have hP := hF.pay _ (List.getElem_mem hlt')
      have hix : f.ids.idxOf f.ps[k].a < cu.length := by rw [hcl]; exact List.idxOf_lt_length_of_mem hP.1
      have hq2 : cu[f.ids.idxOf f.ps[k].a]? = some cu[f.ids.idxOf f.ps[k].a] := List.getElem?_eq_getElem hix
      have hce := hbt.at hix
      rw [drop_step hlt', payFold, payStep, addAt_at hix] at hno
      have hb1 := hbt.addAt (f.ids.idxOf f.ps[k].a) (d := f.ps[k].p) (a := 0) (b := 1000000) (by omega) (by omega) (by omega) (by omega) (by omega) (by omega)
      rw [addAt_at hix] at hb1
      (refine W_skip ?_; refine th_norm ?_; refine W_seq ?_; refine W_block ?_; refine W_seq ?_; refine W_region ?_; (apply wl_indexSl; exact rfl; exact rfl; exact rfl; (first | assumption | omega | (simp; omega)); exact rfl); (apply wl_loadEN; exact rfl; (case hk => first | assumption | omega | exact Nat.one_pos | (simp; omega)); exact rfl; exact rfl); (apply wl_alloc; exact rfl; intro p hp); (apply wl_store; (first | exact .inl rfl | exact .inr ⟨rfl, rfl⟩); (repeat (first | exact At.here | apply At.there)); exact rfl; exact inferInstance; exact inferInstance; exact inferInstance; exact rfl; (first | exact (of_decide_eq_true rfl) | (simp; omega) | decide)); refine WL_nil ?_; refine th_norm ?_; refine W_seq ?_)
      rename_i pb hpb
      refine W_run 9 [57, 58, 59, 60, 61, 62, 63, 64, 65] [0, 1, 2, 3, 4, 5, 6, 7, 8] Cut.nil rfl (by repeat (first | exact Flt.nil | (apply Flt.keep; exact rfl) | (apply Flt.drop; exact rfl))) mixedS (by kernel_rfl) rfl ?_
      apply Run.pv [] []
      · exact rfl
      · intro vs; apply ltr_pk; (repeat (first | exact Pk.nil | (apply Pk.pv; exact rfl; exact rfl) | (apply Pk.tok; exact rfl; exact rfl)))
        (first | (refine ltr ?_; apply lt_move; exact rfl))
      · repeat (first | exact App.nil | apply App.cons)
      apply Run.pv [] []
      · exact rfl
      · intro vs; apply ltr_pk; (repeat (first | exact Pk.nil | (apply Pk.pv; exact rfl; exact rfl) | (apply Pk.tok; exact rfl; exact rfl)))
        (first | (apply ltr_load1; (first | exact .inl rfl | exact .inr ⟨rfl, rfl⟩); (repeat (first | exact At.here | apply At.there)); exact rfl) | (refine ltr ?_; apply lt_loadE1'; exact rfl; assumption; exact rfl) | (refine ltr ?_; apply lt_loadEN'; exact rfl; assumption; exact rfl) | (apply ltr_loadN; (first | exact .inl rfl | exact .inr ⟨rfl, rfl⟩); (repeat (first | exact At.here | apply At.there)); exact rfl) | (apply ltr_loadR1; exact rfl; (repeat (first | exact At.here | apply At.there)); assumption; exact rfl) | (apply ltr_loadRN; exact rfl; (repeat (first | exact At.here | apply At.there)); assumption))
      · repeat (first | exact App.nil | apply App.cons)
      apply Run.pv [] []
      · exact rfl
      · intro vs; apply ltr_pk; (repeat (first | exact Pk.nil | (apply Pk.pv; exact rfl; exact rfl) | (apply Pk.tok; exact rfl; exact rfl)))
        (first | (refine ltr ?_; apply lt_fieldAt; exact rfl; exact rfl) | (apply ltr_field; exact rfl; (repeat (first | exact At.here | apply At.there))) | (refine ltr ?_; apply lt_fieldEl; exact rfl; exact rfl) | (refine ltr ?_; apply lt_fieldRat; exact rfl; exact rfl))
      · repeat (first | exact App.nil | apply App.cons)
      apply Run.pv [2] []
      · exact rfl
      · intro vs; apply ltr_pk; (repeat (first | exact Pk.nil | (apply Pk.pv; exact rfl; exact rfl) | (apply Pk.tok; exact rfl; exact rfl)))
        (first | (apply ltr_load1; (first | exact .inl rfl | exact .inr ⟨rfl, rfl⟩); (repeat (first | exact At.here | apply At.there)); exact rfl) | (refine ltr ?_; apply lt_loadE1'; exact rfl; assumption; exact rfl) | (refine ltr ?_; apply lt_loadEN'; exact rfl; assumption; exact rfl) | (apply ltr_loadN; (first | exact .inl rfl | exact .inr ⟨rfl, rfl⟩); (repeat (first | exact At.here | apply At.there)); exact rfl) | (apply ltr_loadR1; exact rfl; (repeat (first | exact At.here | apply At.there)); assumption; exact rfl) | (apply ltr_loadRN; exact rfl; (repeat (first | exact At.here | apply At.there)); assumption))
      · repeat (first | exact App.nil | apply App.cons)
      apply Run.pv [1, 3] []
      · exact rfl
      · intro vs; apply ltr_pk; (repeat (first | exact Pk.nil | (apply Pk.pv; exact rfl; exact rfl) | (apply Pk.tok; exact rfl; exact rfl)))
        (refine ltr ?_; refine lt_call ?_ ((floorAt_con f _ (by omega) hP.1)); exact rfl)
      · repeat (first | exact App.nil | apply App.cons)
      apply Run.pv [0, 4] []
      · exact rfl
      · intro vs; apply ltr_pk; (repeat (first | exact Pk.nil | (apply Pk.pv; exact rfl; exact rfl) | (apply Pk.tok; exact rfl; exact rfl)))
        (first | (refine ltr ?_; apply lt_indexSl; exact rfl; exact rfl; exact rfl; (first | assumption | omega | (simp; omega))) | (apply ltr_indexRow; exact rfl; (repeat (first | exact At.here | apply At.there)); exact rfl; exact rfl; (first | assumption | omega | (simp; omega))) | (apply ltr_indexArr; exact rfl; (repeat (first | exact At.here | apply At.there)); exact rfl; exact rfl; (first | assumption | omega | decide)))
      · repeat (first | exact App.nil | apply App.cons)
      apply Run.pv [5] []
      · exact rfl
      · intro vs; apply ltr_pk; (repeat (first | exact Pk.nil | (apply Pk.pv; exact rfl; exact rfl) | (apply Pk.tok; exact rfl; exact rfl)))
        (first | (apply ltr_load1; (first | exact .inl rfl | exact .inr ⟨rfl, rfl⟩); (repeat (first | exact At.here | apply At.there)); exact rfl) | (refine ltr ?_; apply lt_loadE1'; exact rfl; assumption; exact rfl) | (refine ltr ?_; apply lt_loadEN'; exact rfl; assumption; exact rfl) | (apply ltr_loadN; (first | exact .inl rfl | exact .inr ⟨rfl, rfl⟩); (repeat (first | exact At.here | apply At.there)); exact rfl) | (apply ltr_loadR1; exact rfl; (repeat (first | exact At.here | apply At.there)); assumption; exact rfl) | (apply ltr_loadRN; exact rfl; (repeat (first | exact At.here | apply At.there)); assumption))
      · repeat (first | exact App.nil | apply App.cons)
      apply Run.pv [] []
      · exact rfl
      · intro vs; apply ltr_pk; (repeat (first | exact Pk.nil | (apply Pk.pv; exact rfl; exact rfl) | (apply Pk.tok; exact rfl; exact rfl)))
        (first | (refine ltr ?_; apply lt_fieldAt; exact rfl; exact rfl) | (apply ltr_field; exact rfl; (repeat (first | exact At.here | apply At.there))) | (refine ltr ?_; apply lt_fieldEl; exact rfl; exact rfl) | (refine ltr ?_; apply lt_fieldRat; exact rfl; exact rfl))
      · repeat (first | exact App.nil | apply App.cons)
      apply Run.pv [7] []
      · exact rfl
      · intro vs; apply ltr_pk; (repeat (first | exact Pk.nil | (apply Pk.pv; exact rfl; exact rfl) | (apply Pk.tok; exact rfl; exact rfl)))
        (first | (apply ltr_load1; (first | exact .inl rfl | exact .inr ⟨rfl, rfl⟩); (repeat (first | exact At.here | apply At.there)); exact rfl) | (refine ltr ?_; apply lt_loadE1'; exact rfl; assumption; exact rfl) | (refine ltr ?_; apply lt_loadEN'; exact rfl; assumption; exact rfl) | (apply ltr_loadN; (first | exact .inl rfl | exact .inr ⟨rfl, rfl⟩); (repeat (first | exact At.here | apply At.there)); exact rfl) | (apply ltr_loadR1; exact rfl; (repeat (first | exact At.here | apply At.there)); assumption; exact rfl) | (apply ltr_loadRN; exact rfl; (repeat (first | exact At.here | apply At.there)); assumption))
      · repeat (first | exact App.nil | apply App.cons)
      refine ⟨⟨by kernel_rfl, by kernel_rfl⟩, fun vs => ?_⟩
      refine WL_to [(1, .val pb), (3, .val v), (51, .sl 3 payC f.ps), (52, .val (.int .i64 f.ps.length)), (53, .val (.int .i64 k)), (9, .val p), (57, .val v), (61, .val (.int .i64 ((f.ids.idxOf f.ps[k].a : Nat) : Int))), (63, .val (.int .i64 cu[f.ids.idxOf f.ps[k].a])), (65, .val (.int .i64 f.ps[k].p))] [.box p (payC f.ps[k]) 53, .row v 3 1 iC cu, .box pb (flC f) 27] (by kernel_rfl) (by kernel_rfl) ?_
      ((apply wl_add; exact rfl; exact rfl; omega; omega; exact rfl); (apply wl_indexRow; exact rfl; (repeat (first | exact At.here | apply At.there)); exact rfl; exact rfl; (first | assumption | omega | (simp; omega)); exact rfl); (apply wl_storeR1; exact rfl; (repeat (first | exact At.here | apply At.there)); exact rfl; exact inferInstance; (case hk => first | assumption | omega | exact Nat.one_pos | (simp; omega)); exact (of_decide_eq_true rfl); exact rfl); refine WL_nil ?_; refine th_norm ?_)
      generalize hc1 : cu.set (f.ids.idxOf f.ps[k].a) (cu[f.ids.idxOf f.ps[k].a] + f.ps[k].p) = c1 at *
      have hc1l : c1.length = f.ids.length := by rw [← hc1, List.length_set, hcl]
      have hix2 : f.ids.idxOf f.ps[k].b < c1.length := by rw [hc1l]; exact List.idxOf_lt_length_of_mem hP.2.1
      have hq3 : c1[f.ids.idxOf f.ps[k].b]? = some c1[f.ids.idxOf f.ps[k].b] := List.getElem?_eq_getElem hix2
      have hce2 := hb1.at hix2
      rw [addAt_at hix2] at hno
      have hb2 := hb1.addAt (f.ids.idxOf f.ps[k].b) (d := -f.ps[k].p) (a := -1000000) (b := 0) (by omega) (by omega) (by omega) (by omega) (by omega) (by omega)
      rw [addAt_at hix2] at hb2
      refine W_run 9 [68, 69, 70, 71, 72, 73, 74, 75, 76] [0, 1, 2, 3, 4, 5, 6, 7, 8] Cut.nil rfl (by repeat (first | exact Flt.nil | (apply Flt.keep; exact rfl) | (apply Flt.drop; exact rfl))) mixedS (by kernel_rfl) rfl ?_
      apply Run.pv [] []
      · exact rfl
      · intro vs; apply ltr_pk; (repeat (first | exact Pk.nil | (apply Pk.pv; exact rfl; exact rfl) | (apply Pk.tok; exact rfl; exact rfl)))
        (first | (refine ltr ?_; apply lt_move; exact rfl))
      · repeat (first | exact App.nil | apply App.cons)
      apply Run.pv [] []
      · exact rfl
      · intro vs; apply ltr_pk; (repeat (first | exact Pk.nil | (apply Pk.pv; exact rfl; exact rfl) | (apply Pk.tok; exact rfl; exact rfl)))
        (first | (apply ltr_load1; (first | exact .inl rfl | exact .inr ⟨rfl, rfl⟩); (repeat (first | exact At.here | apply At.there)); exact rfl) | (refine ltr ?_; apply lt_loadE1'; exact rfl; assumption; exact rfl) | (refine ltr ?_; apply lt_loadEN'; exact rfl; assumption; exact rfl) | (apply ltr_loadN; (first | exact .inl rfl | exact .inr ⟨rfl, rfl⟩); (repeat (first | exact At.here | apply At.there)); exact rfl) | (apply ltr_loadR1; exact rfl; (repeat (first | exact At.here | apply At.there)); assumption; exact rfl) | (apply ltr_loadRN; exact rfl; (repeat (first | exact At.here | apply At.there)); assumption))
      · repeat (first | exact App.nil | apply App.cons)
      apply Run.pv [] []
      · exact rfl
      · intro vs; apply ltr_pk; (repeat (first | exact Pk.nil | (apply Pk.pv; exact rfl; exact rfl) | (apply Pk.tok; exact rfl; exact rfl)))
        (first | (refine ltr ?_; apply lt_fieldAt; exact rfl; exact rfl) | (apply ltr_field; exact rfl; (repeat (first | exact At.here | apply At.there))) | (refine ltr ?_; apply lt_fieldEl; exact rfl; exact rfl) | (refine ltr ?_; apply lt_fieldRat; exact rfl; exact rfl))
      · repeat (first | exact App.nil | apply App.cons)
      apply Run.pv [2] []
      · exact rfl
      · intro vs; apply ltr_pk; (repeat (first | exact Pk.nil | (apply Pk.pv; exact rfl; exact rfl) | (apply Pk.tok; exact rfl; exact rfl)))
        (first | (apply ltr_load1; (first | exact .inl rfl | exact .inr ⟨rfl, rfl⟩); (repeat (first | exact At.here | apply At.there)); exact rfl) | (refine ltr ?_; apply lt_loadE1'; exact rfl; assumption; exact rfl) | (refine ltr ?_; apply lt_loadEN'; exact rfl; assumption; exact rfl) | (apply ltr_loadN; (first | exact .inl rfl | exact .inr ⟨rfl, rfl⟩); (repeat (first | exact At.here | apply At.there)); exact rfl) | (apply ltr_loadR1; exact rfl; (repeat (first | exact At.here | apply At.there)); assumption; exact rfl) | (apply ltr_loadRN; exact rfl; (repeat (first | exact At.here | apply At.there)); assumption))
      · repeat (first | exact App.nil | apply App.cons)
      apply Run.pv [1, 3] []
      · exact rfl
      · intro vs; apply ltr_pk; (repeat (first | exact Pk.nil | (apply Pk.pv; exact rfl; exact rfl) | (apply Pk.tok; exact rfl; exact rfl)))
        (refine ltr ?_; refine lt_call ?_ ((floorAt_con f _ (by omega) hP.2.1)); exact rfl)
      · repeat (first | exact App.nil | apply App.cons)
      apply Run.pv [0, 4] []
      · exact rfl
      · intro vs; apply ltr_pk; (repeat (first | exact Pk.nil | (apply Pk.pv; exact rfl; exact rfl) | (apply Pk.tok; exact rfl; exact rfl)))
        (first | (refine ltr ?_; apply lt_indexSl; exact rfl; exact rfl; exact rfl; (first | assumption | omega | (simp; omega))) | (apply ltr_indexRow; exact rfl; (repeat (first | exact At.here | apply At.there)); exact rfl; exact rfl; (first | assumption | omega | (simp; omega))) | (apply ltr_indexArr; exact rfl; (repeat (first | exact At.here | apply At.there)); exact rfl; exact rfl; (first | assumption | omega | decide)))
      · repeat (first | exact App.nil | apply App.cons)
      apply Run.pv [5] []
      · exact rfl
      · intro vs; apply ltr_pk; (repeat (first | exact Pk.nil | (apply Pk.pv; exact rfl; exact rfl) | (apply Pk.tok; exact rfl; exact rfl)))
        (first | (apply ltr_load1; (first | exact .inl rfl | exact .inr ⟨rfl, rfl⟩); (repeat (first | exact At.here | apply At.there)); exact rfl) | (refine ltr ?_; apply lt_loadE1'; exact rfl; assumption; exact rfl) | (refine ltr ?_; apply lt_loadEN'; exact rfl; assumption; exact rfl) | (apply ltr_loadN; (first | exact .inl rfl | exact .inr ⟨rfl, rfl⟩); (repeat (first | exact At.here | apply At.there)); exact rfl) | (apply ltr_loadR1; exact rfl; (repeat (first | exact At.here | apply At.there)); assumption; exact rfl) | (apply ltr_loadRN; exact rfl; (repeat (first | exact At.here | apply At.there)); assumption))
      · repeat (first | exact App.nil | apply App.cons)
      apply Run.pv [] []
      · exact rfl
      · intro vs; apply ltr_pk; (repeat (first | exact Pk.nil | (apply Pk.pv; exact rfl; exact rfl) | (apply Pk.tok; exact rfl; exact rfl)))
        (first | (refine ltr ?_; apply lt_fieldAt; exact rfl; exact rfl) | (apply ltr_field; exact rfl; (repeat (first | exact At.here | apply At.there))) | (refine ltr ?_; apply lt_fieldEl; exact rfl; exact rfl) | (refine ltr ?_; apply lt_fieldRat; exact rfl; exact rfl))
      · repeat (first | exact App.nil | apply App.cons)
      apply Run.pv [7] []
      · exact rfl
      · intro vs; apply ltr_pk; (repeat (first | exact Pk.nil | (apply Pk.pv; exact rfl; exact rfl) | (apply Pk.tok; exact rfl; exact rfl)))
        (first | (apply ltr_load1; (first | exact .inl rfl | exact .inr ⟨rfl, rfl⟩); (repeat (first | exact At.here | apply At.there)); exact rfl) | (refine ltr ?_; apply lt_loadE1'; exact rfl; assumption; exact rfl) | (refine ltr ?_; apply lt_loadEN'; exact rfl; assumption; exact rfl) | (apply ltr_loadN; (first | exact .inl rfl | exact .inr ⟨rfl, rfl⟩); (repeat (first | exact At.here | apply At.there)); exact rfl) | (apply ltr_loadR1; exact rfl; (repeat (first | exact At.here | apply At.there)); assumption; exact rfl) | (apply ltr_loadRN; exact rfl; (repeat (first | exact At.here | apply At.there)); assumption))
      · repeat (first | exact App.nil | apply App.cons)
      refine ⟨⟨by kernel_rfl, by kernel_rfl⟩, fun vs => ?_⟩
      refine WL_to [(1, .val pb), (3, .val v), (51, .sl 3 payC f.ps), (52, .val (.int .i64 f.ps.length)), (53, .val (.int .i64 k)), (9, .val p), (68, .val v), (72, .val (.int .i64 ((f.ids.idxOf f.ps[k].b : Nat) : Int))), (74, .val (.int .i64 c1[f.ids.idxOf f.ps[k].b])), (76, .val (.int .i64 f.ps[k].p))] [.box p (payC f.ps[k]) 53, .row v 3 1 iC c1, .box pb (flC f) 27] (by kernel_rfl) (by kernel_rfl) ?_
      ((apply wl_sub; exact rfl; exact rfl; omega; omega; exact rfl); (apply wl_indexRow; exact rfl; (repeat (first | exact At.here | apply At.there)); exact rfl; exact rfl; (first | assumption | omega | (simp; omega)); exact rfl); (apply wl_storeR1; exact rfl; (repeat (first | exact At.here | apply At.there)); exact rfl; exact inferInstance; (case hk => first | assumption | omega | exact Nat.one_pos | (simp; omega)); exact (of_decide_eq_true rfl); exact rfl); refine WL_nil ?_; refine bl_norm ?_; refine th_norm ?_; refine W_region ?_; (apply wl_add; exact rfl; exact rfl; omega; omega; exact rfl); (apply wl_move; exact rfl; exact rfl); refine WL_nil ?_; refine th_norm ?_)
      skip
      (refine ⟨(k + 1, c1.set (f.ids.idxOf f.ps[k].b) (c1[f.ids.idxOf f.ps[k].b] + -f.ps[k].p)), fun _ _ st => st_sub2 st ?_ ?_, ?_, ?_⟩; (repeat (first | exact trivial | refine ⟨rfl, ?_⟩)); (repeat (first | exact SubP.nil | (apply SubP.cons; (repeat (first | exact Rm.here | apply Rm.there))))))
      · exact ⟨hlt', by dsimp only; rw [List.length_set]; exact hc1l, hno, hb2.mono (by dsimp only; omega) (by dsimp only; omega)⟩
      · dsimp only; omega
    · have hkk : k = f.ps.length := by simp at hlt; omega
      subst hkk
      rw [List.drop_length, payFold] at hno
      rw [← hno]
      (refine W_exit ?_; refine th_exit ?_; refine th_exit ?_; refine bl_eq ?_; refine th_norm ?_; refine W_seq ?_; refine W_region ?_; (apply wl_move; exact rfl; exact rfl); (apply wl_assign; exact rfl; exact rfl); refine WL_nil ?_; refine th_norm ?_; refine W_ret ?_; refine rt_norm ?_)
      (apply resK; exact rfl; exact rfl; (apply Cut.cons; (repeat (first | exact Rm.here | apply Rm.there)); exact Cut.nil); exact ⟨_, rfl, rfl⟩)
end Go.Proofs.YtbkellknlcageaaDoor.Sw
