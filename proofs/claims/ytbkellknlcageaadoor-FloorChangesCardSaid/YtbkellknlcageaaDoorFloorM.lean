/- FloorM: several parts in one text. -/
import Derived.Test.YtbkellknlcageaaDoorFloorL
import Derived.Test.YtbkellknlcageaaDoorFloorY
/- The program's house at work: 'index', 'shares', 'paid'. -/
namespace Go.Proofs.YtbkellknlcageaaDoor.Sw
open Go.RowKit Go Go.Shelf Go.Proofs
/-- A house at work, with what it is owed. -/
abbrev hsB (ph : Value) (f : Flo) (v : Value) : HA := .box ph (flC f ++ [.val v]) 108
set_option maxRecDepth 20000 in
theorem index_con (ph v : Value) (f : Flo) (id : Int) (hl : f.ids.length ≤ 1000000) : Con Tryd.prog 58 [.val ph, .val (.int .i64 id)] [hsB ph f v] (Is (.val (.int .i64 (ixOf f.ids id))) [hsB ph f v]) := by
  refine con_of Tryd.func58 rfl (enters_of Tryd.func58 (by kernel_rfl) rfl) rfl ?_; intro n w0 F0 G0
  (refine W_seq ?_; refine W_region ?_; (apply wl_assign; exact rfl; exact rfl); refine WL_nil ?_; refine th_norm ?_; refine W_seq ?_; refine W_region ?_; (apply wl_move; exact rfl; exact rfl); (apply wl_nilCheck; exact rfl; (repeat (first | exact At.here | apply At.there)); exact rfl); (apply wl_field; exact rfl; (repeat (first | exact At.here | apply At.there)); exact rfl); (apply wl_fieldAt; exact rfl; exact rfl; exact rfl); (apply wl_load1; (first | exact .inl rfl | exact .inr ⟨rfl, rfl⟩); (repeat (first | exact At.here | apply At.there)); exact rfl; exact rfl); (apply wl_move; exact rfl; exact rfl))
  (first | (apply wl_call (indexI_con f.ids id hl); exact rfl; exact rfl) | (apply wl_callR (indexI_con f.ids id hl); exact rfl; (repeat (first | exact At.here | apply At.there)); exact rfl))
  ((apply wl_assign; exact rfl; exact rfl); refine WL_nil ?_; refine th_norm ?_; refine W_ret ?_; refine rt_norm ?_)
  (apply resK; exact rfl; exact rfl; (apply Cut.cons (h := hsB ph f v); (repeat (first | exact Rm.here | apply Rm.there)); exact Cut.nil); exact ⟨rfl, rfl⟩)
theorem indexAt_con (ph v : Value) (f : Flo) (id : Int) (hl : f.ids.length ≤ 1000000) (hm : id ∈ f.ids) : Con Tryd.prog 58 [.val ph, .val (.int .i64 id)] [hsB ph f v] (Is (.val (.int .i64 ((f.ids.idxOf id : Nat) : Int))) [hsB ph f v]) := by
  have := index_con ph v f id hl
  rwa [show ixOf f.ids id = ((f.ids.idxOf id : Nat) : Int) from if_pos hm] at this
end Go.Proofs.YtbkellknlcageaaDoor.Sw
/- The program's 'shares'. -/
namespace Go.Proofs.YtbkellknlcageaaDoor.Sw
open Go.RowKit Go Go.Shelf Go.Proofs
/-- An own slice, by some value, and what is kept beside it. -/
def TokW {α : Type} (e : TypeId) (n : Nat) (f : α → List AV) (xs : List α) (r : List HA) : AV → List HA → Prop := fun x y => ∃ u, x = .val u ∧ y = .row u e n f xs :: r
set_option maxRecDepth 20000 in
set_option maxHeartbeats 2000000 in
theorem shares_con (ph ow : Value) (f : Flo) (x : Bil) (hl : f.ids.length ≤ 6) (hs : x.st.length ≤ 1000) (hB : BilF f.ids x) : Con Tryd.prog 68 [.val ph, .agg (biC x)] [hsB ph f ow] (TokW 3 1 iC (sharesR f.ids x) [hsB ph f ow]) := by
  have hsum := sumPt_bounds fun s hs => (hB.st s hs).2
  have hlb := left_bounds hB
  have hpe0 := hB.pe0
  have hpe1 := hB.pe1
  refine con_of Tryd.func68 rfl (enters_of Tryd.func68 (by kernel_rfl) rfl) rfl ?_; intro n w0 F0 G0
  (refine W_seq ?_; refine W_region ?_; (apply wl_boxv; exact rfl; exact inferInstance; exact rfl; intro p hp); (apply wl_assign; exact rfl; exact rfl); refine WL_nil ?_; refine th_norm ?_; refine W_seq ?_)
  refine W_run 3 [15, 16, 5] [0, 1, 2] Cut.nil rfl (by repeat (first | exact Flt.nil | (apply Flt.keep; exact rfl) | (apply Flt.drop; exact rfl))) mixedS (by kernel_rfl) rfl ?_
  apply Run.pv [] []
  · exact rfl
  · intro vs; apply ltr_pk; (repeat (first | exact Pk.nil | (apply Pk.pv; exact rfl; exact rfl) | (apply Pk.tok; exact rfl; exact rfl)))
    (first | (refine ltr ?_; apply lt_fieldAt; exact rfl; exact rfl) | (apply ltr_field; exact rfl; (repeat (first | exact At.here | apply At.there))) | (refine ltr ?_; apply lt_fieldEl; exact rfl; exact rfl) | (refine ltr ?_; apply lt_fieldRat; exact rfl; exact rfl))
  · repeat (first | exact App.nil | apply App.cons)
  apply Run.pv [0] []
  · exact rfl
  · intro vs; apply ltr_pk; (repeat (first | exact Pk.nil | (apply Pk.pv; exact rfl; exact rfl) | (apply Pk.tok; exact rfl; exact rfl)))
    (first | (apply ltr_load1; (first | exact .inl rfl | exact .inr ⟨rfl, rfl⟩); (repeat (first | exact At.here | apply At.there)); exact rfl) | (refine ltr ?_; apply lt_loadE1'; exact rfl; assumption; exact rfl) | (refine ltr ?_; apply lt_loadEN'; exact rfl; assumption; exact rfl) | (apply ltr_loadN; (first | exact .inl rfl | exact .inr ⟨rfl, rfl⟩); (repeat (first | exact At.here | apply At.there)); exact rfl) | (apply ltr_loadR1; exact rfl; (repeat (first | exact At.here | apply At.there)); assumption; exact rfl) | (apply ltr_loadRN; exact rfl; (repeat (first | exact At.here | apply At.there)); assumption))
  · repeat (first | exact App.nil | apply App.cons)
  apply Run.pv [] []
  · exact rfl
  · intro vs; apply ltr_pk; (repeat (first | exact Pk.nil | (apply Pk.pv; exact rfl; exact rfl) | (apply Pk.tok; exact rfl; exact rfl)))
    (first | (refine ltr ?_; apply lt_assign; exact rfl))
  · repeat (first | exact App.nil | apply App.cons)
  refine ⟨⟨by kernel_rfl, by kernel_rfl⟩, fun vs => ?_⟩
  apply WL_auto [1, 2]
  · repeat (first | exact Pk.nil | (apply Pk.pv; exact rfl; exact rfl) | (apply Pk.tok; exact rfl; exact rfl))
  · repeat (first | exact Nrm.nil | apply Nrm.cons)
  · kernel_rfl
  · kernel_rfl
  ((apply wl_assign; exact rfl; exact rfl); refine WL_nil ?_; refine th_norm ?_; refine W_seq ?_; refine W_seq ?_; refine W_region ?_; (apply wl_field; exact rfl; (repeat (first | exact At.here | apply At.there)); exact rfl); (apply wl_load1; (first | exact .inl rfl | exact .inr ⟨rfl, rfl⟩); (repeat (first | exact At.here | apply At.there)); exact rfl; exact rfl); (apply wl_lenSl; exact rfl; exact rfl); (apply wl_move; exact rfl; exact rfl); refine WL_nil ?_; refine th_norm ?_; refine W_block ?_)
  skip
  refine W_loopJ (fun (b : Nat × Int) => ⟨[(0, .val ph), (3, .val p), (5, .val (.int .i64 b.2)), (6, .val (.int .i64 x.pe)), (18, .sl 2 stC x.st), (19, .val (.int .i64 x.st.length)), (20, .val (.int .i64 b.1))], [hsB ph f ow, .box p (biC x) 66]⟩) (fun b => b.1 ≤ x.st.length ∧ b.2 + sumPt (x.st.drop b.1) = sumPt x.st ∧ 0 ≤ b.2 ∧ b.2 ≤ 9 * b.1) (fun b => x.st.length - b.1) (0, 0) (fun _ _ st => st_sub2 st (by (repeat (first | exact trivial | refine ⟨rfl, ?_⟩))) (by (repeat (first | exact SubP.nil | (apply SubP.cons; (repeat (first | exact Rm.here | apply Rm.there))))))) ?hj0 ?round
  case hj0 => simp
  case round =>
    rintro ⟨k, acc⟩ ⟨hk, hno, ha0, ha1⟩
    dsimp only at hk hno ha0 ha1 ⊢
    (refine W_seq ?_; refine W_region ?_; (apply wl_lss; exact rfl; exact rfl; exact rfl); refine WL_nil ?_; refine th_norm ?_; refine W_seq ?_)
    refine w_cond rfl (fun hlt => ?_) (fun hlt => ?_)
    · have hlt' : k < x.st.length := by simpa using hlt
      have hp := (hB.st _ (List.getElem_mem hlt')).2
      rw [drop_step hlt', sumPt] at hno
      (refine W_skip ?_; refine th_norm ?_; refine W_seq ?_; refine W_block ?_; refine W_seq ?_; refine W_region ?_; (apply wl_indexSl; exact rfl; exact rfl; exact rfl; (first | assumption | omega | (simp; omega)); exact rfl); (apply wl_loadEN; exact rfl; (case hk => first | assumption | omega | exact Nat.one_pos | (simp; omega)); exact rfl; exact rfl); (apply wl_alloc; exact rfl; intro p hp); (apply wl_store; (first | exact .inl rfl | exact .inr ⟨rfl, rfl⟩); (repeat (first | exact At.here | apply At.there)); exact rfl; exact inferInstance; exact inferInstance; exact inferInstance; exact rfl; (first | exact (of_decide_eq_true rfl) | (simp; omega) | decide)); refine WL_nil ?_; refine th_norm ?_; refine W_region ?_; (apply wl_move; exact rfl; exact rfl); (apply wl_field; exact rfl; (repeat (first | exact At.here | apply At.there)); exact rfl); (apply wl_load1; (first | exact .inl rfl | exact .inr ⟨rfl, rfl⟩); (repeat (first | exact At.here | apply At.there)); exact rfl; exact rfl); (apply wl_add; exact rfl; exact rfl; omega; omega; exact rfl); (apply wl_assign; exact rfl; exact rfl); refine WL_nil ?_; refine bl_norm ?_; refine th_norm ?_; refine W_region ?_; (apply wl_add; exact rfl; exact rfl; omega; omega; exact rfl); (apply wl_move; exact rfl; exact rfl); refine WL_nil ?_; refine th_norm ?_)
      (refine ⟨(k + 1, acc + x.st[k].pt), fun _ _ st => st_sub2 st ?_ ?_, ?_, ?_⟩; (repeat (first | exact trivial | refine ⟨rfl, ?_⟩)); (repeat (first | exact SubP.nil | (apply SubP.cons; (repeat (first | exact Rm.here | apply Rm.there))))))
      · exact ⟨hlt', by dsimp only; omega, by dsimp only; omega, by dsimp only; omega⟩
      · dsimp only; omega
    · have hkk : k = x.st.length := by simp at hlt; omega
      subst hkk
      rw [List.drop_length, sumPt, Int.add_zero] at hno
      subst hno
      clear hlt hk ha0 ha1
      (refine W_exit ?_; refine th_exit ?_; refine th_exit ?_; refine bl_eq ?_; refine th_norm ?_; refine W_seq ?_; refine W_region ?_; (apply wl_move; exact rfl; exact rfl); (apply wl_nilCheck; exact rfl; (repeat (first | exact At.here | apply At.there)); exact rfl); (apply wl_field; exact rfl; (repeat (first | exact At.here | apply At.there)); exact rfl); (apply wl_fieldAt; exact rfl; exact rfl; exact rfl); (apply wl_load1; (first | exact .inl rfl | exact .inr ⟨rfl, rfl⟩); (repeat (first | exact At.here | apply At.there)); exact rfl; exact rfl); (apply wl_lenSl; exact rfl; exact rfl))
      (apply wl_make iC; exact inferInstance; exact inferInstance; exact inferInstance; exact inferInstance; exact rfl; exact rfl; exact rfl; (first | omega | (simp; omega)); exact rfl)
      intro v
      ((apply wl_assign; exact rfl; exact rfl); refine WL_nil ?_; refine th_norm ?_; refine W_seq ?_; refine W_seq ?_; refine W_region ?_; (apply wl_field; exact rfl; (repeat (first | exact At.here | apply At.there)); exact rfl); (apply wl_load1; (first | exact .inl rfl | exact .inr ⟨rfl, rfl⟩); (repeat (first | exact At.here | apply At.there)); exact rfl; exact rfl); (apply wl_lenSl; exact rfl; exact rfl); (apply wl_move; exact rfl; exact rfl); refine WL_nil ?_; refine th_norm ?_; refine W_block ?_)
      refine W_loopJ (fun (b : Nat × Int × List Int) => ⟨[(0, .val ph), (3, .val p), (5, .val (.int .i64 (sumPt x.st))), (9, .val v), (6, .val (.int .i64 b.2.1)), (37, .sl 2 stC x.st), (38, .val (.int .i64 x.st.length)), (39, .val (.int .i64 b.1))], [.row v 3 1 iC b.2.2, hsB ph f ow, .box p (biC x) 66]⟩)
        (fun b => b.1 ≤ x.st.length ∧ b.2.2.length = f.ids.length ∧ putAll f.ids x.pe (sumPt x.st) (x.st.drop b.1) b.2.2 = putAll f.ids x.pe (sumPt x.st) x.st (List.replicate f.ids.length 0) ∧ leftQ x.pe (sumPt x.st) (x.st.drop b.1) b.2.1 = leftQ x.pe (sumPt x.st) x.st x.pe ∧ -9000000 * (b.1 : Int) ≤ b.2.1 ∧ b.2.1 ≤ 1000000) (fun b => x.st.length - b.1) (0, x.pe, List.replicate f.ids.length 0) (fun _ _ st => st_sub2 st (by (repeat (first | exact trivial | refine ⟨rfl, ?_⟩))) (by (repeat (first | exact SubP.nil | (apply SubP.cons; (repeat (first | exact Rm.here | apply Rm.there))))))) ⟨Nat.zero_le _, by simp, rfl, rfl, by dsimp only; omega, by dsimp only; omega⟩ ?_
      rintro ⟨k, left, cur⟩ ⟨hk, hcl, hno, hlf, hl0, hl1⟩
      dsimp only at hk hcl hno hlf hl0 hl1 ⊢
      (refine W_seq ?_; refine W_region ?_; (apply wl_lss; exact rfl; exact rfl; exact rfl); refine WL_nil ?_; refine th_norm ?_; refine W_seq ?_)
      refine w_cond rfl (fun hlt => ?_) (fun hlt => ?_)
      · have hlt' : k < x.st.length := by simpa using hlt
        have hsk := hB.st _ (List.getElem_mem hlt')
        have hq := quot_bounds hB (List.getElem_mem hlt')
        have hix : f.ids.idxOf x.st[k].fl < cur.length := by rw [hcl]; exact List.idxOf_lt_length_of_mem hsk.1
        rw [drop_step hlt', putAll] at hno
        rw [drop_step hlt', leftQ] at hlf
        (refine W_skip ?_; refine th_norm ?_; refine W_seq ?_; refine W_block ?_; refine W_seq ?_; refine W_region ?_; (apply wl_indexSl; exact rfl; exact rfl; exact rfl; (first | assumption | omega | (simp; omega)); exact rfl); (apply wl_loadEN; exact rfl; (case hk => first | assumption | omega | exact Nat.one_pos | (simp; omega)); exact rfl; exact rfl); (apply wl_alloc; exact rfl; intro p hp); (apply wl_store; (first | exact .inl rfl | exact .inr ⟨rfl, rfl⟩); (repeat (first | exact At.here | apply At.there)); exact rfl; exact inferInstance; exact inferInstance; exact inferInstance; exact rfl; (first | exact (of_decide_eq_true rfl) | (simp; omega) | decide)); refine WL_nil ?_; refine th_norm ?_; refine W_seq ?_; refine W_region ?_; (apply wl_field; exact rfl; (repeat (first | exact At.here | apply At.there)); exact rfl); (apply wl_load1; (first | exact .inl rfl | exact .inr ⟨rfl, rfl⟩); (repeat (first | exact At.here | apply At.there)); exact rfl; exact rfl); (apply wl_field; exact rfl; (repeat (first | exact At.here | apply At.there)); exact rfl); (apply wl_load1; (first | exact .inl rfl | exact .inr ⟨rfl, rfl⟩); (repeat (first | exact At.here | apply At.there)); exact rfl; exact rfl); (apply wl_mul; exact rfl; exact rfl; omega; omega; exact rfl); (apply wl_move; exact rfl; exact rfl); (apply wl_quo; exact rfl; exact rfl; omega; omega; omega; exact rfl); (apply wl_assign; exact rfl; exact rfl); refine WL_nil ?_; refine th_norm ?_; refine W_seq ?_; refine W_region ?_; (apply wl_move; exact rfl; exact rfl); (apply wl_move; exact rfl; exact rfl); (apply wl_field; exact rfl; (repeat (first | exact At.here | apply At.there)); exact rfl); (apply wl_load1; (first | exact .inl rfl | exact .inr ⟨rfl, rfl⟩); (repeat (first | exact At.here | apply At.there)); exact rfl; exact rfl))
        (first | (apply wl_call (indexAt_con ph ow f _ (by omega) hsk.1); exact rfl; exact rfl) | (apply wl_callR (indexAt_con ph ow f _ (by omega) hsk.1); exact rfl; (repeat (first | exact At.here | apply At.there)); exact rfl))
        ((apply wl_move; exact rfl; exact rfl); (apply wl_indexRow; exact rfl; (repeat (first | exact At.here | apply At.there)); exact rfl; exact rfl; (first | assumption | omega | (simp; omega)); exact rfl); (apply wl_storeR1; exact rfl; (repeat (first | exact At.here | apply At.there)); exact rfl; exact inferInstance; (case hk => first | assumption | omega | exact Nat.one_pos | (simp; omega)); exact (of_decide_eq_true rfl); exact rfl); refine WL_nil ?_; refine th_norm ?_; refine W_region ?_; (apply wl_move; exact rfl; exact rfl); (apply wl_move; exact rfl; exact rfl); (apply wl_sub; exact rfl; exact rfl; omega; omega; exact rfl); (apply wl_assign; exact rfl; exact rfl); refine WL_nil ?_; refine bl_norm ?_; refine th_norm ?_; refine W_region ?_; (apply wl_add; exact rfl; exact rfl; omega; omega; exact rfl); (apply wl_move; exact rfl; exact rfl); refine WL_nil ?_; refine th_norm ?_)
        (refine ⟨(k + 1, left - x.pe * x.st[k].pt / sumPt x.st, cur.set (f.ids.idxOf x.st[k].fl) (x.pe * x.st[k].pt / sumPt x.st)), fun _ _ st => st_sub2 st ?_ ?_, ?_, ?_⟩; (repeat (first | exact trivial | refine ⟨rfl, ?_⟩)); (repeat (first | exact SubP.nil | (apply SubP.cons; (repeat (first | exact Rm.here | apply Rm.there))))))
        · exact ⟨hlt', by dsimp only; rw [List.length_set]; exact hcl, hno, hlf, by dsimp only; omega, by dsimp only; omega⟩
        · dsimp only; omega
      · have hkk : k = x.st.length := by simp at hlt; omega
        subst hkk
        rw [List.drop_length, putAll] at hno
        rw [List.drop_length, leftQ] at hlf
        obtain ⟨m, hm⟩ : ∃ m : Nat, left = (m : Int) := ⟨left.toNat, by omega⟩
        have hml : m ≤ x.st.length := by omega
        have hW : sharesR f.ids x = incAll f.ids (x.st.take m) cur := by unfold sharesR; rw [← hlf, ← hno, hm]; rfl
        have hbt : Btw 0 9000000 cur := by
          rw [hno]
          exact putAll_btw _ _ (fun s hs => (quot_bounds hB hs).2.2.2.2) (Btw.rep _ (by omega) (by omega))
        subst hm
        rw [hW]
        clear hW hno hlf hlt hk hl0 hl1 hlb
        (refine W_exit ?_; refine th_exit ?_; refine th_exit ?_; refine bl_eq ?_; refine th_norm ?_; refine W_seq ?_; refine W_seq ?_; refine W_region ?_; (apply wl_field; exact rfl; (repeat (first | exact At.here | apply At.there)); exact rfl); (apply wl_load1; (first | exact .inl rfl | exact .inr ⟨rfl, rfl⟩); (repeat (first | exact At.here | apply At.there)); exact rfl; exact rfl); (apply wl_move; exact rfl; exact rfl))
        (apply wl_slTo (h := m); exact inferInstance; exact rfl; exact rfl; (first | exact rfl | omega | (simp; omega)); exact hml; exact rfl)
        have htl : (x.st.take m).length = m := by rw [List.length_take]; omega
        ((apply wl_lenSl; exact rfl; exact rfl); (apply wl_move; exact rfl; exact rfl); refine WL_nil ?_; refine th_norm ?_; refine W_block ?_)
        refine W_loopJ (fun (b : Nat × List Int) => ⟨[(0, .val ph), (3, .val p), (9, .val v), (64, .sl 2 stC (x.st.take m)), (65, .val (.int .i64 (x.st.take m).length)), (66, .val (.int .i64 b.1))], [.row v 3 1 iC b.2, hsB ph f ow, .box p (biC x) 66]⟩)
          (fun b => b.1 ≤ m ∧ b.2.length = f.ids.length ∧ incAll f.ids ((x.st.take m).drop b.1) b.2 = incAll f.ids (x.st.take m) cur ∧ Btw 0 (9000000 + b.1) b.2) (fun b => m - b.1) (0, cur) (fun _ _ st => st_sub2 st (by (repeat (first | exact trivial | refine ⟨rfl, ?_⟩))) (by (repeat (first | exact SubP.nil | (apply SubP.cons; (repeat (first | exact Rm.here | apply Rm.there))))))) ⟨Nat.zero_le _, hcl, rfl, hbt.mono (by omega) (by dsimp only; omega)⟩ ?_
        rintro ⟨i, cu⟩ ⟨hi, hcl2, hno, hbt2⟩
        dsimp only at hi hcl2 hno hbt2 ⊢
        (refine W_seq ?_; refine W_region ?_; (apply wl_lss; exact rfl; exact rfl; exact rfl); refine WL_nil ?_; refine th_norm ?_; refine W_seq ?_)
        refine w_cond rfl (fun hlt => ?_) (fun hlt => ?_)
        · have hlt' : i < m := by simp at hlt; omega
          have hil : i < x.st.length := by omega
          have hitl : i < (x.st.take m).length := by omega
          have hsk := hB.st _ (List.getElem_mem hil)
          have hge : (x.st.take m)[i] = x.st[i] := List.getElem_take
          have hix : f.ids.idxOf x.st[i].fl < cu.length := by rw [hcl2]; exact List.idxOf_lt_length_of_mem hsk.1
          have hce := hbt2.at hix
          rw [drop_step (by rw [List.length_take]; omega), incAll, hge, addAt_at hix] at hno
          (refine W_skip ?_; refine th_norm ?_; refine W_seq ?_; refine W_block ?_; refine W_seq ?_; refine W_region ?_; (apply wl_indexSl; exact rfl; exact rfl; exact rfl; (first | assumption | omega | (simp; omega)); exact rfl); (apply wl_loadEN; exact rfl; (case hk => first | assumption | omega | exact Nat.one_pos | (simp; omega)); exact rfl; exact rfl); (apply wl_alloc; exact rfl; intro p hp); (apply wl_store; (first | exact .inl rfl | exact .inr ⟨rfl, rfl⟩); (repeat (first | exact At.here | apply At.there)); exact rfl; exact inferInstance; exact inferInstance; exact inferInstance; exact rfl; (first | exact (of_decide_eq_true rfl) | (simp; omega) | decide)); refine WL_nil ?_; refine th_norm ?_; refine W_region ?_; (apply wl_move; exact rfl; exact rfl); (apply wl_move; exact rfl; exact rfl); (apply wl_field; exact rfl; (repeat (first | exact At.here | apply At.there)); exact rfl); (apply wl_load1; (first | exact .inl rfl | exact .inr ⟨rfl, rfl⟩); (repeat (first | exact At.here | apply At.there)); exact rfl; exact rfl))
          rw [hge]
          (first | (apply wl_call (indexAt_con ph ow f _ (by omega) hsk.1); exact rfl; exact rfl) | (apply wl_callR (indexAt_con ph ow f _ (by omega) hsk.1); exact rfl; (repeat (first | exact At.here | apply At.there)); exact rfl))
          ((apply wl_indexRow; exact rfl; (repeat (first | exact At.here | apply At.there)); exact rfl; exact rfl; (first | assumption | omega | (simp; omega)); exact rfl); (apply wl_loadR1; exact rfl; (repeat (first | exact At.here | apply At.there)); (case hk => first | assumption | omega | exact Nat.one_pos | (simp; omega)); exact rfl; exact rfl); (apply wl_add; exact rfl; exact rfl; omega; omega; exact rfl); (apply wl_indexRow; exact rfl; (repeat (first | exact At.here | apply At.there)); exact rfl; exact rfl; (first | assumption | omega | (simp; omega)); exact rfl); (apply wl_storeR1; exact rfl; (repeat (first | exact At.here | apply At.there)); exact rfl; exact inferInstance; (case hk => first | assumption | omega | exact Nat.one_pos | (simp; omega)); exact (of_decide_eq_true rfl); exact rfl); refine WL_nil ?_; refine bl_norm ?_; refine th_norm ?_; refine W_region ?_; (apply wl_add; exact rfl; exact rfl; omega; omega; exact rfl); (apply wl_move; exact rfl; exact rfl); refine WL_nil ?_; refine th_norm ?_)
          (refine ⟨(i + 1, cu.set (f.ids.idxOf x.st[i].fl) (cu[f.ids.idxOf x.st[i].fl] + 1)), fun _ _ st => st_sub2 st ?_ ?_, ?_, ?_⟩; (repeat (first | exact trivial | refine ⟨rfl, ?_⟩)); (repeat (first | exact SubP.nil | (apply SubP.cons; (repeat (first | exact Rm.here | apply Rm.there))))))
          · exact ⟨hlt', by dsimp only; rw [List.length_set]; exact hcl2, hno, (hbt2.mono (by omega) (by dsimp only; omega)).set _ (by omega) (by dsimp only; omega)⟩
          · dsimp only; omega
        · have hkk : i = m := by simp at hlt; omega
          subst hkk
          rw [List.drop_of_length_le (by rw [List.length_take]; omega), incAll] at hno
          rw [← hno]
          (refine W_exit ?_; refine th_exit ?_; refine th_exit ?_; refine bl_eq ?_; refine th_norm ?_; refine W_seq ?_; refine W_region ?_; (apply wl_move; exact rfl; exact rfl); (apply wl_assign; exact rfl; exact rfl); refine WL_nil ?_; refine th_norm ?_; refine W_ret ?_; refine rt_norm ?_)
          (apply resK; exact rfl; exact rfl; (apply Cut.cons; (repeat (first | exact Rm.here | apply Rm.there)); apply Cut.cons (h := hsB ph f ow); (repeat (first | exact Rm.here | apply Rm.there)); exact Cut.nil); exact ⟨_, rfl, rfl⟩)
end Go.Proofs.YtbkellknlcageaaDoor.Sw
/- The program's 'paid'. -/
namespace Go.Proofs.YtbkellknlcageaaDoor.Sw
open Go.RowKit Go Go.Shelf Go.Proofs
set_option maxRecDepth 20000 in
set_option maxHeartbeats 2000000 in
theorem paid_con (ph ow : Value) (f : Flo) (x : Pay) (cu : List Int) {c : Int} (hl : f.ids.length ≤ 6) (hP : x.a ∈ f.ids ∧ x.b ∈ f.ids ∧ x.a ≠ x.b ∧ 1 ≤ x.p ∧ x.p ≤ 1000000) (hcl : cu.length = f.ids.length) (hbt : Btw (-c) c cu) (hc0 : 0 ≤ c) (hc : c ≤ 1000000000000) : Con Tryd.prog 59 [.val ph, .agg (payC x)] [hsB ph f ow, .row ow 3 1 iC cu] (Is (.tup []) [hsB ph f ow, .row ow 3 1 iC (payStep f.ids x cu)]) := by
  have hix : f.ids.idxOf x.a < cu.length := by rw [hcl]; exact List.idxOf_lt_length_of_mem hP.1
  have hq2 : cu[f.ids.idxOf x.a]? = some cu[f.ids.idxOf x.a] := List.getElem?_eq_getElem hix
  have hce := hbt.at hix
  have hb1 := hbt.addAt (f.ids.idxOf x.a) (d := x.p) (a := 0) (b := 1000000) (by omega) (by omega) (by omega) (by omega) (by omega) (by omega)
  rw [payStep]
  rw [addAt_at hix] at hb1 ⊢
  refine con_of Tryd.func59 rfl (enters_of Tryd.func59 (by kernel_rfl) rfl) rfl ?_; intro n w0 F0 G0
  (refine W_seq ?_; refine W_region ?_; (apply wl_boxv; exact rfl; exact inferInstance; exact rfl; intro p hp); refine WL_nil ?_; refine th_norm ?_; refine W_seq ?_)
  refine W_run 12 [4, 5, 6, 7, 8, 9, 10, 11, 12, 13, 14, 15] [0, 1, 2, 3, 4, 5, 6, 7, 8, 9, 10, 11] Cut.nil rfl (by repeat (first | exact Flt.nil | (apply Flt.keep; exact rfl) | (apply Flt.drop; exact rfl))) mixedS (by kernel_rfl) rfl ?_
  apply Run.pv [] []
  · exact rfl
  · intro vs; apply ltr_pk; (repeat (first | exact Pk.nil | (apply Pk.pv; exact rfl; exact rfl) | (apply Pk.tok; exact rfl; exact rfl)))
    (first | (refine ltr ?_; apply lt_move; exact rfl))
  · repeat (first | exact App.nil | apply App.cons)
  apply Run.pv [0] []
  · exact rfl
  · intro vs; apply ltr_pk; (repeat (first | exact Pk.nil | (apply Pk.pv; exact rfl; exact rfl) | (apply Pk.tok; exact rfl; exact rfl)))
    (first | (apply ltr_nilCheck; exact rfl; (repeat (first | exact At.here | apply At.there))) | (refine ltr ?_; apply lt_nilCheckE; exact rfl))
  · repeat (first | exact App.nil | apply App.cons)
  apply Run.pv [1] []
  · exact rfl
  · intro vs; apply ltr_pk; (repeat (first | exact Pk.nil | (apply Pk.pv; exact rfl; exact rfl) | (apply Pk.tok; exact rfl; exact rfl)))
    (first | (refine ltr ?_; apply lt_fieldAt; exact rfl; exact rfl) | (apply ltr_field; exact rfl; (repeat (first | exact At.here | apply At.there))) | (refine ltr ?_; apply lt_fieldEl; exact rfl; exact rfl) | (refine ltr ?_; apply lt_fieldRat; exact rfl; exact rfl))
  · repeat (first | exact App.nil | apply App.cons)
  apply Run.pv [2] []
  · exact rfl
  · intro vs; apply ltr_pk; (repeat (first | exact Pk.nil | (apply Pk.pv; exact rfl; exact rfl) | (apply Pk.tok; exact rfl; exact rfl)))
    (first | (apply ltr_load1; (first | exact .inl rfl | exact .inr ⟨rfl, rfl⟩); (repeat (first | exact At.here | apply At.there)); exact rfl) | (refine ltr ?_; apply lt_loadE1'; exact rfl; assumption; exact rfl) | (refine ltr ?_; apply lt_loadEN'; exact rfl; assumption; exact rfl) | (apply ltr_loadN; (first | exact .inl rfl | exact .inr ⟨rfl, rfl⟩); (repeat (first | exact At.here | apply At.there)); exact rfl) | (apply ltr_loadR1; exact rfl; (repeat (first | exact At.here | apply At.there)); assumption; exact rfl) | (apply ltr_loadRN; exact rfl; (repeat (first | exact At.here | apply At.there)); assumption))
  · repeat (first | exact App.nil | apply App.cons)
  apply Run.pv [] []
  · exact rfl
  · intro vs; apply ltr_pk; (repeat (first | exact Pk.nil | (apply Pk.pv; exact rfl; exact rfl) | (apply Pk.tok; exact rfl; exact rfl)))
    (first | (refine ltr ?_; apply lt_move; exact rfl))
  · repeat (first | exact App.nil | apply App.cons)
  apply Run.pv [] []
  · exact rfl
  · intro vs; apply ltr_pk; (repeat (first | exact Pk.nil | (apply Pk.pv; exact rfl; exact rfl) | (apply Pk.tok; exact rfl; exact rfl)))
    (first | (refine ltr ?_; apply lt_fieldAt; exact rfl; exact rfl) | (apply ltr_field; exact rfl; (repeat (first | exact At.here | apply At.there))) | (refine ltr ?_; apply lt_fieldEl; exact rfl; exact rfl) | (refine ltr ?_; apply lt_fieldRat; exact rfl; exact rfl))
  · repeat (first | exact App.nil | apply App.cons)
  apply Run.pv [5] []
  · exact rfl
  · intro vs; apply ltr_pk; (repeat (first | exact Pk.nil | (apply Pk.pv; exact rfl; exact rfl) | (apply Pk.tok; exact rfl; exact rfl)))
    (first | (apply ltr_load1; (first | exact .inl rfl | exact .inr ⟨rfl, rfl⟩); (repeat (first | exact At.here | apply At.there)); exact rfl) | (refine ltr ?_; apply lt_loadE1'; exact rfl; assumption; exact rfl) | (refine ltr ?_; apply lt_loadEN'; exact rfl; assumption; exact rfl) | (apply ltr_loadN; (first | exact .inl rfl | exact .inr ⟨rfl, rfl⟩); (repeat (first | exact At.here | apply At.there)); exact rfl) | (apply ltr_loadR1; exact rfl; (repeat (first | exact At.here | apply At.there)); assumption; exact rfl) | (apply ltr_loadRN; exact rfl; (repeat (first | exact At.here | apply At.there)); assumption))
  · repeat (first | exact App.nil | apply App.cons)
  apply Run.pv [4, 6] []
  · exact rfl
  · intro vs; apply ltr_pk; (repeat (first | exact Pk.nil | (apply Pk.pv; exact rfl; exact rfl) | (apply Pk.tok; exact rfl; exact rfl)))
    (apply ltr_callR ((indexAt_con ph ow f _ (by omega) hP.1)); exact rfl; (repeat (first | exact At.here | apply At.there)))
  · repeat (first | exact App.nil | apply App.cons)
  apply Run.pv [3, 7] []
  · exact rfl
  · intro vs; apply ltr_pk; (repeat (first | exact Pk.nil | (apply Pk.pv; exact rfl; exact rfl) | (apply Pk.tok; exact rfl; exact rfl)))
    (first | (refine ltr ?_; apply lt_indexSl; exact rfl; exact rfl; exact rfl; (first | assumption | omega | (simp; omega))) | (apply ltr_indexRow; exact rfl; (repeat (first | exact At.here | apply At.there)); exact rfl; exact rfl; (first | assumption | omega | (simp; omega))) | (apply ltr_indexArr; exact rfl; (repeat (first | exact At.here | apply At.there)); exact rfl; exact rfl; (first | assumption | omega | decide)))
  · repeat (first | exact App.nil | apply App.cons)
  apply Run.pv [8] []
  · exact rfl
  · intro vs; apply ltr_pk; (repeat (first | exact Pk.nil | (apply Pk.pv; exact rfl; exact rfl) | (apply Pk.tok; exact rfl; exact rfl)))
    (first | (apply ltr_load1; (first | exact .inl rfl | exact .inr ⟨rfl, rfl⟩); (repeat (first | exact At.here | apply At.there)); exact rfl) | (refine ltr ?_; apply lt_loadE1'; exact rfl; assumption; exact rfl) | (refine ltr ?_; apply lt_loadEN'; exact rfl; assumption; exact rfl) | (apply ltr_loadN; (first | exact .inl rfl | exact .inr ⟨rfl, rfl⟩); (repeat (first | exact At.here | apply At.there)); exact rfl) | (apply ltr_loadR1; exact rfl; (repeat (first | exact At.here | apply At.there)); assumption; exact rfl) | (apply ltr_loadRN; exact rfl; (repeat (first | exact At.here | apply At.there)); assumption))
  · repeat (first | exact App.nil | apply App.cons)
  apply Run.pv [] []
  · exact rfl
  · intro vs; apply ltr_pk; (repeat (first | exact Pk.nil | (apply Pk.pv; exact rfl; exact rfl) | (apply Pk.tok; exact rfl; exact rfl)))
    (first | (refine ltr ?_; apply lt_fieldAt; exact rfl; exact rfl) | (apply ltr_field; exact rfl; (repeat (first | exact At.here | apply At.there))) | (refine ltr ?_; apply lt_fieldEl; exact rfl; exact rfl) | (refine ltr ?_; apply lt_fieldRat; exact rfl; exact rfl))
  · repeat (first | exact App.nil | apply App.cons)
  apply Run.pv [10] []
  · exact rfl
  · intro vs; apply ltr_pk; (repeat (first | exact Pk.nil | (apply Pk.pv; exact rfl; exact rfl) | (apply Pk.tok; exact rfl; exact rfl)))
    (first | (apply ltr_load1; (first | exact .inl rfl | exact .inr ⟨rfl, rfl⟩); (repeat (first | exact At.here | apply At.there)); exact rfl) | (refine ltr ?_; apply lt_loadE1'; exact rfl; assumption; exact rfl) | (refine ltr ?_; apply lt_loadEN'; exact rfl; assumption; exact rfl) | (apply ltr_loadN; (first | exact .inl rfl | exact .inr ⟨rfl, rfl⟩); (repeat (first | exact At.here | apply At.there)); exact rfl) | (apply ltr_loadR1; exact rfl; (repeat (first | exact At.here | apply At.there)); assumption; exact rfl) | (apply ltr_loadRN; exact rfl; (repeat (first | exact At.here | apply At.there)); assumption))
  · repeat (first | exact App.nil | apply App.cons)
  refine ⟨⟨by kernel_rfl, by kernel_rfl⟩, fun vs => ?_⟩
  apply WL_auto [3, 7, 9, 11]
  · repeat (first | exact Pk.nil | (apply Pk.pv; exact rfl; exact rfl) | (apply Pk.tok; exact rfl; exact rfl))
  · repeat (first | exact Nrm.nil | apply Nrm.cons)
  · kernel_rfl
  · kernel_rfl
  ((apply wl_add; exact rfl; exact rfl; omega; omega; exact rfl); (apply wl_indexRow; exact rfl; (repeat (first | exact At.here | apply At.there)); exact rfl; exact rfl; (first | assumption | omega | (simp; omega)); exact rfl); (apply wl_storeR1; exact rfl; (repeat (first | exact At.here | apply At.there)); exact rfl; exact inferInstance; (case hk => first | assumption | omega | exact Nat.one_pos | (simp; omega)); exact (of_decide_eq_true rfl); exact rfl); refine WL_nil ?_; refine th_norm ?_)
  generalize hc1 : cu.set (f.ids.idxOf x.a) (cu[f.ids.idxOf x.a] + x.p) = c1 at *
  have hc1l : c1.length = f.ids.length := by rw [← hc1, List.length_set, hcl]
  have hix2 : f.ids.idxOf x.b < c1.length := by rw [hc1l]; exact List.idxOf_lt_length_of_mem hP.2.1
  have hq3 : c1[f.ids.idxOf x.b]? = some c1[f.ids.idxOf x.b] := List.getElem?_eq_getElem hix2
  have hce2 := hb1.at hix2
  rw [addAt_at hix2, ← Int.sub_eq_add_neg]
  skip
  refine W_run 12 [18, 19, 20, 21, 22, 23, 24, 25, 26, 27, 28, 29] [0, 1, 2, 3, 4, 5, 6, 7, 8, 9, 10, 11] Cut.nil rfl (by repeat (first | exact Flt.nil | (apply Flt.keep; exact rfl) | (apply Flt.drop; exact rfl))) mixedS (by kernel_rfl) rfl ?_
  apply Run.pv [] []
  · exact rfl
  · intro vs; apply ltr_pk; (repeat (first | exact Pk.nil | (apply Pk.pv; exact rfl; exact rfl) | (apply Pk.tok; exact rfl; exact rfl)))
    (first | (refine ltr ?_; apply lt_move; exact rfl))
  · repeat (first | exact App.nil | apply App.cons)
  apply Run.pv [0] []
  · exact rfl
  · intro vs; apply ltr_pk; (repeat (first | exact Pk.nil | (apply Pk.pv; exact rfl; exact rfl) | (apply Pk.tok; exact rfl; exact rfl)))
    (first | (apply ltr_nilCheck; exact rfl; (repeat (first | exact At.here | apply At.there))) | (refine ltr ?_; apply lt_nilCheckE; exact rfl))
  · repeat (first | exact App.nil | apply App.cons)
  apply Run.pv [1] []
  · exact rfl
  · intro vs; apply ltr_pk; (repeat (first | exact Pk.nil | (apply Pk.pv; exact rfl; exact rfl) | (apply Pk.tok; exact rfl; exact rfl)))
    (first | (refine ltr ?_; apply lt_fieldAt; exact rfl; exact rfl) | (apply ltr_field; exact rfl; (repeat (first | exact At.here | apply At.there))) | (refine ltr ?_; apply lt_fieldEl; exact rfl; exact rfl) | (refine ltr ?_; apply lt_fieldRat; exact rfl; exact rfl))
  · repeat (first | exact App.nil | apply App.cons)
  apply Run.pv [2] []
  · exact rfl
  · intro vs; apply ltr_pk; (repeat (first | exact Pk.nil | (apply Pk.pv; exact rfl; exact rfl) | (apply Pk.tok; exact rfl; exact rfl)))
    (first | (apply ltr_load1; (first | exact .inl rfl | exact .inr ⟨rfl, rfl⟩); (repeat (first | exact At.here | apply At.there)); exact rfl) | (refine ltr ?_; apply lt_loadE1'; exact rfl; assumption; exact rfl) | (refine ltr ?_; apply lt_loadEN'; exact rfl; assumption; exact rfl) | (apply ltr_loadN; (first | exact .inl rfl | exact .inr ⟨rfl, rfl⟩); (repeat (first | exact At.here | apply At.there)); exact rfl) | (apply ltr_loadR1; exact rfl; (repeat (first | exact At.here | apply At.there)); assumption; exact rfl) | (apply ltr_loadRN; exact rfl; (repeat (first | exact At.here | apply At.there)); assumption))
  · repeat (first | exact App.nil | apply App.cons)
  apply Run.pv [] []
  · exact rfl
  · intro vs; apply ltr_pk; (repeat (first | exact Pk.nil | (apply Pk.pv; exact rfl; exact rfl) | (apply Pk.tok; exact rfl; exact rfl)))
    (first | (refine ltr ?_; apply lt_move; exact rfl))
  · repeat (first | exact App.nil | apply App.cons)
  apply Run.pv [] []
  · exact rfl
  · intro vs; apply ltr_pk; (repeat (first | exact Pk.nil | (apply Pk.pv; exact rfl; exact rfl) | (apply Pk.tok; exact rfl; exact rfl)))
    (first | (refine ltr ?_; apply lt_fieldAt; exact rfl; exact rfl) | (apply ltr_field; exact rfl; (repeat (first | exact At.here | apply At.there))) | (refine ltr ?_; apply lt_fieldEl; exact rfl; exact rfl) | (refine ltr ?_; apply lt_fieldRat; exact rfl; exact rfl))
  · repeat (first | exact App.nil | apply App.cons)
  apply Run.pv [5] []
  · exact rfl
  · intro vs; apply ltr_pk; (repeat (first | exact Pk.nil | (apply Pk.pv; exact rfl; exact rfl) | (apply Pk.tok; exact rfl; exact rfl)))
    (first | (apply ltr_load1; (first | exact .inl rfl | exact .inr ⟨rfl, rfl⟩); (repeat (first | exact At.here | apply At.there)); exact rfl) | (refine ltr ?_; apply lt_loadE1'; exact rfl; assumption; exact rfl) | (refine ltr ?_; apply lt_loadEN'; exact rfl; assumption; exact rfl) | (apply ltr_loadN; (first | exact .inl rfl | exact .inr ⟨rfl, rfl⟩); (repeat (first | exact At.here | apply At.there)); exact rfl) | (apply ltr_loadR1; exact rfl; (repeat (first | exact At.here | apply At.there)); assumption; exact rfl) | (apply ltr_loadRN; exact rfl; (repeat (first | exact At.here | apply At.there)); assumption))
  · repeat (first | exact App.nil | apply App.cons)
  apply Run.pv [4, 6] []
  · exact rfl
  · intro vs; apply ltr_pk; (repeat (first | exact Pk.nil | (apply Pk.pv; exact rfl; exact rfl) | (apply Pk.tok; exact rfl; exact rfl)))
    (apply ltr_callR ((indexAt_con ph ow f _ (by omega) hP.2.1)); exact rfl; (repeat (first | exact At.here | apply At.there)))
  · repeat (first | exact App.nil | apply App.cons)
  apply Run.pv [3, 7] []
  · exact rfl
  · intro vs; apply ltr_pk; (repeat (first | exact Pk.nil | (apply Pk.pv; exact rfl; exact rfl) | (apply Pk.tok; exact rfl; exact rfl)))
    (first | (refine ltr ?_; apply lt_indexSl; exact rfl; exact rfl; exact rfl; (first | assumption | omega | (simp; omega))) | (apply ltr_indexRow; exact rfl; (repeat (first | exact At.here | apply At.there)); exact rfl; exact rfl; (first | assumption | omega | (simp; omega))) | (apply ltr_indexArr; exact rfl; (repeat (first | exact At.here | apply At.there)); exact rfl; exact rfl; (first | assumption | omega | decide)))
  · repeat (first | exact App.nil | apply App.cons)
  apply Run.pv [8] []
  · exact rfl
  · intro vs; apply ltr_pk; (repeat (first | exact Pk.nil | (apply Pk.pv; exact rfl; exact rfl) | (apply Pk.tok; exact rfl; exact rfl)))
    (first | (apply ltr_load1; (first | exact .inl rfl | exact .inr ⟨rfl, rfl⟩); (repeat (first | exact At.here | apply At.there)); exact rfl) | (refine ltr ?_; apply lt_loadE1'; exact rfl; assumption; exact rfl) | (refine ltr ?_; apply lt_loadEN'; exact rfl; assumption; exact rfl) | (apply ltr_loadN; (first | exact .inl rfl | exact .inr ⟨rfl, rfl⟩); (repeat (first | exact At.here | apply At.there)); exact rfl) | (apply ltr_loadR1; exact rfl; (repeat (first | exact At.here | apply At.there)); assumption; exact rfl) | (apply ltr_loadRN; exact rfl; (repeat (first | exact At.here | apply At.there)); assumption))
  · repeat (first | exact App.nil | apply App.cons)
  apply Run.pv [] []
  · exact rfl
  · intro vs; apply ltr_pk; (repeat (first | exact Pk.nil | (apply Pk.pv; exact rfl; exact rfl) | (apply Pk.tok; exact rfl; exact rfl)))
    (first | (refine ltr ?_; apply lt_fieldAt; exact rfl; exact rfl) | (apply ltr_field; exact rfl; (repeat (first | exact At.here | apply At.there))) | (refine ltr ?_; apply lt_fieldEl; exact rfl; exact rfl) | (refine ltr ?_; apply lt_fieldRat; exact rfl; exact rfl))
  · repeat (first | exact App.nil | apply App.cons)
  apply Run.pv [10] []
  · exact rfl
  · intro vs; apply ltr_pk; (repeat (first | exact Pk.nil | (apply Pk.pv; exact rfl; exact rfl) | (apply Pk.tok; exact rfl; exact rfl)))
    (first | (apply ltr_load1; (first | exact .inl rfl | exact .inr ⟨rfl, rfl⟩); (repeat (first | exact At.here | apply At.there)); exact rfl) | (refine ltr ?_; apply lt_loadE1'; exact rfl; assumption; exact rfl) | (refine ltr ?_; apply lt_loadEN'; exact rfl; assumption; exact rfl) | (apply ltr_loadN; (first | exact .inl rfl | exact .inr ⟨rfl, rfl⟩); (repeat (first | exact At.here | apply At.there)); exact rfl) | (apply ltr_loadR1; exact rfl; (repeat (first | exact At.here | apply At.there)); assumption; exact rfl) | (apply ltr_loadRN; exact rfl; (repeat (first | exact At.here | apply At.there)); assumption))
  · repeat (first | exact App.nil | apply App.cons)
  refine ⟨⟨by kernel_rfl, by kernel_rfl⟩, fun vs => ?_⟩
  apply WL_auto [3, 7, 9, 11]
  · repeat (first | exact Pk.nil | (apply Pk.pv; exact rfl; exact rfl) | (apply Pk.tok; exact rfl; exact rfl))
  · repeat (first | exact Nrm.nil | apply Nrm.cons)
  · kernel_rfl
  · kernel_rfl
  ((apply wl_sub; exact rfl; exact rfl; omega; omega; exact rfl); (apply wl_indexRow; exact rfl; (repeat (first | exact At.here | apply At.there)); exact rfl; exact rfl; (first | assumption | omega | (simp; omega)); exact rfl); (apply wl_storeR1; exact rfl; (repeat (first | exact At.here | apply At.there)); exact rfl; exact inferInstance; (case hk => first | assumption | omega | exact Nat.one_pos | (simp; omega)); exact (of_decide_eq_true rfl); exact rfl); refine WL_nil ?_; refine rt_norm ?_)
  (apply resK0; exact rfl; exact ⟨rfl, rfl⟩; (repeat (first | exact Cut.nil | (apply Cut.cons; (repeat (first | exact Rm.here | apply Rm.there))))))
end Go.Proofs.YtbkellknlcageaaDoor.Sw
