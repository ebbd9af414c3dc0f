/- The reference's 'shares' and 'Owed'. -/
import Derived.Test.YtbkellknlcageaaDoorFloorV
namespace Go.Proofs.YtbkellknlcageaaDoor.Sw
open Go.RowKit Go Go.Shelf Go.Proofs
theorem zeroF {α : Type} {P : Program} {e : TypeId} {f : α → List AV} {x0 : α} {n b : Nat} {z : Value} (h2 : (P.info? e).map (fun i => (i.zero, i.size, i.bytes)) = some (some z, n, b)) {zs : List Value} (h3 : z.cells = zs.toArray) (h4 : ∀ G, Fits G (f x0) zs) : ZeroF P e f x0 := by
  obtain ⟨i, hi, e1, _, _⟩ := info_parts h2
  exact ⟨z, ⟨i, hi, e1⟩, zs, h3, h4⟩
instance zeroI : ZeroF Tryd.prog 3 iC 0 := zeroF (z := .int .i64 0) (n := 1) (b := 8) (zs := [.int .i64 0]) (by kernel_rfl) rfl (fun _ => ⟨rfl, trivial⟩)
theorem floorAt_con (f : Flo) (id : Int) (hl : f.ids.length ≤ 1000000) (hm : id ∈ f.ids) : Con Tryd.prog 64 [.agg (flC f), .val (.int .i64 id)] [] (Is (.val (.int .i64 ((f.ids.idxOf id : Nat) : Int))) []) := by
  have := floor_con f id hl
  rwa [show ixOf f.ids id = ((f.ids.idxOf id : Nat) : Int) from if_pos hm] at this
set_option maxRecDepth 20000 in
set_option maxHeartbeats 2000000 in
theorem shares8_con (f : Flo) (x : Bil) (hl : f.ids.length ≤ 6) (hs : x.st.length ≤ 1000) (hB : BilF f.ids x) : Con Tryd.prog 69 [.agg (flC f), .agg (biC x)] [] (Is (.sl 1 iC (sharesR f.ids x)) []) := by
  have hsum := sumPt_bounds fun s hs => (hB.st s hs).2
  have hlb := left_bounds hB
  have hpe0 := hB.pe0
  have hpe1 := hB.pe1
  refine con_of Tryd.func69 rfl (enters_of Tryd.func69 (by kernel_rfl) rfl) rfl ?_; intro n w0 F0 G0
  (refine W_seq ?_; refine W_region ?_; (apply wl_boxv; exact rfl; exact inferInstance; exact rfl; intro p hp); (apply wl_boxv; exact rfl; exact inferInstance; exact rfl; intro p hp); (apply wl_assign; exact rfl; exact rfl); refine WL_nil ?_; refine th_norm ?_; refine W_seq ?_; refine W_region ?_; (apply wl_assign; exact rfl; exact rfl); refine WL_nil ?_; refine th_norm ?_; refine W_seq ?_; refine W_seq ?_; refine W_region ?_; (apply wl_field; exact rfl; (repeat (first | exact At.here | apply At.there)); exact rfl); (apply wl_load1; (first | exact .inl rfl | exact .inr ⟨rfl, rfl⟩); (repeat (first | exact At.here | apply At.there)); exact rfl; exact rfl); (apply wl_lenSl; exact rfl; exact rfl); (apply wl_move; exact rfl; exact rfl); refine WL_nil ?_; refine th_norm ?_; refine W_block ?_)
  rename_i pf hpf
  refine W_loopJ (fun (b : Nat × Int) => ⟨[(2, .val pf), (3, .val p), (5, .val (.int .i64 b.2)), (14, .sl 2 stC x.st), (15, .val (.int .i64 x.st.length)), (16, .val (.int .i64 b.1))], [.box pf (flC f) 27, .box p (biC x) 66]⟩) (fun b => b.1 ≤ x.st.length ∧ b.2 + sumPt (x.st.drop b.1) = sumPt x.st ∧ 0 ≤ b.2 ∧ b.2 ≤ 9 * b.1) (fun b => x.st.length - b.1) (0, 0) (fun _ _ st => st_sub2 st (by (repeat (first | exact trivial | refine ⟨rfl, ?_⟩))) (by (repeat (first | exact SubP.nil | (apply SubP.cons; (repeat (first | exact Rm.here | apply Rm.there))))))) ?hj0 ?round
  case hj0 => simp
  case round =>
    rintro ⟨k, acc⟩ ⟨hk, hno, ha0, ha1⟩
    dsimp only at hk hno ha0 ha1 ⊢
    (refine W_seq ?_; refine W_region ?_; (apply wl_lss; exact rfl; exact rfl; exact rfl); refine WL_nil ?_; refine th_norm ?_; refine W_seq ?_)
    refine w_cond rfl (fun hlt => ?_) (fun hlt => ?_)
    · have hlt' : k < x.st.length := by simpa using hlt
      have hp := (hB.st _ (List.getElem_mem hlt')).2
      rw [drop_step hlt', sumPt] at hno
      (refine W_skip ?_; refine th_norm ?_; refine W_seq ?_; refine W_block ?_; refine W_seq ?_; refine W_region ?_; (apply wl_indexSl; exact rfl; exact rfl; exact rfl; (first | assumption | omega | (simp; omega)); exact rfl); (apply wl_loadEN; exact rfl; (case hk => first | assumption | omega | exact Nat.one_pos | (simp; omega)); exact rfl; exact rfl); (apply wl_alloc; exact rfl; intro p hp); (apply wl_store; (first | exact .inl rfl | exact .inr ⟨rfl, rfl⟩); (repeat (first | exact At.here | apply At.there)); exact rfl; exact inferInstance; exact inferInstance; exact inferInstance; exact rfl; (first | exact (of_decide_eq_true rfl) | (simp; omega) | decide)); refine WL_nil ?_; refine th_norm ?_; refine W_region ?_; (apply wl_move; exact rfl; exact rfl); (apply wl_field; exact rfl; (repeat (first | exact At.here | apply At.there)); exact rfl); (apply wl_load1; (first | exact .inl rfl | exact .inr ⟨rfl, rfl⟩); (repeat (first | exact At.here | apply At.there)); exact rfl; exact rfl); (apply wl_add; exact rfl; exact rfl; omega; omega; exact rfl); (apply wl_assign; exact rfl; exact rfl); refine WL_nil ?_; refine bl_norm ?_; refine th_norm ?_; refine W_region ?_; (apply wl_add; exact rfl; exact rfl; omega; omega; exact rfl); (apply wl_move; exact rfl; exact rfl); refine WL_nil ?_; refine th_norm ?_)
      (refine ⟨(k + 1, acc + x.st[k].pt), fun _ _ st => st_sub2 st ?_ ?_, ?_, ?_⟩; (repeat (first | exact trivial | refine ⟨rfl, ?_⟩)); (repeat (first | exact SubP.nil | (apply SubP.cons; (repeat (first | exact Rm.here | apply Rm.there))))))
      · exact ⟨hlt', by dsimp only; omega, by dsimp only; omega, by dsimp only; omega⟩
      · dsimp only; omega
    · have hkk : k = x.st.length := by simp at hlt; omega
      subst hkk
      rw [List.drop_length, sumPt, Int.add_zero] at hno
      subst hno
      clear hlt hk ha0 ha1
      (refine W_exit ?_; refine th_exit ?_; refine th_exit ?_; refine bl_eq ?_; refine th_norm ?_; refine W_seq ?_; refine W_region ?_; (apply wl_field; exact rfl; (repeat (first | exact At.here | apply At.there)); exact rfl); (apply wl_load1; (first | exact .inl rfl | exact .inr ⟨rfl, rfl⟩); (repeat (first | exact At.here | apply At.there)); exact rfl; exact rfl); (apply wl_lenSl; exact rfl; exact rfl))
      (apply wl_make iC; exact inferInstance; exact inferInstance; exact inferInstance; exact inferInstance; exact rfl; exact rfl; exact rfl; (first | omega | (simp; omega)); exact rfl)
      intro v
      ((apply wl_assign; exact rfl; exact rfl); refine WL_nil ?_; refine th_norm ?_; refine W_seq ?_; refine W_region ?_; (apply wl_field; exact rfl; (repeat (first | exact At.here | apply At.there)); exact rfl); (apply wl_load1; (first | exact .inl rfl | exact .inr ⟨rfl, rfl⟩); (repeat (first | exact At.here | apply At.there)); exact rfl; exact rfl); (apply wl_assign; exact rfl; exact rfl); refine WL_nil ?_; refine th_norm ?_; refine W_seq ?_; refine W_seq ?_; refine W_region ?_; (apply wl_field; exact rfl; (repeat (first | exact At.here | apply At.there)); exact rfl); (apply wl_load1; (first | exact .inl rfl | exact .inr ⟨rfl, rfl⟩); (repeat (first | exact At.here | apply At.there)); exact rfl; exact rfl); (apply wl_lenSl; exact rfl; exact rfl); (apply wl_move; exact rfl; exact rfl); refine WL_nil ?_; refine th_norm ?_; refine W_block ?_)
      refine W_loopJ (fun (b : Nat × Int × List Int) => ⟨[(2, .val pf), (3, .val p), (5, .val (.int .i64 (sumPt x.st))), (8, .val v), (9, .val (.int .i64 b.2.1)), (32, .sl 2 stC x.st), (33, .val (.int .i64 x.st.length)), (34, .val (.int .i64 b.1))], [.row v 3 1 iC b.2.2, .box pf (flC f) 27, .box p (biC x) 66]⟩)
        (fun b => b.1 ≤ x.st.length ∧ b.2.2.length = f.ids.length ∧ putAll f.ids x.pe (sumPt x.st) (x.st.drop b.1) b.2.2 = putAll f.ids x.pe (sumPt x.st) x.st (List.replicate f.ids.length 0) ∧ leftQ x.pe (sumPt x.st) (x.st.drop b.1) b.2.1 = leftQ x.pe (sumPt x.st) x.st x.pe ∧ -9000000 * (b.1 : Int) ≤ b.2.1 ∧ b.2.1 ≤ 1000000) (fun b => x.st.length - b.1) (0, x.pe, List.replicate f.ids.length 0) (fun _ _ st => st_sub2 st (by (repeat (first | exact trivial | refine ⟨rfl, ?_⟩))) (by (repeat (first | exact SubP.nil | (apply SubP.cons; (repeat (first | exact Rm.here | apply Rm.there))))))) ⟨Nat.zero_le _, by simp, rfl, rfl, by dsimp only; omega, by dsimp only; omega⟩ ?_
      rintro ⟨k, left, cur⟩ ⟨hk, hcl, hno, hlf, hl0, hl1⟩
      dsimp only at hk hcl hno hlf hl0 hl1 ⊢
      (refine W_seq ?_; refine W_region ?_; (apply wl_lss; exact rfl; exact rfl; exact rfl); refine WL_nil ?_; refine th_norm ?_; refine W_seq ?_)
      refine w_cond rfl (fun hlt => ?_) (fun hlt => ?_)
      · have hlt' : k < x.st.length := by simpa using hlt
        have hsk := hB.st _ (List.getElem_mem hlt')
        have hq := quot_bounds hB (List.getElem_mem hlt')
        have hix : f.ids.idxOf x.st[k].fl < cur.length := by rw [hcl]; exact List.idxOf_lt_length_of_mem hsk.1
        rw [drop_step hlt', putAll] at hno
        rw [drop_step hlt', leftQ] at hlf
        (refine W_skip ?_; refine th_norm ?_; refine W_seq ?_; refine W_block ?_; refine W_seq ?_; refine W_region ?_; (apply wl_indexSl; exact rfl; exact rfl; exact rfl; (first | assumption | omega | (simp; omega)); exact rfl); (apply wl_loadEN; exact rfl; (case hk => first | assumption | omega | exact Nat.one_pos | (simp; omega)); exact rfl; exact rfl); (apply wl_alloc; exact rfl; intro p hp); (apply wl_store; (first | exact .inl rfl | exact .inr ⟨rfl, rfl⟩); (repeat (first | exact At.here | apply At.there)); exact rfl; exact inferInstance; exact inferInstance; exact inferInstance; exact rfl; (first | exact (of_decide_eq_true rfl) | (simp; omega) | decide)); refine WL_nil ?_; refine th_norm ?_; refine W_seq ?_)
        rename_i pb hpb
        refine W_run 12 [38, 39, 40, 41, 42, 43, 44, 45, 46, 47, 48, 49] [0, 1, 2, 3, 4, 5, 6, 7, 8, 9, 10, 11] Cut.nil rfl (by repeat (first | exact Flt.nil | (apply Flt.keep; exact rfl) | (apply Flt.drop; exact rfl))) mixedS (by kernel_rfl) rfl ?_
        apply Run.pv [] []
        · exact rfl
        · intro vs; apply ltr_pk; (repeat (first | exact Pk.nil | (apply Pk.pv; exact rfl; exact rfl) | (apply Pk.tok; exact rfl; exact rfl)))
          (first | (refine ltr ?_; apply lt_move; exact rfl))
        · repeat (first | exact App.nil | apply App.cons)
        apply Run.pv [] []
        · exact rfl
        · intro vs; apply ltr_pk; (repeat (first | exact Pk.nil | (apply Pk.pv; exact rfl; exact rfl) | (apply Pk.tok; exact rfl; exact rfl)))
          (first | (apply ltr_load1; (first | exact .inl rfl | exact .inr ⟨rfl, rfl⟩); (repeat (first | exact At.here | apply At.there)); exact rfl) | (refine ltr ?_; apply lt_loadE1'; exact rfl; assumption; exact rfl) | (refine ltr ?_; apply lt_loadEN'; exact rfl; assumption; exact rfl) | (apply ltr_loadN; (first | exact .inl rfl | exact .inr ⟨rfl, rfl⟩); (repeat (first | exact At.here | apply At.there)); exact rfl) | (apply ltr_loadR1; exact rfl; (repeat (first | exact At.here | apply At.there)); assumption; exact rfl) | (apply ltr_loadRN; exact rfl; (repeat (first | exact At.here | apply At.there)); assumption))
        · repeat (first | exact App.nil | apply App.cons)
        apply Run.pv [] []
        · exact rfl
        · intro vs; apply ltr_pk; (repeat (first | exact Pk.nil | (apply Pk.pv; exact rfl; exact rfl) | (apply Pk.tok; exact rfl; exact rfl)))
          (first | (refine ltr ?_; apply lt_fieldAt; exact rfl; exact rfl) | (apply ltr_field; exact rfl; (repeat (first | exact At.here | apply At.there))) | (refine ltr ?_; apply lt_fieldEl; exact rfl; exact rfl) | (refine ltr ?_; apply lt_fieldRat; exact rfl; exact rfl))
        · repeat (first | exact App.nil | apply App.cons)
        apply Run.pv [2] []
        · exact rfl
        · intro vs; apply ltr_pk; (repeat (first | exact Pk.nil | (apply Pk.pv; exact rfl; exact rfl) | (apply Pk.tok; exact rfl; exact rfl)))
          (first | (apply ltr_load1; (first | exact .inl rfl | exact .inr ⟨rfl, rfl⟩); (repeat (first | exact At.here | apply At.there)); exact rfl) | (refine ltr ?_; apply lt_loadE1'; exact rfl; assumption; exact rfl) | (refine ltr ?_; apply lt_loadEN'; exact rfl; assumption; exact rfl) | (apply ltr_loadN; (first | exact .inl rfl | exact .inr ⟨rfl, rfl⟩); (repeat (first | exact At.here | apply At.there)); exact rfl) | (apply ltr_loadR1; exact rfl; (repeat (first | exact At.here | apply At.there)); assumption; exact rfl) | (apply ltr_loadRN; exact rfl; (repeat (first | exact At.here | apply At.there)); assumption))
        · repeat (first | exact App.nil | apply App.cons)
        apply Run.pv [1, 3] []
        · exact rfl
        · intro vs; apply ltr_pk; (repeat (first | exact Pk.nil | (apply Pk.pv; exact rfl; exact rfl) | (apply Pk.tok; exact rfl; exact rfl)))
          (refine ltr ?_; refine lt_call ?_ ((floorAt_con f _ (by omega) hsk.1)); exact rfl)
        · repeat (first | exact App.nil | apply App.cons)
        apply Run.pv [] []
        · exact rfl
        · intro vs; apply ltr_pk; (repeat (first | exact Pk.nil | (apply Pk.pv; exact rfl; exact rfl) | (apply Pk.tok; exact rfl; exact rfl)))
          (first | (refine ltr ?_; apply lt_fieldAt; exact rfl; exact rfl) | (apply ltr_field; exact rfl; (repeat (first | exact At.here | apply At.there))) | (refine ltr ?_; apply lt_fieldEl; exact rfl; exact rfl) | (refine ltr ?_; apply lt_fieldRat; exact rfl; exact rfl))
        · repeat (first | exact App.nil | apply App.cons)
        apply Run.pv [5] []
        · exact rfl
        · intro vs; apply ltr_pk; (repeat (first | exact Pk.nil | (apply Pk.pv; exact rfl; exact rfl) | (apply Pk.tok; exact rfl; exact rfl)))
          (first | (apply ltr_load1; (first | exact .inl rfl | exact .inr ⟨rfl, rfl⟩); (repeat (first | exact At.here | apply At.there)); exact rfl) | (refine ltr ?_; apply lt_loadE1'; exact rfl; assumption; exact rfl) | (refine ltr ?_; apply lt_loadEN'; exact rfl; assumption; exact rfl) | (apply ltr_loadN; (first | exact .inl rfl | exact .inr ⟨rfl, rfl⟩); (repeat (first | exact At.here | apply At.there)); exact rfl) | (apply ltr_loadR1; exact rfl; (repeat (first | exact At.here | apply At.there)); assumption; exact rfl) | (apply ltr_loadRN; exact rfl; (repeat (first | exact At.here | apply At.there)); assumption))
        · repeat (first | exact App.nil | apply App.cons)
        apply Run.pv [] []
        · exact rfl
        · intro vs; apply ltr_pk; (repeat (first | exact Pk.nil | (apply Pk.pv; exact rfl; exact rfl) | (apply Pk.tok; exact rfl; exact rfl)))
          (first | (refine ltr ?_; apply lt_fieldAt; exact rfl; exact rfl) | (apply ltr_field; exact rfl; (repeat (first | exact At.here | apply At.there))) | (refine ltr ?_; apply lt_fieldEl; exact rfl; exact rfl) | (refine ltr ?_; apply lt_fieldRat; exact rfl; exact rfl))
        · repeat (first | exact App.nil | apply App.cons)
        apply Run.pv [7] []
        · exact rfl
        · intro vs; apply ltr_pk; (repeat (first | exact Pk.nil | (apply Pk.pv; exact rfl; exact rfl) | (apply Pk.tok; exact rfl; exact rfl)))
          (first | (apply ltr_load1; (first | exact .inl rfl | exact .inr ⟨rfl, rfl⟩); (repeat (first | exact At.here | apply At.there)); exact rfl) | (refine ltr ?_; apply lt_loadE1'; exact rfl; assumption; exact rfl) | (refine ltr ?_; apply lt_loadEN'; exact rfl; assumption; exact rfl) | (apply ltr_loadN; (first | exact .inl rfl | exact .inr ⟨rfl, rfl⟩); (repeat (first | exact At.here | apply At.there)); exact rfl) | (apply ltr_loadR1; exact rfl; (repeat (first | exact At.here | apply At.there)); assumption; exact rfl) | (apply ltr_loadRN; exact rfl; (repeat (first | exact At.here | apply At.there)); assumption))
        · repeat (first | exact App.nil | apply App.cons)
        apply Run.pv [6, 8] []
        · exact rfl
        · intro vs; apply ltr_pk; (repeat (first | exact Pk.nil | (apply Pk.pv; exact rfl; exact rfl) | (apply Pk.tok; exact rfl; exact rfl)))
          (first | (refine ltr ?_; apply lt_mul; exact rfl; exact rfl; omega; omega))
        · repeat (first | exact App.nil | apply App.cons)
        apply Run.pv [] []
        · exact rfl
        · intro vs; apply ltr_pk; (repeat (first | exact Pk.nil | (apply Pk.pv; exact rfl; exact rfl) | (apply Pk.tok; exact rfl; exact rfl)))
          (first | (refine ltr ?_; apply lt_move; exact rfl))
        · repeat (first | exact App.nil | apply App.cons)
        apply Run.pv [9, 10] []
        · exact rfl
        · intro vs; apply ltr_pk; (repeat (first | exact Pk.nil | (apply Pk.pv; exact rfl; exact rfl) | (apply Pk.tok; exact rfl; exact rfl)))
          (refine ltr ?_; apply lt_quo; exact rfl; exact rfl; omega; omega; omega)
        · repeat (first | exact App.nil | apply App.cons)
        refine ⟨⟨by kernel_rfl, by kernel_rfl⟩, fun vs => ?_⟩
        refine WL_to [(2, .val pf), (3, .val pb), (5, .val (.int .i64 (sumPt x.st))), (8, .val v), (9, .val (.int .i64 left)), (32, .sl 2 stC x.st), (33, .val (.int .i64 x.st.length)), (34, .val (.int .i64 k)), (11, .val p), (38, .val v), (42, .val (.int .i64 ((f.ids.idxOf x.st[k].fl : Nat) : Int))), (49, .val (.int .i64 (x.pe * x.st[k].pt / sumPt x.st)))] [.box p (stC x.st[k]) 113, .row v 3 1 iC cur, .box pf (flC f) 27, .box pb (biC x) 66] (by kernel_rfl) (by kernel_rfl) ?_
        ((apply wl_indexRow; exact rfl; (repeat (first | exact At.here | apply At.there)); exact rfl; exact rfl; (first | assumption | omega | (simp; omega)); exact rfl); (apply wl_storeR1; exact rfl; (repeat (first | exact At.here | apply At.there)); exact rfl; exact inferInstance; (case hk => first | assumption | omega | exact Nat.one_pos | (simp; omega)); exact (of_decide_eq_true rfl); exact rfl); refine WL_nil ?_; refine th_norm ?_; refine W_region ?_; (apply wl_move; exact rfl; exact rfl); (apply wl_field; exact rfl; (repeat (first | exact At.here | apply At.there)); exact rfl); (apply wl_load1; (first | exact .inl rfl | exact .inr ⟨rfl, rfl⟩); (repeat (first | exact At.here | apply At.there)); exact rfl; exact rfl); (apply wl_field; exact rfl; (repeat (first | exact At.here | apply At.there)); exact rfl); (apply wl_load1; (first | exact .inl rfl | exact .inr ⟨rfl, rfl⟩); (repeat (first | exact At.here | apply At.there)); exact rfl; exact rfl); (apply wl_mul; exact rfl; exact rfl; omega; omega; exact rfl); (apply wl_move; exact rfl; exact rfl); (apply wl_quo; exact rfl; exact rfl; omega; omega; omega; exact rfl); (apply wl_sub; exact rfl; exact rfl; omega; omega; exact rfl); (apply wl_assign; exact rfl; exact rfl); refine WL_nil ?_; refine bl_norm ?_; refine th_norm ?_; refine W_region ?_; (apply wl_add; exact rfl; exact rfl; omega; omega; exact rfl); (apply wl_move; exact rfl; exact rfl); refine WL_nil ?_; refine th_norm ?_)
        (refine ⟨(k + 1, left - x.pe * x.st[k].pt / sumPt x.st, cur.set (f.ids.idxOf x.st[k].fl) (x.pe * x.st[k].pt / sumPt x.st)), fun _ _ st => st_sub2 st ?_ ?_, ?_, ?_⟩; (repeat (first | exact trivial | refine ⟨rfl, ?_⟩)); (repeat (first | exact SubP.nil | (apply SubP.cons; (repeat (first | exact Rm.here | apply Rm.there))))))
        · exact ⟨hlt', by dsimp only; rw [List.length_set]; exact hcl, hno, hlf, by dsimp only; omega, by dsimp only; omega⟩
        · dsimp only; omega
      · have hkk : k = x.st.length := by simp at hlt; omega
        subst hkk
        rw [List.drop_length, putAll] at hno
        rw [List.drop_length, leftQ] at hlf
        obtain ⟨m, hm⟩ : ∃ m : Nat, left = (m : Int) := ⟨left.toNat, by omega⟩
        have hml : m ≤ x.st.length := by omega
        have hW : sharesR f.ids x = incAll f.ids (x.st.take m) cur := by unfold sharesR; rw [← hlf, ← hno, hm]; rfl
        have hbt : Btw 0 9000000 cur := by
          rw [hno]
          exact putAll_btw _ _ (fun s hs => (quot_bounds hB hs).2.2.2.2) (Btw.rep _ (by omega) (by omega))
        subst hm
        rw [hW]
        clear hW hno hlf hlt hk hl0 hl1 hlb
        (refine W_exit ?_; refine th_exit ?_; refine th_exit ?_; refine bl_eq ?_; refine th_norm ?_; refine W_seq ?_; refine W_seq ?_; refine W_region ?_; (apply wl_assign; exact rfl; exact rfl); refine WL_nil ?_; refine th_norm ?_; refine W_block ?_)
        refine W_loopJ (fun (b : Nat × List Int) => ⟨[(2, .val pf), (3, .val p), (8, .val v), (9, .val (.int .i64 (m : Int))), (12, .val (.int .i64 b.1))], [.row v 3 1 iC b.2, .box pf (flC f) 27, .box p (biC x) 66]⟩)
          (fun b => b.1 ≤ m ∧ b.2.length = f.ids.length ∧ incAll f.ids ((x.st.take m).drop b.1) b.2 = incAll f.ids (x.st.take m) cur ∧ Btw 0 (9000000 + b.1) b.2) (fun b => m - b.1) (0, cur) (fun _ _ st => st_sub2 st (by (repeat (first | exact trivial | refine ⟨rfl, ?_⟩))) (by (repeat (first | exact SubP.nil | (apply SubP.cons; (repeat (first | exact Rm.here | apply Rm.there))))))) ⟨Nat.zero_le _, hcl, rfl, hbt.mono (by omega) (by dsimp only; omega)⟩ ?_
        rintro ⟨i, cu⟩ ⟨hi, hcl2, hno, hbt2⟩
        dsimp only at hi hcl2 hno hbt2 ⊢
        (refine W_seq ?_; refine W_seq ?_; refine W_region ?_; (apply wl_move; exact rfl; exact rfl); (apply wl_move; exact rfl; exact rfl); (apply wl_lss; exact rfl; exact rfl; exact rfl); refine WL_nil ?_; refine th_norm ?_)
        refine w_cond rfl (fun hlt => ?_) (fun hlt => ?_)
        · have hlt' : i < m := by simpa using hlt
          have hil : i < x.st.length := by omega
          have hsk := hB.st _ (List.getElem_mem hil)
          have hix : f.ids.idxOf x.st[i].fl < cu.length := by rw [hcl2]; exact List.idxOf_lt_length_of_mem hsk.1
          have hq1 : x.st[i]? = some x.st[i] := List.getElem?_eq_getElem hil
          have hq2 : cu[f.ids.idxOf x.st[i].fl]? = some cu[f.ids.idxOf x.st[i].fl] := List.getElem?_eq_getElem hix
          have hce := hbt2.at hix
          rw [drop_step (by rw [List.length_take]; omega), incAll, List.getElem_take, addAt_at hix] at hno
          (refine W_skip ?_; refine th_norm ?_; refine W_seq ?_; refine W_block ?_)
          refine W_run 9 [66, 67, 68, 69, 70, 71, 72, 73, 74] [0, 1, 2, 3, 4, 5, 6, 7, 8] Cut.nil rfl (by repeat (first | exact Flt.nil | (apply Flt.keep; exact rfl) | (apply Flt.drop; exact rfl))) mixedS (by kernel_rfl) rfl ?_
          apply Run.pv [] []
          · exact rfl
          · intro vs; apply ltr_pk; (repeat (first | exact Pk.nil | (apply Pk.pv; exact rfl; exact rfl) | (apply Pk.tok; exact rfl; exact rfl)))
            (first | (refine ltr ?_; apply lt_move; exact rfl))
          · repeat (first | exact App.nil | apply App.cons)
          apply Run.pv [] []
          · exact rfl
          · intro vs; apply ltr_pk; (repeat (first | exact Pk.nil | (apply Pk.pv; exact rfl; exact rfl) | (apply Pk.tok; exact rfl; exact rfl)))
            (first | (apply ltr_load1; (first | exact .inl rfl | exact .inr ⟨rfl, rfl⟩); (repeat (first | exact At.here | apply At.there)); exact rfl) | (refine ltr ?_; apply lt_loadE1'; exact rfl; assumption; exact rfl) | (refine ltr ?_; apply lt_loadEN'; exact rfl; assumption; exact rfl) | (apply ltr_loadN; (first | exact .inl rfl | exact .inr ⟨rfl, rfl⟩); (repeat (first | exact At.here | apply At.there)); exact rfl) | (apply ltr_loadR1; exact rfl; (repeat (first | exact At.here | apply At.there)); assumption; exact rfl) | (apply ltr_loadRN; exact rfl; (repeat (first | exact At.here | apply At.there)); assumption))
          · repeat (first | exact App.nil | apply App.cons)
          apply Run.pv [] []
          · exact rfl
          · intro vs; apply ltr_pk; (repeat (first | exact Pk.nil | (apply Pk.pv; exact rfl; exact rfl) | (apply Pk.tok; exact rfl; exact rfl)))
            (first | (refine ltr ?_; apply lt_fieldAt; exact rfl; exact rfl) | (apply ltr_field; exact rfl; (repeat (first | exact At.here | apply At.there))) | (refine ltr ?_; apply lt_fieldEl; exact rfl; exact rfl) | (refine ltr ?_; apply lt_fieldRat; exact rfl; exact rfl))
          · repeat (first | exact App.nil | apply App.cons)
          apply Run.pv [2] []
          · exact rfl
          · intro vs; apply ltr_pk; (repeat (first | exact Pk.nil | (apply Pk.pv; exact rfl; exact rfl) | (apply Pk.tok; exact rfl; exact rfl)))
            (first | (apply ltr_load1; (first | exact .inl rfl | exact .inr ⟨rfl, rfl⟩); (repeat (first | exact At.here | apply At.there)); exact rfl) | (refine ltr ?_; apply lt_loadE1'; exact rfl; assumption; exact rfl) | (refine ltr ?_; apply lt_loadEN'; exact rfl; assumption; exact rfl) | (apply ltr_loadN; (first | exact .inl rfl | exact .inr ⟨rfl, rfl⟩); (repeat (first | exact At.here | apply At.there)); exact rfl) | (apply ltr_loadR1; exact rfl; (repeat (first | exact At.here | apply At.there)); assumption; exact rfl) | (apply ltr_loadRN; exact rfl; (repeat (first | exact At.here | apply At.there)); assumption))
          · repeat (first | exact App.nil | apply App.cons)
          apply Run.pv [] []
          · exact rfl
          · intro vs; apply ltr_pk; (repeat (first | exact Pk.nil | (apply Pk.pv; exact rfl; exact rfl) | (apply Pk.tok; exact rfl; exact rfl)))
            (first | (refine ltr ?_; apply lt_move; exact rfl))
          · repeat (first | exact App.nil | apply App.cons)
          apply Run.pv [3, 4] []
          · exact rfl
          · intro vs; apply ltr_pk; (repeat (first | exact Pk.nil | (apply Pk.pv; exact rfl; exact rfl) | (apply Pk.tok; exact rfl; exact rfl)))
            (first | (refine ltr ?_; apply lt_indexSl; exact rfl; exact rfl; exact rfl; (first | assumption | omega | (simp; omega))) | (apply ltr_indexRow; exact rfl; (repeat (first | exact At.here | apply At.there)); exact rfl; exact rfl; (first | assumption | omega | (simp; omega))) | (apply ltr_indexArr; exact rfl; (repeat (first | exact At.here | apply At.there)); exact rfl; exact rfl; (first | assumption | omega | decide)))
          · repeat (first | exact App.nil | apply App.cons)
          apply Run.pv [5] []
          · exact rfl
          · intro vs; apply ltr_pk; (repeat (first | exact Pk.nil | (apply Pk.pv; exact rfl; exact rfl) | (apply Pk.tok; exact rfl; exact rfl)))
            (first | (refine ltr ?_; apply lt_fieldAt; exact rfl; exact rfl) | (apply ltr_field; exact rfl; (repeat (first | exact At.here | apply At.there))) | (refine ltr ?_; apply lt_fieldEl; exact rfl; exact rfl) | (refine ltr ?_; apply lt_fieldRat; exact rfl; exact rfl))
          · repeat (first | exact App.nil | apply App.cons)
          apply Run.pv [6] []
          · exact rfl
          · intro vs; apply ltr_pk; (repeat (first | exact Pk.nil | (apply Pk.pv; exact rfl; exact rfl) | (apply Pk.tok; exact rfl; exact rfl)))
            (first | (apply ltr_load1; (first | exact .inl rfl | exact .inr ⟨rfl, rfl⟩); (repeat (first | exact At.here | apply At.there)); exact rfl) | (refine ltr ?_; apply lt_loadE1'; exact rfl; assumption; exact rfl) | (refine ltr ?_; apply lt_loadEN'; exact rfl; assumption; exact rfl) | (apply ltr_loadN; (first | exact .inl rfl | exact .inr ⟨rfl, rfl⟩); (repeat (first | exact At.here | apply At.there)); exact rfl) | (apply ltr_loadR1; exact rfl; (repeat (first | exact At.here | apply At.there)); assumption; exact rfl) | (apply ltr_loadRN; exact rfl; (repeat (first | exact At.here | apply At.there)); assumption))
          · repeat (first | exact App.nil | apply App.cons)
          apply Run.pv [1, 7] []
          · exact rfl
          · intro vs; apply ltr_pk; (repeat (first | exact Pk.nil | (apply Pk.pv; exact rfl; exact rfl) | (apply Pk.tok; exact rfl; exact rfl)))
            (refine ltr ?_; refine lt_call ?_ ((floorAt_con f _ (by omega) hsk.1)); exact rfl)
          · repeat (first | exact App.nil | apply App.cons)
          refine ⟨⟨by kernel_rfl, by kernel_rfl⟩, fun vs => ?_⟩
          refine WL_to [(2, .val pf), (3, .val p), (8, .val v), (9, .val (.int .i64 (m : Int))), (12, .val (.int .i64 i)), (66, .val v), (74, .val (.int .i64 ((f.ids.idxOf x.st[i].fl : Nat) : Int)))] [.row v 3 1 iC cu, .box pf (flC f) 27, .box p (biC x) 66] (by kernel_rfl) (by kernel_rfl) ?_
          ((apply wl_indexRow; exact rfl; (repeat (first | exact At.here | apply At.there)); exact rfl; exact rfl; (first | assumption | omega | (simp; omega)); exact rfl); (apply wl_loadR1; exact rfl; (repeat (first | exact At.here | apply At.there)); (case hk => first | assumption | omega | exact Nat.one_pos | (simp; omega)); exact rfl; exact rfl); (apply wl_add; exact rfl; exact rfl; omega; omega; exact rfl); (apply wl_indexRow; exact rfl; (repeat (first | exact At.here | apply At.there)); exact rfl; exact rfl; (first | assumption | omega | (simp; omega)); exact rfl); (apply wl_storeR1; exact rfl; (repeat (first | exact At.here | apply At.there)); exact rfl; exact inferInstance; (case hk => first | assumption | omega | exact Nat.one_pos | (simp; omega)); exact (of_decide_eq_true rfl); exact rfl); refine WL_nil ?_; refine bl_norm ?_; refine th_norm ?_; refine W_region ?_; (apply wl_move; exact rfl; exact rfl); (apply wl_add; exact rfl; exact rfl; omega; omega; exact rfl); (apply wl_assign; exact rfl; exact rfl); refine WL_nil ?_; refine th_norm ?_)
          (refine ⟨(i + 1, cu.set (f.ids.idxOf x.st[i].fl) (cu[f.ids.idxOf x.st[i].fl] + 1)), fun _ _ st => st_sub2 st ?_ ?_, ?_, ?_⟩; (repeat (first | exact trivial | refine ⟨rfl, ?_⟩)); (repeat (first | exact SubP.nil | (apply SubP.cons; (repeat (first | exact Rm.here | apply Rm.there))))))
          · exact ⟨hlt', by dsimp only; rw [List.length_set]; exact hcl2, hno, (hbt2.mono (by omega) (by dsimp only; omega)).set _ (by omega) (by dsimp only; omega)⟩
          · dsimp only; omega
        · have hkk : i = m := by simp at hlt; omega
          subst hkk
          rw [List.drop_of_length_le (by rw [List.length_take]; omega), incAll] at hno
          rw [← hno]
          (apply W_frz 8; exact rfl; (repeat (first | exact Rm.here | apply Rm.there)))
          (refine W_exit ?_; refine th_exit ?_; refine th_exit ?_; refine bl_eq ?_; refine th_norm ?_; refine W_seq ?_; refine W_region ?_; (apply wl_move; exact rfl; exact rfl); (apply wl_assign; exact rfl; exact rfl); refine WL_nil ?_; refine th_norm ?_; refine W_ret ?_; refine rt_norm ?_)
          (apply res1; exact rfl; exact rfl; exact ⟨rfl, rfl⟩)
end Go.Proofs.YtbkellknlcageaaDoor.Sw
