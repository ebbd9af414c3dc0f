/- FloorCe: several parts in one text. -/
import Derived.Test.YtbkellknlcageaaDoorFloorCd
import Derived.Test.YtbkellknlcageaaDoorSwL
/- Delete, of one quarrel. -/
namespace Go.Proofs.YtbkellknlcageaaDoor.Sw
open Go.RowKit Go Go.Shelf Go.Proofs
instance tyzQ : TyZ Tryd.prog 55 [.int .i64 0, .int .i64 0] := inferInstance
set_option maxRecDepth 20000 in
set_option maxHeartbeats 4000000 in
theorem deleteQ_con (v : Value) (xs : List Qu) (i : Nat) (hi : i < xs.length) (hl : xs.length ≤ 100000) : Con Tryd.prog 77 [.val v, .val (.int .i64 i), .val (.int .i64 ((i : Int) + 1))] [.row v 55 2 quC xs] (Tok 55 2 quC (xs.take i ++ xs.drop (i + 1))) := by
  refine con_of Tryd.func77 rfl (enters_of Tryd.func77 (by kernel_rfl) rfl) rfl ?_; intro n w0 F0 G0
  (refine W_seq ?_; refine W_region ?_; (apply wl_assign; exact rfl; exact rfl); refine WL_nil ?_; refine th_norm ?_; refine W_seq ?_; refine W_region ?_; (apply wl_move; exact rfl; exact rfl); (apply wl_move; exact rfl; exact rfl); (apply wl_move; exact rfl; exact rfl); (apply wl_move; exact rfl; exact rfl); (apply wl_lenRow; exact rfl; (repeat (first | exact At.here | apply At.there)); exact rfl))
  refine WL_openRow (v := v) (e := 55) (n := 2) (f := quC) (xs := xs) (by intro e; rw [e] at hi; simp at hi) (by (repeat (first | exact Rm.here | apply Rm.there))) ?_
  intro b cap hv hnc hcm hlf
  subst hv
  (apply wl_slice3V (l := i) (h := i + 1) (m := xs.length); exact rfl; exact inferInstance; exact rfl; exact rfl; exact rfl; omega; omega; exact hnc; exact rfl)
  (refine WL_nil ?_; refine th_norm ?_; refine W_seq ?_; refine W_seq ?_; refine W_region ?_; (apply wl_move; exact rfl; exact rfl); (apply wl_move; exact rfl; exact rfl); (apply wl_eql; exact rfl; exact rfl; exact rfl); refine WL_nil ?_; refine th_norm ?_)
  refine w_cond rfl (fun g => ?_) (fun g => ?_)
  · simp at g; omega
  · (refine W_skip ?_; refine th_norm ?_; refine W_seq ?_; refine W_region ?_; (apply wl_move; exact rfl; exact rfl); (apply wl_lenV; exact rfl; exact rfl); (apply wl_assign; exact rfl; exact rfl); refine WL_nil ?_; refine th_norm ?_; refine W_seq ?_)
    refine W_run 6 [20, 21, 22, 23, 24, 25] [0, 1, 2, 3, 4, 5] Cut.nil rfl (by repeat (first | exact Flt.nil | (apply Flt.keep; exact rfl) | (apply Flt.drop; exact rfl))) mixedS (by kernel_rfl) rfl ?_
    apply Run.pv [] []
    · exact rfl
    · intro vs; apply ltr_pk; (repeat (first | exact Pk.nil | (apply Pk.pv; exact rfl; exact rfl) | (apply Pk.tok; exact rfl; exact rfl)))
      (first | (refine ltr ?_; apply lt_move; exact rfl))
    · repeat (first | exact App.nil | apply App.cons)
    apply Run.pv [] []
    · exact rfl
    · intro vs; apply ltr_pk; (repeat (first | exact Pk.nil | (apply Pk.pv; exact rfl; exact rfl) | (apply Pk.tok; exact rfl; exact rfl)))
      (first | (refine ltr ?_; apply lt_move; exact rfl))
    · repeat (first | exact App.nil | apply App.cons)
    apply Run.pv [0, 1] []
    · exact rfl
    · intro vs; apply ltr_pk; (repeat (first | exact Pk.nil | (apply Pk.pv; exact rfl; exact rfl) | (apply Pk.tok; exact rfl; exact rfl)))
      (refine ltr ?_; refine LT_is _ (lt_sliceV (n := 2) (e := 55) (l := 0) (h := i) (li := 0) (len := xs.length) (cap := cap) (ad := some ⟨b, 0, none⟩) inferInstance rfl (.inr ⟨rfl, rfl⟩) rfl (.inl rfl) rfl (by omega) (by omega) hnc) toV)
    · repeat (first | exact App.nil | apply App.cons)
    apply Run.pv [] []
    · exact rfl
    · intro vs; apply ltr_pk; (repeat (first | exact Pk.nil | (apply Pk.pv; exact rfl; exact rfl) | (apply Pk.tok; exact rfl; exact rfl)))
      (first | (refine ltr ?_; apply lt_move; exact rfl))
    · repeat (first | exact App.nil | apply App.cons)
    apply Run.pv [] []
    · exact rfl
    · intro vs; apply ltr_pk; (repeat (first | exact Pk.nil | (apply Pk.pv; exact rfl; exact rfl) | (apply Pk.tok; exact rfl; exact rfl)))
      (first | (refine ltr ?_; apply lt_move; exact rfl))
    · repeat (first | exact App.nil | apply App.cons)
    apply Run.pv [3, 4] []
    · exact rfl
    · intro vs; apply ltr_pk; (repeat (first | exact Pk.nil | (apply Pk.pv; exact rfl; exact rfl) | (apply Pk.tok; exact rfl; exact rfl)))
      (refine ltr ?_; refine LT_is _ (lt_sliceV (n := 2) (e := 55) (l := i + 1) (h := xs.length) (hi' := (xs.length : Int)) (len := xs.length) (cap := cap) (ad := some ⟨b, 0, none⟩) inferInstance rfl (.inl rfl) rfl (.inr ⟨rfl, rfl⟩) rfl (by omega) (by omega) hnc) fromV)
    · repeat (first | exact App.nil | apply App.cons)
    refine ⟨⟨by kernel_rfl, by kernel_rfl⟩, fun vs => ?_⟩
    apply WL_auto [2, 5]
    · repeat (first | exact Pk.nil | (apply Pk.pv; exact rfl; exact rfl) | (apply Pk.tok; exact rfl; exact rfl))
    · repeat (first | exact Nrm.nil | apply Nrm.cons)
    · kernel_rfl
    · kernel_rfl
    skip
    (apply wl_moveV (n := 2) (j := i + 1) (m := xs.length - (i + 1)); exact rfl; exact rfl; (repeat (first | exact At.here | apply At.there)); exact inferInstance; omega; (rw [lenL hlf]; congr 1; omega); omega; exact rfl)
    rw [(flat_take hlf i).1, (flat_take hlf (i + 1)).2, ← List.flatMap_append]
    have hxl : (xs.take i ++ xs.drop (i + 1)).length = i + (xs.length - (i + 1)) := by simp; omega
    ((apply wl_assign; exact rfl; exact rfl); refine WL_nil ?_; refine th_norm ?_; refine W_seq ?_; refine W_region ?_; (apply wl_move; exact rfl; exact rfl); (apply wl_move; exact rfl; exact rfl); (apply wl_lenV; exact rfl; exact rfl); (apply wl_move; exact rfl; exact rfl))
    (apply wl_sliceV (l := i + (xs.length - (i + 1))) (h := xs.length); exact rfl; exact inferInstance; exact .inl rfl; exact rfl; exact .inl rfl; exact rfl; omega; omega; omega; exact rfl)
    rw [fromV]
    skip
    (apply wl_clearV (n := 2) (j := i + (xs.length - (i + 1))) (m := xs.length - (i + (xs.length - (i + 1)))); exact rfl; (repeat (first | exact At.here | apply At.there)); exact inferInstance; exact inferInstance; exact rfl; (intro u hu; simp at hu; subst hu; rfl); (rw [lenL (f := quC) (n := 2) (fun x hx => rfl), hxl]); omega)
    apply WL_shutRow (cap := cap) (b := b) (e := 55) (n := 2) (f := quC) (xs.take i ++ xs.drop (i + 1)) (fun x _ => rfl) (by omega) hcm
    · (repeat (first | exact Rm.here | apply Rm.there))
    rw [hxl]
    (refine WL_nil ?_; refine th_norm ?_; refine W_seq ?_; refine W_region ?_; (apply wl_move; exact rfl; exact rfl); (apply wl_assign; exact rfl; exact rfl); refine WL_nil ?_; refine th_norm ?_; refine W_ret ?_; refine rt_norm ?_)
    (apply resK1; exact rfl; exact rfl; exact ⟨_, rfl, rfl⟩; (repeat (first | exact Cut.nil | (apply Cut.cons; (repeat (first | exact Rm.here | apply Rm.there))))))
end Go.Proofs.YtbkellknlcageaaDoor.Sw
/- Sorting, stable, of fewer than 20 quarrels or bills. -/
namespace Go.Proofs.YtbkellknlcageaaDoor.Sw
open Go.RowKit Go Go.Shelf Go.Proofs
set_option maxRecDepth 20000 in
set_option maxHeartbeats 4000000 in
theorem stableQ_con (v : Value) (xs : List Qu) (k : FuncId) (caps : List AV) (cmp : Qu → Qu → Int) (hl : xs.length < 20) (hc : ∀ x y, Con Tryd.prog k ([.agg (quC x), .agg (quC y)] ++ caps) [] (Is (.val (.int .i64 (cmp x y))) [])) : Con Tryd.prog 120 [.val v, .val (.int .i64 xs.length), .clo k caps] [.row v 55 2 quC xs] (Is (.tup []) [.row v 55 2 quC (srt (fun x y => decide (cmp x y < 0)) xs)]) := by
  refine con_of Tryd.func120 rfl (enters_of Tryd.func120 (by kernel_rfl) rfl) rfl ?_; intro n w0 F0 G0
  (refine W_seq ?_; refine W_region ?_; (apply wl_assign; exact rfl; exact rfl); refine WL_nil ?_; refine th_norm ?_; refine W_seq ?_; refine W_region ?_; (apply wl_move; exact rfl; exact rfl); (apply wl_assign; exact rfl; exact rfl); (apply wl_assign; exact rfl; exact rfl); refine WL_nil ?_; refine th_norm ?_; refine W_seq ?_; refine W_block ?_)
  refine W_rounds 1 (WR_step ?_)
  (refine W_seq ?_; refine W_seq ?_; refine W_region ?_; (apply wl_move; exact rfl; exact rfl); (apply wl_move; exact rfl; exact rfl); (apply wl_leq; exact rfl; exact rfl; exact rfl); refine WL_nil ?_; refine th_norm ?_)
  refine w_cond rfl (fun g => ?_) (fun g => ?_)
  · simp at g; omega
  · (refine W_exit ?_; refine th_exit ?_; refine th_exit ?_; refine bl_eq ?_; refine th_norm ?_; refine W_seq ?_; refine W_region ?_; (apply wl_move; exact rfl; exact rfl); (apply wl_move; exact rfl; exact rfl); (apply wl_move; exact rfl; exact rfl); (apply wl_move; exact rfl; exact rfl))
    (apply wl_callP (isortQ_con v xs k caps cmp (by omega) hc); exact rfl; (repeat (first | exact Cut.nil | (apply Cut.cons; (repeat (first | exact Rm.here | apply Rm.there))))); exact rfl)
    rintro _ _ ⟨rfl, rfl⟩
    (refine WL_nil ?_; refine th_norm ?_; refine W_block ?_)
    refine W_rounds 1 (WR_step ?_)
    (refine W_seq ?_; refine W_seq ?_; refine W_region ?_; (apply wl_move; exact rfl; exact rfl); (apply wl_move; exact rfl; exact rfl); (apply wl_lss; exact rfl; exact rfl; exact rfl); refine WL_nil ?_; refine th_norm ?_)
    refine w_cond rfl (fun g2 => ?_) (fun g2 => ?_)
    · simp at g2; omega
    · (refine W_exit ?_; refine th_exit ?_; refine th_exit ?_; refine bl_eq ?_; refine rt_norm ?_)
      (apply resK0; exact rfl; exact ⟨rfl, rfl⟩; (repeat (first | exact Cut.nil | (apply Cut.cons; (repeat (first | exact Rm.here | apply Rm.there))))))
set_option maxRecDepth 20000 in
set_option maxHeartbeats 4000000 in
theorem sortSQ_con (v : Value) (xs : List Qu) (k : FuncId) (caps : List AV) (cmp : Qu → Qu → Int) (hl : xs.length < 20) (hc : ∀ x y, Con Tryd.prog k ([.agg (quC x), .agg (quC y)] ++ caps) [] (Is (.val (.int .i64 (cmp x y))) [])) : Con Tryd.prog 73 [.val v, .clo k caps] [.row v 55 2 quC xs] (Is (.tup []) [.row v 55 2 quC (srt (fun x y => decide (cmp x y < 0)) xs)]) := by
  refine con_of Tryd.func73 rfl (enters_of Tryd.func73 (by kernel_rfl) rfl) rfl ?_; intro n w0 F0 G0
  (refine W_region ?_; (apply wl_move; exact rfl; exact rfl); (apply wl_move; exact rfl; exact rfl); (apply wl_lenRow; exact rfl; (repeat (first | exact At.here | apply At.there)); exact rfl); (apply wl_move; exact rfl; exact rfl))
  (apply wl_callP (stableQ_con v xs k caps cmp hl hc); exact rfl; (repeat (first | exact Cut.nil | (apply Cut.cons; (repeat (first | exact Rm.here | apply Rm.there))))); exact rfl)
  rintro _ _ ⟨rfl, rfl⟩
  (refine WL_nil ?_; refine rt_norm ?_)
  (apply resK0; exact rfl; exact ⟨rfl, rfl⟩; (repeat (first | exact Cut.nil | (apply Cut.cons; (repeat (first | exact Rm.here | apply Rm.there))))))
set_option maxRecDepth 20000 in
set_option maxHeartbeats 4000000 in
theorem stableB_con (v : Value) (xs : List Bil) (k : FuncId) (caps : List AV) (cmp : Bil → Bil → Int) (hl : xs.length < 20) (hc : ∀ x y, Con Tryd.prog k ([.agg (biC x), .agg (biC y)] ++ caps) [] (Is (.val (.int .i64 (cmp x y))) [])) : Con Tryd.prog 122 [.val v, .val (.int .i64 xs.length), .clo k caps] [.row v 66 4 biC xs] (Is (.tup []) [.row v 66 4 biC (srt (fun x y => decide (cmp x y < 0)) xs)]) := by
  refine con_of Tryd.func122 rfl (enters_of Tryd.func122 (by kernel_rfl) rfl) rfl ?_; intro n w0 F0 G0
  (refine W_seq ?_; refine W_region ?_; (apply wl_assign; exact rfl; exact rfl); refine WL_nil ?_; refine th_norm ?_; refine W_seq ?_; refine W_region ?_; (apply wl_move; exact rfl; exact rfl); (apply wl_assign; exact rfl; exact rfl); (apply wl_assign; exact rfl; exact rfl); refine WL_nil ?_; refine th_norm ?_; refine W_seq ?_; refine W_block ?_)
  refine W_rounds 1 (WR_step ?_)
  (refine W_seq ?_; refine W_seq ?_; refine W_region ?_; (apply wl_move; exact rfl; exact rfl); (apply wl_move; exact rfl; exact rfl); (apply wl_leq; exact rfl; exact rfl; exact rfl); refine WL_nil ?_; refine th_norm ?_)
  refine w_cond rfl (fun g => ?_) (fun g => ?_)
  · simp at g; omega
  · (refine W_exit ?_; refine th_exit ?_; refine th_exit ?_; refine bl_eq ?_; refine th_norm ?_; refine W_seq ?_; refine W_region ?_; (apply wl_move; exact rfl; exact rfl); (apply wl_move; exact rfl; exact rfl); (apply wl_move; exact rfl; exact rfl); (apply wl_move; exact rfl; exact rfl))
    (apply wl_callP (isortB_con v xs k caps cmp (by omega) hc); exact rfl; (repeat (first | exact Cut.nil | (apply Cut.cons; (repeat (first | exact Rm.here | apply Rm.there))))); exact rfl)
    rintro _ _ ⟨rfl, rfl⟩
    (refine WL_nil ?_; refine th_norm ?_; refine W_block ?_)
    refine W_rounds 1 (WR_step ?_)
    (refine W_seq ?_; refine W_seq ?_; refine W_region ?_; (apply wl_move; exact rfl; exact rfl); (apply wl_move; exact rfl; exact rfl); (apply wl_lss; exact rfl; exact rfl; exact rfl); refine WL_nil ?_; refine th_norm ?_)
    refine w_cond rfl (fun g2 => ?_) (fun g2 => ?_)
    · simp at g2; omega
    · (refine W_exit ?_; refine th_exit ?_; refine th_exit ?_; refine bl_eq ?_; refine rt_norm ?_)
      (apply resK0; exact rfl; exact ⟨rfl, rfl⟩; (repeat (first | exact Cut.nil | (apply Cut.cons; (repeat (first | exact Rm.here | apply Rm.there))))))
set_option maxRecDepth 20000 in
set_option maxHeartbeats 4000000 in
theorem sortSB_con (v : Value) (xs : List Bil) (k : FuncId) (caps : List AV) (cmp : Bil → Bil → Int) (hl : xs.length < 20) (hc : ∀ x y, Con Tryd.prog k ([.agg (biC x), .agg (biC y)] ++ caps) [] (Is (.val (.int .i64 (cmp x y))) [])) : Con Tryd.prog 79 [.val v, .clo k caps] [.row v 66 4 biC xs] (Is (.tup []) [.row v 66 4 biC (srt (fun x y => decide (cmp x y < 0)) xs)]) := by
  refine con_of Tryd.func79 rfl (enters_of Tryd.func79 (by kernel_rfl) rfl) rfl ?_; intro n w0 F0 G0
  (refine W_region ?_; (apply wl_move; exact rfl; exact rfl); (apply wl_move; exact rfl; exact rfl); (apply wl_lenRow; exact rfl; (repeat (first | exact At.here | apply At.there)); exact rfl); (apply wl_move; exact rfl; exact rfl))
  (apply wl_callP (stableB_con v xs k caps cmp hl hc); exact rfl; (repeat (first | exact Cut.nil | (apply Cut.cons; (repeat (first | exact Rm.here | apply Rm.there))))); exact rfl)
  rintro _ _ ⟨rfl, rfl⟩
  (refine WL_nil ?_; refine rt_norm ?_)
  (apply resK0; exact rfl; exact ⟨rfl, rfl⟩; (repeat (first | exact Cut.nil | (apply Cut.cons; (repeat (first | exact Rm.here | apply Rm.there))))))
end Go.Proofs.YtbkellknlcageaaDoor.Sw
