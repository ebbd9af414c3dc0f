/- Insertion sort, of quarrels, bills and payments. -/
import Derived.Test.YtbkellknlcageaaDoorFloorCa
namespace Go.Proofs.YtbkellknlcageaaDoor.Sw
open Go.RowKit Go Go.Shelf Go.Proofs
/-- x in its place behind all that it isn't before, from the end on. -/
def insR {α : Type} (lt : α → α → Bool) (x : α) : List α → List α
  | [] => [x]
  | a :: t => if lt x a = true then a :: insR lt x t else x :: a :: t
def insE {α : Type} (lt : α → α → Bool) (l : List α) (x : α) : List α := (insR lt x l.reverse).reverse
theorem insE_nil {α : Type} (lt : α → α → Bool) (x : α) : insE lt [] x = [x] := rfl
theorem insE_yes {α : Type} {lt : α → α → Bool} {l : List α} {a x : α} (h : lt x a = true) : insE lt (l ++ [a]) x = insE lt l x ++ [a] := by
  unfold insE; rw [List.reverse_append, List.reverse_singleton, List.singleton_append, insR, if_pos h, List.reverse_cons]
theorem insE_no {α : Type} {lt : α → α → Bool} {l : List α} {a x : α} (h : lt x a = false) : insE lt (l ++ [a]) x = l ++ [a] ++ [x] := by
  unfold insE; rw [List.reverse_append, List.reverse_singleton, List.singleton_append, insR, if_neg (by rw [h]; simp)]; simp
def srt {α : Type} (lt : α → α → Bool) (l : List α) : List α := l.foldl (insE lt) []
theorem srt_snoc {α : Type} (lt : α → α → Bool) (l : List α) (x : α) : srt lt (l ++ [x]) = insE lt (srt lt l) x := by unfold srt; rw [List.foldl_append]; rfl
theorem insR_len {α : Type} (lt : α → α → Bool) (x : α) : ∀ l : List α, (insR lt x l).length = l.length + 1
  | [] => rfl
  | a :: t => by rw [insR]; split <;> simp [insR_len lt x t]
theorem insE_len {α : Type} (lt : α → α → Bool) (l : List α) (x : α) : (insE lt l x).length = l.length + 1 := by unfold insE; rw [List.length_reverse, insR_len]; simp
theorem srt_len {α : Type} (lt : α → α → Bool) (l : List α) : (srt lt l).length = l.length := by
  have : ∀ (l acc : List α), (l.foldl (insE lt) acc).length = acc.length + l.length := by
    intro l
    induction l with
    | nil => intro acc; simp
    | cons x t ih => intro acc; rw [List.foldl_cons, ih, insE_len, List.length_cons]; omega
  unfold srt; rw [this]; simp
/-- What lies while x sinks: it stands at j, what was before it from there on is moved by one. -/
def snk {α : Type} (pre suf : List α) (x : α) (j : Nat) : List α := pre.take j ++ x :: (pre.drop j ++ suf)
theorem snk_len {α : Type} {pre suf : List α} {x : α} {j : Nat} (h : j ≤ pre.length) : (snk pre suf x j).length = pre.length + 1 + suf.length := by
  unfold snk; simp only [List.length_append, List.length_take, List.length_cons, List.length_drop]; omega
theorem snk_at {α : Type} {pre suf : List α} {x : α} {j : Nat} (h : j ≤ pre.length) : (snk pre suf x j)[j]? = some x := by
  unfold snk
  rw [List.getElem?_append_right (by rw [List.length_take]; omega), List.length_take, Nat.min_eq_left h, Nat.sub_self]; rfl
theorem snk_before {α : Type} {pre suf : List α} {x : α} {j : Nat} (h : j + 1 ≤ pre.length) : (snk pre suf x (j + 1))[j]? = some pre[j] := by
  unfold snk
  rw [List.getElem?_append_left (by rw [List.length_take]; omega), List.getElem?_take, if_pos (by omega), List.getElem?_eq_getElem (by omega)]
theorem snk_swap {α : Type} {pre suf : List α} {x : α} {j : Nat} (h : j + 1 ≤ pre.length) : ((snk pre suf x (j + 1)).set (j + 1) pre[j]).set j x = snk pre suf x j := by
  unfold snk
  have e : pre.take (j + 1) = pre.take j ++ [pre[j]] := List.take_succ_eq_append_getElem (by omega)
  have l1 : (pre.take j).length = j := by rw [List.length_take]; omega
  rw [e, List.append_assoc, List.singleton_append, List.set_append_right _ _ (by omega), l1, show j + 1 - j = 1 by omega, List.set_cons_succ, List.set_cons_zero, List.set_append_right _ _ (by omega), l1, Nat.sub_self, List.set_cons_zero, List.drop_eq_getElem_cons (show j < pre.length by omega), List.cons_append]
theorem snk_full {α : Type} (pre suf : List α) (x : α) : snk pre suf x pre.length = pre ++ x :: suf := by unfold snk; simp
set_option maxRecDepth 20000 in
set_option maxHeartbeats 4000000 in
theorem isortQ_con (v : Value) (xs : List Qu) (k : FuncId) (caps : List AV) (cmp : Qu → Qu → Int) (hl : xs.length ≤ 100000) (hc : ∀ x y, Con Tryd.prog k ([.agg (quC x), .agg (quC y)] ++ caps) [] (Is (.val (.int .i64 (cmp x y))) [])) : Con Tryd.prog 143 [.val v, .val (.int .i64 0), .val (.int .i64 xs.length), .clo k caps] [.row v 55 2 quC xs] (Is (.tup []) [.row v 55 2 quC (srt (fun x y => decide (cmp x y < 0)) xs)]) := by
  generalize hlt0 : (fun x y => decide (cmp x y < 0)) = lt
  have hlt : ∀ x y, decide (cmp x y < 0) = lt x y := fun x y => by rw [← hlt0]
  refine con_of Tryd.func143 rfl (enters_of Tryd.func143 (by kernel_rfl) rfl) rfl ?_; intro n w0 F0 G0
  (refine W_seq ?_; refine W_region ?_; (apply wl_move; exact rfl; exact rfl); (apply wl_add; exact rfl; exact rfl; omega; omega; exact rfl); (apply wl_assign; exact rfl; exact rfl); refine WL_nil ?_; refine th_norm ?_; refine W_block ?_)
  refine W_loopJ (fun (i : Nat) => ⟨[(0, .val v), (1, .val (.int .i64 0)), (2, .val (.int .i64 xs.length)), (3, .clo k caps), (8, .val (.int .i64 i))], [.row v 55 2 quC (srt lt (xs.take i) ++ xs.drop i)]⟩) (fun i => 1 ≤ i ∧ (i ≤ xs.length ∨ i = 1)) (fun i => xs.length - i) 1 (fun _ _ st => st_sub2 st (by (repeat (first | exact trivial | refine ⟨rfl, ?_⟩))) (by rw [show srt lt (xs.take 1) ++ xs.drop 1 = xs from by cases xs <;> rfl]; (repeat (first | exact SubP.nil | (apply SubP.cons; (repeat (first | exact Rm.here | apply Rm.there))))))) ⟨Nat.le_refl _, .inr rfl⟩ ?_
  rintro i ⟨hi1, hi2⟩
  (refine W_seq ?_; refine W_seq ?_; refine W_region ?_; (apply wl_move; exact rfl; exact rfl); (apply wl_move; exact rfl; exact rfl); (apply wl_lss; exact rfl; exact rfl; exact rfl); refine WL_nil ?_; refine th_norm ?_)
  refine w_cond rfl (fun hin => ?_) (fun hin => ?_)
  · have hin' : i < xs.length := by simp at hin; omega
    have hpl : (srt lt (xs.take i)).length = i := by rw [srt_len, List.length_take]; omega
    have hnx : srt lt (xs.take (i + 1)) = insE lt (srt lt (xs.take i)) xs[i] := by rw [List.take_succ_eq_append_getElem hin', srt_snoc]
    have hdr : xs.drop i = xs[i] :: xs.drop (i + 1) := List.drop_eq_getElem_cons hin'
    have hsl : (xs.drop (i + 1)).length + i + 1 = xs.length := by rw [List.length_drop]; omega
    generalize srt lt (xs.take i) = pre at *
    generalize hsuf : xs.drop (i + 1) = suf at *
    generalize hx : xs[i] = x at *
    rw [hdr]
    (refine W_skip ?_; refine th_norm ?_; refine W_seq ?_; refine W_block ?_; refine W_seq ?_; refine W_region ?_; (apply wl_move; exact rfl; exact rfl); (apply wl_assign; exact rfl; exact rfl); refine WL_nil ?_; refine th_norm ?_; refine W_block ?_)
    refine W_loopJ (fun (j : Nat) => ⟨[(0, .val v), (1, .val (.int .i64 0)), (2, .val (.int .i64 xs.length)), (3, .clo k caps), (8, .val (.int .i64 i)), (9, .val (.int .i64 j))], [.row v 55 2 quC (snk pre suf x j)]⟩) (fun j => j ≤ i ∧ insE lt pre x = insE lt (pre.take j) x ++ pre.drop j) (fun j => j) i (fun _ _ st => st_sub2 st (by (repeat (first | exact trivial | refine ⟨rfl, ?_⟩))) (by rw [show snk pre suf x i = pre ++ x :: suf from by rw [← hpl]; exact snk_full _ _ _]; (repeat (first | exact SubP.nil | (apply SubP.cons; (repeat (first | exact Rm.here | apply Rm.there))))))) ⟨Nat.le_refl _, by rw [← hpl]; simp⟩ ?_
    rintro j ⟨hj, hins⟩
    have hdl : (snk pre suf x j).length = xs.length := by rw [snk_len (by omega)]; omega
    have hq1 : (snk pre suf x j)[j]? = some x := snk_at (by omega)
    (refine W_seq ?_; refine W_seq ?_)
    cases j with
    | zero =>
      have hend : snk pre suf x 0 = insE lt pre x ++ suf := by rw [hins]; simp [snk, insE_nil]
      refine W_run 14 [18, 19, 20, 21, 22, 23, 24, 25, 26, 27, 28, 29, 30, 31] [0, 1, 2, 3, 4, 5, 6, 7, 8, 9, 10, 11, 12, 13] Cut.nil rfl (by repeat (first | exact Flt.nil | (apply Flt.keep; exact rfl) | (apply Flt.drop; exact rfl))) mixedS (by kernel_rfl) rfl ?_
      apply Run.pv [] []
      · exact rfl
      · intro vs; apply ltr_pk; (repeat (first | exact Pk.nil | (apply Pk.pv; exact rfl; exact rfl) | (apply Pk.tok; exact rfl; exact rfl)))
        (first | (refine ltr ?_; apply lt_move; exact rfl))
      · repeat (first | exact App.nil | apply App.cons)
      apply Run.pv [] []
      · exact rfl
      · intro vs; apply ltr_pk; (repeat (first | exact Pk.nil | (apply Pk.pv; exact rfl; exact rfl) | (apply Pk.tok; exact rfl; exact rfl)))
        (first | (refine ltr ?_; apply lt_move; exact rfl))
      · repeat (first | exact App.nil | apply App.cons)
      apply Run.pv [0, 1] []
      · exact rfl
      · intro vs; apply ltr_pk; (repeat (first | exact Pk.nil | (apply Pk.pv; exact rfl; exact rfl) | (apply Pk.tok; exact rfl; exact rfl)))
        (refine ltr ?_; apply LT_bool false; apply lt_gtr; exact rfl; exact rfl; simp)
      · repeat (first | exact App.nil | apply App.cons)
      apply Run.pv [2] []
      · exact rfl
      · intro vs; apply ltr_pk; (repeat (first | exact Pk.nil | (apply Pk.pv; exact rfl; exact rfl) | (apply Pk.tok; exact rfl; exact rfl)))
        (first | (refine ltr ?_; apply lt_move; exact rfl))
      · repeat (first | exact App.nil | apply App.cons)
      apply Run.no [3] []
      · exact rfl
      · exact rfl
      · intro vs; apply look_pk; (repeat (first | exact Pk.nil | (apply Pk.pv; exact rfl; exact rfl) | (apply Pk.tok; exact rfl; exact rfl))); exact rfl
      · exact rfl
      · repeat (first | exact App.nil | apply App.cons)
      apply Run.no [3] []
      · exact rfl
      · exact rfl
      · intro vs; apply look_pk; (repeat (first | exact Pk.nil | (apply Pk.pv; exact rfl; exact rfl) | (apply Pk.tok; exact rfl; exact rfl))); exact rfl
      · exact rfl
      · repeat (first | exact App.nil | apply App.cons)
      apply Run.no [3] []
      · exact rfl
      · exact rfl
      · intro vs; apply look_pk; (repeat (first | exact Pk.nil | (apply Pk.pv; exact rfl; exact rfl) | (apply Pk.tok; exact rfl; exact rfl))); exact rfl
      · exact rfl
      · repeat (first | exact App.nil | apply App.cons)
      apply Run.no [3, 5, 6] []
      · exact rfl
      · exact rfl
      · intro vs; apply look_pk; (repeat (first | exact Pk.nil | (apply Pk.pv; exact rfl; exact rfl) | (apply Pk.tok; exact rfl; exact rfl))); exact rfl
      · exact rfl
      · repeat (first | exact App.nil | apply App.cons)
      apply Run.no [3, 7] []
      · exact rfl
      · exact rfl
      · intro vs; apply look_pk; (repeat (first | exact Pk.nil | (apply Pk.pv; exact rfl; exact rfl) | (apply Pk.tok; exact rfl; exact rfl))); exact rfl
      · exact rfl
      · repeat (first | exact App.nil | apply App.cons)
      apply Run.no [3] []
      · exact rfl
      · exact rfl
      · intro vs; apply look_pk; (repeat (first | exact Pk.nil | (apply Pk.pv; exact rfl; exact rfl) | (apply Pk.tok; exact rfl; exact rfl))); exact rfl
      · exact rfl
      · repeat (first | exact App.nil | apply App.cons)
      apply Run.no [3] []
      · exact rfl
      · exact rfl
      · intro vs; apply look_pk; (repeat (first | exact Pk.nil | (apply Pk.pv; exact rfl; exact rfl) | (apply Pk.tok; exact rfl; exact rfl))); exact rfl
      · exact rfl
      · repeat (first | exact App.nil | apply App.cons)
      apply Run.no [3, 10] []
      · exact rfl
      · exact rfl
      · intro vs; apply look_pk; (repeat (first | exact Pk.nil | (apply Pk.pv; exact rfl; exact rfl) | (apply Pk.tok; exact rfl; exact rfl))); exact rfl
      · exact rfl
      · repeat (first | exact App.nil | apply App.cons)
      apply Run.no [3, 9, 11] []
      · exact rfl
      · exact rfl
      · intro vs; apply look_pk; (repeat (first | exact Pk.nil | (apply Pk.pv; exact rfl; exact rfl) | (apply Pk.tok; exact rfl; exact rfl))); exact rfl
      · exact rfl
      · repeat (first | exact App.nil | apply App.cons)
      apply Run.no [3, 12] []
      · exact rfl
      · exact rfl
      · intro vs; apply look_pk; (repeat (first | exact Pk.nil | (apply Pk.pv; exact rfl; exact rfl) | (apply Pk.tok; exact rfl; exact rfl))); exact rfl
      · exact rfl
      · repeat (first | exact App.nil | apply App.cons)
      refine ⟨⟨by kernel_rfl, by kernel_rfl⟩, fun vs => ?_⟩
      apply WL_auto [3, 4, 8, 13]
      · repeat (first | exact Pk.nil | (apply Pk.pv; exact rfl; exact rfl) | (apply Pk.tok; exact rfl; exact rfl))
      · repeat (first | exact Nrm.nil | apply Nrm.cons)
      · kernel_rfl
      · kernel_rfl
      ((apply wl_no; exact rfl; exact rfl; exact rfl; exact rfl; exact rfl); (apply wl_no; exact rfl; exact rfl; exact rfl; exact rfl; exact rfl); (apply wl_pick_f; exact rfl; exact rfl; exact rfl); refine WL_nil ?_; refine th_norm ?_; (apply w_false; exact rfl); refine W_exit ?_; refine th_exit ?_; refine th_exit ?_; refine bl_eq ?_; refine bl_norm ?_; refine th_norm ?_; refine W_region ?_; (apply wl_move; exact rfl; exact rfl); (apply wl_add; exact rfl; exact rfl; omega; omega; exact rfl); (apply wl_assign; exact rfl; exact rfl); refine WL_nil ?_; refine th_norm ?_)
      refine ⟨i + 1, fun _ _ st => st_sub2 st ?_ ?_, ?_, ?_⟩
      · (repeat (first | exact trivial | refine ⟨rfl, ?_⟩))
      · rw [hnx, hsuf, ← hend]; (repeat (first | exact SubP.nil | (apply SubP.cons; (repeat (first | exact Rm.here | apply Rm.there)))))
      · omega
      · omega
    | succ j =>
      have hjp : j < pre.length := by omega
      have hq2 : (snk pre suf x (j + 1))[j]? = some pre[j] := snk_before (by omega)
      have htk : pre.take (j + 1) = pre.take j ++ [pre[j]] := List.take_succ_eq_append_getElem hjp
      have hdp : pre.drop j = pre[j] :: pre.drop (j + 1) := List.drop_eq_getElem_cons hjp
      refine W_run 14 [18, 19, 20, 21, 22, 23, 24, 25, 26, 27, 28, 29, 30, 31] [0, 1, 2, 3, 4, 5, 6, 7, 8, 9, 10, 11, 12, 13] Cut.nil rfl (by repeat (first | exact Flt.nil | (apply Flt.keep; exact rfl) | (apply Flt.drop; exact rfl))) mixedS (by kernel_rfl) rfl ?_
      apply Run.pv [] []
      · exact rfl
      · intro vs; apply ltr_pk; (repeat (first | exact Pk.nil | (apply Pk.pv; exact rfl; exact rfl) | (apply Pk.tok; exact rfl; exact rfl)))
        (first | (refine ltr ?_; apply lt_move; exact rfl))
      · repeat (first | exact App.nil | apply App.cons)
      apply Run.pv [] []
      · exact rfl
      · intro vs; apply ltr_pk; (repeat (first | exact Pk.nil | (apply Pk.pv; exact rfl; exact rfl) | (apply Pk.tok; exact rfl; exact rfl)))
        (first | (refine ltr ?_; apply lt_move; exact rfl))
      · repeat (first | exact App.nil | apply App.cons)
      apply Run.pv [0, 1] []
      · exact rfl
      · intro vs; apply ltr_pk; (repeat (first | exact Pk.nil | (apply Pk.pv; exact rfl; exact rfl) | (apply Pk.tok; exact rfl; exact rfl)))
        (refine ltr ?_; apply LT_bool true; apply lt_gtr; exact rfl; exact rfl; (first | (simp; done) | (simp; omega)))
      · repeat (first | exact App.nil | apply App.cons)
      apply Run.pv [2] []
      · exact rfl
      · intro vs; apply ltr_pk; (repeat (first | exact Pk.nil | (apply Pk.pv; exact rfl; exact rfl) | (apply Pk.tok; exact rfl; exact rfl)))
        (first | (refine ltr ?_; apply lt_move; exact rfl))
      · repeat (first | exact App.nil | apply App.cons)
      apply Run.yes [3] []
      · exact rfl
      · exact rfl
      · intro vs; apply look_pk; (repeat (first | exact Pk.nil | (apply Pk.pv; exact rfl; exact rfl) | (apply Pk.tok; exact rfl; exact rfl))); exact rfl
      · intro vs; apply ltr_pk; (repeat (first | exact Pk.nil | (apply Pk.pv; exact rfl; exact rfl) | (apply Pk.tok; exact rfl; exact rfl)))
        (first | (refine ltr ?_; apply lt_move; exact rfl))
      · repeat (first | exact App.nil | apply App.cons)
      apply Run.yes [3] []
      · exact rfl
      · exact rfl
      · intro vs; apply look_pk; (repeat (first | exact Pk.nil | (apply Pk.pv; exact rfl; exact rfl) | (apply Pk.tok; exact rfl; exact rfl))); exact rfl
      · intro vs; apply ltr_pk; (repeat (first | exact Pk.nil | (apply Pk.pv; exact rfl; exact rfl) | (apply Pk.tok; exact rfl; exact rfl)))
        (first | (refine ltr ?_; apply lt_move; exact rfl))
      · repeat (first | exact App.nil | apply App.cons)
      apply Run.yes [3] []
      · exact rfl
      · exact rfl
      · intro vs; apply look_pk; (repeat (first | exact Pk.nil | (apply Pk.pv; exact rfl; exact rfl) | (apply Pk.tok; exact rfl; exact rfl))); exact rfl
      · intro vs; apply ltr_pk; (repeat (first | exact Pk.nil | (apply Pk.pv; exact rfl; exact rfl) | (apply Pk.tok; exact rfl; exact rfl)))
        (first | (refine ltr ?_; apply lt_move; exact rfl))
      · repeat (first | exact App.nil | apply App.cons)
      apply Run.yes [3, 5, 6] []
      · exact rfl
      · exact rfl
      · intro vs; apply look_pk; (repeat (first | exact Pk.nil | (apply Pk.pv; exact rfl; exact rfl) | (apply Pk.tok; exact rfl; exact rfl))); exact rfl
      · intro vs; apply ltr_pk; (repeat (first | exact Pk.nil | (apply Pk.pv; exact rfl; exact rfl) | (apply Pk.tok; exact rfl; exact rfl)))
        (first | (refine ltr ?_; apply lt_indexSl; exact rfl; exact rfl; exact rfl; (first | assumption | omega | (simp; omega))) | (apply ltr_indexRow; exact rfl; (repeat (first | exact At.here | apply At.there)); exact rfl; exact rfl; (first | assumption | omega | (simp; omega))) | (apply ltr_indexArr; exact rfl; (repeat (first | exact At.here | apply At.there)); exact rfl; exact rfl; (first | assumption | omega | decide)))
      · repeat (first | exact App.nil | apply App.cons)
      apply Run.yes [3, 7] []
      · exact rfl
      · exact rfl
      · intro vs; apply look_pk; (repeat (first | exact Pk.nil | (apply Pk.pv; exact rfl; exact rfl) | (apply Pk.tok; exact rfl; exact rfl))); exact rfl
      · intro vs; apply ltr_pk; (repeat (first | exact Pk.nil | (apply Pk.pv; exact rfl; exact rfl) | (apply Pk.tok; exact rfl; exact rfl)))
        (first | (apply ltr_load1; (first | exact .inl rfl | exact .inr ⟨rfl, rfl⟩); (repeat (first | exact At.here | apply At.there)); exact rfl) | (refine ltr ?_; apply lt_loadE1'; exact rfl; assumption; exact rfl) | (refine ltr ?_; apply lt_loadEN'; exact rfl; assumption; exact rfl) | (apply ltr_loadN; (first | exact .inl rfl | exact .inr ⟨rfl, rfl⟩); (repeat (first | exact At.here | apply At.there)); exact rfl) | (apply ltr_loadR1; exact rfl; (repeat (first | exact At.here | apply At.there)); assumption; exact rfl) | (apply ltr_loadRN; exact rfl; (repeat (first | exact At.here | apply At.there)); assumption))
      · repeat (first | exact App.nil | apply App.cons)
      apply Run.yes [3] []
      · exact rfl
      · exact rfl
      · intro vs; apply look_pk; (repeat (first | exact Pk.nil | (apply Pk.pv; exact rfl; exact rfl) | (apply Pk.tok; exact rfl; exact rfl))); exact rfl
      · intro vs; apply ltr_pk; (repeat (first | exact Pk.nil | (apply Pk.pv; exact rfl; exact rfl) | (apply Pk.tok; exact rfl; exact rfl)))
        (first | (refine ltr ?_; apply lt_move; exact rfl))
      · repeat (first | exact App.nil | apply App.cons)
      apply Run.yes [3] []
      · exact rfl
      · exact rfl
      · intro vs; apply look_pk; (repeat (first | exact Pk.nil | (apply Pk.pv; exact rfl; exact rfl) | (apply Pk.tok; exact rfl; exact rfl))); exact rfl
      · intro vs; apply ltr_pk; (repeat (first | exact Pk.nil | (apply Pk.pv; exact rfl; exact rfl) | (apply Pk.tok; exact rfl; exact rfl)))
        (first | (refine ltr ?_; apply lt_move; exact rfl))
      · repeat (first | exact App.nil | apply App.cons)
      apply Run.yes [3, 10] []
      · exact rfl
      · exact rfl
      · intro vs; apply look_pk; (repeat (first | exact Pk.nil | (apply Pk.pv; exact rfl; exact rfl) | (apply Pk.tok; exact rfl; exact rfl))); exact rfl
      · intro vs; apply ltr_pk; (repeat (first | exact Pk.nil | (apply Pk.pv; exact rfl; exact rfl) | (apply Pk.tok; exact rfl; exact rfl)))
        (refine ltr ?_; apply LT_int (j : Int); apply lt_sub; exact rfl; exact rfl; omega; omega; omega)
      · repeat (first | exact App.nil | apply App.cons)
      apply Run.yes [3, 9, 11] []
      · exact rfl
      · exact rfl
      · intro vs; apply look_pk; (repeat (first | exact Pk.nil | (apply Pk.pv; exact rfl; exact rfl) | (apply Pk.tok; exact rfl; exact rfl))); exact rfl
      · intro vs; apply ltr_pk; (repeat (first | exact Pk.nil | (apply Pk.pv; exact rfl; exact rfl) | (apply Pk.tok; exact rfl; exact rfl)))
        (first | (refine ltr ?_; apply lt_indexSl; exact rfl; exact rfl; exact rfl; (first | assumption | omega | (simp; omega))) | (apply ltr_indexRow; exact rfl; (repeat (first | exact At.here | apply At.there)); exact rfl; exact rfl; (first | assumption | omega | (simp; omega))) | (apply ltr_indexArr; exact rfl; (repeat (first | exact At.here | apply At.there)); exact rfl; exact rfl; (first | assumption | omega | decide)))
      · repeat (first | exact App.nil | apply App.cons)
      apply Run.yes [3, 12] []
      · exact rfl
      · exact rfl
      · intro vs; apply look_pk; (repeat (first | exact Pk.nil | (apply Pk.pv; exact rfl; exact rfl) | (apply Pk.tok; exact rfl; exact rfl))); exact rfl
      · intro vs; apply ltr_pk; (repeat (first | exact Pk.nil | (apply Pk.pv; exact rfl; exact rfl) | (apply Pk.tok; exact rfl; exact rfl)))
        (first | (apply ltr_load1; (first | exact .inl rfl | exact .inr ⟨rfl, rfl⟩); (repeat (first | exact At.here | apply At.there)); exact rfl) | (refine ltr ?_; apply lt_loadE1'; exact rfl; assumption; exact rfl) | (refine ltr ?_; apply lt_loadEN'; exact rfl; assumption; exact rfl) | (apply ltr_loadN; (first | exact .inl rfl | exact .inr ⟨rfl, rfl⟩); (repeat (first | exact At.here | apply At.there)); exact rfl) | (apply ltr_loadR1; exact rfl; (repeat (first | exact At.here | apply At.there)); assumption; exact rfl) | (apply ltr_loadRN; exact rfl; (repeat (first | exact At.here | apply At.there)); assumption))
      · repeat (first | exact App.nil | apply App.cons)
      refine ⟨⟨by kernel_rfl, by kernel_rfl⟩, fun vs => ?_⟩
      apply WL_auto [3, 4, 8, 13]
      · repeat (first | exact Pk.nil | (apply Pk.pv; exact rfl; exact rfl) | (apply Pk.tok; exact rfl; exact rfl))
      · repeat (first | exact Nrm.nil | apply Nrm.cons)
      · kernel_rfl
      · kernel_rfl
      ((apply wl_yes; exact rfl; exact rfl; exact rfl))
      (apply wl_callV (hc x pre[j]); exact rfl; exact rfl; exact rfl)
      ((apply wl_yes; exact rfl; exact rfl; exact rfl); (apply wl_lss; exact rfl; exact rfl; exact rfl); (apply wl_pick_t; exact rfl; exact rfl; exact rfl); refine WL_nil ?_; refine th_norm ?_)
      rw [hlt]
      cases hb : lt x pre[j] with
      | false =>
        have hend : snk pre suf x (j + 1) = insE lt pre x ++ suf := by
          rw [hins, htk, insE_no hb, ← htk]; simp [snk]
        ((apply w_false; exact rfl); refine W_exit ?_; refine th_exit ?_; refine th_exit ?_; refine bl_eq ?_; refine bl_norm ?_; refine th_norm ?_; refine W_region ?_; (apply wl_move; exact rfl; exact rfl); (apply wl_add; exact rfl; exact rfl; omega; omega; exact rfl); (apply wl_assign; exact rfl; exact rfl); refine WL_nil ?_; refine th_norm ?_)
        refine ⟨i + 1, fun _ _ st => st_sub2 st ?_ ?_, ?_, ?_⟩
        · (repeat (first | exact trivial | refine ⟨rfl, ?_⟩))
        · rw [hnx, hsuf, ← hend]; (repeat (first | exact SubP.nil | (apply SubP.cons; (repeat (first | exact Rm.here | apply Rm.there)))))
        · omega
        · omega
      | true =>
        have hins2 : insE lt pre x = insE lt (pre.take j) x ++ pre.drop j := by
          rw [hins, htk, insE_yes hb, hdp]; simp
        ((apply w_true; exact rfl); refine W_skip ?_; refine th_norm ?_; refine W_seq ?_; refine W_block ?_)
        refine W_run 16 [37, 38, 39, 40, 41, 42, 43, 44, 45, 46, 47, 48, 49, 50, 51, 1000015] [0, 1, 2, 3, 4, 5, 6, 7, 8, 9, 10, 11, 12, 13, 14, 15] (Cut.cons (h := HA.row v 55 2 quC (snk pre suf x (j + 1))) (by (repeat (first | exact Rm.here | apply Rm.there))) (Cut.nil)) rfl (by repeat (first | exact Flt.nil | (apply Flt.keep; exact rfl) | (apply Flt.drop; exact rfl))) mixedS (by kernel_rfl) rfl ?_
        apply Run.pv [] []
        · exact rfl
        · intro vs; apply ltr_pk; (repeat (first | exact Pk.nil | (apply Pk.pv; exact rfl; exact rfl) | (apply Pk.tok; exact rfl; exact rfl)))
          (first | (refine ltr ?_; apply lt_move; exact rfl))
        · repeat (first | exact App.nil | apply App.cons)
        apply Run.pv [] []
        · exact rfl
        · intro vs; apply ltr_pk; (repeat (first | exact Pk.nil | (apply Pk.pv; exact rfl; exact rfl) | (apply Pk.tok; exact rfl; exact rfl)))
          (first | (refine ltr ?_; apply lt_move; exact rfl))
        · repeat (first | exact App.nil | apply App.cons)
        apply Run.pv [] []
        · exact rfl
        · intro vs; apply ltr_pk; (repeat (first | exact Pk.nil | (apply Pk.pv; exact rfl; exact rfl) | (apply Pk.tok; exact rfl; exact rfl)))
          (first | (refine ltr ?_; apply lt_move; exact rfl))
        · repeat (first | exact App.nil | apply App.cons)
        apply Run.pv [] []
        · exact rfl
        · intro vs; apply ltr_pk; (repeat (first | exact Pk.nil | (apply Pk.pv; exact rfl; exact rfl) | (apply Pk.tok; exact rfl; exact rfl)))
          (first | (refine ltr ?_; apply lt_move; exact rfl))
        · repeat (first | exact App.nil | apply App.cons)
        apply Run.pv [3] []
        · exact rfl
        · intro vs; apply ltr_pk; (repeat (first | exact Pk.nil | (apply Pk.pv; exact rfl; exact rfl) | (apply Pk.tok; exact rfl; exact rfl)))
          (refine ltr ?_; apply LT_int (j : Int); apply lt_sub; exact rfl; exact rfl; omega; omega; omega)
        · repeat (first | exact App.nil | apply App.cons)
        apply Run.pv [] []
        · exact rfl
        · intro vs; apply ltr_pk; (repeat (first | exact Pk.nil | (apply Pk.pv; exact rfl; exact rfl) | (apply Pk.tok; exact rfl; exact rfl)))
          (first | (refine ltr ?_; apply lt_move; exact rfl))
        · repeat (first | exact App.nil | apply App.cons)
        apply Run.pv [] []
        · exact rfl
        · intro vs; apply ltr_pk; (repeat (first | exact Pk.nil | (apply Pk.pv; exact rfl; exact rfl) | (apply Pk.tok; exact rfl; exact rfl)))
          (first | (refine ltr ?_; apply lt_move; exact rfl))
        · repeat (first | exact App.nil | apply App.cons)
        apply Run.pv [6] []
        · exact rfl
        · intro vs; apply ltr_pk; (repeat (first | exact Pk.nil | (apply Pk.pv; exact rfl; exact rfl) | (apply Pk.tok; exact rfl; exact rfl)))
          (refine ltr ?_; apply LT_int (j : Int); apply lt_sub; exact rfl; exact rfl; omega; omega; omega)
        · repeat (first | exact App.nil | apply App.cons)
        apply Run.rd [5, 7] [] [1000]
        · exact rfl
        · intro vs; apply ltr_pk; (repeat (first | exact Pk.nil | (apply Pk.pv; exact rfl; exact rfl) | (apply Pk.tok; exact rfl; exact rfl)))
          (first | (refine ltr ?_; apply lt_indexSl; exact rfl; exact rfl; exact rfl; (first | assumption | omega | (simp; omega))) | (apply ltr_indexRow; exact rfl; (repeat (first | exact At.here | apply At.there)); exact rfl; exact rfl; (first | assumption | omega | (simp; omega))) | (apply ltr_indexArr; exact rfl; (repeat (first | exact At.here | apply At.there)); exact rfl; exact rfl; (first | assumption | omega | decide)))
        · repeat (first | exact App.nil | apply App.cons)
        apply Run.rd [8] [] [1000]
        · exact rfl
        · intro vs; apply ltr_pk; (repeat (first | exact Pk.nil | (apply Pk.pv; exact rfl; exact rfl) | (apply Pk.tok; exact rfl; exact rfl)))
          (first | (apply ltr_load1; (first | exact .inl rfl | exact .inr ⟨rfl, rfl⟩); (repeat (first | exact At.here | apply At.there)); exact rfl) | (refine ltr ?_; apply lt_loadE1'; exact rfl; assumption; exact rfl) | (refine ltr ?_; apply lt_loadEN'; exact rfl; assumption; exact rfl) | (apply ltr_loadN; (first | exact .inl rfl | exact .inr ⟨rfl, rfl⟩); (repeat (first | exact At.here | apply At.there)); exact rfl) | (apply ltr_loadR1; exact rfl; (repeat (first | exact At.here | apply At.there)); assumption; exact rfl) | (apply ltr_loadRN; exact rfl; (repeat (first | exact At.here | apply At.there)); assumption))
        · repeat (first | exact App.nil | apply App.cons)
        apply Run.pv [] []
        · exact rfl
        · intro vs; apply ltr_pk; (repeat (first | exact Pk.nil | (apply Pk.pv; exact rfl; exact rfl) | (apply Pk.tok; exact rfl; exact rfl)))
          (first | (refine ltr ?_; apply lt_move; exact rfl))
        · repeat (first | exact App.nil | apply App.cons)
        apply Run.pv [] []
        · exact rfl
        · intro vs; apply ltr_pk; (repeat (first | exact Pk.nil | (apply Pk.pv; exact rfl; exact rfl) | (apply Pk.tok; exact rfl; exact rfl)))
          (first | (refine ltr ?_; apply lt_move; exact rfl))
        · repeat (first | exact App.nil | apply App.cons)
        apply Run.rd [10, 11] [] [1000]
        · exact rfl
        · intro vs; apply ltr_pk; (repeat (first | exact Pk.nil | (apply Pk.pv; exact rfl; exact rfl) | (apply Pk.tok; exact rfl; exact rfl)))
          (first | (refine ltr ?_; apply lt_indexSl; exact rfl; exact rfl; exact rfl; (first | assumption | omega | (simp; omega))) | (apply ltr_indexRow; exact rfl; (repeat (first | exact At.here | apply At.there)); exact rfl; exact rfl; (first | assumption | omega | (simp; omega))) | (apply ltr_indexArr; exact rfl; (repeat (first | exact At.here | apply At.there)); exact rfl; exact rfl; (first | assumption | omega | decide)))
        · repeat (first | exact App.nil | apply App.cons)
        apply Run.rd [12] [] [1000]
        · exact rfl
        · intro vs; apply ltr_pk; (repeat (first | exact Pk.nil | (apply Pk.pv; exact rfl; exact rfl) | (apply Pk.tok; exact rfl; exact rfl)))
          (first | (apply ltr_load1; (first | exact .inl rfl | exact .inr ⟨rfl, rfl⟩); (repeat (first | exact At.here | apply At.there)); exact rfl) | (refine ltr ?_; apply lt_loadE1'; exact rfl; assumption; exact rfl) | (refine ltr ?_; apply lt_loadEN'; exact rfl; assumption; exact rfl) | (apply ltr_loadN; (first | exact .inl rfl | exact .inr ⟨rfl, rfl⟩); (repeat (first | exact At.here | apply At.there)); exact rfl) | (apply ltr_loadR1; exact rfl; (repeat (first | exact At.here | apply At.there)); assumption; exact rfl) | (apply ltr_loadRN; exact rfl; (repeat (first | exact At.here | apply At.there)); assumption))
        · repeat (first | exact App.nil | apply App.cons)
        apply Run.rd [0, 1] [] [1000]
        · exact rfl
        · intro vs; apply ltr_pk; (repeat (first | exact Pk.nil | (apply Pk.pv; exact rfl; exact rfl) | (apply Pk.tok; exact rfl; exact rfl)))
          (first | (refine ltr ?_; apply lt_indexSl; exact rfl; exact rfl; exact rfl; (first | assumption | omega | (simp; omega))) | (apply ltr_indexRow; exact rfl; (repeat (first | exact At.here | apply At.there)); exact rfl; exact rfl; (first | assumption | omega | (simp; omega))) | (apply ltr_indexArr; exact rfl; (repeat (first | exact At.here | apply At.there)); exact rfl; exact rfl; (first | assumption | omega | decide)))
        · repeat (first | exact App.nil | apply App.cons)
        apply Run.fx [9, 14] [1000] 14 (fun _ => [HA.row v 55 2 quC ((snk pre suf x (j + 1)).set (j + 1) pre[j])])
        · exact rfl
        · intro vs; apply ltr_pk; (repeat (first | exact Pk.nil | (apply Pk.pv; exact rfl; exact rfl) | (apply Pk.tok; exact rfl; exact rfl)))
          (refine ltr ?_; refine LT.fx (lt_storeRN (n := 2) (f := quC) (xs := snk pre suf x (j + 1)) (k := j + 1) (x' := pre[j]) rfl rfl (by omega) rfl) rfl)
        · repeat (first | exact App.nil | apply App.cons)
        refine ⟨⟨by kernel_rfl, by kernel_rfl⟩, fun vs => ?_⟩
        apply WL_auto [2, 4, 13]
        · repeat (first | exact Pk.nil | (apply Pk.pv; exact rfl; exact rfl) | (apply Pk.tok; exact rfl; exact rfl))
        · repeat (first | exact Nrm.nil | apply Nrm.cons)
        · kernel_rfl
        · kernel_rfl
        ((apply wl_indexRow; exact rfl; (repeat (first | exact At.here | apply At.there)); exact rfl; exact rfl; (first | assumption | omega | (simp; omega)); exact rfl))
        apply wl_storeRNx x
        · exact rfl
        · (repeat (first | exact At.here | apply At.there))
        · exact rfl
        · exact inferInstance
        · exact inferInstance
        · rw [List.length_set]; omega
        · rfl
        rw [snk_swap (by omega)]
        (refine WL_nil ?_; refine bl_norm ?_; refine th_norm ?_; refine W_region ?_; (apply wl_move; exact rfl; exact rfl); (apply wl_sub; exact rfl; exact rfl; omega; omega; exact rfl); (apply wl_assign; exact rfl; exact rfl); refine WL_nil ?_; refine th_norm ?_)
        rw [show (((j + 1 : Nat) : Int) - 1) = (j : Int) by omega]
        refine ⟨j, fun _ _ st => st_sub2 st ?_ ?_, ?_, ?_⟩
        · (repeat (first | exact trivial | refine ⟨rfl, ?_⟩))
        · (repeat (first | exact SubP.nil | (apply SubP.cons; (repeat (first | exact Rm.here | apply Rm.there)))))
        · exact ⟨by omega, hins2⟩
        · omega
  · have hkk : xs.length ≤ i := by simp at hin; omega
    rw [List.take_of_length_le hkk, List.drop_of_length_le hkk, List.append_nil]
    (refine W_exit ?_; refine th_exit ?_; refine th_exit ?_; refine bl_eq ?_; refine rt_norm ?_)
    (apply resK0; exact rfl; exact ⟨rfl, rfl⟩; (repeat (first | exact Cut.nil | (apply Cut.cons; (repeat (first | exact Rm.here | apply Rm.there))))))
set_option maxRecDepth 20000 in
set_option maxHeartbeats 4000000 in
theorem isortB_con (v : Value) (xs : List Bil) (k : FuncId) (caps : List AV) (cmp : Bil → Bil → Int) (hl : xs.length ≤ 100000) (hc : ∀ x y, Con Tryd.prog k ([.agg (biC x), .agg (biC y)] ++ caps) [] (Is (.val (.int .i64 (cmp x y))) [])) : Con Tryd.prog 145 [.val v, .val (.int .i64 0), .val (.int .i64 xs.length), .clo k caps] [.row v 66 4 biC xs] (Is (.tup []) [.row v 66 4 biC (srt (fun x y => decide (cmp x y < 0)) xs)]) := by
  generalize hlt0 : (fun x y => decide (cmp x y < 0)) = lt
  have hlt : ∀ x y, decide (cmp x y < 0) = lt x y := fun x y => by rw [← hlt0]
  refine con_of Tryd.func145 rfl (enters_of Tryd.func145 (by kernel_rfl) rfl) rfl ?_; intro n w0 F0 G0
  (refine W_seq ?_; refine W_region ?_; (apply wl_move; exact rfl; exact rfl); (apply wl_add; exact rfl; exact rfl; omega; omega; exact rfl); (apply wl_assign; exact rfl; exact rfl); refine WL_nil ?_; refine th_norm ?_; refine W_block ?_)
  refine W_loopJ (fun (i : Nat) => ⟨[(0, .val v), (1, .val (.int .i64 0)), (2, .val (.int .i64 xs.length)), (3, .clo k caps), (8, .val (.int .i64 i))], [.row v 66 4 biC (srt lt (xs.take i) ++ xs.drop i)]⟩) (fun i => 1 ≤ i ∧ (i ≤ xs.length ∨ i = 1)) (fun i => xs.length - i) 1 (fun _ _ st => st_sub2 st (by (repeat (first | exact trivial | refine ⟨rfl, ?_⟩))) (by rw [show srt lt (xs.take 1) ++ xs.drop 1 = xs from by cases xs <;> rfl]; (repeat (first | exact SubP.nil | (apply SubP.cons; (repeat (first | exact Rm.here | apply Rm.there))))))) ⟨Nat.le_refl _, .inr rfl⟩ ?_
  rintro i ⟨hi1, hi2⟩
  (refine W_seq ?_; refine W_seq ?_; refine W_region ?_; (apply wl_move; exact rfl; exact rfl); (apply wl_move; exact rfl; exact rfl); (apply wl_lss; exact rfl; exact rfl; exact rfl); refine WL_nil ?_; refine th_norm ?_)
  refine w_cond rfl (fun hin => ?_) (fun hin => ?_)
  · have hin' : i < xs.length := by simp at hin; omega
    have hpl : (srt lt (xs.take i)).length = i := by rw [srt_len, List.length_take]; omega
    have hnx : srt lt (xs.take (i + 1)) = insE lt (srt lt (xs.take i)) xs[i] := by rw [List.take_succ_eq_append_getElem hin', srt_snoc]
    have hdr : xs.drop i = xs[i] :: xs.drop (i + 1) := List.drop_eq_getElem_cons hin'
    have hsl : (xs.drop (i + 1)).length + i + 1 = xs.length := by rw [List.length_drop]; omega
    generalize srt lt (xs.take i) = pre at *
    generalize hsuf : xs.drop (i + 1) = suf at *
    generalize hx : xs[i] = x at *
    rw [hdr]
    (refine W_skip ?_; refine th_norm ?_; refine W_seq ?_; refine W_block ?_; refine W_seq ?_; refine W_region ?_; (apply wl_move; exact rfl; exact rfl); (apply wl_assign; exact rfl; exact rfl); refine WL_nil ?_; refine th_norm ?_; refine W_block ?_)
    refine W_loopJ (fun (j : Nat) => ⟨[(0, .val v), (1, .val (.int .i64 0)), (2, .val (.int .i64 xs.length)), (3, .clo k caps), (8, .val (.int .i64 i)), (9, .val (.int .i64 j))], [.row v 66 4 biC (snk pre suf x j)]⟩) (fun j => j ≤ i ∧ insE lt pre x = insE lt (pre.take j) x ++ pre.drop j) (fun j => j) i (fun _ _ st => st_sub2 st (by (repeat (first | exact trivial | refine ⟨rfl, ?_⟩))) (by rw [show snk pre suf x i = pre ++ x :: suf from by rw [← hpl]; exact snk_full _ _ _]; (repeat (first | exact SubP.nil | (apply SubP.cons; (repeat (first | exact Rm.here | apply Rm.there))))))) ⟨Nat.le_refl _, by rw [← hpl]; simp⟩ ?_
    rintro j ⟨hj, hins⟩
    have hdl : (snk pre suf x j).length = xs.length := by rw [snk_len (by omega)]; omega
    have hq1 : (snk pre suf x j)[j]? = some x := snk_at (by omega)
    (refine W_seq ?_; refine W_seq ?_)
    cases j with
    | zero =>
      have hend : snk pre suf x 0 = insE lt pre x ++ suf := by rw [hins]; simp [snk, insE_nil]
      refine W_run 14 [18, 19, 20, 21, 22, 23, 24, 25, 26, 27, 28, 29, 30, 31] [0, 1, 2, 3, 4, 5, 6, 7, 8, 9, 10, 11, 12, 13] Cut.nil rfl (by repeat (first | exact Flt.nil | (apply Flt.keep; exact rfl) | (apply Flt.drop; exact rfl))) mixedS (by kernel_rfl) rfl ?_
      apply Run.pv [] []
      · exact rfl
      · intro vs; apply ltr_pk; (repeat (first | exact Pk.nil | (apply Pk.pv; exact rfl; exact rfl) | (apply Pk.tok; exact rfl; exact rfl)))
        (first | (refine ltr ?_; apply lt_move; exact rfl))
      · repeat (first | exact App.nil | apply App.cons)
      apply Run.pv [] []
      · exact rfl
      · intro vs; apply ltr_pk; (repeat (first | exact Pk.nil | (apply Pk.pv; exact rfl; exact rfl) | (apply Pk.tok; exact rfl; exact rfl)))
        (first | (refine ltr ?_; apply lt_move; exact rfl))
      · repeat (first | exact App.nil | apply App.cons)
      apply Run.pv [0, 1] []
      · exact rfl
      · intro vs; apply ltr_pk; (repeat (first | exact Pk.nil | (apply Pk.pv; exact rfl; exact rfl) | (apply Pk.tok; exact rfl; exact rfl)))
        (refine ltr ?_; apply LT_bool false; apply lt_gtr; exact rfl; exact rfl; simp)
      · repeat (first | exact App.nil | apply App.cons)
      apply Run.pv [2] []
      · exact rfl
      · intro vs; apply ltr_pk; (repeat (first | exact Pk.nil | (apply Pk.pv; exact rfl; exact rfl) | (apply Pk.tok; exact rfl; exact rfl)))
        (first | (refine ltr ?_; apply lt_move; exact rfl))
      · repeat (first | exact App.nil | apply App.cons)
      apply Run.no [3] []
      · exact rfl
      · exact rfl
      · intro vs; apply look_pk; (repeat (first | exact Pk.nil | (apply Pk.pv; exact rfl; exact rfl) | (apply Pk.tok; exact rfl; exact rfl))); exact rfl
      · exact rfl
      · repeat (first | exact App.nil | apply App.cons)
      apply Run.no [3] []
      · exact rfl
      · exact rfl
      · intro vs; apply look_pk; (repeat (first | exact Pk.nil | (apply Pk.pv; exact rfl; exact rfl) | (apply Pk.tok; exact rfl; exact rfl))); exact rfl
      · exact rfl
      · repeat (first | exact App.nil | apply App.cons)
      apply Run.no [3] []
      · exact rfl
      · exact rfl
      · intro vs; apply look_pk; (repeat (first | exact Pk.nil | (apply Pk.pv; exact rfl; exact rfl) | (apply Pk.tok; exact rfl; exact rfl))); exact rfl
      · exact rfl
      · repeat (first | exact App.nil | apply App.cons)
      apply Run.no [3, 5, 6] []
      · exact rfl
      · exact rfl
      · intro vs; apply look_pk; (repeat (first | exact Pk.nil | (apply Pk.pv; exact rfl; exact rfl) | (apply Pk.tok; exact rfl; exact rfl))); exact rfl
      · exact rfl
      · repeat (first | exact App.nil | apply App.cons)
      apply Run.no [3, 7] []
      · exact rfl
      · exact rfl
      · intro vs; apply look_pk; (repeat (first | exact Pk.nil | (apply Pk.pv; exact rfl; exact rfl) | (apply Pk.tok; exact rfl; exact rfl))); exact rfl
      · exact rfl
      · repeat (first | exact App.nil | apply App.cons)
      apply Run.no [3] []
      · exact rfl
      · exact rfl
      · intro vs; apply look_pk; (repeat (first | exact Pk.nil | (apply Pk.pv; exact rfl; exact rfl) | (apply Pk.tok; exact rfl; exact rfl))); exact rfl
      · exact rfl
      · repeat (first | exact App.nil | apply App.cons)
      apply Run.no [3] []
      · exact rfl
      · exact rfl
      · intro vs; apply look_pk; (repeat (first | exact Pk.nil | (apply Pk.pv; exact rfl; exact rfl) | (apply Pk.tok; exact rfl; exact rfl))); exact rfl
      · exact rfl
      · repeat (first | exact App.nil | apply App.cons)
      apply Run.no [3, 10] []
      · exact rfl
      · exact rfl
      · intro vs; apply look_pk; (repeat (first | exact Pk.nil | (apply Pk.pv; exact rfl; exact rfl) | (apply Pk.tok; exact rfl; exact rfl))); exact rfl
      · exact rfl
      · repeat (first | exact App.nil | apply App.cons)
      apply Run.no [3, 9, 11] []
      · exact rfl
      · exact rfl
      · intro vs; apply look_pk; (repeat (first | exact Pk.nil | (apply Pk.pv; exact rfl; exact rfl) | (apply Pk.tok; exact rfl; exact rfl))); exact rfl
      · exact rfl
      · repeat (first | exact App.nil | apply App.cons)
      apply Run.no [3, 12] []
      · exact rfl
      · exact rfl
      · intro vs; apply look_pk; (repeat (first | exact Pk.nil | (apply Pk.pv; exact rfl; exact rfl) | (apply Pk.tok; exact rfl; exact rfl))); exact rfl
      · exact rfl
      · repeat (first | exact App.nil | apply App.cons)
      refine ⟨⟨by kernel_rfl, by kernel_rfl⟩, fun vs => ?_⟩
      apply WL_auto [3, 4, 8, 13]
      · repeat (first | exact Pk.nil | (apply Pk.pv; exact rfl; exact rfl) | (apply Pk.tok; exact rfl; exact rfl))
      · repeat (first | exact Nrm.nil | apply Nrm.cons)
      · kernel_rfl
      · kernel_rfl
      ((apply wl_no; exact rfl; exact rfl; exact rfl; exact rfl; exact rfl); (apply wl_no; exact rfl; exact rfl; exact rfl; exact rfl; exact rfl); (apply wl_pick_f; exact rfl; exact rfl; exact rfl); refine WL_nil ?_; refine th_norm ?_; (apply w_false; exact rfl); refine W_exit ?_; refine th_exit ?_; refine th_exit ?_; refine bl_eq ?_; refine bl_norm ?_; refine th_norm ?_; refine W_region ?_; (apply wl_move; exact rfl; exact rfl); (apply wl_add; exact rfl; exact rfl; omega; omega; exact rfl); (apply wl_assign; exact rfl; exact rfl); refine WL_nil ?_; refine th_norm ?_)
      refine ⟨i + 1, fun _ _ st => st_sub2 st ?_ ?_, ?_, ?_⟩
      · (repeat (first | exact trivial | refine ⟨rfl, ?_⟩))
      · rw [hnx, hsuf, ← hend]; (repeat (first | exact SubP.nil | (apply SubP.cons; (repeat (first | exact Rm.here | apply Rm.there)))))
      · omega
      · omega
    | succ j =>
      have hjp : j < pre.length := by omega
      have hq2 : (snk pre suf x (j + 1))[j]? = some pre[j] := snk_before (by omega)
      have htk : pre.take (j + 1) = pre.take j ++ [pre[j]] := List.take_succ_eq_append_getElem hjp
      have hdp : pre.drop j = pre[j] :: pre.drop (j + 1) := List.drop_eq_getElem_cons hjp
      refine W_run 14 [18, 19, 20, 21, 22, 23, 24, 25, 26, 27, 28, 29, 30, 31] [0, 1, 2, 3, 4, 5, 6, 7, 8, 9, 10, 11, 12, 13] Cut.nil rfl (by repeat (first | exact Flt.nil | (apply Flt.keep; exact rfl) | (apply Flt.drop; exact rfl))) mixedS (by kernel_rfl) rfl ?_
      apply Run.pv [] []
      · exact rfl
      · intro vs; apply ltr_pk; (repeat (first | exact Pk.nil | (apply Pk.pv; exact rfl; exact rfl) | (apply Pk.tok; exact rfl; exact rfl)))
        (first | (refine ltr ?_; apply lt_move; exact rfl))
      · repeat (first | exact App.nil | apply App.cons)
      apply Run.pv [] []
      · exact rfl
      · intro vs; apply ltr_pk; (repeat (first | exact Pk.nil | (apply Pk.pv; exact rfl; exact rfl) | (apply Pk.tok; exact rfl; exact rfl)))
        (first | (refine ltr ?_; apply lt_move; exact rfl))
      · repeat (first | exact App.nil | apply App.cons)
      apply Run.pv [0, 1] []
      · exact rfl
      · intro vs; apply ltr_pk; (repeat (first | exact Pk.nil | (apply Pk.pv; exact rfl; exact rfl) | (apply Pk.tok; exact rfl; exact rfl)))
        (refine ltr ?_; apply LT_bool true; apply lt_gtr; exact rfl; exact rfl; (first | (simp; done) | (simp; omega)))
      · repeat (first | exact App.nil | apply App.cons)
      apply Run.pv [2] []
      · exact rfl
      · intro vs; apply ltr_pk; (repeat (first | exact Pk.nil | (apply Pk.pv; exact rfl; exact rfl) | (apply Pk.tok; exact rfl; exact rfl)))
        (first | (refine ltr ?_; apply lt_move; exact rfl))
      · repeat (first | exact App.nil | apply App.cons)
      apply Run.yes [3] []
      · exact rfl
      · exact rfl
      · intro vs; apply look_pk; (repeat (first | exact Pk.nil | (apply Pk.pv; exact rfl; exact rfl) | (apply Pk.tok; exact rfl; exact rfl))); exact rfl
      · intro vs; apply ltr_pk; (repeat (first | exact Pk.nil | (apply Pk.pv; exact rfl; exact rfl) | (apply Pk.tok; exact rfl; exact rfl)))
        (first | (refine ltr ?_; apply lt_move; exact rfl))
      · repeat (first | exact App.nil | apply App.cons)
      apply Run.yes [3] []
      · exact rfl
      · exact rfl
      · intro vs; apply look_pk; (repeat (first | exact Pk.nil | (apply Pk.pv; exact rfl; exact rfl) | (apply Pk.tok; exact rfl; exact rfl))); exact rfl
      · intro vs; apply ltr_pk; (repeat (first | exact Pk.nil | (apply Pk.pv; exact rfl; exact rfl) | (apply Pk.tok; exact rfl; exact rfl)))
        (first | (refine ltr ?_; apply lt_move; exact rfl))
      · repeat (first | exact App.nil | apply App.cons)
      apply Run.yes [3] []
      · exact rfl
      · exact rfl
      · intro vs; apply look_pk; (repeat (first | exact Pk.nil | (apply Pk.pv; exact rfl; exact rfl) | (apply Pk.tok; exact rfl; exact rfl))); exact rfl
      · intro vs; apply ltr_pk; (repeat (first | exact Pk.nil | (apply Pk.pv; exact rfl; exact rfl) | (apply Pk.tok; exact rfl; exact rfl)))
        (first | (refine ltr ?_; apply lt_move; exact rfl))
      · repeat (first | exact App.nil | apply App.cons)
      apply Run.yes [3, 5, 6] []
      · exact rfl
      · exact rfl
      · intro vs; apply look_pk; (repeat (first | exact Pk.nil | (apply Pk.pv; exact rfl; exact rfl) | (apply Pk.tok; exact rfl; exact rfl))); exact rfl
      · intro vs; apply ltr_pk; (repeat (first | exact Pk.nil | (apply Pk.pv; exact rfl; exact rfl) | (apply Pk.tok; exact rfl; exact rfl)))
        (first | (refine ltr ?_; apply lt_indexSl; exact rfl; exact rfl; exact rfl; (first | assumption | omega | (simp; omega))) | (apply ltr_indexRow; exact rfl; (repeat (first | exact At.here | apply At.there)); exact rfl; exact rfl; (first | assumption | omega | (simp; omega))) | (apply ltr_indexArr; exact rfl; (repeat (first | exact At.here | apply At.there)); exact rfl; exact rfl; (first | assumption | omega | decide)))
      · repeat (first | exact App.nil | apply App.cons)
      apply Run.yes [3, 7] []
      · exact rfl
      · exact rfl
      · intro vs; apply look_pk; (repeat (first | exact Pk.nil | (apply Pk.pv; exact rfl; exact rfl) | (apply Pk.tok; exact rfl; exact rfl))); exact rfl
      · intro vs; apply ltr_pk; (repeat (first | exact Pk.nil | (apply Pk.pv; exact rfl; exact rfl) | (apply Pk.tok; exact rfl; exact rfl)))
        (first | (apply ltr_load1; (first | exact .inl rfl | exact .inr ⟨rfl, rfl⟩); (repeat (first | exact At.here | apply At.there)); exact rfl) | (refine ltr ?_; apply lt_loadE1'; exact rfl; assumption; exact rfl) | (refine ltr ?_; apply lt_loadEN'; exact rfl; assumption; exact rfl) | (apply ltr_loadN; (first | exact .inl rfl | exact .inr ⟨rfl, rfl⟩); (repeat (first | exact At.here | apply At.there)); exact rfl) | (apply ltr_loadR1; exact rfl; (repeat (first | exact At.here | apply At.there)); assumption; exact rfl) | (apply ltr_loadRN; exact rfl; (repeat (first | exact At.here | apply At.there)); assumption))
      · repeat (first | exact App.nil | apply App.cons)
      apply Run.yes [3] []
      · exact rfl
      · exact rfl
      · intro vs; apply look_pk; (repeat (first | exact Pk.nil | (apply Pk.pv; exact rfl; exact rfl) | (apply Pk.tok; exact rfl; exact rfl))); exact rfl
      · intro vs; apply ltr_pk; (repeat (first | exact Pk.nil | (apply Pk.pv; exact rfl; exact rfl) | (apply Pk.tok; exact rfl; exact rfl)))
        (first | (refine ltr ?_; apply lt_move; exact rfl))
      · repeat (first | exact App.nil | apply App.cons)
      apply Run.yes [3] []
      · exact rfl
      · exact rfl
      · intro vs; apply look_pk; (repeat (first | exact Pk.nil | (apply Pk.pv; exact rfl; exact rfl) | (apply Pk.tok; exact rfl; exact rfl))); exact rfl
      · intro vs; apply ltr_pk; (repeat (first | exact Pk.nil | (apply Pk.pv; exact rfl; exact rfl) | (apply Pk.tok; exact rfl; exact rfl)))
        (first | (refine ltr ?_; apply lt_move; exact rfl))
      · repeat (first | exact App.nil | apply App.cons)
      apply Run.yes [3, 10] []
      · exact rfl
      · exact rfl
      · intro vs; apply look_pk; (repeat (first | exact Pk.nil | (apply Pk.pv; exact rfl; exact rfl) | (apply Pk.tok; exact rfl; exact rfl))); exact rfl
      · intro vs; apply ltr_pk; (repeat (first | exact Pk.nil | (apply Pk.pv; exact rfl; exact rfl) | (apply Pk.tok; exact rfl; exact rfl)))
        (refine ltr ?_; apply LT_int (j : Int); apply lt_sub; exact rfl; exact rfl; omega; omega; omega)
      · repeat (first | exact App.nil | apply App.cons)
      apply Run.yes [3, 9, 11] []
      · exact rfl
      · exact rfl
      · intro vs; apply look_pk; (repeat (first | exact Pk.nil | (apply Pk.pv; exact rfl; exact rfl) | (apply Pk.tok; exact rfl; exact rfl))); exact rfl
      · intro vs; apply ltr_pk; (repeat (first | exact Pk.nil | (apply Pk.pv; exact rfl; exact rfl) | (apply Pk.tok; exact rfl; exact rfl)))
        (first | (refine ltr ?_; apply lt_indexSl; exact rfl; exact rfl; exact rfl; (first | assumption | omega | (simp; omega))) | (apply ltr_indexRow; exact rfl; (repeat (first | exact At.here | apply At.there)); exact rfl; exact rfl; (first | assumption | omega | (simp; omega))) | (apply ltr_indexArr; exact rfl; (repeat (first | exact At.here | apply At.there)); exact rfl; exact rfl; (first | assumption | omega | decide)))
      · repeat (first | exact App.nil | apply App.cons)
      apply Run.yes [3, 12] []
      · exact rfl
      · exact rfl
      · intro vs; apply look_pk; (repeat (first | exact Pk.nil | (apply Pk.pv; exact rfl; exact rfl) | (apply Pk.tok; exact rfl; exact rfl))); exact rfl
      · intro vs; apply ltr_pk; (repeat (first | exact Pk.nil | (apply Pk.pv; exact rfl; exact rfl) | (apply Pk.tok; exact rfl; exact rfl)))
        (first | (apply ltr_load1; (first | exact .inl rfl | exact .inr ⟨rfl, rfl⟩); (repeat (first | exact At.here | apply At.there)); exact rfl) | (refine ltr ?_; apply lt_loadE1'; exact rfl; assumption; exact rfl) | (refine ltr ?_; apply lt_loadEN'; exact rfl; assumption; exact rfl) | (apply ltr_loadN; (first | exact .inl rfl | exact .inr ⟨rfl, rfl⟩); (repeat (first | exact At.here | apply At.there)); exact rfl) | (apply ltr_loadR1; exact rfl; (repeat (first | exact At.here | apply At.there)); assumption; exact rfl) | (apply ltr_loadRN; exact rfl; (repeat (first | exact At.here | apply At.there)); assumption))
      · repeat (first | exact App.nil | apply App.cons)
      refine ⟨⟨by kernel_rfl, by kernel_rfl⟩, fun vs => ?_⟩
      apply WL_auto [3, 4, 8, 13]
      · repeat (first | exact Pk.nil | (apply Pk.pv; exact rfl; exact rfl) | (apply Pk.tok; exact rfl; exact rfl))
      · repeat (first | exact Nrm.nil | apply Nrm.cons)
      · kernel_rfl
      · kernel_rfl
      ((apply wl_yes; exact rfl; exact rfl; exact rfl))
      (apply wl_callV (hc x pre[j]); exact rfl; exact rfl; exact rfl)
      ((apply wl_yes; exact rfl; exact rfl; exact rfl); (apply wl_lss; exact rfl; exact rfl; exact rfl); (apply wl_pick_t; exact rfl; exact rfl; exact rfl); refine WL_nil ?_; refine th_norm ?_)
      rw [hlt]
      cases hb : lt x pre[j] with
      | false =>
        have hend : snk pre suf x (j + 1) = insE lt pre x ++ suf := by
          rw [hins, htk, insE_no hb, ← htk]; simp [snk]
        ((apply w_false; exact rfl); refine W_exit ?_; refine th_exit ?_; refine th_exit ?_; refine bl_eq ?_; refine bl_norm ?_; refine th_norm ?_; refine W_region ?_; (apply wl_move; exact rfl; exact rfl); (apply wl_add; exact rfl; exact rfl; omega; omega; exact rfl); (apply wl_assign; exact rfl; exact rfl); refine WL_nil ?_; refine th_norm ?_)
        refine ⟨i + 1, fun _ _ st => st_sub2 st ?_ ?_, ?_, ?_⟩
        · (repeat (first | exact trivial | refine ⟨rfl, ?_⟩))
        · rw [hnx, hsuf, ← hend]; (repeat (first | exact SubP.nil | (apply SubP.cons; (repeat (first | exact Rm.here | apply Rm.there)))))
        · omega
        · omega
      | true =>
        have hins2 : insE lt pre x = insE lt (pre.take j) x ++ pre.drop j := by
          rw [hins, htk, insE_yes hb, hdp]; simp
        ((apply w_true; exact rfl); refine W_skip ?_; refine th_norm ?_; refine W_seq ?_; refine W_block ?_)
        refine W_run 16 [37, 38, 39, 40, 41, 42, 43, 44, 45, 46, 47, 48, 49, 50, 51, 1000015] [0, 1, 2, 3, 4, 5, 6, 7, 8, 9, 10, 11, 12, 13, 14, 15] (Cut.cons (h := HA.row v 66 4 biC (snk pre suf x (j + 1))) (by (repeat (first | exact Rm.here | apply Rm.there))) (Cut.nil)) rfl (by repeat (first | exact Flt.nil | (apply Flt.keep; exact rfl) | (apply Flt.drop; exact rfl))) mixedS (by kernel_rfl) rfl ?_
        apply Run.pv [] []
        · exact rfl
        · intro vs; apply ltr_pk; (repeat (first | exact Pk.nil | (apply Pk.pv; exact rfl; exact rfl) | (apply Pk.tok; exact rfl; exact rfl)))
          (first | (refine ltr ?_; apply lt_move; exact rfl))
        · repeat (first | exact App.nil | apply App.cons)
        apply Run.pv [] []
        · exact rfl
        · intro vs; apply ltr_pk; (repeat (first | exact Pk.nil | (apply Pk.pv; exact rfl; exact rfl) | (apply Pk.tok; exact rfl; exact rfl)))
          (first | (refine ltr ?_; apply lt_move; exact rfl))
        · repeat (first | exact App.nil | apply App.cons)
        apply Run.pv [] []
        · exact rfl
        · intro vs; apply ltr_pk; (repeat (first | exact Pk.nil | (apply Pk.pv; exact rfl; exact rfl) | (apply Pk.tok; exact rfl; exact rfl)))
          (first | (refine ltr ?_; apply lt_move; exact rfl))
        · repeat (first | exact App.nil | apply App.cons)
        apply Run.pv [] []
        · exact rfl
        · intro vs; apply ltr_pk; (repeat (first | exact Pk.nil | (apply Pk.pv; exact rfl; exact rfl) | (apply Pk.tok; exact rfl; exact rfl)))
          (first | (refine ltr ?_; apply lt_move; exact rfl))
        · repeat (first | exact App.nil | apply App.cons)
        apply Run.pv [3] []
        · exact rfl
        · intro vs; apply ltr_pk; (repeat (first | exact Pk.nil | (apply Pk.pv; exact rfl; exact rfl) | (apply Pk.tok; exact rfl; exact rfl)))
          (refine ltr ?_; apply LT_int (j : Int); apply lt_sub; exact rfl; exact rfl; omega; omega; omega)
        · repeat (first | exact App.nil | apply App.cons)
        apply Run.pv [] []
        · exact rfl
        · intro vs; apply ltr_pk; (repeat (first | exact Pk.nil | (apply Pk.pv; exact rfl; exact rfl) | (apply Pk.tok; exact rfl; exact rfl)))
          (first | (refine ltr ?_; apply lt_move; exact rfl))
        · repeat (first | exact App.nil | apply App.cons)
        apply Run.pv [] []
        · exact rfl
        · intro vs; apply ltr_pk; (repeat (first | exact Pk.nil | (apply Pk.pv; exact rfl; exact rfl) | (apply Pk.tok; exact rfl; exact rfl)))
          (first | (refine ltr ?_; apply lt_move; exact rfl))
        · repeat (first | exact App.nil | apply App.cons)
        apply Run.pv [6] []
        · exact rfl
        · intro vs; apply ltr_pk; (repeat (first | exact Pk.nil | (apply Pk.pv; exact rfl; exact rfl) | (apply Pk.tok; exact rfl; exact rfl)))
          (refine ltr ?_; apply LT_int (j : Int); apply lt_sub; exact rfl; exact rfl; omega; omega; omega)
        · repeat (first | exact App.nil | apply App.cons)
        apply Run.rd [5, 7] [] [1000]
        · exact rfl
        · intro vs; apply ltr_pk; (repeat (first | exact Pk.nil | (apply Pk.pv; exact rfl; exact rfl) | (apply Pk.tok; exact rfl; exact rfl)))
          (first | (refine ltr ?_; apply lt_indexSl; exact rfl; exact rfl; exact rfl; (first | assumption | omega | (simp; omega))) | (apply ltr_indexRow; exact rfl; (repeat (first | exact At.here | apply At.there)); exact rfl; exact rfl; (first | assumption | omega | (simp; omega))) | (apply ltr_indexArr; exact rfl; (repeat (first | exact At.here | apply At.there)); exact rfl; exact rfl; (first | assumption | omega | decide)))
        · repeat (first | exact App.nil | apply App.cons)
        apply Run.rd [8] [] [1000]
        · exact rfl
        · intro vs; apply ltr_pk; (repeat (first | exact Pk.nil | (apply Pk.pv; exact rfl; exact rfl) | (apply Pk.tok; exact rfl; exact rfl)))
          (first | (apply ltr_load1; (first | exact .inl rfl | exact .inr ⟨rfl, rfl⟩); (repeat (first | exact At.here | apply At.there)); exact rfl) | (refine ltr ?_; apply lt_loadE1'; exact rfl; assumption; exact rfl) | (refine ltr ?_; apply lt_loadEN'; exact rfl; assumption; exact rfl) | (apply ltr_loadN; (first | exact .inl rfl | exact .inr ⟨rfl, rfl⟩); (repeat (first | exact At.here | apply At.there)); exact rfl) | (apply ltr_loadR1; exact rfl; (repeat (first | exact At.here | apply At.there)); assumption; exact rfl) | (apply ltr_loadRN; exact rfl; (repeat (first | exact At.here | apply At.there)); assumption))
        · repeat (first | exact App.nil | apply App.cons)
        apply Run.pv [] []
        · exact rfl
        · intro vs; apply ltr_pk; (repeat (first | exact Pk.nil | (apply Pk.pv; exact rfl; exact rfl) | (apply Pk.tok; exact rfl; exact rfl)))
          (first | (refine ltr ?_; apply lt_move; exact rfl))
        · repeat (first | exact App.nil | apply App.cons)
        apply Run.pv [] []
        · exact rfl
        · intro vs; apply ltr_pk; (repeat (first | exact Pk.nil | (apply Pk.pv; exact rfl; exact rfl) | (apply Pk.tok; exact rfl; exact rfl)))
          (first | (refine ltr ?_; apply lt_move; exact rfl))
        · repeat (first | exact App.nil | apply App.cons)
        apply Run.rd [10, 11] [] [1000]
        · exact rfl
        · intro vs; apply ltr_pk; (repeat (first | exact Pk.nil | (apply Pk.pv; exact rfl; exact rfl) | (apply Pk.tok; exact rfl; exact rfl)))
          (first | (refine ltr ?_; apply lt_indexSl; exact rfl; exact rfl; exact rfl; (first | assumption | omega | (simp; omega))) | (apply ltr_indexRow; exact rfl; (repeat (first | exact At.here | apply At.there)); exact rfl; exact rfl; (first | assumption | omega | (simp; omega))) | (apply ltr_indexArr; exact rfl; (repeat (first | exact At.here | apply At.there)); exact rfl; exact rfl; (first | assumption | omega | decide)))
        · repeat (first | exact App.nil | apply App.cons)
        apply Run.rd [12] [] [1000]
        · exact rfl
        · intro vs; apply ltr_pk; (repeat (first | exact Pk.nil | (apply Pk.pv; exact rfl; exact rfl) | (apply Pk.tok; exact rfl; exact rfl)))
          (first | (apply ltr_load1; (first | exact .inl rfl | exact .inr ⟨rfl, rfl⟩); (repeat (first | exact At.here | apply At.there)); exact rfl) | (refine ltr ?_; apply lt_loadE1'; exact rfl; assumption; exact rfl) | (refine ltr ?_; apply lt_loadEN'; exact rfl; assumption; exact rfl) | (apply ltr_loadN; (first | exact .inl rfl | exact .inr ⟨rfl, rfl⟩); (repeat (first | exact At.here | apply At.there)); exact rfl) | (apply ltr_loadR1; exact rfl; (repeat (first | exact At.here | apply At.there)); assumption; exact rfl) | (apply ltr_loadRN; exact rfl; (repeat (first | exact At.here | apply At.there)); assumption))
        · repeat (first | exact App.nil | apply App.cons)
        apply Run.rd [0, 1] [] [1000]
        · exact rfl
        · intro vs; apply ltr_pk; (repeat (first | exact Pk.nil | (apply Pk.pv; exact rfl; exact rfl) | (apply Pk.tok; exact rfl; exact rfl)))
          (first | (refine ltr ?_; apply lt_indexSl; exact rfl; exact rfl; exact rfl; (first | assumption | omega | (simp; omega))) | (apply ltr_indexRow; exact rfl; (repeat (first | exact At.here | apply At.there)); exact rfl; exact rfl; (first | assumption | omega | (simp; omega))) | (apply ltr_indexArr; exact rfl; (repeat (first | exact At.here | apply At.there)); exact rfl; exact rfl; (first | assumption | omega | decide)))
        · repeat (first | exact App.nil | apply App.cons)
        apply Run.fx [9, 14] [1000] 14 (fun _ => [HA.row v 66 4 biC ((snk pre suf x (j + 1)).set (j + 1) pre[j])])
        · exact rfl
        · intro vs; apply ltr_pk; (repeat (first | exact Pk.nil | (apply Pk.pv; exact rfl; exact rfl) | (apply Pk.tok; exact rfl; exact rfl)))
          (refine ltr ?_; refine LT.fx (lt_storeRN (n := 4) (f := biC) (xs := snk pre suf x (j + 1)) (k := j + 1) (x' := pre[j]) rfl rfl (by omega) rfl) rfl)
        · repeat (first | exact App.nil | apply App.cons)
        refine ⟨⟨by kernel_rfl, by kernel_rfl⟩, fun vs => ?_⟩
        apply WL_auto [2, 4, 13]
        · repeat (first | exact Pk.nil | (apply Pk.pv; exact rfl; exact rfl) | (apply Pk.tok; exact rfl; exact rfl))
        · repeat (first | exact Nrm.nil | apply Nrm.cons)
        · kernel_rfl
        · kernel_rfl
        ((apply wl_indexRow; exact rfl; (repeat (first | exact At.here | apply At.there)); exact rfl; exact rfl; (first | assumption | omega | (simp; omega)); exact rfl))
        apply wl_storeRNx x
        · exact rfl
        · (repeat (first | exact At.here | apply At.there))
        · exact rfl
        · exact inferInstance
        · exact inferInstance
        · rw [List.length_set]; omega
        · rfl
        rw [snk_swap (by omega)]
        (refine WL_nil ?_; refine bl_norm ?_; refine th_norm ?_; refine W_region ?_; (apply wl_move; exact rfl; exact rfl); (apply wl_sub; exact rfl; exact rfl; omega; omega; exact rfl); (apply wl_assign; exact rfl; exact rfl); refine WL_nil ?_; refine th_norm ?_)
        rw [show (((j + 1 : Nat) : Int) - 1) = (j : Int) by omega]
        refine ⟨j, fun _ _ st => st_sub2 st ?_ ?_, ?_, ?_⟩
        · (repeat (first | exact trivial | refine ⟨rfl, ?_⟩))
        · (repeat (first | exact SubP.nil | (apply SubP.cons; (repeat (first | exact Rm.here | apply Rm.there)))))
        · exact ⟨by omega, hins2⟩
        · omega
  · have hkk : xs.length ≤ i := by simp at hin; omega
    rw [List.take_of_length_le hkk, List.drop_of_length_le hkk, List.append_nil]
    (refine W_exit ?_; refine th_exit ?_; refine th_exit ?_; refine bl_eq ?_; refine rt_norm ?_)
    (apply resK0; exact rfl; exact ⟨rfl, rfl⟩; (repeat (first | exact Cut.nil | (apply Cut.cons; (repeat (first | exact Rm.here | apply Rm.there))))))
set_option maxRecDepth 20000 in
set_option maxHeartbeats 4000000 in
theorem isortP_con (v : Value) (xs : List Pay) (k : FuncId) (caps : List AV) (cmp : Pay → Pay → Int) (hl : xs.length ≤ 100000) (hc : ∀ x y, Con Tryd.prog k ([.agg (payC x), .agg (payC y)] ++ caps) [] (Is (.val (.int .i64 (cmp x y))) [])) : Con Tryd.prog 181 [.val v, .val (.int .i64 0), .val (.int .i64 xs.length), .clo k caps] [.row v 53 3 payC xs] (Is (.tup []) [.row v 53 3 payC (srt (fun x y => decide (cmp x y < 0)) xs)]) := by
  generalize hlt0 : (fun x y => decide (cmp x y < 0)) = lt
  have hlt : ∀ x y, decide (cmp x y < 0) = lt x y := fun x y => by rw [← hlt0]
  refine con_of Tryd.func181 rfl (enters_of Tryd.func181 (by kernel_rfl) rfl) rfl ?_; intro n w0 F0 G0
  (refine W_seq ?_; refine W_region ?_; (apply wl_move; exact rfl; exact rfl); (apply wl_add; exact rfl; exact rfl; omega; omega; exact rfl); (apply wl_assign; exact rfl; exact rfl); refine WL_nil ?_; refine th_norm ?_; refine W_block ?_)
  refine W_loopJ (fun (i : Nat) => ⟨[(0, .val v), (1, .val (.int .i64 0)), (2, .val (.int .i64 xs.length)), (3, .clo k caps), (8, .val (.int .i64 i))], [.row v 53 3 payC (srt lt (xs.take i) ++ xs.drop i)]⟩) (fun i => 1 ≤ i ∧ (i ≤ xs.length ∨ i = 1)) (fun i => xs.length - i) 1 (fun _ _ st => st_sub2 st (by (repeat (first | exact trivial | refine ⟨rfl, ?_⟩))) (by rw [show srt lt (xs.take 1) ++ xs.drop 1 = xs from by cases xs <;> rfl]; (repeat (first | exact SubP.nil | (apply SubP.cons; (repeat (first | exact Rm.here | apply Rm.there))))))) ⟨Nat.le_refl _, .inr rfl⟩ ?_
  rintro i ⟨hi1, hi2⟩
  (refine W_seq ?_; refine W_seq ?_; refine W_region ?_; (apply wl_move; exact rfl; exact rfl); (apply wl_move; exact rfl; exact rfl); (apply wl_lss; exact rfl; exact rfl; exact rfl); refine WL_nil ?_; refine th_norm ?_)
  refine w_cond rfl (fun hin => ?_) (fun hin => ?_)
  · have hin' : i < xs.length := by simp at hin; omega
    have hpl : (srt lt (xs.take i)).length = i := by rw [srt_len, List.length_take]; omega
    have hnx : srt lt (xs.take (i + 1)) = insE lt (srt lt (xs.take i)) xs[i] := by rw [List.take_succ_eq_append_getElem hin', srt_snoc]
    have hdr : xs.drop i = xs[i] :: xs.drop (i + 1) := List.drop_eq_getElem_cons hin'
    have hsl : (xs.drop (i + 1)).length + i + 1 = xs.length := by rw [List.length_drop]; omega
    generalize srt lt (xs.take i) = pre at *
    generalize hsuf : xs.drop (i + 1) = suf at *
    generalize hx : xs[i] = x at *
    rw [hdr]
    (refine W_skip ?_; refine th_norm ?_; refine W_seq ?_; refine W_block ?_; refine W_seq ?_; refine W_region ?_; (apply wl_move; exact rfl; exact rfl); (apply wl_assign; exact rfl; exact rfl); refine WL_nil ?_; refine th_norm ?_; refine W_block ?_)
    refine W_loopJ (fun (j : Nat) => ⟨[(0, .val v), (1, .val (.int .i64 0)), (2, .val (.int .i64 xs.length)), (3, .clo k caps), (8, .val (.int .i64 i)), (9, .val (.int .i64 j))], [.row v 53 3 payC (snk pre suf x j)]⟩) (fun j => j ≤ i ∧ insE lt pre x = insE lt (pre.take j) x ++ pre.drop j) (fun j => j) i (fun _ _ st => st_sub2 st (by (repeat (first | exact trivial | refine ⟨rfl, ?_⟩))) (by rw [show snk pre suf x i = pre ++ x :: suf from by rw [← hpl]; exact snk_full _ _ _]; (repeat (first | exact SubP.nil | (apply SubP.cons; (repeat (first | exact Rm.here | apply Rm.there))))))) ⟨Nat.le_refl _, by rw [← hpl]; simp⟩ ?_
    rintro j ⟨hj, hins⟩
    have hdl : (snk pre suf x j).length = xs.length := by rw [snk_len (by omega)]; omega
    have hq1 : (snk pre suf x j)[j]? = some x := snk_at (by omega)
    (refine W_seq ?_; refine W_seq ?_)
    cases j with
    | zero =>
      have hend : snk pre suf x 0 = insE lt pre x ++ suf := by rw [hins]; simp [snk, insE_nil]
      refine W_run 14 [18, 19, 20, 21, 22, 23, 24, 25, 26, 27, 28, 29, 30, 31] [0, 1, 2, 3, 4, 5, 6, 7, 8, 9, 10, 11, 12, 13] Cut.nil rfl (by repeat (first | exact Flt.nil | (apply Flt.keep; exact rfl) | (apply Flt.drop; exact rfl))) mixedS (by kernel_rfl) rfl ?_
      apply Run.pv [] []
      · exact rfl
      · intro vs; apply ltr_pk; (repeat (first | exact Pk.nil | (apply Pk.pv; exact rfl; exact rfl) | (apply Pk.tok; exact rfl; exact rfl)))
        (first | (refine ltr ?_; apply lt_move; exact rfl))
      · repeat (first | exact App.nil | apply App.cons)
      apply Run.pv [] []
      · exact rfl
      · intro vs; apply ltr_pk; (repeat (first | exact Pk.nil | (apply Pk.pv; exact rfl; exact rfl) | (apply Pk.tok; exact rfl; exact rfl)))
        (first | (refine ltr ?_; apply lt_move; exact rfl))
      · repeat (first | exact App.nil | apply App.cons)
      apply Run.pv [0, 1] []
      · exact rfl
      · intro vs; apply ltr_pk; (repeat (first | exact Pk.nil | (apply Pk.pv; exact rfl; exact rfl) | (apply Pk.tok; exact rfl; exact rfl)))
        (refine ltr ?_; apply LT_bool false; apply lt_gtr; exact rfl; exact rfl; simp)
      · repeat (first | exact App.nil | apply App.cons)
      apply Run.pv [2] []
      · exact rfl
      · intro vs; apply ltr_pk; (repeat (first | exact Pk.nil | (apply Pk.pv; exact rfl; exact rfl) | (apply Pk.tok; exact rfl; exact rfl)))
        (first | (refine ltr ?_; apply lt_move; exact rfl))
      · repeat (first | exact App.nil | apply App.cons)
      apply Run.no [3] []
      · exact rfl
      · exact rfl
      · intro vs; apply look_pk; (repeat (first | exact Pk.nil | (apply Pk.pv; exact rfl; exact rfl) | (apply Pk.tok; exact rfl; exact rfl))); exact rfl
      · exact rfl
      · repeat (first | exact App.nil | apply App.cons)
      apply Run.no [3] []
      · exact rfl
      · exact rfl
      · intro vs; apply look_pk; (repeat (first | exact Pk.nil | (apply Pk.pv; exact rfl; exact rfl) | (apply Pk.tok; exact rfl; exact rfl))); exact rfl
      · exact rfl
      · repeat (first | exact App.nil | apply App.cons)
      apply Run.no [3] []
      · exact rfl
      · exact rfl
      · intro vs; apply look_pk; (repeat (first | exact Pk.nil | (apply Pk.pv; exact rfl; exact rfl) | (apply Pk.tok; exact rfl; exact rfl))); exact rfl
      · exact rfl
      · repeat (first | exact App.nil | apply App.cons)
      apply Run.no [3, 5, 6] []
      · exact rfl
      · exact rfl
      · intro vs; apply look_pk; (repeat (first | exact Pk.nil | (apply Pk.pv; exact rfl; exact rfl) | (apply Pk.tok; exact rfl; exact rfl))); exact rfl
      · exact rfl
      · repeat (first | exact App.nil | apply App.cons)
      apply Run.no [3, 7] []
      · exact rfl
      · exact rfl
      · intro vs; apply look_pk; (repeat (first | exact Pk.nil | (apply Pk.pv; exact rfl; exact rfl) | (apply Pk.tok; exact rfl; exact rfl))); exact rfl
      · exact rfl
      · repeat (first | exact App.nil | apply App.cons)
      apply Run.no [3] []
      · exact rfl
      · exact rfl
      · intro vs; apply look_pk; (repeat (first | exact Pk.nil | (apply Pk.pv; exact rfl; exact rfl) | (apply Pk.tok; exact rfl; exact rfl))); exact rfl
      · exact rfl
      · repeat (first | exact App.nil | apply App.cons)
      apply Run.no [3] []
      · exact rfl
      · exact rfl
      · intro vs; apply look_pk; (repeat (first | exact Pk.nil | (apply Pk.pv; exact rfl; exact rfl) | (apply Pk.tok; exact rfl; exact rfl))); exact rfl
      · exact rfl
      · repeat (first | exact App.nil | apply App.cons)
      apply Run.no [3, 10] []
      · exact rfl
      · exact rfl
      · intro vs; apply look_pk; (repeat (first | exact Pk.nil | (apply Pk.pv; exact rfl; exact rfl) | (apply Pk.tok; exact rfl; exact rfl))); exact rfl
      · exact rfl
      · repeat (first | exact App.nil | apply App.cons)
      apply Run.no [3, 9, 11] []
      · exact rfl
      · exact rfl
      · intro vs; apply look_pk; (repeat (first | exact Pk.nil | (apply Pk.pv; exact rfl; exact rfl) | (apply Pk.tok; exact rfl; exact rfl))); exact rfl
      · exact rfl
      · repeat (first | exact App.nil | apply App.cons)
      apply Run.no [3, 12] []
      · exact rfl
      · exact rfl
      · intro vs; apply look_pk; (repeat (first | exact Pk.nil | (apply Pk.pv; exact rfl; exact rfl) | (apply Pk.tok; exact rfl; exact rfl))); exact rfl
      · exact rfl
      · repeat (first | exact App.nil | apply App.cons)
      refine ⟨⟨by kernel_rfl, by kernel_rfl⟩, fun vs => ?_⟩
      apply WL_auto [3, 4, 8, 13]
      · repeat (first | exact Pk.nil | (apply Pk.pv; exact rfl; exact rfl) | (apply Pk.tok; exact rfl; exact rfl))
      · repeat (first | exact Nrm.nil | apply Nrm.cons)
      · kernel_rfl
      · kernel_rfl
      ((apply wl_no; exact rfl; exact rfl; exact rfl; exact rfl; exact rfl); (apply wl_no; exact rfl; exact rfl; exact rfl; exact rfl; exact rfl); (apply wl_pick_f; exact rfl; exact rfl; exact rfl); refine WL_nil ?_; refine th_norm ?_; (apply w_false; exact rfl); refine W_exit ?_; refine th_exit ?_; refine th_exit ?_; refine bl_eq ?_; refine bl_norm ?_; refine th_norm ?_; refine W_region ?_; (apply wl_move; exact rfl; exact rfl); (apply wl_add; exact rfl; exact rfl; omega; omega; exact rfl); (apply wl_assign; exact rfl; exact rfl); refine WL_nil ?_; refine th_norm ?_)
      refine ⟨i + 1, fun _ _ st => st_sub2 st ?_ ?_, ?_, ?_⟩
      · (repeat (first | exact trivial | refine ⟨rfl, ?_⟩))
      · rw [hnx, hsuf, ← hend]; (repeat (first | exact SubP.nil | (apply SubP.cons; (repeat (first | exact Rm.here | apply Rm.there)))))
      · omega
      · omega
    | succ j =>
      have hjp : j < pre.length := by omega
      have hq2 : (snk pre suf x (j + 1))[j]? = some pre[j] := snk_before (by omega)
      have htk : pre.take (j + 1) = pre.take j ++ [pre[j]] := List.take_succ_eq_append_getElem hjp
      have hdp : pre.drop j = pre[j] :: pre.drop (j + 1) := List.drop_eq_getElem_cons hjp
      refine W_run 14 [18, 19, 20, 21, 22, 23, 24, 25, 26, 27, 28, 29, 30, 31] [0, 1, 2, 3, 4, 5, 6, 7, 8, 9, 10, 11, 12, 13] Cut.nil rfl (by repeat (first | exact Flt.nil | (apply Flt.keep; exact rfl) | (apply Flt.drop; exact rfl))) mixedS (by kernel_rfl) rfl ?_
      apply Run.pv [] []
      · exact rfl
      · intro vs; apply ltr_pk; (repeat (first | exact Pk.nil | (apply Pk.pv; exact rfl; exact rfl) | (apply Pk.tok; exact rfl; exact rfl)))
        (first | (refine ltr ?_; apply lt_move; exact rfl))
      · repeat (first | exact App.nil | apply App.cons)
      apply Run.pv [] []
      · exact rfl
      · intro vs; apply ltr_pk; (repeat (first | exact Pk.nil | (apply Pk.pv; exact rfl; exact rfl) | (apply Pk.tok; exact rfl; exact rfl)))
        (first | (refine ltr ?_; apply lt_move; exact rfl))
      · repeat (first | exact App.nil | apply App.cons)
      apply Run.pv [0, 1] []
      · exact rfl
      · intro vs; apply ltr_pk; (repeat (first | exact Pk.nil | (apply Pk.pv; exact rfl; exact rfl) | (apply Pk.tok; exact rfl; exact rfl)))
        (refine ltr ?_; apply LT_bool true; apply lt_gtr; exact rfl; exact rfl; (first | (simp; done) | (simp; omega)))
      · repeat (first | exact App.nil | apply App.cons)
      apply Run.pv [2] []
      · exact rfl
      · intro vs; apply ltr_pk; (repeat (first | exact Pk.nil | (apply Pk.pv; exact rfl; exact rfl) | (apply Pk.tok; exact rfl; exact rfl)))
        (first | (refine ltr ?_; apply lt_move; exact rfl))
      · repeat (first | exact App.nil | apply App.cons)
      apply Run.yes [3] []
      · exact rfl
      · exact rfl
      · intro vs; apply look_pk; (repeat (first | exact Pk.nil | (apply Pk.pv; exact rfl; exact rfl) | (apply Pk.tok; exact rfl; exact rfl))); exact rfl
      · intro vs; apply ltr_pk; (repeat (first | exact Pk.nil | (apply Pk.pv; exact rfl; exact rfl) | (apply Pk.tok; exact rfl; exact rfl)))
        (first | (refine ltr ?_; apply lt_move; exact rfl))
      · repeat (first | exact App.nil | apply App.cons)
      apply Run.yes [3] []
      · exact rfl
      · exact rfl
      · intro vs; apply look_pk; (repeat (first | exact Pk.nil | (apply Pk.pv; exact rfl; exact rfl) | (apply Pk.tok; exact rfl; exact rfl))); exact rfl
      · intro vs; apply ltr_pk; (repeat (first | exact Pk.nil | (apply Pk.pv; exact rfl; exact rfl) | (apply Pk.tok; exact rfl; exact rfl)))
        (first | (refine ltr ?_; apply lt_move; exact rfl))
      · repeat (first | exact App.nil | apply App.cons)
      apply Run.yes [3] []
      · exact rfl
      · exact rfl
      · intro vs; apply look_pk; (repeat (first | exact Pk.nil | (apply Pk.pv; exact rfl; exact rfl) | (apply Pk.tok; exact rfl; exact rfl))); exact rfl
      · intro vs; apply ltr_pk; (repeat (first | exact Pk.nil | (apply Pk.pv; exact rfl; exact rfl) | (apply Pk.tok; exact rfl; exact rfl)))
        (first | (refine ltr ?_; apply lt_move; exact rfl))
      · repeat (first | exact App.nil | apply App.cons)
      apply Run.yes [3, 5, 6] []
      · exact rfl
      · exact rfl
      · intro vs; apply look_pk; (repeat (first | exact Pk.nil | (apply Pk.pv; exact rfl; exact rfl) | (apply Pk.tok; exact rfl; exact rfl))); exact rfl
      · intro vs; apply ltr_pk; (repeat (first | exact Pk.nil | (apply Pk.pv; exact rfl; exact rfl) | (apply Pk.tok; exact rfl; exact rfl)))
        (first | (refine ltr ?_; apply lt_indexSl; exact rfl; exact rfl; exact rfl; (first | assumption | omega | (simp; omega))) | (apply ltr_indexRow; exact rfl; (repeat (first | exact At.here | apply At.there)); exact rfl; exact rfl; (first | assumption | omega | (simp; omega))) | (apply ltr_indexArr; exact rfl; (repeat (first | exact At.here | apply At.there)); exact rfl; exact rfl; (first | assumption | omega | decide)))
      · repeat (first | exact App.nil | apply App.cons)
      apply Run.yes [3, 7] []
      · exact rfl
      · exact rfl
      · intro vs; apply look_pk; (repeat (first | exact Pk.nil | (apply Pk.pv; exact rfl; exact rfl) | (apply Pk.tok; exact rfl; exact rfl))); exact rfl
      · intro vs; apply ltr_pk; (repeat (first | exact Pk.nil | (apply Pk.pv; exact rfl; exact rfl) | (apply Pk.tok; exact rfl; exact rfl)))
        (first | (apply ltr_load1; (first | exact .inl rfl | exact .inr ⟨rfl, rfl⟩); (repeat (first | exact At.here | apply At.there)); exact rfl) | (refine ltr ?_; apply lt_loadE1'; exact rfl; assumption; exact rfl) | (refine ltr ?_; apply lt_loadEN'; exact rfl; assumption; exact rfl) | (apply ltr_loadN; (first | exact .inl rfl | exact .inr ⟨rfl, rfl⟩); (repeat (first | exact At.here | apply At.there)); exact rfl) | (apply ltr_loadR1; exact rfl; (repeat (first | exact At.here | apply At.there)); assumption; exact rfl) | (apply ltr_loadRN; exact rfl; (repeat (first | exact At.here | apply At.there)); assumption))
      · repeat (first | exact App.nil | apply App.cons)
      apply Run.yes [3] []
      · exact rfl
      · exact rfl
      · intro vs; apply look_pk; (repeat (first | exact Pk.nil | (apply Pk.pv; exact rfl; exact rfl) | (apply Pk.tok; exact rfl; exact rfl))); exact rfl
      · intro vs; apply ltr_pk; (repeat (first | exact Pk.nil | (apply Pk.pv; exact rfl; exact rfl) | (apply Pk.tok; exact rfl; exact rfl)))
        (first | (refine ltr ?_; apply lt_move; exact rfl))
      · repeat (first | exact App.nil | apply App.cons)
      apply Run.yes [3] []
      · exact rfl
      · exact rfl
      · intro vs; apply look_pk; (repeat (first | exact Pk.nil | (apply Pk.pv; exact rfl; exact rfl) | (apply Pk.tok; exact rfl; exact rfl))); exact rfl
      · intro vs; apply ltr_pk; (repeat (first | exact Pk.nil | (apply Pk.pv; exact rfl; exact rfl) | (apply Pk.tok; exact rfl; exact rfl)))
        (first | (refine ltr ?_; apply lt_move; exact rfl))
      · repeat (first | exact App.nil | apply App.cons)
      apply Run.yes [3, 10] []
      · exact rfl
      · exact rfl
      · intro vs; apply look_pk; (repeat (first | exact Pk.nil | (apply Pk.pv; exact rfl; exact rfl) | (apply Pk.tok; exact rfl; exact rfl))); exact rfl
      · intro vs; apply ltr_pk; (repeat (first | exact Pk.nil | (apply Pk.pv; exact rfl; exact rfl) | (apply Pk.tok; exact rfl; exact rfl)))
        (refine ltr ?_; apply LT_int (j : Int); apply lt_sub; exact rfl; exact rfl; omega; omega; omega)
      · repeat (first | exact App.nil | apply App.cons)
      apply Run.yes [3, 9, 11] []
      · exact rfl
      · exact rfl
      · intro vs; apply look_pk; (repeat (first | exact Pk.nil | (apply Pk.pv; exact rfl; exact rfl) | (apply Pk.tok; exact rfl; exact rfl))); exact rfl
      · intro vs; apply ltr_pk; (repeat (first | exact Pk.nil | (apply Pk.pv; exact rfl; exact rfl) | (apply Pk.tok; exact rfl; exact rfl)))
        (first | (refine ltr ?_; apply lt_indexSl; exact rfl; exact rfl; exact rfl; (first | assumption | omega | (simp; omega))) | (apply ltr_indexRow; exact rfl; (repeat (first | exact At.here | apply At.there)); exact rfl; exact rfl; (first | assumption | omega | (simp; omega))) | (apply ltr_indexArr; exact rfl; (repeat (first | exact At.here | apply At.there)); exact rfl; exact rfl; (first | assumption | omega | decide)))
      · repeat (first | exact App.nil | apply App.cons)
      apply Run.yes [3, 12] []
      · exact rfl
      · exact rfl
      · intro vs; apply look_pk; (repeat (first | exact Pk.nil | (apply Pk.pv; exact rfl; exact rfl) | (apply Pk.tok; exact rfl; exact rfl))); exact rfl
      · intro vs; apply ltr_pk; (repeat (first | exact Pk.nil | (apply Pk.pv; exact rfl; exact rfl) | (apply Pk.tok; exact rfl; exact rfl)))
        (first | (apply ltr_load1; (first | exact .inl rfl | exact .inr ⟨rfl, rfl⟩); (repeat (first | exact At.here | apply At.there)); exact rfl) | (refine ltr ?_; apply lt_loadE1'; exact rfl; assumption; exact rfl) | (refine ltr ?_; apply lt_loadEN'; exact rfl; assumption; exact rfl) | (apply ltr_loadN; (first | exact .inl rfl | exact .inr ⟨rfl, rfl⟩); (repeat (first | exact At.here | apply At.there)); exact rfl) | (apply ltr_loadR1; exact rfl; (repeat (first | exact At.here | apply At.there)); assumption; exact rfl) | (apply ltr_loadRN; exact rfl; (repeat (first | exact At.here | apply At.there)); assumption))
      · repeat (first | exact App.nil | apply App.cons)
      refine ⟨⟨by kernel_rfl, by kernel_rfl⟩, fun vs => ?_⟩
      apply WL_auto [3, 4, 8, 13]
      · repeat (first | exact Pk.nil | (apply Pk.pv; exact rfl; exact rfl) | (apply Pk.tok; exact rfl; exact rfl))
      · repeat (first | exact Nrm.nil | apply Nrm.cons)
      · kernel_rfl
      · kernel_rfl
      ((apply wl_yes; exact rfl; exact rfl; exact rfl))
      (apply wl_callV (hc x pre[j]); exact rfl; exact rfl; exact rfl)
      ((apply wl_yes; exact rfl; exact rfl; exact rfl); (apply wl_lss; exact rfl; exact rfl; exact rfl); (apply wl_pick_t; exact rfl; exact rfl; exact rfl); refine WL_nil ?_; refine th_norm ?_)
      rw [hlt]
      cases hb : lt x pre[j] with
      | false =>
        have hend : snk pre suf x (j + 1) = insE lt pre x ++ suf := by
          rw [hins, htk, insE_no hb, ← htk]; simp [snk]
        ((apply w_false; exact rfl); refine W_exit ?_; refine th_exit ?_; refine th_exit ?_; refine bl_eq ?_; refine bl_norm ?_; refine th_norm ?_; refine W_region ?_; (apply wl_move; exact rfl; exact rfl); (apply wl_add; exact rfl; exact rfl; omega; omega; exact rfl); (apply wl_assign; exact rfl; exact rfl); refine WL_nil ?_; refine th_norm ?_)
        refine ⟨i + 1, fun _ _ st => st_sub2 st ?_ ?_, ?_, ?_⟩
        · (repeat (first | exact trivial | refine ⟨rfl, ?_⟩))
        · rw [hnx, hsuf, ← hend]; (repeat (first | exact SubP.nil | (apply SubP.cons; (repeat (first | exact Rm.here | apply Rm.there)))))
        · omega
        · omega
      | true =>
        have hins2 : insE lt pre x = insE lt (pre.take j) x ++ pre.drop j := by
          rw [hins, htk, insE_yes hb, hdp]; simp
        ((apply w_true; exact rfl); refine W_skip ?_; refine th_norm ?_; refine W_seq ?_; refine W_block ?_)
        refine W_run 16 [37, 38, 39, 40, 41, 42, 43, 44, 45, 46, 47, 48, 49, 50, 51, 1000015] [0, 1, 2, 3, 4, 5, 6, 7, 8, 9, 10, 11, 12, 13, 14, 15] (Cut.cons (h := HA.row v 53 3 payC (snk pre suf x (j + 1))) (by (repeat (first | exact Rm.here | apply Rm.there))) (Cut.nil)) rfl (by repeat (first | exact Flt.nil | (apply Flt.keep; exact rfl) | (apply Flt.drop; exact rfl))) mixedS (by kernel_rfl) rfl ?_
        apply Run.pv [] []
        · exact rfl
        · intro vs; apply ltr_pk; (repeat (first | exact Pk.nil | (apply Pk.pv; exact rfl; exact rfl) | (apply Pk.tok; exact rfl; exact rfl)))
          (first | (refine ltr ?_; apply lt_move; exact rfl))
        · repeat (first | exact App.nil | apply App.cons)
        apply Run.pv [] []
        · exact rfl
        · intro vs; apply ltr_pk; (repeat (first | exact Pk.nil | (apply Pk.pv; exact rfl; exact rfl) | (apply Pk.tok; exact rfl; exact rfl)))
          (first | (refine ltr ?_; apply lt_move; exact rfl))
        · repeat (first | exact App.nil | apply App.cons)
        apply Run.pv [] []
        · exact rfl
        · intro vs; apply ltr_pk; (repeat (first | exact Pk.nil | (apply Pk.pv; exact rfl; exact rfl) | (apply Pk.tok; exact rfl; exact rfl)))
          (first | (refine ltr ?_; apply lt_move; exact rfl))
        · repeat (first | exact App.nil | apply App.cons)
        apply Run.pv [] []
        · exact rfl
        · intro vs; apply ltr_pk; (repeat (first | exact Pk.nil | (apply Pk.pv; exact rfl; exact rfl) | (apply Pk.tok; exact rfl; exact rfl)))
          (first | (refine ltr ?_; apply lt_move; exact rfl))
        · repeat (first | exact App.nil | apply App.cons)
        apply Run.pv [3] []
        · exact rfl
        · intro vs; apply ltr_pk; (repeat (first | exact Pk.nil | (apply Pk.pv; exact rfl; exact rfl) | (apply Pk.tok; exact rfl; exact rfl)))
          (refine ltr ?_; apply LT_int (j : Int); apply lt_sub; exact rfl; exact rfl; omega; omega; omega)
        · repeat (first | exact App.nil | apply App.cons)
        apply Run.pv [] []
        · exact rfl
        · intro vs; apply ltr_pk; (repeat (first | exact Pk.nil | (apply Pk.pv; exact rfl; exact rfl) | (apply Pk.tok; exact rfl; exact rfl)))
          (first | (refine ltr ?_; apply lt_move; exact rfl))
        · repeat (first | exact App.nil | apply App.cons)
        apply Run.pv [] []
        · exact rfl
        · intro vs; apply ltr_pk; (repeat (first | exact Pk.nil | (apply Pk.pv; exact rfl; exact rfl) | (apply Pk.tok; exact rfl; exact rfl)))
          (first | (refine ltr ?_; apply lt_move; exact rfl))
        · repeat (first | exact App.nil | apply App.cons)
        apply Run.pv [6] []
        · exact rfl
        · intro vs; apply ltr_pk; (repeat (first | exact Pk.nil | (apply Pk.pv; exact rfl; exact rfl) | (apply Pk.tok; exact rfl; exact rfl)))
          (refine ltr ?_; apply LT_int (j : Int); apply lt_sub; exact rfl; exact rfl; omega; omega; omega)
        · repeat (first | exact App.nil | apply App.cons)
        apply Run.rd [5, 7] [] [1000]
        · exact rfl
        · intro vs; apply ltr_pk; (repeat (first | exact Pk.nil | (apply Pk.pv; exact rfl; exact rfl) | (apply Pk.tok; exact rfl; exact rfl)))
          (first | (refine ltr ?_; apply lt_indexSl; exact rfl; exact rfl; exact rfl; (first | assumption | omega | (simp; omega))) | (apply ltr_indexRow; exact rfl; (repeat (first | exact At.here | apply At.there)); exact rfl; exact rfl; (first | assumption | omega | (simp; omega))) | (apply ltr_indexArr; exact rfl; (repeat (first | exact At.here | apply At.there)); exact rfl; exact rfl; (first | assumption | omega | decide)))
        · repeat (first | exact App.nil | apply App.cons)
        apply Run.rd [8] [] [1000]
        · exact rfl
        · intro vs; apply ltr_pk; (repeat (first | exact Pk.nil | (apply Pk.pv; exact rfl; exact rfl) | (apply Pk.tok; exact rfl; exact rfl)))
          (first | (apply ltr_load1; (first | exact .inl rfl | exact .inr ⟨rfl, rfl⟩); (repeat (first | exact At.here | apply At.there)); exact rfl) | (refine ltr ?_; apply lt_loadE1'; exact rfl; assumption; exact rfl) | (refine ltr ?_; apply lt_loadEN'; exact rfl; assumption; exact rfl) | (apply ltr_loadN; (first | exact .inl rfl | exact .inr ⟨rfl, rfl⟩); (repeat (first | exact At.here | apply At.there)); exact rfl) | (apply ltr_loadR1; exact rfl; (repeat (first | exact At.here | apply At.there)); assumption; exact rfl) | (apply ltr_loadRN; exact rfl; (repeat (first | exact At.here | apply At.there)); assumption))
        · repeat (first | exact App.nil | apply App.cons)
        apply Run.pv [] []
        · exact rfl
        · intro vs; apply ltr_pk; (repeat (first | exact Pk.nil | (apply Pk.pv; exact rfl; exact rfl) | (apply Pk.tok; exact rfl; exact rfl)))
          (first | (refine ltr ?_; apply lt_move; exact rfl))
        · repeat (first | exact App.nil | apply App.cons)
        apply Run.pv [] []
        · exact rfl
        · intro vs; apply ltr_pk; (repeat (first | exact Pk.nil | (apply Pk.pv; exact rfl; exact rfl) | (apply Pk.tok; exact rfl; exact rfl)))
          (first | (refine ltr ?_; apply lt_move; exact rfl))
        · repeat (first | exact App.nil | apply App.cons)
        apply Run.rd [10, 11] [] [1000]
        · exact rfl
        · intro vs; apply ltr_pk; (repeat (first | exact Pk.nil | (apply Pk.pv; exact rfl; exact rfl) | (apply Pk.tok; exact rfl; exact rfl)))
          (first | (refine ltr ?_; apply lt_indexSl; exact rfl; exact rfl; exact rfl; (first | assumption | omega | (simp; omega))) | (apply ltr_indexRow; exact rfl; (repeat (first | exact At.here | apply At.there)); exact rfl; exact rfl; (first | assumption | omega | (simp; omega))) | (apply ltr_indexArr; exact rfl; (repeat (first | exact At.here | apply At.there)); exact rfl; exact rfl; (first | assumption | omega | decide)))
        · repeat (first | exact App.nil | apply App.cons)
        apply Run.rd [12] [] [1000]
        · exact rfl
        · intro vs; apply ltr_pk; (repeat (first | exact Pk.nil | (apply Pk.pv; exact rfl; exact rfl) | (apply Pk.tok; exact rfl; exact rfl)))
          (first | (apply ltr_load1; (first | exact .inl rfl | exact .inr ⟨rfl, rfl⟩); (repeat (first | exact At.here | apply At.there)); exact rfl) | (refine ltr ?_; apply lt_loadE1'; exact rfl; assumption; exact rfl) | (refine ltr ?_; apply lt_loadEN'; exact rfl; assumption; exact rfl) | (apply ltr_loadN; (first | exact .inl rfl | exact .inr ⟨rfl, rfl⟩); (repeat (first | exact At.here | apply At.there)); exact rfl) | (apply ltr_loadR1; exact rfl; (repeat (first | exact At.here | apply At.there)); assumption; exact rfl) | (apply ltr_loadRN; exact rfl; (repeat (first | exact At.here | apply At.there)); assumption))
        · repeat (first | exact App.nil | apply App.cons)
        apply Run.rd [0, 1] [] [1000]
        · exact rfl
        · intro vs; apply ltr_pk; (repeat (first | exact Pk.nil | (apply Pk.pv; exact rfl; exact rfl) | (apply Pk.tok; exact rfl; exact rfl)))
          (first | (refine ltr ?_; apply lt_indexSl; exact rfl; exact rfl; exact rfl; (first | assumption | omega | (simp; omega))) | (apply ltr_indexRow; exact rfl; (repeat (first | exact At.here | apply At.there)); exact rfl; exact rfl; (first | assumption | omega | (simp; omega))) | (apply ltr_indexArr; exact rfl; (repeat (first | exact At.here | apply At.there)); exact rfl; exact rfl; (first | assumption | omega | decide)))
        · repeat (first | exact App.nil | apply App.cons)
        apply Run.fx [9, 14] [1000] 14 (fun _ => [HA.row v 53 3 payC ((snk pre suf x (j + 1)).set (j + 1) pre[j])])
        · exact rfl
        · intro vs; apply ltr_pk; (repeat (first | exact Pk.nil | (apply Pk.pv; exact rfl; exact rfl) | (apply Pk.tok; exact rfl; exact rfl)))
          (refine ltr ?_; refine LT.fx (lt_storeRN (n := 3) (f := payC) (xs := snk pre suf x (j + 1)) (k := j + 1) (x' := pre[j]) rfl rfl (by omega) rfl) rfl)
        · repeat (first | exact App.nil | apply App.cons)
        refine ⟨⟨by kernel_rfl, by kernel_rfl⟩, fun vs => ?_⟩
        apply WL_auto [2, 4, 13]
        · repeat (first | exact Pk.nil | (apply Pk.pv; exact rfl; exact rfl) | (apply Pk.tok; exact rfl; exact rfl))
        · repeat (first | exact Nrm.nil | apply Nrm.cons)
        · kernel_rfl
        · kernel_rfl
        ((apply wl_indexRow; exact rfl; (repeat (first | exact At.here | apply At.there)); exact rfl; exact rfl; (first | assumption | omega | (simp; omega)); exact rfl))
        apply wl_storeRNx x
        · exact rfl
        · (repeat (first | exact At.here | apply At.there))
        · exact rfl
        · exact inferInstance
        · exact inferInstance
        · rw [List.length_set]; omega
        · rfl
        rw [snk_swap (by omega)]
        (refine WL_nil ?_; refine bl_norm ?_; refine th_norm ?_; refine W_region ?_; (apply wl_move; exact rfl; exact rfl); (apply wl_sub; exact rfl; exact rfl; omega; omega; exact rfl); (apply wl_assign; exact rfl; exact rfl); refine WL_nil ?_; refine th_norm ?_)
        rw [show (((j + 1 : Nat) : Int) - 1) = (j : Int) by omega]
        refine ⟨j, fun _ _ st => st_sub2 st ?_ ?_, ?_, ?_⟩
        · (repeat (first | exact trivial | refine ⟨rfl, ?_⟩))
        · (repeat (first | exact SubP.nil | (apply SubP.cons; (repeat (first | exact Rm.here | apply Rm.there)))))
        · exact ⟨by omega, hins2⟩
        · omega
  · have hkk : xs.length ≤ i := by simp at hin; omega
    rw [List.take_of_length_le hkk, List.drop_of_length_le hkk, List.append_nil]
    (refine W_exit ?_; refine th_exit ?_; refine th_exit ?_; refine bl_eq ?_; refine rt_norm ?_)
    (apply resK0; exact rfl; exact ⟨rfl, rfl⟩; (repeat (first | exact Cut.nil | (apply Cut.cons; (repeat (first | exact Rm.here | apply Rm.there))))))
end Go.Proofs.YtbkellknlcageaaDoor.Sw
