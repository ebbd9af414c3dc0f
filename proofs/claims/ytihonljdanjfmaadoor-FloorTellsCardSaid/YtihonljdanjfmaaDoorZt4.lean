/- Proofs for one card: FloorK, FloorL, Door8, FloorV, FloorW, FloorX, FloorY, FloorM, FloorOa, FloorOb, Gr. No condition of its own. -/
import Derived.ChangeSame
import Derived.Deep.Strs
import Derived.WalkKit
import Derived.Test.YtihonljdanjfmaaDoorZt3
namespace Go.Proofs.YtihonljdanjfmaaDoor.Sw
open Go.RowKit Go Go.Shelf Go.Proofs
theorem stks_of {ids : List Int} (h : rises 0 ids = true) : ∀ (t : List Stk) (last : Int), stksOk ids last t = (rises last (t.map Stk.fl) && !((t.map Stk.fl).any fun n => !decide (n ∈ ids)) && !(t.any fun s => !(decide (1 ≤ s.pt) && decide (s.pt ≤ 9))))
  | [], _ => rfl
  | s :: t, last => by
    rw [stksOk, stks_of h t, List.map_cons, rises, List.any_cons, List.any_cons]
    by_cases h1 : s.fl ∈ ids
    · have := rises_all h s.fl h1
      have e : decide (last < s.fl) = (decide (last + 1 ≤ s.fl) && decide (s.fl ≤ 9999)) := by
        rw [show decide (s.fl ≤ 9999) = true by simpa using this.2, Bool.and_true]; exact decide_eq_decide.2 (by omega)
      rw [e]
      simp only [h1, decide_true, Bool.not_true, Bool.false_or, Bool.and_true]
      generalize (decide (last + 1 ≤ s.fl) && decide (s.fl ≤ 9999)) = a
      generalize (decide (1 ≤ s.pt) && decide (s.pt ≤ 9)) = b
      cases a <;> cases b <;> simp
    · simp [h1]
def bilA (ids : List Int) (x : Bil) : Bool := decide (x.py ∈ ids) && (decide (1 ≤ x.pe) && decide (x.pe ≤ 1000000)) && decide (x.st ≠ [])
theorem bilOk_of {ids : List Int} (h : rises 0 ids = true) (x : Bil) : bilOk ids x = (bilA ids x && ofB (x.st.map Stk.fl) ids && !(x.st.any fun s => !(decide (1 ≤ s.pt) && decide (s.pt ≤ 9)))) := by
  unfold bilOk bilA ofB
  rw [stks_of h]
  simp only [Bool.and_assoc]
theorem bils_of (ids : List Int) : ∀ (t : List Bil) (last : Int), bilsOk ids last t = (t.all (bilOk ids) && rises last (t.map Bil.no))
  | [], _ => rfl
  | x :: t, last => by
    rw [bilsOk, bils_of ids t, List.all_cons, List.map_cons, rises]
    generalize (decide (last + 1 ≤ x.no) && decide (x.no ≤ 9999)) = a
    generalize bilOk ids x = b
    cases a <;> cases b <;> simp
theorem ofFloors_con {ids : List Int} (hl : ids.length ≤ 1000000) (l : List Stk) (hl2 : l.length ≤ 100000) : Con Tryd.prog 91 [.sl 1 iC (l.map Stk.fl), .sl 1 iC ids] [] (Is (.val (.bool (ofB (l.map Stk.fl) ids))) []) := of_con _ ids (by simp; omega) hl
set_option maxRecDepth 20000 in
set_option maxHeartbeats 4000000 in
theorem check3_con (f : Flo) (hS : Sml f) (hr : rises 0 f.ids = true) : Con Tryd.prog 217 [.agg (flC f)] [] (Is (.val (.bool (bilsOk f.ids 0 f.bs))) []) := by
  have hidsl := hS.ids
  have hbsl := hS.bs
  rw [bils_of]
  refine con_of Tryd.func217 rfl (enters_of Tryd.func217 (by kernel_rfl) rfl) rfl ?_; intro n w0 F0 G0
  (refine goSt ?_; (repeat (refine goAl ?_; intro p hp; refine goSt ?_)))
  refine W_loopJ (fun (b : Nat × Value) => ⟨[(1, .val p), (3, .val b.2), (7, .sl 4 biC f.bs), (8, .val (.int .i64 f.bs.length)), (9, .val (.int .i64 b.1))], [.row b.2 3 1 iC ((f.bs.map Bil.no).take b.1), .box p (flC f) 27]⟩) (fun b => b.1 ≤ f.bs.length ∧ (f.bs.take b.1).all (bilOk f.ids) = true) (fun b => f.bs.length - b.1) (0, .slice none 0 0) (fun _ _ st => st_sub2 (st_nil 3 1 iC st) (by exact goSubr) (by exact goSubp)) ⟨Nat.zero_le _, rfl⟩ ?_
  rintro ⟨k, v⟩ ⟨hk, hal⟩
  dsimp only at hk hal ⊢
  have hll : ((f.bs.map Bil.no).take k).length ≤ 100000 := by rw [List.length_take, List.length_map]; omega
  (refine goSt ?_; (repeat (refine goAl ?_; intro p hp; refine goSt ?_)))
  refine w_cond rfl (fun hlt => ?_) (fun hlt => ?_)
  · have hlt' : k < f.bs.length := by simpa using hlt
    have htk : (f.bs.map Bil.no).take (k + 1) = (f.bs.map Bil.no).take k ++ [f.bs[k].no] := by rw [List.take_succ_eq_append_getElem (by simpa using hlt'), List.getElem_map]
    have hbo := bilOk_of hr f.bs[k]
    have hno : bilOk f.ids f.bs[k] = false → (f.bs.all (bilOk f.ids) && rises 0 (f.bs.map Bil.no)) = false := fun h => by
      have : f.bs.all (bilOk f.ids) = false := by
        rw [← Bool.not_eq_true, List.all_eq_true]
        intro ha
        rw [ha _ (List.getElem_mem hlt')] at h; cases h
      rw [this]; rfl
    have hyes : bilOk f.ids f.bs[k] = true → (f.bs.take (k + 1)).all (bilOk f.ids) = true := fun h => by
      rw [List.take_succ_eq_append_getElem hlt', List.all_append, hal]; simpa using h
    have hstl := hS.st _ (List.getElem_mem hlt')
    have hM := ofFloors_con (ids := f.ids) (by omega) f.bs[k].st (by omega)
    have C1 := containsI_con f.ids f.bs[k].py (by omega)
    have C2 := inOne_con 1 1000000 f.bs[k].pe
    have C3 := floorsOf_con f.bs[k].st (by omega)
    (refine goSt ?_; (repeat (refine goAl ?_; intro p hp; refine goSt ?_)))
    (apply wl_litF iC; exact inferInstance; exact inferInstance; exact inferInstance; (repeat (first | exact Elems.nil | (apply Elems.cons; exact rfl; exact inferInstance; exact rfl))); exact rfl; (first | exact (of_decide_eq_true rfl) | decide | (simp; done) | (simp; omega)); exact rfl)
    (first | (apply wl_append; exact rfl; exact rfl; exact goRm; exact inferInstance; exact inferInstance; (first | omega | (simp; omega)); exact rfl) | (apply wl_appendN; exact rfl; exact rfl; exact inferInstance; exact inferInstance; (first | omega | (simp; omega)); exact rfl))
    intro v'
    rw [← htk]
    (refine goSt ?_; (repeat (refine goAl ?_; intro p hp; refine goSt ?_)))
    cases h1 : decide (f.bs[k].py ∈ f.ids) with
    | false =>
      rw [h1] at C1
      have hf := hno (by rw [hbo]; unfold bilA; rw [h1]; rfl)
      rw [hf]
      refine W_run 25 [18, 19, 20, 21, 22, 23, 24, 25, 26, 27, 28, 29, 30, 31, 32, 33, 34, 35, 36, 37, 38, 39, 40, 41, 42] [0, 1, 2, 3, 4, 5, 6, 7, 8, 9, 10, 11, 12, 13, 14, 15, 16, 17, 18, 19, 20, 21, 22, 23, 24] Cut.nil rfl goFlt mixedS (by kernel_rfl) rfl ?_
      refine rpv [] [] ?_
      refine rpv [0] [] ?_
      refine rpv [] [] ?_
      refine rpv [2] [] ?_
      refine Run.pv [1, 3] [] rfl (fun vs => by apply ltr_pk; exact goPk; (refine ltr ?_; refine lt_call ?_ (C1); exact rfl)) goApp ?_
      refine rpv [4] [] ?_
      refine rpv [5] [] ?_
      refine Run.no [6] [] rfl rfl (fun vs => by apply look_pk; exact goPk; exact rfl) (by exact rfl) goApp ?_
      refine Run.no [6, 7] [] rfl rfl (fun vs => by apply look_pk; exact goPk; exact rfl) (by exact rfl) goApp ?_
      refine Run.no [6, 8] [] rfl rfl (fun vs => by apply look_pk; exact goPk; exact rfl) (by exact rfl) goApp ?_
      refine Run.no [6, 9] [] rfl rfl (fun vs => by apply look_pk; exact goPk; exact rfl) (by exact rfl) goApp ?_
      refine Run.no [6, 10] [] rfl rfl (fun vs => by apply look_pk; exact goPk; exact rfl) (by exact rfl) goApp ?_
      refine rpv [6, 11] [] ?_
      refine rpv [12] [] ?_
      refine Run.no [13] [] rfl rfl (fun vs => by apply look_pk; exact goPk; exact rfl) (by exact rfl) goApp ?_
      refine Run.no [13, 14] [] rfl rfl (fun vs => by apply look_pk; exact goPk; exact rfl) (by exact rfl) goApp ?_
      refine Run.no [13, 15] [] rfl rfl (fun vs => by apply look_pk; exact goPk; exact rfl) (by exact rfl) goApp ?_
      refine Run.no [13, 16] [] rfl rfl (fun vs => by apply look_pk; exact goPk; exact rfl) (by exact rfl) goApp ?_
      refine rpv [13, 17] [] ?_
      refine rpv [18] [] ?_
      refine Run.no [19] [] rfl rfl (fun vs => by apply look_pk; exact goPk; exact rfl) (by exact rfl) goApp ?_
      refine Run.no [19, 20] [] rfl rfl (fun vs => by apply look_pk; exact goPk; exact rfl) (by exact rfl) goApp ?_
      refine Run.no [19, 21] [] rfl rfl (fun vs => by apply look_pk; exact goPk; exact rfl) (by exact rfl) goApp ?_
      refine Run.no [19] [] rfl rfl (fun vs => by apply look_pk; exact goPk; exact rfl) (by exact rfl) goApp ?_
      refine Run.no [19, 23] [] rfl rfl (fun vs => by apply look_pk; exact goPk; exact rfl) (by exact rfl) goApp ?_
      refine ⟨⟨by kernel_rfl, by kernel_rfl⟩, fun vs => ?_⟩
      apply WL_auto [19, 22, 24]
      · exact goPk
      · exact goNrm
      · kernel_rfl
      · kernel_rfl
      (refine goSt ?_; (repeat (refine goAl ?_; intro p hp; refine goSt ?_)))
      (apply res1; exact rfl; exact rfl; exact ⟨rfl, rfl⟩)
    | true =>
      rw [h1] at C1
      cases h2 : (decide (1 ≤ f.bs[k].pe) && decide (f.bs[k].pe ≤ 1000000)) with
      | false =>
        rw [h2] at C2
        have hf := hno (by rw [hbo]; unfold bilA; rw [h1, h2]; rfl)
        rw [hf]
        refine W_run 25 [18, 19, 20, 21, 22, 23, 24, 25, 26, 27, 28, 29, 30, 31, 32, 33, 34, 35, 36, 37, 38, 39, 40, 41, 42] [0, 1, 2, 3, 4, 5, 6, 7, 8, 9, 10, 11, 12, 13, 14, 15, 16, 17, 18, 19, 20, 21, 22, 23, 24] Cut.nil rfl goFlt mixedS (by kernel_rfl) rfl ?_
        refine rpv [] [] ?_
        refine rpv [0] [] ?_
        refine rpv [] [] ?_
        refine rpv [2] [] ?_
        refine Run.pv [1, 3] [] rfl (fun vs => by apply ltr_pk; exact goPk; (refine ltr ?_; refine lt_call ?_ (C1); exact rfl)) goApp ?_
        refine rpv [4] [] ?_
        refine rpv [5] [] ?_
        refine Run.yes [6] [] rfl rfl (fun vs => by apply look_pk; exact goPk; exact rfl) (fun vs => by apply ltr_pk; exact goPk; exact goLtr) goApp ?_
        refine Run.yes [6, 7] [] rfl rfl (fun vs => by apply look_pk; exact goPk; exact rfl) (fun vs => by apply ltr_pk; exact goPk; exact goLtr) goApp ?_
        refine Run.yes [6, 8] [] rfl rfl (fun vs => by apply look_pk; exact goPk; exact rfl) (fun vs => by apply ltr_pk; exact goPk; (refine ltr ?_; apply LT_frz; apply lt_lit (f := iC); (repeat (first | exact Elems.nil | (apply Elems.cons; exact rfl; exact inferInstance; exact rfl))); exact rfl; (first | exact (of_decide_eq_true rfl) | decide | (simp; done) | (simp; omega)))) goApp ?_
        refine Run.yes [6, 9] [] rfl rfl (fun vs => by apply look_pk; exact goPk; exact rfl) (fun vs => by apply ltr_pk; exact goPk; (refine ltr ?_; refine lt_call ?_ (C2); exact rfl)) goApp ?_
        refine Run.yes [6, 10] [] rfl rfl (fun vs => by apply look_pk; exact goPk; exact rfl) (fun vs => by apply ltr_pk; exact goPk; exact goLtr) goApp ?_
        refine rpv [6, 11] [] ?_
        refine rpv [12] [] ?_
        refine Run.no [13] [] rfl rfl (fun vs => by apply look_pk; exact goPk; exact rfl) (by exact rfl) goApp ?_
        refine Run.no [13, 14] [] rfl rfl (fun vs => by apply look_pk; exact goPk; exact rfl) (by exact rfl) goApp ?_
        refine Run.no [13, 15] [] rfl rfl (fun vs => by apply look_pk; exact goPk; exact rfl) (by exact rfl) goApp ?_
        refine Run.no [13, 16] [] rfl rfl (fun vs => by apply look_pk; exact goPk; exact rfl) (by exact rfl) goApp ?_
        refine rpv [13, 17] [] ?_
        refine rpv [18] [] ?_
        refine Run.no [19] [] rfl rfl (fun vs => by apply look_pk; exact goPk; exact rfl) (by exact rfl) goApp ?_
        refine Run.no [19, 20] [] rfl rfl (fun vs => by apply look_pk; exact goPk; exact rfl) (by exact rfl) goApp ?_
        refine Run.no [19, 21] [] rfl rfl (fun vs => by apply look_pk; exact goPk; exact rfl) (by exact rfl) goApp ?_
        refine Run.no [19] [] rfl rfl (fun vs => by apply look_pk; exact goPk; exact rfl) (by exact rfl) goApp ?_
        refine Run.no [19, 23] [] rfl rfl (fun vs => by apply look_pk; exact goPk; exact rfl) (by exact rfl) goApp ?_
        refine ⟨⟨by kernel_rfl, by kernel_rfl⟩, fun vs => ?_⟩
        apply WL_auto [19, 22, 24]
        · exact goPk
        · exact goNrm
        · kernel_rfl
        · kernel_rfl
        (refine goSt ?_; (repeat (refine goAl ?_; intro p hp; refine goSt ?_)))
        (apply res1; exact rfl; exact rfl; exact ⟨rfl, rfl⟩)
      | true =>
        rw [h2] at C2
        by_cases h3 : f.bs[k].st = []
        · have hf := hno (by rw [hbo]; unfold bilA; rw [h1, h2]; simp [h3])
          rw [hf]
          refine W_run 25 [18, 19, 20, 21, 22, 23, 24, 25, 26, 27, 28, 29, 30, 31, 32, 33, 34, 35, 36, 37, 38, 39, 40, 41, 42] [0, 1, 2, 3, 4, 5, 6, 7, 8, 9, 10, 11, 12, 13, 14, 15, 16, 17, 18, 19, 20, 21, 22, 23, 24] Cut.nil rfl goFlt mixedS (by kernel_rfl) rfl ?_
          refine rpv [] [] ?_
          refine rpv [0] [] ?_
          refine rpv [] [] ?_
          refine rpv [2] [] ?_
          refine Run.pv [1, 3] [] rfl (fun vs => by apply ltr_pk; exact goPk; (refine ltr ?_; refine lt_call ?_ (C1); exact rfl)) goApp ?_
          refine rpv [4] [] ?_
          refine rpv [5] [] ?_
          refine Run.yes [6] [] rfl rfl (fun vs => by apply look_pk; exact goPk; exact rfl) (fun vs => by apply ltr_pk; exact goPk; exact goLtr) goApp ?_
          refine Run.yes [6, 7] [] rfl rfl (fun vs => by apply look_pk; exact goPk; exact rfl) (fun vs => by apply ltr_pk; exact goPk; exact goLtr) goApp ?_
          refine Run.yes [6, 8] [] rfl rfl (fun vs => by apply look_pk; exact goPk; exact rfl) (fun vs => by apply ltr_pk; exact goPk; (refine ltr ?_; apply LT_frz; apply lt_lit (f := iC); (repeat (first | exact Elems.nil | (apply Elems.cons; exact rfl; exact inferInstance; exact rfl))); exact rfl; (first | exact (of_decide_eq_true rfl) | decide | (simp; done) | (simp; omega)))) goApp ?_
          refine Run.yes [6, 9] [] rfl rfl (fun vs => by apply look_pk; exact goPk; exact rfl) (fun vs => by apply ltr_pk; exact goPk; (refine ltr ?_; refine lt_call ?_ (C2); exact rfl)) goApp ?_
          refine Run.yes [6, 10] [] rfl rfl (fun vs => by apply look_pk; exact goPk; exact rfl) (fun vs => by apply ltr_pk; exact goPk; exact goLtr) goApp ?_
          refine rpv [6, 11] [] ?_
          refine rpv [12] [] ?_
          refine Run.yes [13] [] rfl rfl (fun vs => by apply look_pk; exact goPk; exact rfl) (fun vs => by apply ltr_pk; exact goPk; exact goLtr) goApp ?_
          refine Run.yes [13, 14] [] rfl rfl (fun vs => by apply look_pk; exact goPk; exact rfl) (fun vs => by apply ltr_pk; exact goPk; exact goLtr) goApp ?_
          refine Run.yes [13, 15] [] rfl rfl (fun vs => by apply look_pk; exact goPk; exact rfl) (fun vs => by apply ltr_pk; exact goPk; exact goLtr) goApp ?_
          refine Run.yes [13, 16] [] rfl rfl (fun vs => by apply look_pk; exact goPk; exact rfl) (fun vs => by apply ltr_pk; exact goPk; (refine ltr ?_; apply LT_bool true; apply lt_eql; exact rfl; exact rfl; simp [h3])) goApp ?_
          refine rpv [13, 17] [] ?_
          refine rpv [18] [] ?_
          refine Run.no [19] [] rfl rfl (fun vs => by apply look_pk; exact goPk; exact rfl) (by exact rfl) goApp ?_
          refine Run.no [19, 20] [] rfl rfl (fun vs => by apply look_pk; exact goPk; exact rfl) (by exact rfl) goApp ?_
          refine Run.no [19, 21] [] rfl rfl (fun vs => by apply look_pk; exact goPk; exact rfl) (by exact rfl) goApp ?_
          refine Run.no [19] [] rfl rfl (fun vs => by apply look_pk; exact goPk; exact rfl) (by exact rfl) goApp ?_
          refine Run.no [19, 23] [] rfl rfl (fun vs => by apply look_pk; exact goPk; exact rfl) (by exact rfl) goApp ?_
          refine ⟨⟨by kernel_rfl, by kernel_rfl⟩, fun vs => ?_⟩
          apply WL_auto [19, 22, 24]
          · exact goPk
          · exact goNrm
          · kernel_rfl
          · kernel_rfl
          (refine goSt ?_; (repeat (refine goAl ?_; intro p hp; refine goSt ?_)))
          (apply res1; exact rfl; exact rfl; exact ⟨rfl, rfl⟩)
        · have hA : bilA f.ids f.bs[k] = true := by unfold bilA; rw [h1, h2]; simp [h3]
          rw [hA, Bool.true_and] at hbo
          refine W_run 25 [18, 19, 20, 21, 22, 23, 24, 25, 26, 27, 28, 29, 30, 31, 32, 33, 34, 35, 36, 37, 38, 39, 40, 41, 42] [0, 1, 2, 3, 4, 5, 6, 7, 8, 9, 10, 11, 12, 13, 14, 15, 16, 17, 18, 19, 20, 21, 22, 23, 24] Cut.nil rfl goFlt mixedS (by kernel_rfl) rfl ?_
          refine rpv [] [] ?_
          refine rpv [0] [] ?_
          refine rpv [] [] ?_
          refine rpv [2] [] ?_
          refine Run.pv [1, 3] [] rfl (fun vs => by apply ltr_pk; exact goPk; (refine ltr ?_; refine lt_call ?_ (C1); exact rfl)) goApp ?_
          refine rpv [4] [] ?_
          refine rpv [5] [] ?_
          refine Run.yes [6] [] rfl rfl (fun vs => by apply look_pk; exact goPk; exact rfl) (fun vs => by apply ltr_pk; exact goPk; exact goLtr) goApp ?_
          refine Run.yes [6, 7] [] rfl rfl (fun vs => by apply look_pk; exact goPk; exact rfl) (fun vs => by apply ltr_pk; exact goPk; exact goLtr) goApp ?_
          refine Run.yes [6, 8] [] rfl rfl (fun vs => by apply look_pk; exact goPk; exact rfl) (fun vs => by apply ltr_pk; exact goPk; (refine ltr ?_; apply LT_frz; apply lt_lit (f := iC); (repeat (first | exact Elems.nil | (apply Elems.cons; exact rfl; exact inferInstance; exact rfl))); exact rfl; (first | exact (of_decide_eq_true rfl) | decide | (simp; done) | (simp; omega)))) goApp ?_
          refine Run.yes [6, 9] [] rfl rfl (fun vs => by apply look_pk; exact goPk; exact rfl) (fun vs => by apply ltr_pk; exact goPk; (refine ltr ?_; refine lt_call ?_ (C2); exact rfl)) goApp ?_
          refine Run.yes [6, 10] [] rfl rfl (fun vs => by apply look_pk; exact goPk; exact rfl) (fun vs => by apply ltr_pk; exact goPk; exact goLtr) goApp ?_
          refine rpv [6, 11] [] ?_
          refine rpv [12] [] ?_
          refine Run.yes [13] [] rfl rfl (fun vs => by apply look_pk; exact goPk; exact rfl) (fun vs => by apply ltr_pk; exact goPk; exact goLtr) goApp ?_
          refine Run.yes [13, 14] [] rfl rfl (fun vs => by apply look_pk; exact goPk; exact rfl) (fun vs => by apply ltr_pk; exact goPk; exact goLtr) goApp ?_
          refine Run.yes [13, 15] [] rfl rfl (fun vs => by apply look_pk; exact goPk; exact rfl) (fun vs => by apply ltr_pk; exact goPk; exact goLtr) goApp ?_
          refine Run.yes [13, 16] [] rfl rfl (fun vs => by apply look_pk; exact goPk; exact rfl) (fun vs => by apply ltr_pk; exact goPk; (refine ltr ?_; apply LT_bool false; apply lt_eql; exact rfl; exact rfl; (have := List.length_pos_iff.2 h3; simp; omega))) goApp ?_
          refine rpv [13, 17] [] ?_
          refine rpv [18] [] ?_
          refine Run.yes [19] [] rfl rfl (fun vs => by apply look_pk; exact goPk; exact rfl) (fun vs => by apply ltr_pk; exact goPk; exact goLtr) goApp ?_
          refine Run.yes [19, 20] [] rfl rfl (fun vs => by apply look_pk; exact goPk; exact rfl) (fun vs => by apply ltr_pk; exact goPk; exact goLtr) goApp ?_
          refine Run.yes [19, 21] [] rfl rfl (fun vs => by apply look_pk; exact goPk; exact rfl) (fun vs => by apply ltr_pk; exact goPk; (refine ltr ?_; refine lt_call ?_ (C3); exact rfl)) goApp ?_
          refine Run.yes [19] [] rfl rfl (fun vs => by apply look_pk; exact goPk; exact rfl) (fun vs => by apply ltr_pk; exact goPk; exact goLtr) goApp ?_
          refine Run.yes [19, 23] [] rfl rfl (fun vs => by apply look_pk; exact goPk; exact rfl) (fun vs => by apply ltr_pk; exact goPk; exact goLtr) goApp ?_
          refine ⟨⟨by kernel_rfl, by kernel_rfl⟩, fun vs => ?_⟩
          apply WL_auto [19, 22, 24]
          · exact goPk
          · exact goNrm
          · kernel_rfl
          · kernel_rfl
          (refine goSt ?_; (repeat (refine goAl ?_; intro p hp; refine goSt ?_)))
          (first | (apply wl_call (hM); exact rfl; exact rfl) | (apply wl_callR (hM); exact rfl; exact goAtm; exact rfl))
          (refine goSt ?_; (repeat (refine goAl ?_; intro p hp; refine goSt ?_)))
          refine w_cond rfl (fun g => ?_) (fun g => ?_)
          · have hf := hno (by rw [hbo]; simp only [Bool.not_eq_true'] at g; rw [g]; rfl)
            rw [hf]
            (refine goSt ?_; (repeat (refine goAl ?_; intro p hp; refine goSt ?_)))
            (apply res1; exact rfl; exact rfl; exact ⟨rfl, rfl⟩)
          · have g' : ofB (f.bs[k].st.map Stk.fl) f.ids = true := by simpa using g
            rw [g', Bool.true_and] at hbo
            (refine goSt ?_; (repeat (refine goAl ?_; intro p hp; refine goSt ?_)))
            have C5 := containsFuncS_con f.bs[k].st 220 [] _ (by omega) (fun s _ => chk31_con s)
            (first | (apply wl_call (C5); exact rfl; exact rfl) | (apply wl_callR (C5); exact rfl; exact goAtm; exact rfl))
            (refine goSt ?_; (repeat (refine goAl ?_; intro p hp; refine goSt ?_)))
            refine w_cond rfl (fun g2 => ?_) (fun g2 => ?_)
            · have hf := hno (by rw [hbo, g2]; rfl)
              rw [hf]
              (refine goSt ?_; (repeat (refine goAl ?_; intro p hp; refine goSt ?_)))
              (apply res1; exact rfl; exact rfl; exact ⟨rfl, rfl⟩)
            · have hy := hyes (by rw [hbo, g2]; rfl)
              (refine goSt ?_; (repeat (refine goAl ?_; intro p hp; refine goSt ?_)))
              (refine ⟨(k + 1, v'), fun _ _ st => st_sub2 st ?_ ?_, ?_, ?_⟩; exact goSubr; exact goSubp)
              · exact ⟨by dsimp only; omega, hy⟩
              · dsimp only; omega
  · have hkk : k = f.bs.length := by simp at hlt; omega
    subst hkk
    rw [List.take_length] at hal
    rw [List.take_of_length_le (by simp), hal, Bool.true_and]
    (apply W_frz 3; exact rfl; exact goRm)
    (refine goSt ?_; (repeat (refine goAl ?_; intro p hp; refine goSt ?_)))
    (first | (apply wl_call (rising_con (f.bs.map Bil.no) (by simp; omega)); exact rfl; exact rfl) | (apply wl_callR (rising_con (f.bs.map Bil.no) (by simp; omega)); exact rfl; exact goAtm; exact rfl))
    (refine goSt ?_; (repeat (refine goAl ?_; intro p hp; refine goSt ?_)))
    (apply res1; exact rfl; exact rfl; exact ⟨rfl, rfl⟩)
end Go.Proofs.YtihonljdanjfmaaDoor.Sw
namespace Go.Proofs.YtihonljdanjfmaaDoor.Sw
open Go.RowKit Go Go.Shelf Go.Proofs
def chk8 : List AV := [.clo 215 [], .clo 216 [], .clo 217 [], .clo 221 []]
abbrev tab8 : HA := HA.glob 0 chk8
def errF (f : Flo) : Int := if floOk f = true then 0 else 80
def chkA (f : Flo) : Bool := decide (f.ids.length ≤ 6) && decide (f.bs.length ≤ 10) && decide (f.ps.length ≤ 12) && rises 0 f.ids
set_option maxRecDepth 20000 in
set_option maxHeartbeats 4000000 in
theorem check_con (f : Flo) (hS : Sml f) : Con Tryd.prog 22 [.agg (flC f)] [tab8] (Is (.val (.int .i64 (errF f))) [tab8]) := by
  have hE : errF f = (if (chkA f && qusOk f.ids none f.qs && bilsOk f.ids 0 f.bs && paysOk f.ids f.ps) = true then 0 else 80) := rfl
  rw [hE]
  clear hE
  refine con_of Tryd.func22 rfl (enters_of Tryd.func22 (by kernel_rfl) rfl) rfl ?_; intro n w0 F0 G0
  (refine goSt ?_; (repeat (refine goAl ?_; intro p hp; refine goSt ?_)))
  refine W_rounds 5 (WR_step ?_)
  have C0 := check1_con f hS
  rw [show (decide (f.ids.length ≤ 6) && decide (f.bs.length ≤ 10) && decide (f.ps.length ≤ 12) && rises 0 f.ids) = chkA f from rfl] at C0
  (refine goSt ?_; (repeat (refine goAl ?_; intro p hp; refine goSt ?_)))
  (apply wl_indexVN (e := 122) (n := 1); exact (show Tryd.prog.underlying 123 = some (.array 4 122) by kernel_rfl); exact rfl; exact rfl; exact (show _ = ((0 : Nat) : Int) from rfl); decide; exact (show _ = [AV.clo 215 []] from rfl); exact rfl)
  (refine goSt ?_; (repeat (refine goAl ?_; intro p hp; refine goSt ?_)))
  (apply wl_callV0 (C0); exact rfl; exact rfl; exact rfl)
  (refine goSt ?_; (repeat (refine goAl ?_; intro p hp; refine goSt ?_)))
  cases h0 : chkA f with
  | false =>
    simp only [Bool.true_and, Bool.false_and, Bool.and_false, Bool.false_eq_true, if_false, Bool.not_false]
    (refine goSt ?_; (repeat (refine goAl ?_; intro p hp; refine goSt ?_)))
    (apply resK; exact rfl; exact rfl; (apply Cut.cons (h := tab8); exact goRm; exact Cut.nil); exact ⟨rfl, rfl⟩)
  | true =>
    simp only [Bool.true_and, Bool.and_true, Bool.not_true]
    (refine goSt ?_; (repeat (refine goAl ?_; intro p hp; refine goSt ?_)))
    have hr : rises 0 f.ids = true := by unfold chkA at h0; simp only [Bool.and_eq_true] at h0; exact h0.2
    (refine goSt ?_; (repeat (refine goAl ?_; intro p hp; refine goSt ?_)))
    (apply wl_indexVN (e := 122) (n := 1); exact (show Tryd.prog.underlying 123 = some (.array 4 122) by kernel_rfl); exact rfl; exact rfl; exact (show _ = ((1 : Nat) : Int) from rfl); decide; exact (show _ = [AV.clo 216 []] from rfl); exact rfl)
    (refine goSt ?_; (repeat (refine goAl ?_; intro p hp; refine goSt ?_)))
    (apply wl_callV0 (check2_con f hS hr); exact rfl; exact rfl; exact rfl)
    (refine goSt ?_; (repeat (refine goAl ?_; intro p hp; refine goSt ?_)))
    cases h1 : qusOk f.ids none f.qs with
    | false =>
      simp only [Bool.true_and, Bool.false_and, Bool.and_false, Bool.false_eq_true, if_false, Bool.not_false]
      (refine goSt ?_; (repeat (refine goAl ?_; intro p hp; refine goSt ?_)))
      (apply resK; exact rfl; exact rfl; (apply Cut.cons (h := tab8); exact goRm; exact Cut.nil); exact ⟨rfl, rfl⟩)
    | true =>
      simp only [Bool.true_and, Bool.and_true, Bool.not_true]
      (refine goSt ?_; (repeat (refine goAl ?_; intro p hp; refine goSt ?_)))
      (refine goSt ?_; (repeat (refine goAl ?_; intro p hp; refine goSt ?_)))
      (apply wl_indexVN (e := 122) (n := 1); exact (show Tryd.prog.underlying 123 = some (.array 4 122) by kernel_rfl); exact rfl; exact rfl; exact (show _ = ((2 : Nat) : Int) from rfl); decide; exact (show _ = [AV.clo 217 []] from rfl); exact rfl)
      (refine goSt ?_; (repeat (refine goAl ?_; intro p hp; refine goSt ?_)))
      (apply wl_callV0 (check3_con f hS hr); exact rfl; exact rfl; exact rfl)
      (refine goSt ?_; (repeat (refine goAl ?_; intro p hp; refine goSt ?_)))
      cases h2 : bilsOk f.ids 0 f.bs with
      | false =>
        simp only [Bool.true_and, Bool.false_and, Bool.and_false, Bool.false_eq_true, if_false, Bool.not_false]
        (refine goSt ?_; (repeat (refine goAl ?_; intro p hp; refine goSt ?_)))
        (apply resK; exact rfl; exact rfl; (apply Cut.cons (h := tab8); exact goRm; exact Cut.nil); exact ⟨rfl, rfl⟩)
      | true =>
        simp only [Bool.true_and, Bool.and_true, Bool.not_true]
        (refine goSt ?_; (repeat (refine goAl ?_; intro p hp; refine goSt ?_)))
        (refine goSt ?_; (repeat (refine goAl ?_; intro p hp; refine goSt ?_)))
        (apply wl_indexVN (e := 122) (n := 1); exact (show Tryd.prog.underlying 123 = some (.array 4 122) by kernel_rfl); exact rfl; exact rfl; exact (show _ = ((3 : Nat) : Int) from rfl); decide; exact (show _ = [AV.clo 221 []] from rfl); exact rfl)
        (refine goSt ?_; (repeat (refine goAl ?_; intro p hp; refine goSt ?_)))
        (apply wl_callV0 (check4_con f hS); exact rfl; exact rfl; exact rfl)
        (refine goSt ?_; (repeat (refine goAl ?_; intro p hp; refine goSt ?_)))
        cases h3 : paysOk f.ids f.ps with
        | false =>
          simp only [Bool.true_and, Bool.false_and, Bool.and_false, Bool.false_eq_true, if_false, Bool.not_false]
          (refine goSt ?_; (repeat (refine goAl ?_; intro p hp; refine goSt ?_)))
          (apply resK; exact rfl; exact rfl; (apply Cut.cons (h := tab8); exact goRm; exact Cut.nil); exact ⟨rfl, rfl⟩)
        | true =>
          simp only [Bool.true_and, Bool.and_true, Bool.not_true]
          (refine goSt ?_; (repeat (refine goAl ?_; intro p hp; refine goSt ?_)))
          (refine goSt ?_; (repeat (refine goAl ?_; intro p hp; refine goSt ?_)))
          rw [if_pos trivial]
          (apply resK; exact rfl; exact rfl; (apply Cut.cons (h := tab8); exact goRm; exact Cut.nil); exact ⟨rfl, rfl⟩)
end Go.Proofs.YtihonljdanjfmaaDoor.Sw
namespace Go.Proofs.YtihonljdanjfmaaDoor
open Go Go.ChangeShapes Go.WideShapes Go.ChangeAt Go.RowKit
def laidL : List (String × DataW Unit) := [("aguador/floor.checks", Rows.laid_aguador_floor_checks)]
set_option maxRecDepth 100000 in
theorem door_met (os : Os) (args : Array Value) : laidMetH Tryd.prog laidL ((World.doorLaid Tryd.prog 400 os).forCall (fun _ _ => 0) ⟨#[], args, []⟩).memory :=
  laidMetH_of_parts3 (fuel := 8) (laidMet_of_run' 8 (by kernel_rfl) (by kernel_rfl)) (by kernel_rfl) (by kernel_rfl)
end Go.Proofs.YtihonljdanjfmaaDoor
namespace Go.Proofs.YtihonljdanjfmaaDoor.Sw
open Go Go.RowKit Go.ChangeShapes Go.WideShapes Go.ChangeAt
set_option maxRecDepth 100000
theorem tab_of8 {W : World} {L : List (String × DataW Unit)} (hm : ("aguador/floor.checks", Rows.laid_aguador_floor_checks) ∈ L) (h : laidMetH Tryd.prog L W) : hsP [tab8] (gh W) [] W := by
  obtain ⟨g, t, cs, fuel, p, hg, ht, hv, hd⟩ := h.funcs (n := "aguador/floor.checks") hm
  obtain rfl := Option.some.inj ((show Tryd.prog.globalNamed "aguador/floor.checks" = some 0 by kernel_rfl).symm.trans hg)
  obtain rfl := Option.some.inj ((show (Tryd.prog.globals[0]?).map (·.type) = some 123 by kernel_rfl).symm.trans ht)
  have hd' : DataW.trod (funcToken Tryd.prog) Tryd.prog W 0 (fun _ => true) true fuel 123 cs.toList = some (.agg [.agg [.held [97, 103, 117, 97, 100, 111, 114, 47, 102, 108, 111, 111, 114, 46, 99, 104, 101, 99, 107, 115, 36, 49]], .agg [.held [97, 103, 117, 97, 100, 111, 114, 47, 102, 108, 111, 111, 114, 46, 99, 104, 101, 99, 107, 115, 36, 50]], .agg [.held [97, 103, 117, 97, 100, 111, 114, 47, 102, 108, 111, 111, 114, 46, 99, 104, 101, 99, 107, 115, 36, 51]], .agg [.held [97, 103, 117, 97, 100, 111, 114, 47, 102, 108, 111, 111, 114, 46, 99, 104, 101, 99, 107, 115, 36, 52]]], p) := hd
  obtain ⟨xs, m, rfl, hx, hlen, hn, hel⟩ := DataW.trod_array Tryd.underlying123 hd'
  rw [show Tryd.prog.cellsOf 122 = 1 by kernel_rfl] at hel
  rw [show Tryd.prog.cellsOf 123 = 4 by kernel_rfl] at hlen
  obtain ⟨cl⟩ := cs
  match cl, hlen, xs, hn with
  | [v0, v1, v2, v3], _, [x0, x1, x2, x3], _ =>
    simp only [Prod.mk.injEq, DataW.agg.injEq, List.map_cons, List.map_nil, List.cons.injEq] at hx
    have h0 := hel 0 (by decide); have h1 := hel 1 (by decide); have h2 := hel 2 (by decide); have h3 := hel 3 (by decide)
    simp at h0 h1 h2 h3
    have go : ∀ (v : Value) (x : DataW (List UInt8) × List MemPlace) (b : UInt8) (r : List UInt8) (f0 : FuncId), ((List.range Tryd.prog.funcs.size).filter fun f => (Tryd.prog.funcs[f]?).any (·.name.toUTF8.data.toList == b :: r)) = [f0] →
        DataW.trod (funcToken Tryd.prog) Tryd.prog W 0 (fun _ => true) true m 122 [v] = some x → x.1 = .agg [.held (b :: r)] → v = .func (.func f0) #[] #[] := by
      intro v x b r f0 hone h hx
      obtain ⟨y, n, rfl, _, hy⟩ := trod_struct1 Tryd.underlying122 h
      simp only [DataW.agg.injEq, List.cons.injEq, and_true] at hx
      obtain ⟨y1, y2⟩ := y
      simp only at hx
      subst hx
      exact func_of_trod (P := Tryd.prog) Tryd.underlying28 hone (by simpa [show Tryd.prog.cellsOf 28 = 1 by kernel_rfl] using hy)
    have e0 := go v0 x0 _ _ 215 (by kernel_rfl) h0 hx.1.1.symm
    have e1 := go v1 x1 _ _ 216 (by kernel_rfl) h1 hx.1.2.1.symm
    have e2 := go v2 x2 _ _ 217 (by kernel_rfl) h2 hx.1.2.2.1.symm
    have e3 := go v3 x3 _ _ 221 (by kernel_rfl) h3 hx.1.2.2.2.1.symm
    subst e0; subst e1; subst e2; subst e3
    have hc := World.var?_cell hg hv
    have hfit : Fits (gh W) chk8 [.func (.func 215) #[] #[], .func (.func 216) #[] #[], .func (.func 217) #[] #[], .func (.func 221) #[] #[]] :=
      show Fits (gh W) [_, _, _, _] _ from ⟨⟨[], rfl, trivial⟩, ⟨[], rfl, trivial⟩, ⟨[], rfl, trivial⟩, ⟨[], rfl, trivial⟩, trivial⟩
    refine ⟨[], [], .refl _, ⟨rfl, _, hfit, fun j u e => ?_⟩, rfl⟩
    have := hc j
    exact cellG_gh (by simpa [e] using this)
theorem reads_2 {t : TypeId} {f0 f1 : Field} {α β : Type} {g0 : α → AV} {g1 : β → AV} (ht : Tryd.prog.underlying t = some (.struct #[f0, f1])) (hone : Go.Deep.oneCellFields Tryd.prog #[f0, f1] = true) (hC : Tryd.prog.cellsOf t = 2)
    (h0 : Reads f0.type fun x => [g0 x]) (h1 : Reads f1.type fun x => [g1 x]) : Reads t fun x : α × β => [g0 x.1, g1 x.2] := fun {H enc W n cs y} h => by
  obtain ⟨y0, y1, n, _, hl, k0, k1⟩ := trod_struct2 ht h
  rw [hC] at hl
  obtain ⟨o0, c0⟩ := Go.Deep.hone_of hone 0 f0 rfl
  obtain ⟨o1, c1⟩ := Go.Deep.hone_of hone 1 f1 rfl
  match cs, hl with
  | [v0, v1], _ =>
    obtain ⟨x0, e0, _⟩ := h0 (by simpa [o0, c0] using k0)
    obtain ⟨x1, e1, _⟩ := h1 (by simpa [o1, c1] using k1)
    exact ⟨⟨x0, x1⟩, e0, e1, trivial⟩
theorem reads_3 {t : TypeId} {f0 f1 f2 : Field} {α β γ : Type} {g0 : α → AV} {g1 : β → AV} {g2 : γ → AV} (ht : Tryd.prog.underlying t = some (.struct #[f0, f1, f2])) (hone : Go.Deep.oneCellFields Tryd.prog #[f0, f1, f2] = true) (hC : Tryd.prog.cellsOf t = 3)
    (h0 : Reads f0.type fun x => [g0 x]) (h1 : Reads f1.type fun x => [g1 x]) (h2 : Reads f2.type fun x => [g2 x]) : Reads t fun x : α × β × γ => [g0 x.1, g1 x.2.1, g2 x.2.2] := fun {H enc W n cs y} h => by
  obtain ⟨y0, y1, y2, n, _, hl, k0, k1, k2⟩ := Go.Deep.trod_struct3 ht h
  rw [hC] at hl
  obtain ⟨o0, c0⟩ := Go.Deep.hone_of hone 0 f0 rfl
  obtain ⟨o1, c1⟩ := Go.Deep.hone_of hone 1 f1 rfl
  obtain ⟨o2, c2⟩ := Go.Deep.hone_of hone 2 f2 rfl
  match cs, hl with
  | [v0, v1, v2], _ =>
    obtain ⟨x0, e0, _⟩ := h0 (by simpa [o0, c0] using k0)
    obtain ⟨x1, e1, _⟩ := h1 (by simpa [o1, c1] using k1)
    obtain ⟨x2, e2, _⟩ := h2 (by simpa [o2, c2] using k2)
    exact ⟨⟨x0, x1, x2⟩, e0, e1, e2, trivial⟩
theorem reads_q : Reads 55 quC := fun {H enc W n cs y} h =>
  let ⟨x, hx⟩ := reads_2 Tryd.underlying55 (by kernel_rfl) (by kernel_rfl) reads_i reads_i h
  ⟨⟨x.1, x.2⟩, hx⟩
theorem reads_st : Reads 113 stC := fun {H enc W n cs y} h =>
  let ⟨x, hx⟩ := reads_2 Tryd.underlying113 (by kernel_rfl) (by kernel_rfl) reads_i reads_i h
  ⟨⟨x.1, x.2⟩, hx⟩
theorem reads_p : Reads 53 payC := fun {H enc W n cs y} h =>
  let ⟨x, hx⟩ := reads_3 Tryd.underlying53 (by kernel_rfl) (by kernel_rfl) reads_i reads_i reads_i h
  ⟨⟨x.1, x.2.1, x.2.2⟩, hx⟩
theorem reads_qs : Reads 23 fun xs : List Qu => [AV.sl 2 quC xs] := reads_sl Tryd.underlying23 (n := 2) (by kernel_rfl) (by decide) (fun _ => rfl) reads_q
theorem reads_sts : Reads 64 fun xs : List Stk => [AV.sl 2 stC xs] := reads_sl Tryd.underlying64 (n := 2) (by kernel_rfl) (by decide) (fun _ => rfl) reads_st
theorem reads_ps : Reads 25 fun xs : List Pay => [AV.sl 3 payC xs] := reads_sl Tryd.underlying25 (n := 3) (by kernel_rfl) (by decide) (fun _ => rfl) reads_p
theorem reads_b : Reads 66 biC := fun {H enc W n cs y} h =>
  let ⟨x, hx⟩ := reads_4 Tryd.underlying66 (by kernel_rfl) (by kernel_rfl) reads_i reads_i reads_i reads_sts h
  ⟨⟨x.1, x.2.1, x.2.2.1, x.2.2.2⟩, hx⟩
theorem reads_bs : Reads 24 fun xs : List Bil => [AV.sl 4 biC xs] := reads_sl Tryd.underlying24 (n := 4) (by kernel_rfl) (by decide) (fun _ => rfl) reads_b
theorem reads_f : Reads 27 flC := fun {H enc W n cs y} h =>
  let ⟨x, hx⟩ := reads_4 Tryd.underlying27 (by kernel_rfl) (by kernel_rfl) reads_is reads_qs reads_bs reads_ps h
  ⟨⟨x.1, x.2.1, x.2.2.1, x.2.2.2⟩, hx⟩
end Go.Proofs.YtihonljdanjfmaaDoor.Sw
namespace Go.Proofs.YtihonljdanjfmaaDoor.Sw
open Go.RowKit Go Go.Shelf Go.Proofs
def sumPt : List Stk → Int
  | [] => 0
  | s :: t => s.pt + sumPt t
def addAt (l : List Int) (i : Nat) (d : Int) : List Int := l.set i (l[i]?.getD 0 + d)
def putAll (ids : List Int) (pe all : Int) : List Stk → List Int → List Int
  | [], l => l
  | s :: t, l => putAll ids pe all t (l.set (ids.idxOf s.fl) (pe * s.pt / all))
def incAll (ids : List Int) : List Stk → List Int → List Int
  | [], l => l
  | s :: t, l => incAll ids t (addAt l (ids.idxOf s.fl) 1)
def leftQ (pe all : Int) : List Stk → Int → Int
  | [], n => n
  | s :: t, n => leftQ pe all t (n - pe * s.pt / all)
def sharesR (ids : List Int) (x : Bil) : List Int := incAll ids (x.st.take (leftQ x.pe (sumPt x.st) x.st x.pe).toNat) (putAll ids x.pe (sumPt x.st) x.st (List.replicate ids.length 0))
def subL (l m : List Int) : List Int := List.zipWith (· - ·) l m
def bilFold (ids : List Int) : List Bil → List Int → List Int
  | [], l => l
  | x :: t, l => bilFold ids t (subL (addAt l (ids.idxOf x.py) x.pe) (sharesR ids x))
def payStep (ids : List Int) (x : Pay) (l : List Int) : List Int := addAt (addAt l (ids.idxOf x.a) x.p) (ids.idxOf x.b) (-x.p)
def payFold (ids : List Int) : List Pay → List Int → List Int
  | [], l => l
  | x :: t, l => payFold ids t (payStep ids x l)
def owed8 (f : Flo) : List Int := payFold f.ids f.ps (bilFold f.ids f.bs (List.replicate f.ids.length 0))
/-- What a valid bill gives. -/
theorem stks_all {ids : List Int} : ∀ {t : List Stk} {last : Int}, stksOk ids last t = true → ∀ s ∈ t, s.fl ∈ ids ∧ 1 ≤ s.pt ∧ s.pt ≤ 9
  | [], _, _, s, hs => by cases hs
  | x :: t, last, h, s, hs => by
    simp only [stksOk, Bool.and_eq_true, decide_eq_true_eq] at h
    rcases List.mem_cons.1 hs with rfl | hs
    · exact ⟨h.1.1.2, h.1.2.1, h.1.2.2⟩
    · exact stks_all h.2 s hs
structure BilF (ids : List Int) (x : Bil) : Prop where
  py : x.py ∈ ids
  pe0 : 1 ≤ x.pe
  pe1 : x.pe ≤ 1000000
  ne : x.st ≠ []
  st : ∀ s ∈ x.st, s.fl ∈ ids ∧ 1 ≤ s.pt ∧ s.pt ≤ 9
theorem bil_f {ids : List Int} {x : Bil} (h : bilOk ids x = true) : BilF ids x := by
  simp only [bilOk, Bool.and_eq_true, decide_eq_true_eq] at h
  exact ⟨h.1.1.1, h.1.1.2.1, h.1.1.2.2, h.1.2, stks_all h.2⟩
theorem bils_all {ids : List Int} : ∀ {t : List Bil} {last : Int}, bilsOk ids last t = true → ∀ x ∈ t, BilF ids x
  | [], _, _, s, hs => by cases hs
  | x :: t, last, h, s, hs => by
    simp only [bilsOk, Bool.and_eq_true, decide_eq_true_eq] at h
    rcases List.mem_cons.1 hs with rfl | hs
    · exact bil_f h.1.2
    · exact bils_all h.2 s hs
theorem pay_f {ids : List Int} {x : Pay} (h : payOk ids x = true) : x.a ∈ ids ∧ x.b ∈ ids ∧ x.a ≠ x.b ∧ 1 ≤ x.p ∧ x.p ≤ 1000000 := by
  simp only [payOk, Bool.and_eq_true, decide_eq_true_eq] at h
  exact ⟨h.1.1.1, h.1.1.2, h.1.2, h.2.1, h.2.2⟩
theorem pays_all {ids : List Int} : ∀ {t : List Pay}, paysOk ids t = true → ∀ x ∈ t, x.a ∈ ids ∧ x.b ∈ ids ∧ x.a ≠ x.b ∧ 1 ≤ x.p ∧ x.p ≤ 1000000
  | [], _, s, hs => by cases hs
  | x :: t, h, s, hs => by
    simp only [paysOk, Bool.and_eq_true] at h
    rcases List.mem_cons.1 hs with rfl | hs
    · exact pay_f h.1
    · exact pays_all h.2 s hs
structure FloF (f : Flo) : Prop where
  ids : f.ids.length ≤ 6
  bs : f.bs.length ≤ 10
  ps : f.ps.length ≤ 12
  bil : ∀ x ∈ f.bs, BilF f.ids x
  pay : ∀ x ∈ f.ps, x.a ∈ f.ids ∧ x.b ∈ f.ids ∧ x.a ≠ x.b ∧ 1 ≤ x.p ∧ x.p ≤ 1000000
theorem flo_f {f : Flo} (h : floOk f = true) : FloF f := by
  simp only [floOk, Bool.and_eq_true, decide_eq_true_eq] at h
  exact ⟨h.1.1.1.1.1.1, h.1.1.1.1.1.2, h.1.1.1.1.2, bils_all h.1.2, pays_all h.2⟩
theorem sumPt_bounds {t : List Stk} (h : ∀ s ∈ t, 1 ≤ s.pt ∧ s.pt ≤ 9) : (t.length : Int) ≤ sumPt t ∧ sumPt t ≤ 9 * t.length := by
  induction t with
  | nil => simp [sumPt]
  | cons s t ih =>
    have h1 := h s (by simp)
    have h2 := ih fun u hu => h u (by simp [hu])
    simp only [sumPt, List.length_cons]
    omega
def quots (pe all : Int) : List Stk → Int
  | [] => 0
  | s :: t => pe * s.pt / all + quots pe all t
theorem leftQ_eq (pe all : Int) : ∀ (t : List Stk) (n : Int), leftQ pe all t n = n - quots pe all t
  | [], n => by simp [leftQ, quots]
  | s :: t, n => by rw [leftQ, leftQ_eq pe all t, quots]; omega
theorem quots_bounds {pe all : Int} (ha : 0 < all) : ∀ (t : List Stk), quots pe all t * all ≤ pe * sumPt t ∧ pe * sumPt t ≤ quots pe all t * all + t.length * (all - 1)
  | [] => by simp [quots, sumPt]
  | s :: t => by
    have ⟨h1, h2⟩ := quots_bounds (pe := pe) ha t
    have e := Int.mul_ediv_add_emod (pe * s.pt) all
    have r0 := Int.emod_nonneg (pe * s.pt) (show all ≠ 0 by omega)
    have r1 := Int.emod_lt_of_pos (pe * s.pt) ha
    simp only [quots, sumPt, List.length_cons]
    have e1 : (pe * s.pt / all + quots pe all t) * all = all * (pe * s.pt / all) + quots pe all t * all := by rw [Int.add_mul, Int.mul_comm (pe * s.pt / all)]
    have e2 : pe * (s.pt + sumPt t) = pe * s.pt + pe * sumPt t := Int.mul_add _ _ _
    have e3 : ((t.length + 1 : Nat) : Int) * (all - 1) = t.length * (all - 1) + (all - 1) := by rw [Int.natCast_add, Int.add_mul]; simp
    rw [e1, e2, e3]
    omega
theorem left_bounds {ids : List Int} {x : Bil} (h : BilF ids x) : 0 ≤ leftQ x.pe (sumPt x.st) x.st x.pe ∧ leftQ x.pe (sumPt x.st) x.st x.pe ≤ x.st.length := by
  have hb := sumPt_bounds fun s hs => (h.st s hs).2
  have hl : 0 < x.st.length := List.length_pos_iff.2 h.ne
  have ha : 0 < sumPt x.st := by omega
  obtain ⟨h1, h2⟩ := quots_bounds (pe := x.pe) ha x.st
  rw [leftQ_eq]
  have k1 : quots x.pe (sumPt x.st) x.st ≤ x.pe := Int.le_of_mul_le_mul_right h1 ha
  have k2 : x.pe ≤ quots x.pe (sumPt x.st) x.st + x.st.length := by
    refine Int.le_of_mul_le_mul_right (a := sumPt x.st) ?_ ha
    rw [Int.add_mul]
    have : (x.st.length : Int) * (sumPt x.st - 1) ≤ x.st.length * sumPt x.st := Int.mul_le_mul_of_nonneg_left (by omega) (by omega)
    omega
  omega
theorem quot_bounds {ids : List Int} {x : Bil} (h : BilF ids x) {s : Stk} (hs : s ∈ x.st) : 0 ≤ x.pe * s.pt ∧ x.pe * s.pt ≤ 9000000 ∧ 0 < sumPt x.st ∧ sumPt x.st ≤ 9 * x.st.length ∧ 0 ≤ x.pe * s.pt / sumPt x.st ∧ x.pe * s.pt / sumPt x.st ≤ 9000000 := by
  have hb := sumPt_bounds fun s hs => (h.st s hs).2
  have hl : 0 < x.st.length := List.length_pos_iff.2 h.ne
  have h1 := h.st s hs
  have h2 := h.pe0
  have h3 := h.pe1
  have a1 : 0 ≤ x.pe * s.pt := Int.mul_nonneg (by omega) (by omega)
  have a2 : x.pe * s.pt ≤ 1000000 * 9 := Int.mul_le_mul h3 h1.2.2 (by omega) (by omega)
  refine ⟨a1, by omega, by omega, hb.2, Int.ediv_nonneg a1 (by omega), ?_⟩
  have := Int.ediv_le_self (sumPt x.st) a1
  omega
/-- All entries lie between these. -/
def Btw (lo hi : Int) (l : List Int) : Prop := ∀ e ∈ l, lo ≤ e ∧ e ≤ hi
theorem Btw.set {lo hi : Int} {l : List Int} (h : Btw lo hi l) (i : Nat) {v : Int} (h1 : lo ≤ v) (h2 : v ≤ hi) : Btw lo hi (l.set i v) := fun e he => by
  rcases List.mem_or_eq_of_mem_set he with he | rfl
  · exact h e he
  · exact ⟨h1, h2⟩
theorem Btw.mono {lo hi lo' hi' : Int} {l : List Int} (h : Btw lo hi l) (h1 : lo' ≤ lo) (h2 : hi ≤ hi') : Btw lo' hi' l := fun e he => by have := h e he; omega
theorem Btw.getD {lo hi : Int} {l : List Int} (h : Btw lo hi l) (h1 : lo ≤ 0) (h2 : 0 ≤ hi) (i : Nat) : lo ≤ l[i]?.getD 0 ∧ l[i]?.getD 0 ≤ hi := by
  cases e : l[i]? with
  | none => exact ⟨h1, h2⟩
  | some v => exact h v (List.mem_of_getElem? e)
theorem Btw.addAt {lo hi : Int} {l : List Int} (h : Btw lo hi l) (i : Nat) {d a b : Int} (h1 : lo ≤ 0) (h2 : 0 ≤ hi) (ha : a ≤ d) (hb : d ≤ b) (ha0 : a ≤ 0) (hb0 : 0 ≤ b) : Btw (lo + a) (hi + b) (addAt l i d) := by
  have := h.getD h1 h2 i
  exact (h.mono (lo' := lo + a) (hi' := hi + b) (by omega) (by omega)).set i (by omega) (by omega)
theorem Btw.rep (n : Nat) {lo hi : Int} (h1 : lo ≤ 0) (h2 : 0 ≤ hi) : Btw lo hi (List.replicate n 0) := fun e he => by rw [List.eq_of_mem_replicate he]; exact ⟨h1, h2⟩
theorem Btw.at {lo hi : Int} {l : List Int} (h : Btw lo hi l) {i : Nat} (hi' : i < l.length) : lo ≤ l[i] ∧ l[i] ≤ hi := h _ (List.getElem_mem hi')
theorem addAt_len (l : List Int) (i : Nat) (d : Int) : (addAt l i d).length = l.length := by unfold addAt; simp
theorem addAt_at {l : List Int} {i : Nat} (h : i < l.length) (d : Int) : addAt l i d = l.set i (l[i] + d) := by unfold addAt; rw [List.getElem?_eq_getElem h]; rfl
theorem putAll_len {ids : List Int} {pe all : Int} : ∀ (t : List Stk) (l : List Int), (putAll ids pe all t l).length = l.length
  | [], l => rfl
  | s :: t, l => by rw [putAll, putAll_len t]; simp
theorem incAll_len {ids : List Int} : ∀ (t : List Stk) (l : List Int), (incAll ids t l).length = l.length
  | [], l => rfl
  | s :: t, l => by rw [incAll, incAll_len t, addAt_len]
theorem shares_len (ids : List Int) (x : Bil) : (sharesR ids x).length = ids.length := by unfold sharesR; rw [incAll_len, putAll_len]; simp
theorem putAll_btw {ids : List Int} {pe all hi : Int} : ∀ (t : List Stk) (l : List Int), (∀ s ∈ t, 0 ≤ pe * s.pt / all ∧ pe * s.pt / all ≤ hi) → Btw 0 hi l → Btw 0 hi (putAll ids pe all t l)
  | [], l, _, h => h
  | s :: t, l, hq, h => putAll_btw t _ (fun u hu => hq u (by simp [hu])) (h.set _ (hq s (by simp)).1 (hq s (by simp)).2)
theorem incAll_btw {ids : List Int} : ∀ (t : List Stk) (l : List Int) {hi : Int}, 0 ≤ hi → Btw 0 hi l → Btw 0 (hi + t.length) (incAll ids t l)
  | [], l, hi, _, h => by simpa [incAll] using h
  | s :: t, l, hi, h0, h => by
    have := incAll_btw (ids := ids) t (addAt l (ids.idxOf s.fl) 1) (hi := hi + 1) (by omega) (by simpa using h.addAt (ids.idxOf s.fl) (d := 1) (a := 0) (b := 1) (by omega) h0 (by omega) (by omega) (by omega) (by omega))
    rw [incAll]
    exact this.mono (by omega) (by simp only [List.length_cons]; omega)
theorem shares_btw {ids : List Int} {x : Bil} (h : BilF ids x) (hl : x.st.length ≤ 1000) : Btw 0 9001000 (sharesR ids x) := by
  have h1 := putAll_btw (ids := ids) (pe := x.pe) (all := sumPt x.st) (hi := 9000000) x.st (List.replicate ids.length 0) (fun s hs => (quot_bounds h hs).2.2.2.2) (Btw.rep _ (by omega) (by omega))
  have h2 := incAll_btw (ids := ids) (x.st.take (leftQ x.pe (sumPt x.st) x.st x.pe).toNat) _ (by omega) h1
  have h3 := List.length_take_le (leftQ x.pe (sumPt x.st) x.st x.pe).toNat x.st
  have h4 : (x.st.take (leftQ x.pe (sumPt x.st) x.st x.pe).toNat).length ≤ x.st.length := by rw [List.length_take]; omega
  exact h2.mono (by omega) (by omega)
end Go.Proofs.YtihonljdanjfmaaDoor.Sw
namespace Go.Proofs.YtihonljdanjfmaaDoor.Sw
open Go.RowKit Go Go.Shelf Go.Proofs
theorem zeroF {α : Type} {P : Program} {e : TypeId} {f : α → List AV} {x0 : α} {n b : Nat} {z : Value} (h2 : (P.info? e).map (fun i => (i.zero, i.size, i.bytes)) = some (some z, n, b)) {zs : List Value} (h3 : z.cells = zs.toArray) (h4 : ∀ G, Fits G (f x0) zs) : ZeroF P e f x0 := by
  obtain ⟨i, hi, e1, _, _⟩ := info_parts h2
  exact ⟨z, ⟨i, hi, e1⟩, zs, h3, h4⟩
instance zeroI : ZeroF Tryd.prog 3 iC 0 := zeroF (z := .int .i64 0) (n := 1) (b := 8) (zs := [.int .i64 0]) (by kernel_rfl) rfl (fun _ => ⟨rfl, trivial⟩)
theorem floorAt_con (f : Flo) (id : Int) (hl : f.ids.length ≤ 1000000) (hm : id ∈ f.ids) : Con Tryd.prog 64 [.agg (flC f), .val (.int .i64 id)] [] (Is (.val (.int .i64 ((f.ids.idxOf id : Nat) : Int))) []) := by
  have := floor_con f id hl
  rwa [show ixOf f.ids id = ((f.ids.idxOf id : Nat) : Int) from if_pos hm] at this
set_option maxRecDepth 20000 in
set_option maxHeartbeats 2000000 in
theorem shares8_con (f : Flo) (x : Bil) (hl : f.ids.length ≤ 6) (hs : x.st.length ≤ 1000) (hB : BilF f.ids x) : Con Tryd.prog 69 [.agg (flC f), .agg (biC x)] [] (Is (.sl 1 iC (sharesR f.ids x)) []) := by
  have hsum := sumPt_bounds fun s hs => (hB.st s hs).2
  have hlb := left_bounds hB
  have hpe0 := hB.pe0
  have hpe1 := hB.pe1
  refine con_of Tryd.func69 rfl (enters_of Tryd.func69 (by kernel_rfl) rfl) rfl ?_; intro n w0 F0 G0
  (refine goSt ?_; (repeat (refine goAl ?_; intro p hp; refine goSt ?_)))
  rename_i pf hpf
  refine W_loopJ (fun (b : Nat × Int) => ⟨[(2, .val pf), (3, .val p), (5, .val (.int .i64 b.2)), (14, .sl 2 stC x.st), (15, .val (.int .i64 x.st.length)), (16, .val (.int .i64 b.1))], [.box pf (flC f) 27, .box p (biC x) 66]⟩) (fun b => b.1 ≤ x.st.length ∧ b.2 + sumPt (x.st.drop b.1) = sumPt x.st ∧ 0 ≤ b.2 ∧ b.2 ≤ 9 * b.1) (fun b => x.st.length - b.1) (0, 0) (fun _ _ st => st_sub2 st goSubr goSubp) ?hj0 ?round
  case hj0 => simp
  case round =>
    rintro ⟨k, acc⟩ ⟨hk, hno, ha0, ha1⟩
    dsimp only at hk hno ha0 ha1 ⊢
    (refine goSt ?_; (repeat (refine goAl ?_; intro p hp; refine goSt ?_)))
    refine w_cond rfl (fun hlt => ?_) (fun hlt => ?_)
    · have hlt' : k < x.st.length := by simpa using hlt
      have hp := (hB.st _ (List.getElem_mem hlt')).2
      rw [drop_step hlt', sumPt] at hno
      (refine goSt ?_; (repeat (refine goAl ?_; intro p hp; refine goSt ?_)))
      (refine ⟨(k + 1, acc + x.st[k].pt), fun _ _ st => st_sub2 st ?_ ?_, ?_, ?_⟩; exact goSubr; exact goSubp)
      · exact ⟨hlt', by dsimp only; omega, by dsimp only; omega, by dsimp only; omega⟩
      · dsimp only; omega
    · have hkk : k = x.st.length := by simp at hlt; omega
      subst hkk
      rw [List.drop_length, sumPt, Int.add_zero] at hno
      subst hno
      clear hlt hk ha0 ha1
      (refine goSt ?_; (repeat (refine goAl ?_; intro p hp; refine goSt ?_)))
      (apply wl_make iC; exact inferInstance; exact inferInstance; exact inferInstance; exact inferInstance; exact rfl; exact rfl; exact rfl; (first | omega | (simp; omega)); exact rfl)
      intro v
      (refine goSt ?_; (repeat (refine goAl ?_; intro p hp; refine goSt ?_)))
      refine W_loopJ (fun (b : Nat × Int × List Int) => ⟨[(2, .val pf), (3, .val p), (5, .val (.int .i64 (sumPt x.st))), (8, .val v), (9, .val (.int .i64 b.2.1)), (32, .sl 2 stC x.st), (33, .val (.int .i64 x.st.length)), (34, .val (.int .i64 b.1))], [.row v 3 1 iC b.2.2, .box pf (flC f) 27, .box p (biC x) 66]⟩)
        (fun b => b.1 ≤ x.st.length ∧ b.2.2.length = f.ids.length ∧ putAll f.ids x.pe (sumPt x.st) (x.st.drop b.1) b.2.2 = putAll f.ids x.pe (sumPt x.st) x.st (List.replicate f.ids.length 0) ∧ leftQ x.pe (sumPt x.st) (x.st.drop b.1) b.2.1 = leftQ x.pe (sumPt x.st) x.st x.pe ∧ -9000000 * (b.1 : Int) ≤ b.2.1 ∧ b.2.1 ≤ 1000000) (fun b => x.st.length - b.1) (0, x.pe, List.replicate f.ids.length 0) (fun _ _ st => st_sub2 st (by exact goSubr) (by exact goSubp)) ⟨Nat.zero_le _, by simp, rfl, rfl, by dsimp only; omega, by dsimp only; omega⟩ ?_
      rintro ⟨k, left, cur⟩ ⟨hk, hcl, hno, hlf, hl0, hl1⟩
      dsimp only at hk hcl hno hlf hl0 hl1 ⊢
      (refine goSt ?_; (repeat (refine goAl ?_; intro p hp; refine goSt ?_)))
      refine w_cond rfl (fun hlt => ?_) (fun hlt => ?_)
      · have hlt' : k < x.st.length := by simpa using hlt
        have hsk := hB.st _ (List.getElem_mem hlt')
        have hq := quot_bounds hB (List.getElem_mem hlt')
        have hix : f.ids.idxOf x.st[k].fl < cur.length := by rw [hcl]; exact List.idxOf_lt_length_of_mem hsk.1
        rw [drop_step hlt', putAll] at hno
        rw [drop_step hlt', leftQ] at hlf
        (refine goSt ?_; (repeat (refine goAl ?_; intro p hp; refine goSt ?_)))
        rename_i pb hpb
        refine W_run 12 [38, 39, 40, 41, 42, 43, 44, 45, 46, 47, 48, 49] [0, 1, 2, 3, 4, 5, 6, 7, 8, 9, 10, 11] Cut.nil rfl goFlt mixedS (by kernel_rfl) rfl ?_
        refine rpv [] [] ?_
        refine rpv [] [] ?_
        refine rpv [] [] ?_
        refine rpv [2] [] ?_
        refine Run.pv [1, 3] [] rfl (fun vs => by apply ltr_pk; exact goPk; (refine ltr ?_; refine lt_call ?_ ((floorAt_con f _ (by omega) hsk.1)); exact rfl)) goApp ?_
        refine rpv [] [] ?_
        refine rpv [5] [] ?_
        refine rpv [] [] ?_
        refine rpv [7] [] ?_
        refine rpv [6, 8] [] ?_
        refine rpv [] [] ?_
        refine Run.pv [9, 10] [] rfl (fun vs => by apply ltr_pk; exact goPk; (refine ltr ?_; apply lt_quo; exact rfl; exact rfl; omega; omega; omega)) goApp ?_
        refine ⟨⟨by kernel_rfl, by kernel_rfl⟩, fun vs => ?_⟩
        refine WL_to [(2, .val pf), (3, .val pb), (5, .val (.int .i64 (sumPt x.st))), (8, .val v), (9, .val (.int .i64 left)), (32, .sl 2 stC x.st), (33, .val (.int .i64 x.st.length)), (34, .val (.int .i64 k)), (11, .val p), (38, .val v), (42, .val (.int .i64 ((f.ids.idxOf x.st[k].fl : Nat) : Int))), (49, .val (.int .i64 (x.pe * x.st[k].pt / sumPt x.st)))] [.box p (stC x.st[k]) 113, .row v 3 1 iC cur, .box pf (flC f) 27, .box pb (biC x) 66] (by kernel_rfl) (by kernel_rfl) ?_
        (refine goSt ?_; (repeat (refine goAl ?_; intro p hp; refine goSt ?_)))
        (refine ⟨(k + 1, left - x.pe * x.st[k].pt / sumPt x.st, cur.set (f.ids.idxOf x.st[k].fl) (x.pe * x.st[k].pt / sumPt x.st)), fun _ _ st => st_sub2 st ?_ ?_, ?_, ?_⟩; exact goSubr; exact goSubp)
        · exact ⟨hlt', by dsimp only; rw [List.length_set]; exact hcl, hno, hlf, by dsimp only; omega, by dsimp only; omega⟩
        · dsimp only; omega
      · have hkk : k = x.st.length := by simp at hlt; omega
        subst hkk
        rw [List.drop_length, putAll] at hno
        rw [List.drop_length, leftQ] at hlf
        obtain ⟨m, hm⟩ : ∃ m : Nat, left = (m : Int) := ⟨left.toNat, by omega⟩
        have hml : m ≤ x.st.length := by omega
        have hW : sharesR f.ids x = incAll f.ids (x.st.take m) cur := by unfold sharesR; rw [← hlf, ← hno, hm]; rfl
        have hbt : Btw 0 9000000 cur := by
          rw [hno]
          exact putAll_btw _ _ (fun s hs => (quot_bounds hB hs).2.2.2.2) (Btw.rep _ (by omega) (by omega))
        subst hm
        rw [hW]
        clear hW hno hlf hlt hk hl0 hl1 hlb
        (refine goSt ?_; (repeat (refine goAl ?_; intro p hp; refine goSt ?_)))
        refine W_loopJ (fun (b : Nat × List Int) => ⟨[(2, .val pf), (3, .val p), (8, .val v), (9, .val (.int .i64 (m : Int))), (12, .val (.int .i64 b.1))], [.row v 3 1 iC b.2, .box pf (flC f) 27, .box p (biC x) 66]⟩)
          (fun b => b.1 ≤ m ∧ b.2.length = f.ids.length ∧ incAll f.ids ((x.st.take m).drop b.1) b.2 = incAll f.ids (x.st.take m) cur ∧ Btw 0 (9000000 + b.1) b.2) (fun b => m - b.1) (0, cur) (fun _ _ st => st_sub2 st (by exact goSubr) (by exact goSubp)) ⟨Nat.zero_le _, hcl, rfl, hbt.mono (by omega) (by dsimp only; omega)⟩ ?_
        rintro ⟨i, cu⟩ ⟨hi, hcl2, hno, hbt2⟩
        dsimp only at hi hcl2 hno hbt2 ⊢
        (refine goSt ?_; (repeat (refine goAl ?_; intro p hp; refine goSt ?_)))
        refine w_cond rfl (fun hlt => ?_) (fun hlt => ?_)
        · have hlt' : i < m := by simpa using hlt
          have hil : i < x.st.length := by omega
          have hsk := hB.st _ (List.getElem_mem hil)
          have hix : f.ids.idxOf x.st[i].fl < cu.length := by rw [hcl2]; exact List.idxOf_lt_length_of_mem hsk.1
          have hq1 : x.st[i]? = some x.st[i] := List.getElem?_eq_getElem hil
          have hq2 : cu[f.ids.idxOf x.st[i].fl]? = some cu[f.ids.idxOf x.st[i].fl] := List.getElem?_eq_getElem hix
          have hce := hbt2.at hix
          rw [drop_step (by rw [List.length_take]; omega), incAll, List.getElem_take, addAt_at hix] at hno
          (refine goSt ?_; (repeat (refine goAl ?_; intro p hp; refine goSt ?_)))
          refine W_run 9 [66, 67, 68, 69, 70, 71, 72, 73, 74] [0, 1, 2, 3, 4, 5, 6, 7, 8] Cut.nil rfl goFlt mixedS (by kernel_rfl) rfl ?_
          refine rpv [] [] ?_
          refine rpv [] [] ?_
          refine rpv [] [] ?_
          refine rpv [2] [] ?_
          refine rpv [] [] ?_
          refine rpv [3, 4] [] ?_
          refine rpv [5] [] ?_
          refine rpv [6] [] ?_
          refine Run.pv [1, 7] [] rfl (fun vs => by apply ltr_pk; exact goPk; (refine ltr ?_; refine lt_call ?_ ((floorAt_con f _ (by omega) hsk.1)); exact rfl)) goApp ?_
          refine ⟨⟨by kernel_rfl, by kernel_rfl⟩, fun vs => ?_⟩
          refine WL_to [(2, .val pf), (3, .val p), (8, .val v), (9, .val (.int .i64 (m : Int))), (12, .val (.int .i64 i)), (66, .val v), (74, .val (.int .i64 ((f.ids.idxOf x.st[i].fl : Nat) : Int)))] [.row v 3 1 iC cu, .box pf (flC f) 27, .box p (biC x) 66] (by kernel_rfl) (by kernel_rfl) ?_
          (refine goSt ?_; (repeat (refine goAl ?_; intro p hp; refine goSt ?_)))
          (refine ⟨(i + 1, cu.set (f.ids.idxOf x.st[i].fl) (cu[f.ids.idxOf x.st[i].fl] + 1)), fun _ _ st => st_sub2 st ?_ ?_, ?_, ?_⟩; exact goSubr; exact goSubp)
          · exact ⟨hlt', by dsimp only; rw [List.length_set]; exact hcl2, hno, (hbt2.mono (by omega) (by dsimp only; omega)).set _ (by omega) (by dsimp only; omega)⟩
          · dsimp only; omega
        · have hkk : i = m := by simp at hlt; omega
          subst hkk
          rw [List.drop_of_length_le (by rw [List.length_take]; omega), incAll] at hno
          rw [← hno]
          (apply W_frz 8; exact rfl; exact goRm)
          (refine goSt ?_; (repeat (refine goAl ?_; intro p hp; refine goSt ?_)))
          (apply res1; exact rfl; exact rfl; exact ⟨rfl, rfl⟩)
end Go.Proofs.YtihonljdanjfmaaDoor.Sw
namespace Go.Proofs.YtihonljdanjfmaaDoor.Sw
open Go.RowKit Go Go.Shelf Go.Proofs
theorem subL_len {l m : List Int} (h : l.length = m.length) : (subL l m).length = l.length := by unfold subL; simp; omega
/-- The first so many entries less others. -/
def subTo (l m : List Int) (k : Nat) : List Int := (subL l m).take k ++ l.drop k
theorem subTo_len {l m : List Int} (h : l.length = m.length) (k : Nat) : (subTo l m k).length = l.length := by
  unfold subTo; rw [List.length_append, List.length_take, List.length_drop, subL_len h]; omega
theorem subTo_get {l m : List Int} {k : Nat} (h : l.length = m.length) (hk : k < l.length) : (subTo l m k)[k]? = some l[k] := by
  unfold subTo
  rw [List.getElem?_append_right (by rw [List.length_take, subL_len h]; omega), List.length_take, subL_len h, List.getElem?_drop]
  rw [show k + (k - min k l.length) = k by omega]; exact List.getElem?_eq_getElem hk
theorem subTo_set {l m : List Int} {k : Nat} (h : l.length = m.length) (hk : k < l.length) : (subTo l m k).set k (l[k] - m[k]) = subTo l m (k + 1) := by
  have hs := subL_len h
  have hk2 : k < (subL l m).length := by omega
  unfold subTo
  rw [List.set_append_right _ _ (by rw [List.length_take]; omega), List.length_take, hs, show k - min k l.length = 0 by omega, List.drop_eq_getElem_cons hk, List.set_cons_zero, List.take_succ_eq_append_getElem hk2, List.append_assoc]
  congr 1
  simp [subL]
theorem subTo_all {l m : List Int} (h : l.length = m.length) : subTo l m l.length = subL l m := by
  unfold subTo
  rw [List.drop_length, List.append_nil, List.take_of_length_le (by rw [subL_len h]; omega)]
theorem Btw.subL {lo hi a b : Int} {l m : List Int} (h : Btw lo hi l) (k : Btw a b m) : Btw (lo - b) (hi - a) (subL l m) := fun e he => by
  unfold Sw.subL at he
  rw [List.zipWith_eq_zipWith_take_min] at he
  obtain ⟨i, hi', rfl⟩ := List.getElem_of_mem he
  rw [List.getElem_zipWith]
  have h1 := h.at (i := i) (by simp at hi'; omega)
  have h2 := k.at (i := i) (by simp at hi'; omega)
  simp only [List.getElem_take] at *
  omega
set_option maxRecDepth 20000 in
set_option maxHeartbeats 2000000 in
theorem owed8_con (f : Flo) (hF : FloF f) (hS : Sml f) : Con Tryd.prog 61 [.agg (flC f)] [] (Tok 3 1 iC (owed8 f)) := by
  have hidsl := hF.ids
  have hbsl := hF.bs
  have hpsl := hF.ps
  refine con_of Tryd.func61 rfl (enters_of Tryd.func61 (by kernel_rfl) rfl) rfl ?_; intro n w0 F0 G0
  (refine goSt ?_; (repeat (refine goAl ?_; intro p hp; refine goSt ?_)))
  (apply wl_make iC; exact inferInstance; exact inferInstance; exact inferInstance; exact inferInstance; exact rfl; exact rfl; exact rfl; (first | omega | (simp; omega)); exact rfl)
  intro v
  (refine goSt ?_; (repeat (refine goAl ?_; intro p hp; refine goSt ?_)))
  unfold owed8
  refine W_loopJ (fun (b : Nat × List Int) => ⟨[(1, .val p), (3, .val v), (15, .sl 4 biC f.bs), (16, .val (.int .i64 f.bs.length)), (17, .val (.int .i64 b.1))], [.row v 3 1 iC b.2, .box p (flC f) 27]⟩)
    (fun b => b.1 ≤ f.bs.length ∧ b.2.length = f.ids.length ∧ bilFold f.ids (f.bs.drop b.1) b.2 = bilFold f.ids f.bs (List.replicate f.ids.length 0) ∧ Btw (-(10000000 * b.1)) (10000000 * b.1) b.2) (fun b => f.bs.length - b.1) (0, List.replicate f.ids.length 0) (fun _ _ st => st_sub2 st (by exact goSubr) (by exact goSubp)) ⟨Nat.zero_le _, by simp, rfl, Btw.rep _ (by dsimp only; omega) (by dsimp only; omega)⟩ ?_
  rintro ⟨k, cur⟩ ⟨hk, hcl, hno, hbt⟩
  dsimp only at hk hcl hno hbt ⊢
  (refine goSt ?_; (repeat (refine goAl ?_; intro p hp; refine goSt ?_)))
  refine w_cond rfl (fun hlt => ?_) (fun hlt => ?_)
  · have hlt' : k < f.bs.length := by simpa using hlt
    have hB := hF.bil _ (List.getElem_mem hlt')
    have hsl := hS.st _ (List.getElem_mem hlt')
    have hpe0 := hB.pe0
    have hpe1 := hB.pe1
    have hix : f.ids.idxOf f.bs[k].py < cur.length := by rw [hcl]; exact List.idxOf_lt_length_of_mem hB.py
    have hq2 : cur[f.ids.idxOf f.bs[k].py]? = some cur[f.ids.idxOf f.bs[k].py] := List.getElem?_eq_getElem hix
    have hce := hbt.at hix
    rw [drop_step hlt', bilFold, addAt_at hix] at hno
    have hb1 := hbt.addAt (f.ids.idxOf f.bs[k].py) (d := f.bs[k].pe) (a := 0) (b := 1000000) (by omega) (by omega) (by omega) (by omega) (by omega) (by omega)
    rw [addAt_at hix] at hb1
    (refine goSt ?_; (repeat (refine goAl ?_; intro p hp; refine goSt ?_)))
    rename_i pb hpb
    refine W_run 9 [21, 22, 23, 24, 25, 26, 27, 28, 29] [0, 1, 2, 3, 4, 5, 6, 7, 8] Cut.nil rfl goFlt mixedS (by kernel_rfl) rfl ?_
    refine rpv [] [] ?_
    refine rpv [] [] ?_
    refine rpv [] [] ?_
    refine rpv [2] [] ?_
    refine Run.pv [1, 3] [] rfl (fun vs => by apply ltr_pk; exact goPk; (refine ltr ?_; refine lt_call ?_ ((floorAt_con f _ (by omega) hB.py)); exact rfl)) goApp ?_
    refine rpv [0, 4] [] ?_
    refine rpv [5] [] ?_
    refine rpv [] [] ?_
    refine rpv [7] [] ?_
    refine ⟨⟨by kernel_rfl, by kernel_rfl⟩, fun vs => ?_⟩
    refine WL_to [(1, .val pb), (3, .val v), (15, .sl 4 biC f.bs), (16, .val (.int .i64 f.bs.length)), (17, .val (.int .i64 k)), (5, .val p), (21, .val v), (25, .val (.int .i64 ((f.ids.idxOf f.bs[k].py : Nat) : Int))), (27, .val (.int .i64 cur[f.ids.idxOf f.bs[k].py])), (29, .val (.int .i64 f.bs[k].pe))] [.box p (biC f.bs[k]) 66, .row v 3 1 iC cur, .box pb (flC f) 27] (by kernel_rfl) (by kernel_rfl) ?_
    (refine goSt ?_; (repeat (refine goAl ?_; intro p hp; refine goSt ?_)))
    have hshl := shares_len f.ids f.bs[k]
    have hsb := shares_btw hB hsl
    generalize hsh : sharesR f.ids f.bs[k] = sh at *
    generalize hc1 : cur.set (f.ids.idxOf f.bs[k].py) (cur[f.ids.idxOf f.bs[k].py] + f.bs[k].pe) = c1 at *
    have hc1l : c1.length = sh.length := by rw [← hc1, List.length_set, hshl, hcl]
    have hsc := shares8_con f f.bs[k] (by omega) (by omega) hB
    rw [hsh] at hsc
    (first | (apply wl_call (hsc); exact rfl; exact rfl) | (apply wl_callR (hsc); exact rfl; exact goAtm; exact rfl))
    (refine goSt ?_; (repeat (refine goAl ?_; intro p hp; refine goSt ?_)))
    refine W_loopJ (fun (m : Nat) => ⟨[(1, .val pb), (3, .val v), (15, .sl 4 biC f.bs), (16, .val (.int .i64 f.bs.length)), (17, .val (.int .i64 k)), (34, .sl 1 iC sh), (35, .val (.int .i64 sh.length)), (36, .val (.int .i64 m))], [.row v 3 1 iC (subTo c1 sh m), .box pb (flC f) 27]⟩)
      (fun m => m ≤ sh.length) (fun m => sh.length - m) 0 (fun _ _ st => st_sub2 st (by exact goSubr) (by exact goSubp)) (Nat.zero_le _) ?_
    rintro m hm
    (refine goSt ?_; (repeat (refine goAl ?_; intro p hp; refine goSt ?_)))
    refine w_cond rfl (fun hlm => ?_) (fun hlm => ?_)
    · have hlm' : m < sh.length := by simpa using hlm
      have hmc : m < c1.length := by omega
      have hmk : m < (subTo c1 sh m).length := by rw [subTo_len hc1l]; exact hmc
      have hv : (subTo c1 sh m)[m] = c1[m] := by
        have := subTo_get hc1l hmc
        rw [List.getElem?_eq_getElem hmk] at this
        exact Option.some.inj this
      have hb2 := hb1.at hmc
      have hb3 := hsb.at hlm'
      (refine goSt ?_; (repeat (refine goAl ?_; intro p hp; refine goSt ?_)))
      rw [show (subTo c1 sh m).set m ((subTo c1 sh m)[m] - sh[m]) = subTo c1 sh (m + 1) from by rw [hv]; exact subTo_set hc1l hmc]
      (refine ⟨m + 1, fun _ _ st => st_sub2 st ?_ ?_, ?_, ?_⟩; exact goSubr; exact goSubp)
      · omega
      · omega
    · have hmm : m = sh.length := by simp at hlm; omega
      subst hmm
      rw [show subTo c1 sh sh.length = subL c1 sh from by rw [← hc1l]; exact subTo_all hc1l]
      (refine goSt ?_; (repeat (refine goAl ?_; intro p hp; refine goSt ?_)))
      (refine ⟨(k + 1, subL c1 sh), fun _ _ st => st_sub2 st ?_ ?_, ?_, ?_⟩; exact goSubr; exact goSubp)
      · exact ⟨hlt', by dsimp only; rw [subL_len hc1l]; omega, hno, (hb1.subL hsb).mono (by dsimp only; omega) (by dsimp only; omega)⟩
      · dsimp only; omega
  · have hkk : k = f.bs.length := by simp at hlt; omega
    subst hkk
    rw [List.drop_length, bilFold] at hno
    rw [← hno]
    clear hno hlt hk
    (refine goSt ?_; (repeat (refine goAl ?_; intro p hp; refine goSt ?_)))
    refine W_loopJ (fun (b : Nat × List Int) => ⟨[(1, .val p), (3, .val v), (51, .sl 3 payC f.ps), (52, .val (.int .i64 f.ps.length)), (53, .val (.int .i64 b.1))], [.row v 3 1 iC b.2, .box p (flC f) 27]⟩)
      (fun b => b.1 ≤ f.ps.length ∧ b.2.length = f.ids.length ∧ payFold f.ids (f.ps.drop b.1) b.2 = payFold f.ids f.ps cur ∧ Btw (-(200000000 + 2000000 * b.1)) (200000000 + 2000000 * b.1) b.2) (fun b => f.ps.length - b.1) (0, cur) (fun _ _ st => st_sub2 st (by exact goSubr) (by exact goSubp)) ⟨Nat.zero_le _, hcl, rfl, hbt.mono (by dsimp only; omega) (by dsimp only; omega)⟩ ?_
    clear hbt hcl
    rintro ⟨k, cu⟩ ⟨hk, hcl, hno, hbt⟩
    dsimp only at hk hcl hno hbt ⊢
    (refine goSt ?_; (repeat (refine goAl ?_; intro p hp; refine goSt ?_)))
    refine w_cond rfl (fun hlt => ?_) (fun hlt => ?_)
    · have hlt' : k < f.ps.length := by simpa using hlt
      have hP := hF.pay _ (List.getElem_mem hlt')
      have hix : f.ids.idxOf f.ps[k].a < cu.length := by rw [hcl]; exact List.idxOf_lt_length_of_mem hP.1
      have hq2 : cu[f.ids.idxOf f.ps[k].a]? = some cu[f.ids.idxOf f.ps[k].a] := List.getElem?_eq_getElem hix
      have hce := hbt.at hix
      rw [drop_step hlt', payFold, payStep, addAt_at hix] at hno
      have hb1 := hbt.addAt (f.ids.idxOf f.ps[k].a) (d := f.ps[k].p) (a := 0) (b := 1000000) (by omega) (by omega) (by omega) (by omega) (by omega) (by omega)
      rw [addAt_at hix] at hb1
      (refine goSt ?_; (repeat (refine goAl ?_; intro p hp; refine goSt ?_)))
      rename_i pb hpb
      refine W_run 9 [57, 58, 59, 60, 61, 62, 63, 64, 65] [0, 1, 2, 3, 4, 5, 6, 7, 8] Cut.nil rfl goFlt mixedS (by kernel_rfl) rfl ?_
      refine rpv [] [] ?_
      refine rpv [] [] ?_
      refine rpv [] [] ?_
      refine rpv [2] [] ?_
      refine Run.pv [1, 3] [] rfl (fun vs => by apply ltr_pk; exact goPk; (refine ltr ?_; refine lt_call ?_ ((floorAt_con f _ (by omega) hP.1)); exact rfl)) goApp ?_
      refine rpv [0, 4] [] ?_
      refine rpv [5] [] ?_
      refine rpv [] [] ?_
      refine rpv [7] [] ?_
      refine ⟨⟨by kernel_rfl, by kernel_rfl⟩, fun vs => ?_⟩
      refine WL_to [(1, .val pb), (3, .val v), (51, .sl 3 payC f.ps), (52, .val (.int .i64 f.ps.length)), (53, .val (.int .i64 k)), (9, .val p), (57, .val v), (61, .val (.int .i64 ((f.ids.idxOf f.ps[k].a : Nat) : Int))), (63, .val (.int .i64 cu[f.ids.idxOf f.ps[k].a])), (65, .val (.int .i64 f.ps[k].p))] [.box p (payC f.ps[k]) 53, .row v 3 1 iC cu, .box pb (flC f) 27] (by kernel_rfl) (by kernel_rfl) ?_
      (refine goSt ?_; (repeat (refine goAl ?_; intro p hp; refine goSt ?_)))
      generalize hc1 : cu.set (f.ids.idxOf f.ps[k].a) (cu[f.ids.idxOf f.ps[k].a] + f.ps[k].p) = c1 at *
      have hc1l : c1.length = f.ids.length := by rw [← hc1, List.length_set, hcl]
      have hix2 : f.ids.idxOf f.ps[k].b < c1.length := by rw [hc1l]; exact List.idxOf_lt_length_of_mem hP.2.1
      have hq3 : c1[f.ids.idxOf f.ps[k].b]? = some c1[f.ids.idxOf f.ps[k].b] := List.getElem?_eq_getElem hix2
      have hce2 := hb1.at hix2
      rw [addAt_at hix2] at hno
      have hb2 := hb1.addAt (f.ids.idxOf f.ps[k].b) (d := -f.ps[k].p) (a := -1000000) (b := 0) (by omega) (by omega) (by omega) (by omega) (by omega) (by omega)
      rw [addAt_at hix2] at hb2
      refine W_run 9 [68, 69, 70, 71, 72, 73, 74, 75, 76] [0, 1, 2, 3, 4, 5, 6, 7, 8] Cut.nil rfl goFlt mixedS (by kernel_rfl) rfl ?_
      refine rpv [] [] ?_
      refine rpv [] [] ?_
      refine rpv [] [] ?_
      refine rpv [2] [] ?_
      refine Run.pv [1, 3] [] rfl (fun vs => by apply ltr_pk; exact goPk; (refine ltr ?_; refine lt_call ?_ ((floorAt_con f _ (by omega) hP.2.1)); exact rfl)) goApp ?_
      refine rpv [0, 4] [] ?_
      refine rpv [5] [] ?_
      refine rpv [] [] ?_
      refine rpv [7] [] ?_
      refine ⟨⟨by kernel_rfl, by kernel_rfl⟩, fun vs => ?_⟩
      refine WL_to [(1, .val pb), (3, .val v), (51, .sl 3 payC f.ps), (52, .val (.int .i64 f.ps.length)), (53, .val (.int .i64 k)), (9, .val p), (68, .val v), (72, .val (.int .i64 ((f.ids.idxOf f.ps[k].b : Nat) : Int))), (74, .val (.int .i64 c1[f.ids.idxOf f.ps[k].b])), (76, .val (.int .i64 f.ps[k].p))] [.box p (payC f.ps[k]) 53, .row v 3 1 iC c1, .box pb (flC f) 27] (by kernel_rfl) (by kernel_rfl) ?_
      (refine goSt ?_; (repeat (refine goAl ?_; intro p hp; refine goSt ?_)))
      (refine goSt ?_; (repeat (refine goAl ?_; intro p hp; refine goSt ?_)))
      (refine ⟨(k + 1, c1.set (f.ids.idxOf f.ps[k].b) (c1[f.ids.idxOf f.ps[k].b] + -f.ps[k].p)), fun _ _ st => st_sub2 st ?_ ?_, ?_, ?_⟩; exact goSubr; exact goSubp)
      · exact ⟨hlt', by dsimp only; rw [List.length_set]; exact hc1l, hno, hb2.mono (by dsimp only; omega) (by dsimp only; omega)⟩
      · dsimp only; omega
    · have hkk : k = f.ps.length := by simp at hlt; omega
      subst hkk
      rw [List.drop_length, payFold] at hno
      rw [← hno]
      (refine goSt ?_; (repeat (refine goAl ?_; intro p hp; refine goSt ?_)))
      (apply resK; exact rfl; exact rfl; (apply Cut.cons; exact goRm; exact Cut.nil); exact ⟨_, rfl, rfl⟩)
end Go.Proofs.YtihonljdanjfmaaDoor.Sw
namespace Go.Proofs.YtihonljdanjfmaaDoor.Sw
open Go.RowKit Go Go.Shelf Go.Proofs
def hits (a b : Int) (q : Qu) : Bool := decide (q.a = min a b) && decide (q.b = max a b)
def speakR (qs : List Qu) (a b : Int) : Bool := !(qs.any (hits a b)) && decide (a ≠ b)
set_option maxRecDepth 20000 in
theorem speak8_con (f : Flo) (a b : Int) (hl : f.qs.length ≤ 1000) : Con Tryd.prog 63 [.agg (flC f), .val (.int .i64 a), .val (.int .i64 b)] [] (Is (.val (.bool (speakR f.qs a b))) []) := by
  refine con_of Tryd.func63 rfl (enters_of Tryd.func63 (by kernel_rfl) rfl) rfl ?_; intro n w0 F0 G0
  (refine goSt ?_; (repeat (refine goAl ?_; intro p hp; refine goSt ?_)))
  refine W_loopJ (fun (k : Nat) => ⟨[(1, .val (.int .i64 a)), (2, .val (.int .i64 b)), (10, .sl 2 quC f.qs), (11, .val (.int .i64 f.qs.length)), (12, .val (.int .i64 k))], []⟩) (fun k => k ≤ f.qs.length ∧ (f.qs.take k).any (hits a b) = false) (fun k => f.qs.length - k) 0 (fun _ _ st => st_sub2 st goSubr goSubp) ?hj0 ?round
  case hj0 => simp
  case round =>
    rintro k ⟨hk, hno⟩
    (refine goSt ?_; (repeat (refine goAl ?_; intro p hp; refine goSt ?_)))
    refine w_cond rfl (fun hlt => ?_) (fun hlt => ?_)
    · have hlt' : k < f.qs.length := by simpa using hlt
      have htk : f.qs.take (k + 1) = f.qs.take k ++ [f.qs[k]] := List.take_succ_eq_append_getElem hlt'
      (refine goSt ?_; (repeat (refine goAl ?_; intro p hp; refine goSt ?_)))
      have fin : hits a b f.qs[k] = true → speakR f.qs a b = false := fun h => by
        have : f.qs.any (hits a b) = true := List.any_eq_true.2 ⟨_, List.getElem_mem hlt', h⟩
        simp [speakR, this]
      have nxt : hits a b f.qs[k] = false → (f.qs.take (k + 1)).any (hits a b) = false := fun h => by rw [htk, List.any_append, hno]; simpa using h
      refine wl_part rfl rfl (fun g1 => ?_) (fun g1 => ?_)
      · (refine goSt ?_; (repeat (refine goAl ?_; intro p hp; refine goSt ?_)))
        refine w_cond rfl (fun g2 => ?_) (fun g2 => ?_)
        · have := fin (by unfold hits; rw [g1, g2]; rfl)
          (refine goSt ?_; (repeat (refine goAl ?_; intro p hp; refine goSt ?_)))
          (apply res1; exact rfl; exact rfl; exact ⟨(congrArg (fun b => AV.val (Value.bool b)) this.symm), rfl⟩)
        · have := nxt (by unfold hits; rw [g1, g2]; rfl)
          (refine goSt ?_; (repeat (refine goAl ?_; intro p hp; refine goSt ?_)))
          (refine ⟨k + 1, fun _ _ st => st_sub2 st ?_ ?_, ?_, ?_⟩; exact goSubr; exact goSubp)
          · exact ⟨by omega, this⟩
          · omega
      · have := nxt (by unfold hits; rw [g1]; rfl)
        (refine goSt ?_; (repeat (refine goAl ?_; intro p hp; refine goSt ?_)))
        (refine ⟨k + 1, fun _ _ st => st_sub2 st ?_ ?_, ?_, ?_⟩; exact goSubr; exact goSubp)
        · exact ⟨by omega, this⟩
        · omega
    · (refine goSt ?_; (repeat (refine goAl ?_; intro p hp; refine goSt ?_)))
      have hkk : k = f.qs.length := by simp at hlt; omega
      subst hkk
      rw [List.take_length] at hno
      (apply res1; exact rfl; exact rfl; exact ⟨(congrArg (fun b => AV.val (Value.bool b)) (by simp [speakR, hno])), rfl⟩)
theorem bilFold_len {ids : List Int} : ∀ (t : List Bil) (l : List Int), l.length = ids.length → (bilFold ids t l).length = ids.length
  | [], l, h => h
  | x :: t, l, h => by
    rw [bilFold]
    refine bilFold_len t _ ?_
    rw [subL_len (by rw [addAt_len, shares_len, h]), addAt_len, h]
theorem payFold_len {ids : List Int} : ∀ (t : List Pay) (l : List Int), (payFold ids t l).length = l.length
  | [], l => rfl
  | x :: t, l => by rw [payFold, payFold_len t]; unfold payStep; rw [addAt_len, addAt_len]
theorem owed8_len (f : Flo) : (owed8 f).length = f.ids.length := by unfold owed8; rw [payFold_len, bilFold_len _ _ (by simp)]
theorem bilFold_btw {ids : List Int} : ∀ (t : List Bil) (l : List Int) {c : Int}, 0 ≤ c → (∀ x ∈ t, BilF ids x ∧ x.st.length ≤ 1000) → Btw (-c) c l → Btw (-(c + 10000000 * t.length)) (c + 10000000 * t.length) (bilFold ids t l)
  | [], l, c, _, _, h => by simpa [bilFold] using h
  | x :: t, l, c, hc, hB, h => by
    have hx := hB x (by simp)
    have h1 := h.addAt (ids.idxOf x.py) (d := x.pe) (a := 0) (b := 1000000) (by omega) (by omega) (by have := hx.1.pe0; omega) hx.1.pe1 (by omega) (by omega)
    have h2 := (h1.subL (shares_btw hx.1 hx.2)).mono (lo' := -(c + 10000000)) (hi' := c + 10000000) (by omega) (by omega)
    have h3 := bilFold_btw (ids := ids) t _ (c := c + 10000000) (by omega) (fun y hy => hB y (by simp [hy])) h2
    rw [bilFold]
    exact h3.mono (by simp only [List.length_cons]; omega) (by simp only [List.length_cons]; omega)
theorem payStep_btw {ids : List Int} {x : Pay} {l : List Int} {c : Int} (hc : 0 ≤ c) (h1 : 1 ≤ x.p) (h2 : x.p ≤ 1000000) (h : Btw (-c) c l) : Btw (-(c + 1000000)) (c + 1000000) (payStep ids x l) := by
  have k1 := h.addAt (ids.idxOf x.a) (d := x.p) (a := 0) (b := 1000000) (by omega) (by omega) (by omega) h2 (by omega) (by omega)
  have k2 := k1.addAt (ids.idxOf x.b) (d := -x.p) (a := -1000000) (b := 0) (by omega) (by omega) (by omega) (by omega) (by omega) (by omega)
  exact k2.mono (by omega) (by omega)
theorem payFold_btw {ids : List Int} : ∀ (t : List Pay) (l : List Int) {c : Int}, 0 ≤ c → (∀ x ∈ t, 1 ≤ x.p ∧ x.p ≤ 1000000) → Btw (-c) c l → Btw (-(c + 1000000 * t.length)) (c + 1000000 * t.length) (payFold ids t l)
  | [], l, c, _, _, h => by simpa [payFold] using h
  | x :: t, l, c, hc, hB, h => by
    have hx := hB x (by simp)
    have h3 := payFold_btw (ids := ids) t _ (c := c + 1000000) (by omega) (fun y hy => hB y (by simp [hy])) (payStep_btw (ids := ids) hc hx.1 hx.2 h)
    rw [payFold]
    exact h3.mono (by simp only [List.length_cons]; omega) (by simp only [List.length_cons]; omega)
theorem owed8_btw {f : Flo} (hF : FloF f) (hS : Sml f) : Btw (-200000000) 200000000 (owed8 f) := by
  have h1 := bilFold_btw (ids := f.ids) f.bs (List.replicate f.ids.length 0) (c := 0) (by omega) (fun x hx => ⟨hF.bil x hx, hS.st x hx⟩) (Btw.rep _ (by omega) (by omega))
  have h2 := payFold_btw (ids := f.ids) f.ps _ (c := 0 + 10000000 * f.bs.length) (by omega) (fun x hx => (hF.pay x hx).2.2.2) h1
  have := hF.bs
  have := hF.ps
  exact h2.mono (by omega) (by omega)
end Go.Proofs.YtihonljdanjfmaaDoor.Sw
/- The program's house at work: 'index', 'shares', 'paid'. -/
namespace Go.Proofs.YtihonljdanjfmaaDoor.Sw
open Go.RowKit Go Go.Shelf Go.Proofs
/-- A house at work, with what it is owed. -/
abbrev hsB (ph : Value) (f : Flo) (v : Value) : HA := .box ph (flC f ++ [.val v]) 108
set_option maxRecDepth 20000 in
theorem index_con (ph v : Value) (f : Flo) (id : Int) (hl : f.ids.length ≤ 1000000) : Con Tryd.prog 58 [.val ph, .val (.int .i64 id)] [hsB ph f v] (Is (.val (.int .i64 (ixOf f.ids id))) [hsB ph f v]) := by
  refine con_of Tryd.func58 rfl (enters_of Tryd.func58 (by kernel_rfl) rfl) rfl ?_; intro n w0 F0 G0
  (refine goSt ?_; (repeat (refine goAl ?_; intro p hp; refine goSt ?_)))
  (first | (apply wl_call (indexI_con f.ids id hl); exact rfl; exact rfl) | (apply wl_callR (indexI_con f.ids id hl); exact rfl; exact goAtm; exact rfl))
  (refine goSt ?_; (repeat (refine goAl ?_; intro p hp; refine goSt ?_)))
  (apply resK; exact rfl; exact rfl; (apply Cut.cons (h := hsB ph f v); exact goRm; exact Cut.nil); exact ⟨rfl, rfl⟩)
theorem indexAt_con (ph v : Value) (f : Flo) (id : Int) (hl : f.ids.length ≤ 1000000) (hm : id ∈ f.ids) : Con Tryd.prog 58 [.val ph, .val (.int .i64 id)] [hsB ph f v] (Is (.val (.int .i64 ((f.ids.idxOf id : Nat) : Int))) [hsB ph f v]) := by
  have := index_con ph v f id hl
  rwa [show ixOf f.ids id = ((f.ids.idxOf id : Nat) : Int) from if_pos hm] at this
end Go.Proofs.YtihonljdanjfmaaDoor.Sw
/- The program's 'shares'. -/
namespace Go.Proofs.YtihonljdanjfmaaDoor.Sw
open Go.RowKit Go Go.Shelf Go.Proofs
/-- An own slice, by some value, and what is kept beside it. -/
def TokW {α : Type} (e : TypeId) (n : Nat) (f : α → List AV) (xs : List α) (r : List HA) : AV → List HA → Prop := fun x y => ∃ u, x = .val u ∧ y = .row u e n f xs :: r
set_option maxRecDepth 20000 in
set_option maxHeartbeats 2000000 in
theorem shares_con (ph ow : Value) (f : Flo) (x : Bil) (hl : f.ids.length ≤ 6) (hs : x.st.length ≤ 1000) (hB : BilF f.ids x) : Con Tryd.prog 68 [.val ph, .agg (biC x)] [hsB ph f ow] (TokW 3 1 iC (sharesR f.ids x) [hsB ph f ow]) := by
  have hsum := sumPt_bounds fun s hs => (hB.st s hs).2
  have hlb := left_bounds hB
  have hpe0 := hB.pe0
  have hpe1 := hB.pe1
  refine con_of Tryd.func68 rfl (enters_of Tryd.func68 (by kernel_rfl) rfl) rfl ?_; intro n w0 F0 G0
  (refine goSt ?_; (repeat (refine goAl ?_; intro p hp; refine goSt ?_)))
  refine W_run 3 [15, 16, 5] [0, 1, 2] Cut.nil rfl goFlt mixedS (by kernel_rfl) rfl ?_
  refine rpv [] [] ?_
  refine rpv [0] [] ?_
  refine rpv [] [] ?_
  refine ⟨⟨by kernel_rfl, by kernel_rfl⟩, fun vs => ?_⟩
  apply WL_auto [1, 2]
  · exact goPk
  · exact goNrm
  · kernel_rfl
  · kernel_rfl
  (refine goSt ?_; (repeat (refine goAl ?_; intro p hp; refine goSt ?_)))
  (refine goSt ?_; (repeat (refine goAl ?_; intro p hp; refine goSt ?_)))
  refine W_loopJ (fun (b : Nat × Int) => ⟨[(0, .val ph), (3, .val p), (5, .val (.int .i64 b.2)), (6, .val (.int .i64 x.pe)), (18, .sl 2 stC x.st), (19, .val (.int .i64 x.st.length)), (20, .val (.int .i64 b.1))], [hsB ph f ow, .box p (biC x) 66]⟩) (fun b => b.1 ≤ x.st.length ∧ b.2 + sumPt (x.st.drop b.1) = sumPt x.st ∧ 0 ≤ b.2 ∧ b.2 ≤ 9 * b.1) (fun b => x.st.length - b.1) (0, 0) (fun _ _ st => st_sub2 st goSubr goSubp) ?hj0 ?round
  case hj0 => simp
  case round =>
    rintro ⟨k, acc⟩ ⟨hk, hno, ha0, ha1⟩
    dsimp only at hk hno ha0 ha1 ⊢
    (refine goSt ?_; (repeat (refine goAl ?_; intro p hp; refine goSt ?_)))
    refine w_cond rfl (fun hlt => ?_) (fun hlt => ?_)
    · have hlt' : k < x.st.length := by simpa using hlt
      have hp := (hB.st _ (List.getElem_mem hlt')).2
      rw [drop_step hlt', sumPt] at hno
      (refine goSt ?_; (repeat (refine goAl ?_; intro p hp; refine goSt ?_)))
      (refine ⟨(k + 1, acc + x.st[k].pt), fun _ _ st => st_sub2 st ?_ ?_, ?_, ?_⟩; exact goSubr; exact goSubp)
      · exact ⟨hlt', by dsimp only; omega, by dsimp only; omega, by dsimp only; omega⟩
      · dsimp only; omega
    · have hkk : k = x.st.length := by simp at hlt; omega
      subst hkk
      rw [List.drop_length, sumPt, Int.add_zero] at hno
      subst hno
      clear hlt hk ha0 ha1
      (refine goSt ?_; (repeat (refine goAl ?_; intro p hp; refine goSt ?_)))
      (apply wl_make iC; exact inferInstance; exact inferInstance; exact inferInstance; exact inferInstance; exact rfl; exact rfl; exact rfl; (first | omega | (simp; omega)); exact rfl)
      intro v
      (refine goSt ?_; (repeat (refine goAl ?_; intro p hp; refine goSt ?_)))
      refine W_loopJ (fun (b : Nat × Int × List Int) => ⟨[(0, .val ph), (3, .val p), (5, .val (.int .i64 (sumPt x.st))), (9, .val v), (6, .val (.int .i64 b.2.1)), (37, .sl 2 stC x.st), (38, .val (.int .i64 x.st.length)), (39, .val (.int .i64 b.1))], [.row v 3 1 iC b.2.2, hsB ph f ow, .box p (biC x) 66]⟩)
        (fun b => b.1 ≤ x.st.length ∧ b.2.2.length = f.ids.length ∧ putAll f.ids x.pe (sumPt x.st) (x.st.drop b.1) b.2.2 = putAll f.ids x.pe (sumPt x.st) x.st (List.replicate f.ids.length 0) ∧ leftQ x.pe (sumPt x.st) (x.st.drop b.1) b.2.1 = leftQ x.pe (sumPt x.st) x.st x.pe ∧ -9000000 * (b.1 : Int) ≤ b.2.1 ∧ b.2.1 ≤ 1000000) (fun b => x.st.length - b.1) (0, x.pe, List.replicate f.ids.length 0) (fun _ _ st => st_sub2 st (by exact goSubr) (by exact goSubp)) ⟨Nat.zero_le _, by simp, rfl, rfl, by dsimp only; omega, by dsimp only; omega⟩ ?_
      rintro ⟨k, left, cur⟩ ⟨hk, hcl, hno, hlf, hl0, hl1⟩
      dsimp only at hk hcl hno hlf hl0 hl1 ⊢
      (refine goSt ?_; (repeat (refine goAl ?_; intro p hp; refine goSt ?_)))
      refine w_cond rfl (fun hlt => ?_) (fun hlt => ?_)
      · have hlt' : k < x.st.length := by simpa using hlt
        have hsk := hB.st _ (List.getElem_mem hlt')
        have hq := quot_bounds hB (List.getElem_mem hlt')
        have hix : f.ids.idxOf x.st[k].fl < cur.length := by rw [hcl]; exact List.idxOf_lt_length_of_mem hsk.1
        rw [drop_step hlt', putAll] at hno
        rw [drop_step hlt', leftQ] at hlf
        (refine goSt ?_; (repeat (refine goAl ?_; intro p hp; refine goSt ?_)))
        (first | (apply wl_call (indexAt_con ph ow f _ (by omega) hsk.1); exact rfl; exact rfl) | (apply wl_callR (indexAt_con ph ow f _ (by omega) hsk.1); exact rfl; exact goAtm; exact rfl))
        (refine goSt ?_; (repeat (refine goAl ?_; intro p hp; refine goSt ?_)))
        (refine ⟨(k + 1, left - x.pe * x.st[k].pt / sumPt x.st, cur.set (f.ids.idxOf x.st[k].fl) (x.pe * x.st[k].pt / sumPt x.st)), fun _ _ st => st_sub2 st ?_ ?_, ?_, ?_⟩; exact goSubr; exact goSubp)
        · exact ⟨hlt', by dsimp only; rw [List.length_set]; exact hcl, hno, hlf, by dsimp only; omega, by dsimp only; omega⟩
        · dsimp only; omega
      · have hkk : k = x.st.length := by simp at hlt; omega
        subst hkk
        rw [List.drop_length, putAll] at hno
        rw [List.drop_length, leftQ] at hlf
        obtain ⟨m, hm⟩ : ∃ m : Nat, left = (m : Int) := ⟨left.toNat, by omega⟩
        have hml : m ≤ x.st.length := by omega
        have hW : sharesR f.ids x = incAll f.ids (x.st.take m) cur := by unfold sharesR; rw [← hlf, ← hno, hm]; rfl
        have hbt : Btw 0 9000000 cur := by
          rw [hno]
          exact putAll_btw _ _ (fun s hs => (quot_bounds hB hs).2.2.2.2) (Btw.rep _ (by omega) (by omega))
        subst hm
        rw [hW]
        clear hW hno hlf hlt hk hl0 hl1 hlb
        (refine goSt ?_; (repeat (refine goAl ?_; intro p hp; refine goSt ?_)))
        (apply wl_slTo (h := m); exact inferInstance; exact rfl; exact rfl; (first | exact rfl | omega | (simp; omega)); exact hml; exact rfl)
        have htl : (x.st.take m).length = m := by rw [List.length_take]; omega
        (refine goSt ?_; (repeat (refine goAl ?_; intro p hp; refine goSt ?_)))
        refine W_loopJ (fun (b : Nat × List Int) => ⟨[(0, .val ph), (3, .val p), (9, .val v), (64, .sl 2 stC (x.st.take m)), (65, .val (.int .i64 (x.st.take m).length)), (66, .val (.int .i64 b.1))], [.row v 3 1 iC b.2, hsB ph f ow, .box p (biC x) 66]⟩)
          (fun b => b.1 ≤ m ∧ b.2.length = f.ids.length ∧ incAll f.ids ((x.st.take m).drop b.1) b.2 = incAll f.ids (x.st.take m) cur ∧ Btw 0 (9000000 + b.1) b.2) (fun b => m - b.1) (0, cur) (fun _ _ st => st_sub2 st (by exact goSubr) (by exact goSubp)) ⟨Nat.zero_le _, hcl, rfl, hbt.mono (by omega) (by dsimp only; omega)⟩ ?_
        rintro ⟨i, cu⟩ ⟨hi, hcl2, hno, hbt2⟩
        dsimp only at hi hcl2 hno hbt2 ⊢
        (refine goSt ?_; (repeat (refine goAl ?_; intro p hp; refine goSt ?_)))
        refine w_cond rfl (fun hlt => ?_) (fun hlt => ?_)
        · have hlt' : i < m := by simp at hlt; omega
          have hil : i < x.st.length := by omega
          have hitl : i < (x.st.take m).length := by omega
          have hsk := hB.st _ (List.getElem_mem hil)
          have hge : (x.st.take m)[i] = x.st[i] := List.getElem_take
          have hix : f.ids.idxOf x.st[i].fl < cu.length := by rw [hcl2]; exact List.idxOf_lt_length_of_mem hsk.1
          have hce := hbt2.at hix
          rw [drop_step (by rw [List.length_take]; omega), incAll, hge, addAt_at hix] at hno
          (refine goSt ?_; (repeat (refine goAl ?_; intro p hp; refine goSt ?_)))
          rw [hge]
          (first | (apply wl_call (indexAt_con ph ow f _ (by omega) hsk.1); exact rfl; exact rfl) | (apply wl_callR (indexAt_con ph ow f _ (by omega) hsk.1); exact rfl; exact goAtm; exact rfl))
          (refine goSt ?_; (repeat (refine goAl ?_; intro p hp; refine goSt ?_)))
          (refine ⟨(i + 1, cu.set (f.ids.idxOf x.st[i].fl) (cu[f.ids.idxOf x.st[i].fl] + 1)), fun _ _ st => st_sub2 st ?_ ?_, ?_, ?_⟩; exact goSubr; exact goSubp)
          · exact ⟨hlt', by dsimp only; rw [List.length_set]; exact hcl2, hno, (hbt2.mono (by omega) (by dsimp only; omega)).set _ (by omega) (by dsimp only; omega)⟩
          · dsimp only; omega
        · have hkk : i = m := by simp at hlt; omega
          subst hkk
          rw [List.drop_of_length_le (by rw [List.length_take]; omega), incAll] at hno
          rw [← hno]
          (refine goSt ?_; (repeat (refine goAl ?_; intro p hp; refine goSt ?_)))
          (apply resK; exact rfl; exact rfl; (apply Cut.cons; exact goRm; apply Cut.cons (h := hsB ph f ow); exact goRm; exact Cut.nil); exact ⟨_, rfl, rfl⟩)
end Go.Proofs.YtihonljdanjfmaaDoor.Sw
/- The program's 'paid'. -/
namespace Go.Proofs.YtihonljdanjfmaaDoor.Sw
open Go.RowKit Go Go.Shelf Go.Proofs
set_option maxRecDepth 20000 in
set_option maxHeartbeats 2000000 in
theorem paid_con (ph ow : Value) (f : Flo) (x : Pay) (cu : List Int) {c : Int} (hl : f.ids.length ≤ 6) (hP : x.a ∈ f.ids ∧ x.b ∈ f.ids ∧ x.a ≠ x.b ∧ 1 ≤ x.p ∧ x.p ≤ 1000000) (hcl : cu.length = f.ids.length) (hbt : Btw (-c) c cu) (hc0 : 0 ≤ c) (hc : c ≤ 1000000000000) : Con Tryd.prog 59 [.val ph, .agg (payC x)] [hsB ph f ow, .row ow 3 1 iC cu] (Is (.tup []) [hsB ph f ow, .row ow 3 1 iC (payStep f.ids x cu)]) := by
  have hix : f.ids.idxOf x.a < cu.length := by rw [hcl]; exact List.idxOf_lt_length_of_mem hP.1
  have hq2 : cu[f.ids.idxOf x.a]? = some cu[f.ids.idxOf x.a] := List.getElem?_eq_getElem hix
  have hce := hbt.at hix
  have hb1 := hbt.addAt (f.ids.idxOf x.a) (d := x.p) (a := 0) (b := 1000000) (by omega) (by omega) (by omega) (by omega) (by omega) (by omega)
  rw [payStep]
  rw [addAt_at hix] at hb1 ⊢
  refine con_of Tryd.func59 rfl (enters_of Tryd.func59 (by kernel_rfl) rfl) rfl ?_; intro n w0 F0 G0
  (refine goSt ?_; (repeat (refine goAl ?_; intro p hp; refine goSt ?_)))
  refine W_run 12 [4, 5, 6, 7, 8, 9, 10, 11, 12, 13, 14, 15] [0, 1, 2, 3, 4, 5, 6, 7, 8, 9, 10, 11] Cut.nil rfl goFlt mixedS (by kernel_rfl) rfl ?_
  refine rpv [] [] ?_
  refine rpv [0] [] ?_
  refine rpv [1] [] ?_
  refine rpv [2] [] ?_
  refine rpv [] [] ?_
  refine rpv [] [] ?_
  refine rpv [5] [] ?_
  refine Run.pv [4, 6] [] rfl (fun vs => by apply ltr_pk; exact goPk; (apply ltr_callR ((indexAt_con ph ow f _ (by omega) hP.1)); exact rfl; exact goAtm)) goApp ?_
  refine rpv [3, 7] [] ?_
  refine rpv [8] [] ?_
  refine rpv [] [] ?_
  refine rpv [10] [] ?_
  refine ⟨⟨by kernel_rfl, by kernel_rfl⟩, fun vs => ?_⟩
  apply WL_auto [3, 7, 9, 11]
  · exact goPk
  · exact goNrm
  · kernel_rfl
  · kernel_rfl
  (refine goSt ?_; (repeat (refine goAl ?_; intro p hp; refine goSt ?_)))
  generalize hc1 : cu.set (f.ids.idxOf x.a) (cu[f.ids.idxOf x.a] + x.p) = c1 at *
  have hc1l : c1.length = f.ids.length := by rw [← hc1, List.length_set, hcl]
  have hix2 : f.ids.idxOf x.b < c1.length := by rw [hc1l]; exact List.idxOf_lt_length_of_mem hP.2.1
  have hq3 : c1[f.ids.idxOf x.b]? = some c1[f.ids.idxOf x.b] := List.getElem?_eq_getElem hix2
  have hce2 := hb1.at hix2
  rw [addAt_at hix2, ← Int.sub_eq_add_neg]
  (refine goSt ?_; (repeat (refine goAl ?_; intro p hp; refine goSt ?_)))
  refine W_run 12 [18, 19, 20, 21, 22, 23, 24, 25, 26, 27, 28, 29] [0, 1, 2, 3, 4, 5, 6, 7, 8, 9, 10, 11] Cut.nil rfl goFlt mixedS (by kernel_rfl) rfl ?_
  refine rpv [] [] ?_
  refine rpv [0] [] ?_
  refine rpv [1] [] ?_
  refine rpv [2] [] ?_
  refine rpv [] [] ?_
  refine rpv [] [] ?_
  refine rpv [5] [] ?_
  refine Run.pv [4, 6] [] rfl (fun vs => by apply ltr_pk; exact goPk; (apply ltr_callR ((indexAt_con ph ow f _ (by omega) hP.2.1)); exact rfl; exact goAtm)) goApp ?_
  refine rpv [3, 7] [] ?_
  refine rpv [8] [] ?_
  refine rpv [] [] ?_
  refine rpv [10] [] ?_
  refine ⟨⟨by kernel_rfl, by kernel_rfl⟩, fun vs => ?_⟩
  apply WL_auto [3, 7, 9, 11]
  · exact goPk
  · exact goNrm
  · kernel_rfl
  · kernel_rfl
  (refine goSt ?_; (repeat (refine goAl ?_; intro p hp; refine goSt ?_)))
  (apply resK0; exact rfl; exact ⟨rfl, rfl⟩; exact goCutl)
end Go.Proofs.YtihonljdanjfmaaDoor.Sw
namespace Go.Proofs.YtihonljdanjfmaaDoor.Sw
open Go.RowKit Go Go.Shelf Go.Proofs
theorem addAt_subL {l m : List Int} (h : l.length = m.length) (i : Nat) (d : Int) : addAt (subL l m) i d = subL (addAt l i d) m := by
  unfold addAt
  by_cases hi : i < l.length
  · have hm : i < m.length := by omega
    have e1 : (subL l m)[i]? = some (l[i] - m[i]) := by unfold subL; rw [List.getElem?_eq_getElem (by simp; omega), List.getElem_zipWith]
    rw [e1, List.getElem?_eq_getElem hi]
    simp only [Option.getD_some]
    unfold subL
    apply List.ext_getElem (by simp)
    intro k h1 h2
    simp only [List.getElem_set, List.getElem_zipWith]
    split
    · rename_i e
      subst e
      omega
    · rfl
  · rw [List.set_eq_of_length_le (by rw [subL_len h]; omega), List.set_eq_of_length_le (by omega)]
theorem bilFold_step {ids : List Int} {x : Bil} {t : List Bil} {l : List Int} (h : l.length = ids.length) : bilFold ids (x :: t) l = bilFold ids t (addAt (subL l (sharesR ids x)) (ids.idxOf x.py) x.pe) := by
  rw [bilFold, addAt_subL (by rw [h, shares_len])]
/-- What 'opened' hands back. -/
def OpenP (f : Flo) : AV → List HA → Prop := fun x y => ∃ ph v, x = .tup [.val ph, .val (.int .i64 0)] ∧ y = [hsB ph f v, .row v 3 1 iC (owed8 f), tab8]
set_option maxRecDepth 20000 in
set_option maxHeartbeats 2000000 in
theorem openedNo_con (f : Flo) (hS : Sml f) (hno : floOk f = false) : Con Tryd.prog 55 [.agg (flC f)] [tab8] (Is (.tup [.val (.pointer none), .val (.int .i64 80)]) [tab8]) := by
  have C := check_con f hS
  rw [show errF f = 80 by unfold errF; rw [hno]; rfl] at C
  refine con_of Tryd.func55 rfl (enters_of Tryd.func55 (by kernel_rfl) rfl) rfl ?_; intro n w0 F0 G0
  (refine goSt ?_; (repeat (refine goAl ?_; intro p hp; refine goSt ?_)))
  (first | (apply wl_call (C); exact rfl; exact rfl) | (apply wl_callR (C); exact rfl; exact goAtm; exact rfl))
  (refine goSt ?_; (repeat (refine goAl ?_; intro p hp; refine goSt ?_)))
  (apply resK2; exact rfl; exact rfl; exact rfl; exact ⟨rfl, rfl⟩; exact goCutl)
set_option maxRecDepth 20000 in
set_option maxHeartbeats 2000000 in
theorem opened_con (f : Flo) (hS : Sml f) (hok : floOk f = true) : Con Tryd.prog 55 [.agg (flC f)] [tab8] (OpenP f) := by
  have C := check_con f hS
  rw [show errF f = 0 by unfold errF; rw [hok]; rfl] at C
  have hF := flo_f hok
  have hidsl := hF.ids
  have hbsl := hF.bs
  have hpsl := hF.ps
  refine con_of Tryd.func55 rfl (enters_of Tryd.func55 (by kernel_rfl) rfl) rfl ?_; intro n w0 F0 G0
  (refine goSt ?_; (repeat (refine goAl ?_; intro p hp; refine goSt ?_)))
  (first | (apply wl_call (C); exact rfl; exact rfl) | (apply wl_callR (C); exact rfl; exact goAtm; exact rfl))
  (refine goSt ?_; (repeat (refine goAl ?_; intro p hp; refine goSt ?_)))
  refine W_run 5 [17, 18, 19, 20, 21] [0, 1, 2, 3, 4] Cut.nil rfl goFlt mixedS (by kernel_rfl) rfl ?_
  refine rpv [] [] ?_
  refine rpv [] [] ?_
  refine rpv [1] [] ?_
  refine rpv [2] [] ?_
  refine Run.tok [3] [] rfl (fun vs => by apply ltr_pk; exact goPk; (refine ltr ?_; apply lt_make (f := iC); exact rfl; exact rfl; exact rfl; (first | omega | (simp; omega)))) goApp ?_
  refine ⟨⟨by kernel_rfl, by kernel_rfl⟩, fun vs => ?_⟩
  apply WL_auto [0, 4]
  · exact goPk
  · exact goNrm
  · kernel_rfl
  · kernel_rfl
  generalize vs 4 = ow
  (refine goSt ?_; (repeat (refine goAl ?_; intro p hp; refine goSt ?_)))
  refine WL_one At.here (fun hone => ?_)
  (refine goSt ?_; (repeat (refine goAl ?_; intro p hp; refine goSt ?_)))
  rename_i pf hpf
  refine W_loopJ (fun (b : Nat × List Int) => ⟨[(1, .val pf), (5, .val p), (25, .sl 4 biC f.bs), (26, .val (.int .i64 f.bs.length)), (27, .val (.int .i64 b.1))], [.row ow 3 1 iC b.2, hsB p f ow, .box pf (flC f) 27, tab8]⟩)
    (fun b => b.1 ≤ f.bs.length ∧ b.2.length = f.ids.length ∧ bilFold f.ids (f.bs.drop b.1) b.2 = bilFold f.ids f.bs (List.replicate f.ids.length 0) ∧ Btw (-(10000000 * b.1)) (10000000 * b.1) b.2) (fun b => f.bs.length - b.1) (0, List.replicate f.ids.length 0) (fun _ _ st => st_sub2 st (by exact goSubr) (by exact goSubp)) ⟨Nat.zero_le _, by simp, rfl, Btw.rep _ (by dsimp only; omega) (by dsimp only; omega)⟩ ?_
  rintro ⟨k, cur⟩ ⟨hk, hcl, hnf, hbt⟩
  dsimp only at hk hcl hnf hbt ⊢
  (refine goSt ?_; (repeat (refine goAl ?_; intro p hp; refine goSt ?_)))
  refine w_cond rfl (fun hlt => ?_) (fun hlt => ?_)
  · have hlt' : k < f.bs.length := by simpa using hlt
    have hB := hF.bil _ (List.getElem_mem hlt')
    have hsl := hS.st _ (List.getElem_mem hlt')
    have hpe0 := hB.pe0
    have hpe1 := hB.pe1
    rw [drop_step hlt', bilFold_step hcl] at hnf
    (refine goSt ?_; (repeat (refine goAl ?_; intro p hp; refine goSt ?_)))
    rename_i ph hph
    have hsc := shares_con ph ow f f.bs[k] (by omega) (by omega) hB
    have hshl := shares_len f.ids f.bs[k]
    have hsb := shares_btw hB hsl
    generalize hsh : sharesR f.ids f.bs[k] = sh at *
    (apply wl_callP (hsc); exact rfl; exact goCutl; exact rfl)
    rintro _ _ ⟨u, rfl, rfl⟩
    have hc1l : cur.length = sh.length := by rw [hshl, hcl]
    (refine goSt ?_; (repeat (refine goAl ?_; intro p hp; refine goSt ?_)))
    refine W_loopJ (fun (m : Nat) => ⟨[(1, .val pf), (5, .val ph), (7, .val p), (25, .sl 4 biC f.bs), (26, .val (.int .i64 f.bs.length)), (27, .val (.int .i64 k)), (33, .val u), (34, .val (.int .i64 sh.length)), (35, .val (.int .i64 m))], [.row u 3 1 iC sh, .row ow 3 1 iC (subTo cur sh m), hsB ph f ow, .box p (biC f.bs[k]) 66, .box pf (flC f) 27, tab8]⟩)
      (fun m => m ≤ sh.length) (fun m => sh.length - m) 0 (fun _ _ st => st_sub2 st (by exact goSubr) (by exact goSubp)) (Nat.zero_le _) ?_
    rintro m hm
    (refine goSt ?_; (repeat (refine goAl ?_; intro p hp; refine goSt ?_)))
    refine w_cond rfl (fun hlm => ?_) (fun hlm => ?_)
    · have hlm' : m < sh.length := by simpa using hlm
      have hmc : m < cur.length := by omega
      have hmk : m < (subTo cur sh m).length := by rw [subTo_len hc1l]; exact hmc
      have hv : (subTo cur sh m)[m] = cur[m] := by
        have := subTo_get hc1l hmc
        rw [List.getElem?_eq_getElem hmk] at this
        exact Option.some.inj this
      have hb2 := hbt.at hmc
      have hb3 := hsb.at hlm'
      (refine goSt ?_; (repeat (refine goAl ?_; intro p hp; refine goSt ?_)))
      rw [show (subTo cur sh m).set m ((subTo cur sh m)[m] - sh[m]) = subTo cur sh (m + 1) from by rw [hv]; exact subTo_set hc1l hmc]
      (refine ⟨m + 1, fun _ _ st => st_sub2 st ?_ ?_, ?_, ?_⟩; exact goSubr; exact goSubp)
      · omega
      · omega
    · have hmm : m = sh.length := by simp at hlm; omega
      subst hmm
      rw [show subTo cur sh sh.length = subL cur sh from by rw [← hc1l]; exact subTo_all hc1l]
      have hb1 := hbt.subL hsb
      generalize hc1 : subL cur sh = c1 at *
      have hc1n : c1.length = f.ids.length := by rw [← hc1, subL_len hc1l, hcl]
      have hix : f.ids.idxOf f.bs[k].py < c1.length := by rw [hc1n]; exact List.idxOf_lt_length_of_mem hB.py
      have hq2 : c1[f.ids.idxOf f.bs[k].py]? = some c1[f.ids.idxOf f.bs[k].py] := List.getElem?_eq_getElem hix
      have hce := hb1.at hix
      have hb2 := hb1.addAt (f.ids.idxOf f.bs[k].py) (d := f.bs[k].pe) (a := 0) (b := 1000000) (by omega) (by omega) (by omega) (by omega) (by omega) (by omega)
      rw [addAt_at hix] at hb2 hnf
      (refine goSt ?_; (repeat (refine goAl ?_; intro p hp; refine goSt ?_)))
      refine W_run 12 [51, 52, 53, 54, 55, 56, 57, 58, 59, 60, 61, 62] [0, 1, 2, 3, 4, 5, 6, 7, 8, 9, 10, 11] Cut.nil rfl goFlt mixedS (by kernel_rfl) rfl ?_
      refine rpv [] [] ?_
      refine rpv [0] [] ?_
      refine rpv [1] [] ?_
      refine rpv [2] [] ?_
      refine rpv [] [] ?_
      refine rpv [] [] ?_
      refine rpv [5] [] ?_
      refine Run.pv [4, 6] [] rfl (fun vs => by apply ltr_pk; exact goPk; (apply ltr_callR ((indexAt_con ph ow f _ (by omega) hB.py)); exact rfl; exact goAtm)) goApp ?_
      refine rpv [3, 7] [] ?_
      refine rpv [8] [] ?_
      refine rpv [] [] ?_
      refine rpv [10] [] ?_
      refine ⟨⟨by kernel_rfl, by kernel_rfl⟩, fun vs => ?_⟩
      apply WL_auto [3, 7, 9, 11]
      · exact goPk
      · exact goNrm
      · kernel_rfl
      · kernel_rfl
      (refine goSt ?_; (repeat (refine goAl ?_; intro p hp; refine goSt ?_)))
      (refine ⟨(k + 1, c1.set (f.ids.idxOf f.bs[k].py) (c1[f.ids.idxOf f.bs[k].py] + f.bs[k].pe)), fun _ _ st => st_sub2 st ?_ ?_, ?_, ?_⟩; exact goSubr; exact goSubp)
      · exact ⟨hlt', by dsimp only; rw [List.length_set]; exact hc1n, hnf, hb2.mono (by dsimp only; omega) (by dsimp only; omega)⟩
      · dsimp only; omega
  · have hkk : k = f.bs.length := by simp at hlt; omega
    subst hkk
    rw [List.drop_length, bilFold] at hnf
    have hO : owed8 f = payFold f.ids f.ps cur := by unfold owed8; rw [← hnf]
    unfold OpenP
    rw [hO]
    clear hnf hlt hk hO
    (refine goSt ?_; (repeat (refine goAl ?_; intro p hp; refine goSt ?_)))
    refine W_loopJ (fun (b : Nat × List Int) => ⟨[(1, .val pf), (5, .val p), (67, .sl 3 payC f.ps), (68, .val (.int .i64 f.ps.length)), (69, .val (.int .i64 b.1))], [.row ow 3 1 iC b.2, hsB p f ow, .box pf (flC f) 27, tab8]⟩)
      (fun b => b.1 ≤ f.ps.length ∧ b.2.length = f.ids.length ∧ payFold f.ids (f.ps.drop b.1) b.2 = payFold f.ids f.ps cur ∧ Btw (-(200000000 + 2000000 * b.1)) (200000000 + 2000000 * b.1) b.2) (fun b => f.ps.length - b.1) (0, cur) (fun _ _ st => st_sub2 st (by exact goSubr) (by exact goSubp)) ⟨Nat.zero_le _, hcl, rfl, hbt.mono (by dsimp only; omega) (by dsimp only; omega)⟩ ?_
    clear hbt hcl
    rintro ⟨k, cu⟩ ⟨hk, hcl, hnf, hbt⟩
    dsimp only at hk hcl hnf hbt ⊢
    (refine goSt ?_; (repeat (refine goAl ?_; intro p hp; refine goSt ?_)))
    refine w_cond rfl (fun hlt => ?_) (fun hlt => ?_)
    · have hlt' : k < f.ps.length := by simpa using hlt
      have hP := hF.pay _ (List.getElem_mem hlt')
      rw [drop_step hlt', payFold] at hnf
      (refine goSt ?_; (repeat (refine goAl ?_; intro p hp; refine goSt ?_)))
      rename_i ph hph
      (apply wl_callP (paid_con ph ow f f.ps[k] cu (by omega) hP hcl hbt (by omega) (by omega)); exact rfl; exact goCutl; exact rfl)
      rintro _ _ ⟨rfl, rfl⟩
      (refine goSt ?_; (repeat (refine goAl ?_; intro p hp; refine goSt ?_)))
      (refine ⟨(k + 1, payStep f.ids f.ps[k] cu), fun _ _ st => st_sub2 st ?_ ?_, ?_, ?_⟩; exact goSubr; exact goSubp)
      · exact ⟨hlt', by dsimp only; unfold payStep; rw [addAt_len, addAt_len]; exact hcl, hnf, (payStep_btw (by omega) hP.2.2.2.1 hP.2.2.2.2 hbt).mono (by dsimp only; omega) (by dsimp only; omega)⟩
      · dsimp only; omega
    · have hkk : k = f.ps.length := by simp at hlt; omega
      subst hkk
      rw [List.drop_length, payFold] at hnf
      rw [← hnf]
      (refine goSt ?_; (repeat (refine goAl ?_; intro p hp; refine goSt ?_)))
      (apply resK2; exact rfl; exact rfl; exact rfl; exact ⟨p, ow, rfl, rfl⟩; exact goCutl)
end Go.Proofs.YtihonljdanjfmaaDoor.Sw
namespace Go.Proofs.YtihonljdanjfmaaDoor.Sw
open Go.RowKit Go Go.Shelf Go.Proofs
set_option maxRecDepth 100000 in
theorem eqPair (a b c d : Int) (w : World) : (Op.equalIn 10000 105 (.agg #[.int .i64 a, .int .i64 b]) (.agg #[.int .i64 c, .int .i64 d])).run Tryd.prog w = .ok (a == c && b == d) w := by
  have u3 := Tryd.underlying3
  have a3 := Tryd.isAgg3
  have z3 := Tryd.sizeOf3
  rw [show (10000 : Nat) = 9999 + 1 from rfl, Op.equalIn]
  simp only [Sem.run_bind, run_underlying Tryd.underlying105, Result.andThen_ok]
  simp only [Std.Legacy.Range.forIn_eq_forIn_range', Std.Legacy.Range.size, Nat.sub_zero, Nat.add_sub_cancel, Nat.div_one, List.range'_succ, List.range'_zero, List.forIn_cons, List.forIn_nil]
  go_simp
  by_cases h1 : a = c <;> by_cases h2 : b = d <;> simp [h1, h2]
instance tyqPair : TyQ Tryd.prog 105 2 := ⟨fun x y xs ys w h1 h2 => by
  match xs, ys, h1, h2 with
  | [x0, x1], [y0, y1], _, _ =>
    refine ⟨?_, ?_, ?_, ?_⟩
    · simp [go_sem]
    · simp [go_sem]
    · simp [go_sem]; rw [eqPair]; simp [Result.andThen]; rfl
    · simp [go_sem]; rw [eqPair]; simp [Result.andThen]; rfl⟩
theorem quEq (x y : Qu) : decide ([x.a, x.b] = [y.a, y.b]) = decide (x = y) := by
  refine decide_eq_decide.2 ?_
  cases x; cases y; simp
/-- Where a quarrel stands; -1 if it doesn't. -/
def ixQ (l : List Qu) (x : Qu) : Int := fiX (fun y => decide (x = y)) l
set_option maxRecDepth 20000 in
theorem indexQ_con (xs : List Qu) (x : Qu) (hl : xs.length ≤ 1000000) : Con Tryd.prog 76 [.sl 2 quC xs, .agg (quC x)] [] (Is (.val (.int .i64 (ixQ xs x))) []) := by
  refine con_of Tryd.func76 rfl (enters_of Tryd.func76 (by kernel_rfl) rfl) rfl ?_; intro n w0 F0 G0
  (refine goSt ?_; (repeat (refine goAl ?_; intro p hp; refine goSt ?_)))
  refine W_loopJ (fun (k : Nat) => ⟨[(0, .sl 2 quC xs), (3, .val p), (7, .val (.int .i64 xs.length)), (8, .val (.int .i64 k))], [.box p (quC x) 55]⟩) (fun k => k ≤ xs.length ∧ (xs.take k).any (fun y => decide (x = y)) = false) (fun k => xs.length - k) 0 (fun _ _ st => st_sub2 st goSubr goSubp) ?hj0 ?round
  case hj0 => simp
  case round =>
    rintro k ⟨hk, hno⟩
    (refine goSt ?_; (repeat (refine goAl ?_; intro p hp; refine goSt ?_)))
    refine w_cond rfl (fun hlt => ?_) (fun hlt => ?_)
    · have hlt' : k < xs.length := by simpa using hlt
      have hq1 : xs[k]? = some xs[k] := List.getElem?_eq_getElem hlt'
      (refine goSt ?_; (repeat (refine goAl ?_; intro p hp; refine goSt ?_)))
      refine W_run 5 [11, 12, 13, 14, 15] [0, 1, 2, 3, 4] Cut.nil rfl goFlt mixedS (by kernel_rfl) rfl ?_
      refine rpv [] [] ?_
      refine rpv [] [] ?_
      refine rpv [] [] ?_
      refine rpv [1, 2] [] ?_
      refine rpv [3] [] ?_
      refine ⟨⟨by kernel_rfl, by kernel_rfl⟩, fun vs => ?_⟩
      apply WL_auto [0, 4]
      · exact goPk
      · exact goNrm
      · kernel_rfl
      · kernel_rfl
      (refine goSt ?_; (repeat (refine goAl ?_; intro p hp; refine goSt ?_)))
      rw [quEq]
      refine w_cond rfl (fun he => ?_) (fun he => ?_)
      · (refine goSt ?_; (repeat (refine goAl ?_; intro p hp; refine goSt ?_)))
        (apply res1; exact rfl; exact rfl; exact ⟨(congrArg (fun b => AV.val (Value.int .i64 b)) (fiX_at (p := fun y => decide (x = y)) hlt' hno he).symm), rfl⟩)
      · (refine goSt ?_; (repeat (refine goAl ?_; intro p hp; refine goSt ?_)))
        (refine ⟨k + 1, fun _ _ st => st_sub2 st ?_ ?_, ?_, ?_⟩; exact goSubr; exact goSubp)
        · refine ⟨by omega, ?_⟩
          rw [List.take_succ_eq_append_getElem hlt', List.any_append, hno]
          simpa using he
        · omega
    · (refine goSt ?_; (repeat (refine goAl ?_; intro p hp; refine goSt ?_)))
      have hkk : k = xs.length := by simp at hlt; omega
      subst hkk
      rw [List.take_length] at hno
      (apply res1; exact rfl; exact rfl; exact ⟨(congrArg (fun b => AV.val (Value.int .i64 b)) (fiX_none hno).symm), rfl⟩)
set_option maxRecDepth 20000 in
theorem containsQ_con (xs : List Qu) (x : Qu) (hl : xs.length ≤ 1000000) : Con Tryd.prog 110 [.sl 2 quC xs, .agg (quC x)] [] (Is (.val (.bool (xs.any fun y => decide (x = y)))) []) := by
  refine con_of Tryd.func110 rfl (enters_of Tryd.func110 (by kernel_rfl) rfl) rfl ?_; intro n w0 F0 G0
  (refine goSt ?_; (repeat (refine goAl ?_; intro p hp; refine goSt ?_)))
  (first | (apply wl_call (indexQ_con xs x hl); exact rfl; exact rfl) | (apply wl_callR (indexQ_con xs x hl); exact rfl; exact goAtm; exact rfl))
  (refine goSt ?_; (repeat (refine goAl ?_; intro p hp; refine goSt ?_)))
  (apply res1; exact rfl; exact rfl; exact ⟨(congrArg (fun b => AV.val (Value.bool b)) fiX_ge), rfl⟩)
theorem rises_sorted : ∀ {l : List Int} {last : Int}, rises last l = true → ∀ i j (hi : i < l.length) (hj : j < l.length), i < j → l[i] < l[j]
  | [], _, _, i, j, hi, _, _ => by simp at hi
  | x :: t, last, h, i, j, hi, hj, hij => by
    have h2 := rises_all (l := t) (last := x) (by simp only [rises, Bool.and_eq_true] at h; exact h.2)
    cases j with
    | zero => omega
    | succ j =>
      cases i with
      | zero =>
        simp only [List.getElem_cons_zero, List.getElem_cons_succ]
        have := h2 _ (List.getElem_mem (by simpa using hj)); omega
      | succ i =>
        simp only [List.getElem_cons_succ]
        exact rises_sorted (l := t) (last := x) (by simp only [rises, Bool.and_eq_true] at h; exact h.2) i j _ _ (by omega)
def prC (i k : Int) : List AV := [.val (.int .i64 i), .val (.int .i64 k)]
theorem speakR_same (qs : List Qu) (a : Int) : speakR qs a a = false := by simp [speakR]
set_option maxRecDepth 20000 in
set_option maxHeartbeats 4000000 in
theorem speak_con (ph ow : Value) (f : Flo) (i k : Nat) (hi : i < f.ids.length) (hk : k < f.ids.length) (hr : rises 0 f.ids = true) (hl : f.ids.length ≤ 1000) (hql : f.qs.length ≤ 1000) : Con Tryd.prog 57 [.val ph, .agg (prC i k)] [hsB ph f ow] (Is (.val (.bool (speakR f.qs f.ids[i] f.ids[k]))) [hsB ph f ow]) := by
  refine con_of Tryd.func57 rfl (enters_of Tryd.func57 (by kernel_rfl) rfl) rfl ?_; intro n w0 F0 G0
  (refine goSt ?_; (repeat (refine goAl ?_; intro p hp; refine goSt ?_)))
  by_cases hik : i = k
  · subst hik
    rw [speakR_same]
    refine W_run 41 [5, 6, 7, 8, 9, 10, 11, 12, 13, 14, 15, 16, 17, 18, 19, 20, 21, 22, 23, 24, 25, 26, 27, 28, 29, 30, 31, 32, 33, 34, 35, 36, 37, 38, 39, 40, 41, 42, 43, 44, 45] [0, 1, 2, 3, 4, 5, 6, 7, 8, 9, 10, 11, 12, 13, 14, 15, 16, 17, 18, 19, 20, 21, 22, 23, 24, 25, 26, 27, 28, 29, 30, 31, 32, 33, 34, 35, 36, 37, 38, 39, 40] Cut.nil rfl goFlt mixedS (by kernel_rfl) rfl ?_
    refine rpv [] [] ?_
    refine rpv [] [] ?_
    refine rpv [1] [] ?_
    refine rpv [] [] ?_
    refine rpv [3] [] ?_
    refine rpv [2, 4] [] ?_
    refine Run.pv [0, 5] [] rfl (fun vs => by apply ltr_pk; exact goPk; (refine ltr ?_; apply LT_bool false; apply lt_neqN; exact rfl; exact rfl; (repeat (first | exact Ints.nil | apply Ints.cons)); (repeat (first | exact Ints.nil | apply Ints.cons)); exact rfl; exact rfl; simp)) goApp ?_
    refine rpv [6] [] ?_
    refine Run.no [7] [] rfl rfl (fun vs => by apply look_pk; exact goPk; exact rfl) (by exact rfl) goApp ?_
    refine Run.no [7, 8] [] rfl rfl (fun vs => by apply look_pk; exact goPk; exact rfl) (by exact rfl) goApp ?_
    refine Run.no [7, 9] [] rfl rfl (fun vs => by apply look_pk; exact goPk; exact rfl) (by exact rfl) goApp ?_
    refine Run.no [7, 10] [] rfl rfl (fun vs => by apply look_pk; exact goPk; exact rfl) (by exact rfl) goApp ?_
    refine Run.no [7, 11] [] rfl rfl (fun vs => by apply look_pk; exact goPk; exact rfl) (by exact rfl) goApp ?_
    refine Run.no [7] [] rfl rfl (fun vs => by apply look_pk; exact goPk; exact rfl) (by exact rfl) goApp ?_
    refine Run.no [7, 13] [] rfl rfl (fun vs => by apply look_pk; exact goPk; exact rfl) (by exact rfl) goApp ?_
    refine Run.no [7, 14] [] rfl rfl (fun vs => by apply look_pk; exact goPk; exact rfl) (by exact rfl) goApp ?_
    refine Run.no [7, 15] [] rfl rfl (fun vs => by apply look_pk; exact goPk; exact rfl) (by exact rfl) goApp ?_
    refine Run.no [7, 16] [] rfl rfl (fun vs => by apply look_pk; exact goPk; exact rfl) (by exact rfl) goApp ?_
    refine Run.no [7] [] rfl rfl (fun vs => by apply look_pk; exact goPk; exact rfl) (by exact rfl) goApp ?_
    refine Run.no [7, 18] [] rfl rfl (fun vs => by apply look_pk; exact goPk; exact rfl) (by exact rfl) goApp ?_
    refine Run.no [7] [] rfl rfl (fun vs => by apply look_pk; exact goPk; exact rfl) (by exact rfl) goApp ?_
    refine Run.no [7, 20] [] rfl rfl (fun vs => by apply look_pk; exact goPk; exact rfl) (by exact rfl) goApp ?_
    refine Run.no [7, 19, 21] [] rfl rfl (fun vs => by apply look_pk; exact goPk; exact rfl) (by exact rfl) goApp ?_
    refine Run.no [7, 17, 22] [] rfl rfl (fun vs => by apply look_pk; exact goPk; exact rfl) (by exact rfl) goApp ?_
    refine Run.no [7, 23] [] rfl rfl (fun vs => by apply look_pk; exact goPk; exact rfl) (by exact rfl) goApp ?_
    refine Run.no [7] [] rfl rfl (fun vs => by apply look_pk; exact goPk; exact rfl) (by exact rfl) goApp ?_
    refine Run.no [7, 25] [] rfl rfl (fun vs => by apply look_pk; exact goPk; exact rfl) (by exact rfl) goApp ?_
    refine Run.no [7, 26] [] rfl rfl (fun vs => by apply look_pk; exact goPk; exact rfl) (by exact rfl) goApp ?_
    refine Run.no [7, 27] [] rfl rfl (fun vs => by apply look_pk; exact goPk; exact rfl) (by exact rfl) goApp ?_
    refine Run.no [7, 28] [] rfl rfl (fun vs => by apply look_pk; exact goPk; exact rfl) (by exact rfl) goApp ?_
    refine Run.no [7] [] rfl rfl (fun vs => by apply look_pk; exact goPk; exact rfl) (by exact rfl) goApp ?_
    refine Run.no [7, 30] [] rfl rfl (fun vs => by apply look_pk; exact goPk; exact rfl) (by exact rfl) goApp ?_
    refine Run.no [7] [] rfl rfl (fun vs => by apply look_pk; exact goPk; exact rfl) (by exact rfl) goApp ?_
    refine Run.no [7, 32] [] rfl rfl (fun vs => by apply look_pk; exact goPk; exact rfl) (by exact rfl) goApp ?_
    refine Run.no [7, 31, 33] [] rfl rfl (fun vs => by apply look_pk; exact goPk; exact rfl) (by exact rfl) goApp ?_
    refine Run.no [7, 29, 34] [] rfl rfl (fun vs => by apply look_pk; exact goPk; exact rfl) (by exact rfl) goApp ?_
    refine Run.no [7, 35] [] rfl rfl (fun vs => by apply look_pk; exact goPk; exact rfl) (by exact rfl) goApp ?_
    refine Run.no [7, 24, 36] [] rfl rfl (fun vs => by apply look_pk; exact goPk; exact rfl) (by exact rfl) goApp ?_
    refine Run.no [7, 12, 37] [] rfl rfl (fun vs => by apply look_pk; exact goPk; exact rfl) (by exact rfl) goApp ?_
    refine Run.no [7, 38] [] rfl rfl (fun vs => by apply look_pk; exact goPk; exact rfl) (by exact rfl) goApp ?_
    refine rpv [7, 39] [] ?_
    refine ⟨⟨by kernel_rfl, by kernel_rfl⟩, fun vs => ?_⟩
    apply WL_auto [40]
    · exact goPk
    · exact goNrm
    · kernel_rfl
    · kernel_rfl
    (refine goSt ?_; (repeat (refine goAl ?_; intro p hp; refine goSt ?_)))
    (apply resK1; exact rfl; exact rfl; exact ⟨rfl, rfl⟩; exact goCutl)
  · have hm : f.ids[min i k]? = some (min f.ids[i] f.ids[k]) ∧ f.ids[max i k]? = some (max f.ids[i] f.ids[k]) ∧ f.ids[i] ≠ f.ids[k] := by
      rcases Nat.lt_or_gt_of_ne hik with h | h
      · have := rises_sorted hr i k hi hk h
        rw [Nat.min_eq_left (by omega), Nat.max_eq_right (by omega), Int.min_eq_left (by omega), Int.max_eq_right (by omega), List.getElem?_eq_getElem hi, List.getElem?_eq_getElem hk]
        exact ⟨rfl, rfl, by omega⟩
      · have := rises_sorted hr k i hk hi h
        rw [Nat.min_eq_right (by omega), Nat.max_eq_left (by omega), Int.min_eq_right (by omega), Int.max_eq_left (by omega), List.getElem?_eq_getElem hi, List.getElem?_eq_getElem hk]
        exact ⟨rfl, rfl, by omega⟩
    obtain ⟨hm1, hm2, hm3⟩ := hm
    have hsp : speakR f.qs f.ids[i] f.ids[k] = !(f.qs.any fun y => decide ((⟨min f.ids[i] f.ids[k], max f.ids[i] f.ids[k]⟩ : Qu) = y)) := by
      unfold speakR
      rw [decide_eq_true hm3, Bool.and_true]
      congr 2
      funext q
      cases q
      simp only [hits, Qu.mk.injEq]
      rw [← Bool.decide_and]
      exact decide_eq_decide.2 (by constructor <;> rintro ⟨h1, h2⟩ <;> exact ⟨h1.symm, h2.symm⟩)
    rw [hsp]
    refine W_run 41 [5, 6, 7, 8, 9, 10, 11, 12, 13, 14, 15, 16, 17, 18, 19, 20, 21, 22, 23, 24, 25, 26, 27, 28, 29, 30, 31, 32, 33, 34, 35, 36, 37, 38, 39, 40, 41, 42, 43, 44, 45] [0, 1, 2, 3, 4, 5, 6, 7, 8, 9, 10, 11, 12, 13, 14, 15, 16, 17, 18, 19, 20, 21, 22, 23, 24, 25, 26, 27, 28, 29, 30, 31, 32, 33, 34, 35, 36, 37, 38, 39, 40] Cut.nil rfl goFlt mixedS (by kernel_rfl) rfl ?_
    refine rpv [] [] ?_
    refine rpv [] [] ?_
    refine rpv [1] [] ?_
    refine rpv [] [] ?_
    refine rpv [3] [] ?_
    refine rpv [2, 4] [] ?_
    refine Run.pv [0, 5] [] rfl (fun vs => by apply ltr_pk; exact goPk; (refine ltr ?_; apply LT_bool true; apply lt_neqN; exact rfl; exact rfl; (repeat (first | exact Ints.nil | apply Ints.cons)); (repeat (first | exact Ints.nil | apply Ints.cons)); exact rfl; exact rfl; (simp; omega))) goApp ?_
    refine rpv [6] [] ?_
    refine Run.yes [7] [] rfl rfl (fun vs => by apply look_pk; exact goPk; exact rfl) (fun vs => by apply ltr_pk; exact goPk; exact goLtr) goApp ?_
    refine Run.yes [7, 8] [] rfl rfl (fun vs => by apply look_pk; exact goPk; exact rfl) (fun vs => by apply ltr_pk; exact goPk; exact goLtr) goApp ?_
    refine Run.yes [7, 9] [] rfl rfl (fun vs => by apply look_pk; exact goPk; exact rfl) (fun vs => by apply ltr_pk; exact goPk; exact goLtr) goApp ?_
    refine Run.yes [7, 10] [] rfl rfl (fun vs => by apply look_pk; exact goPk; exact rfl) (fun vs => by apply ltr_pk; exact goPk; exact goLtr) goApp ?_
    refine Run.yes [7, 11] [] rfl rfl (fun vs => by apply look_pk; exact goPk; exact rfl) (fun vs => by apply ltr_pk; exact goPk; exact goLtr) goApp ?_
    refine Run.yes [7] [] rfl rfl (fun vs => by apply look_pk; exact goPk; exact rfl) (fun vs => by apply ltr_pk; exact goPk; exact goLtr) goApp ?_
    refine Run.yes [7, 13] [] rfl rfl (fun vs => by apply look_pk; exact goPk; exact rfl) (fun vs => by apply ltr_pk; exact goPk; exact goLtr) goApp ?_
    refine Run.yes [7, 14] [] rfl rfl (fun vs => by apply look_pk; exact goPk; exact rfl) (fun vs => by apply ltr_pk; exact goPk; exact goLtr) goApp ?_
    refine Run.yes [7, 15] [] rfl rfl (fun vs => by apply look_pk; exact goPk; exact rfl) (fun vs => by apply ltr_pk; exact goPk; exact goLtr) goApp ?_
    refine Run.yes [7, 16] [] rfl rfl (fun vs => by apply look_pk; exact goPk; exact rfl) (fun vs => by apply ltr_pk; exact goPk; exact goLtr) goApp ?_
    refine Run.yes [7] [] rfl rfl (fun vs => by apply look_pk; exact goPk; exact rfl) (fun vs => by apply ltr_pk; exact goPk; exact goLtr) goApp ?_
    refine Run.yes [7, 18] [] rfl rfl (fun vs => by apply look_pk; exact goPk; exact rfl) (fun vs => by apply ltr_pk; exact goPk; exact goLtr) goApp ?_
    refine Run.yes [7] [] rfl rfl (fun vs => by apply look_pk; exact goPk; exact rfl) (fun vs => by apply ltr_pk; exact goPk; exact goLtr) goApp ?_
    refine Run.yes [7, 20] [] rfl rfl (fun vs => by apply look_pk; exact goPk; exact rfl) (fun vs => by apply ltr_pk; exact goPk; exact goLtr) goApp ?_
    refine Run.yes [7, 19, 21] [] rfl rfl (fun vs => by apply look_pk; exact goPk; exact rfl) (fun vs => by apply ltr_pk; exact goPk; (refine ltr ?_; apply LT_int ((min i k : Nat) : Int); apply lt_min2; exact rfl; exact rfl; omega)) goApp ?_
    refine Run.yes [7, 17, 22] [] rfl rfl (fun vs => by apply look_pk; exact goPk; exact rfl) (fun vs => by apply ltr_pk; exact goPk; exact goLtr) goApp ?_
    refine Run.yes [7, 23] [] rfl rfl (fun vs => by apply look_pk; exact goPk; exact rfl) (fun vs => by apply ltr_pk; exact goPk; exact goLtr) goApp ?_
    refine Run.yes [7] [] rfl rfl (fun vs => by apply look_pk; exact goPk; exact rfl) (fun vs => by apply ltr_pk; exact goPk; exact goLtr) goApp ?_
    refine Run.yes [7, 25] [] rfl rfl (fun vs => by apply look_pk; exact goPk; exact rfl) (fun vs => by apply ltr_pk; exact goPk; exact goLtr) goApp ?_
    refine Run.yes [7, 26] [] rfl rfl (fun vs => by apply look_pk; exact goPk; exact rfl) (fun vs => by apply ltr_pk; exact goPk; exact goLtr) goApp ?_
    refine Run.yes [7, 27] [] rfl rfl (fun vs => by apply look_pk; exact goPk; exact rfl) (fun vs => by apply ltr_pk; exact goPk; exact goLtr) goApp ?_
    refine Run.yes [7, 28] [] rfl rfl (fun vs => by apply look_pk; exact goPk; exact rfl) (fun vs => by apply ltr_pk; exact goPk; exact goLtr) goApp ?_
    refine Run.yes [7] [] rfl rfl (fun vs => by apply look_pk; exact goPk; exact rfl) (fun vs => by apply ltr_pk; exact goPk; exact goLtr) goApp ?_
    refine Run.yes [7, 30] [] rfl rfl (fun vs => by apply look_pk; exact goPk; exact rfl) (fun vs => by apply ltr_pk; exact goPk; exact goLtr) goApp ?_
    refine Run.yes [7] [] rfl rfl (fun vs => by apply look_pk; exact goPk; exact rfl) (fun vs => by apply ltr_pk; exact goPk; exact goLtr) goApp ?_
    refine Run.yes [7, 32] [] rfl rfl (fun vs => by apply look_pk; exact goPk; exact rfl) (fun vs => by apply ltr_pk; exact goPk; exact goLtr) goApp ?_
    refine Run.yes [7, 31, 33] [] rfl rfl (fun vs => by apply look_pk; exact goPk; exact rfl) (fun vs => by apply ltr_pk; exact goPk; (refine ltr ?_; apply LT_int ((max i k : Nat) : Int); apply lt_max2; exact rfl; exact rfl; omega)) goApp ?_
    refine Run.yes [7, 29, 34] [] rfl rfl (fun vs => by apply look_pk; exact goPk; exact rfl) (fun vs => by apply ltr_pk; exact goPk; exact goLtr) goApp ?_
    refine Run.yes [7, 35] [] rfl rfl (fun vs => by apply look_pk; exact goPk; exact rfl) (fun vs => by apply ltr_pk; exact goPk; exact goLtr) goApp ?_
    refine Run.yes [7, 24, 36] [] rfl rfl (fun vs => by apply look_pk; exact goPk; exact rfl) (fun vs => by apply ltr_pk; exact goPk; exact goLtr) goApp ?_
    refine Run.yes [7, 12, 37] [] rfl rfl (fun vs => by apply look_pk; exact goPk; exact rfl) (fun vs => by apply ltr_pk; exact goPk; (refine ltr ?_; refine lt_call ?_ ((containsQ_con f.qs ⟨min f.ids[i] f.ids[k], max f.ids[i] f.ids[k]⟩ (by omega))); exact rfl)) goApp ?_
    refine Run.yes [7, 38] [] rfl rfl (fun vs => by apply look_pk; exact goPk; exact rfl) (fun vs => by apply ltr_pk; exact goPk; exact goLtr) goApp ?_
    refine rpv [7, 39] [] ?_
    refine ⟨⟨by kernel_rfl, by kernel_rfl⟩, fun vs => ?_⟩
    apply WL_auto [40]
    · exact goPk
    · exact goNrm
    · kernel_rfl
    · kernel_rfl
    (refine goSt ?_; (repeat (refine goAl ?_; intro p hp; refine goSt ?_)))
    (apply resK1; exact rfl; exact rfl; exact ⟨rfl, rfl⟩; exact goCutl)
end Go.Proofs.YtihonljdanjfmaaDoor.Sw
namespace Go.Proofs.YtihonljdanjfmaaDoor.Gr
/-- No edge leaves the set. -/
def Cl (L : List (Nat × Nat)) (P : Nat → Bool) : Prop := ∀ p ∈ L, P p.1 = P p.2
def sumP : Nat → (Nat → Int) → (Nat → Bool) → Int
  | 0, _, _ => 0
  | n + 1, x, P => sumP n x P + (if P n then x n else 0)
def cnt : Nat → (Nat → Bool) → Nat
  | 0, _ => 0
  | n + 1, P => cnt n P + (if P n then 1 else 0)
/-- Each set that no edge leaves comes to nothing. -/
def Zr (n : Nat) (L : List (Nat × Nat)) (x : Nat → Int) : Prop := ∀ P, Cl L P → sumP n x P = 0
def upd (x : Nat → Int) (i : Nat) (c : Int) : Nat → Int := fun v => if v = i then c else x v
def flip (P : Nat → Bool) (i : Nat) (c : Bool) : Nat → Bool := fun v => if v = i then c else P v
theorem sumP_congr {x y : Nat → Int} {P Q : Nat → Bool} : ∀ {n : Nat}, (∀ v, v < n → x v = y v) → (∀ v, v < n → P v = Q v) → sumP n x P = sumP n y Q
  | 0, _, _ => rfl
  | n + 1, h1, h2 => by
    unfold sumP
    rw [sumP_congr (fun v hv => h1 v (by omega)) (fun v hv => h2 v (by omega)), h1 n (by omega), h2 n (by omega)]
theorem sumP_upd {x : Nat → Int} {P : Nat → Bool} {i : Nat} {c : Int} : ∀ {n : Nat}, i < n → sumP n (upd x i c) P = sumP n x P + (if P i then c - x i else 0)
  | n + 1, h => by
    unfold sumP
    by_cases e : i = n
    · subst e
      rw [sumP_congr (y := x) (Q := P) (fun v hv => by unfold upd; rw [if_neg (by omega)]) (fun _ _ => rfl)]
      simp only [upd, if_true]
      split <;> omega
    · rw [sumP_upd (by omega)]
      have : upd x i c n = x n := by unfold upd; rw [if_neg (fun e' => e e'.symm)]
      rw [this]
      omega
theorem sumP_flip {x : Nat → Int} {P : Nat → Bool} {i : Nat} {c : Bool} : ∀ {n : Nat}, i < n → sumP n x (flip P i c) = sumP n x P + ((if c then x i else 0) - (if P i then x i else 0))
  | n + 1, h => by
    unfold sumP
    by_cases e : i = n
    · subst e
      rw [sumP_congr (y := x) (Q := P) (fun _ _ => rfl) (fun v hv => by unfold flip; rw [if_neg (by omega)])]
      simp only [flip, if_true]
      omega
    · rw [sumP_flip (by omega)]
      have : flip P i c n = P n := by unfold flip; rw [if_neg (fun e' => e e'.symm)]
      rw [this]
      omega
/-- What i has goes to o. -/
def mv (x : Nat → Int) (i o : Nat) : Nat → Int := upd (upd x o (x o + x i)) i 0
theorem sumP_mv {n : Nat} {x : Nat → Int} {P : Nat → Bool} {i o : Nat} (hi : i < n) (ho : o < n) (hne : i ≠ o) (h : P i = P o) : sumP n (mv x i o) P = sumP n x P := by
  unfold mv
  rw [sumP_upd hi, sumP_upd ho, h]
  have : upd x o (x o + x i) i = x i := by unfold upd; rw [if_neg hne]
  rw [this]
  split <;> omega
theorem mv_i {x : Nat → Int} {i o : Nat} : mv x i o i = 0 := by unfold mv upd; simp
theorem cnt_lt {P Q : Nat → Bool} {t : Nat} (hs : ∀ v, Q v = true → P v = true) (h1 : P t = true) (h2 : Q t = false) : ∀ {n : Nat}, t < n → cnt n Q < cnt n P := by
  have le : ∀ n, cnt n Q ≤ cnt n P := by
    intro n
    induction n with
    | zero => exact Nat.le_refl _
    | succ n ih =>
      unfold cnt
      by_cases h : Q n = true
      · rw [if_pos h, if_pos (hs n h)]; omega
      · rw [if_neg h]; omega
  intro n
  induction n with
  | zero => intro h; omega
  | succ n ih =>
    intro h
    unfold cnt
    by_cases e : t = n
    · subst e
      rw [h1, h2]
      have := le t
      simp; omega
    · have := ih (by omega)
      by_cases h : Q n = true
      · rw [if_pos h, if_pos (hs n h)]; omega
      · rw [if_neg h]; omega
/-- An edge at i. -/
def inc (i : Nat) (p : Nat × Nat) : Bool := decide (p.1 = i) || decide (p.2 = i)
/-- Edges between floors, each of two. -/
structure Ok (n : Nat) (L : List (Nat × Nat)) : Prop where
  nd : L.Nodup
  lt : ∀ p ∈ L, p.1 < n ∧ p.2 < n ∧ p.1 ≠ p.2
theorem Ok.erase {n : Nat} {L : List (Nat × Nat)} (h : Ok n L) (e : Nat × Nat) : Ok n (L.erase e) := ⟨h.nd.erase e, fun p hp => h.lt p (List.mem_of_mem_erase hp)⟩
/-- i's only edge is e. -/
def Leaf (L : List (Nat × Nat)) (i : Nat) (e : Nat × Nat) : Prop := e ∈ L ∧ inc i e = true ∧ ∀ p ∈ L, inc i p = true → p = e
def oth (e : Nat × Nat) (i : Nat) : Nat := e.1 + e.2 - i
theorem inc_iff {i : Nat} {e : Nat × Nat} : inc i e = true ↔ e.1 = i ∨ e.2 = i := by simp [inc]
theorem cl_inc {L : List (Nat × Nat)} {P : Nat → Bool} {e : Nat × Nat} {i : Nat} (hi : inc i e = true) (h : P e.1 = P e.2) : P i = P (oth e i) := by
  unfold oth
  rcases inc_iff.1 hi with h1 | h1
  · subst h1; rw [h]; congr 1; omega
  · subst h1; rw [← h]; congr 1; omega
/-- Where each edge is a bridge there is a leaf. -/
theorem leaf_of_bridges {n : Nat} {L : List (Nat × Nat)} (hok : Ok n L) (hb : ∀ e ∈ L, ∃ P, Cl (L.erase e) P ∧ P e.1 ≠ P e.2) : ∀ (m : Nat) (e : Nat × Nat) (P : Nat → Bool), e ∈ L → Cl (L.erase e) P → P e.1 ≠ P e.2 → cnt n P = m → ∃ i e, i < n ∧ Leaf L i e := by
  intro m
  induction m using Nat.strongRecOn with
  | _ m ih =>
    intro e P he hcl hne hm
    obtain ⟨h1, h2, h3⟩ := hok.lt e he
    -- the end within the set
    obtain ⟨s, t, hs, ht, htn, hit, hends⟩ : ∃ s t, P s = false ∧ P t = true ∧ t < n ∧ inc t e = true ∧ ((e.1 = s ∧ e.2 = t) ∨ (e.1 = t ∧ e.2 = s)) := by
      cases ha : P e.1 with
      | true => exact ⟨e.2, e.1, by rw [ha] at hne; simpa using hne.symm, ha, h1, by simp [inc], .inr ⟨rfl, rfl⟩⟩
      | false => exact ⟨e.1, e.2, ha, by rw [ha] at hne; simpa using hne.symm, h2, by simp [inc], .inl ⟨rfl, rfl⟩⟩
    by_cases hl : ∀ p ∈ L, inc t p = true → p = e
    · exact ⟨t, e, htn, he, hit, hl⟩
    · obtain ⟨e', hl⟩ := Classical.not_forall.1 hl
      have hl' : e' ∈ L ∧ inc t e' = true ∧ e' ≠ e := by
        by_cases a : e' ∈ L
        · by_cases b : inc t e' = true
          · exact ⟨a, b, fun c => hl fun _ _ => c⟩
          · exact absurd (fun _ h => absurd h b) hl
        · exact absurd (fun h => absurd h a) hl
      obtain ⟨he', hi', hne'⟩ := hl'
      have hcl' : P e'.1 = P e'.2 := hcl e' ((hok.nd.mem_erase_iff).2 ⟨hne', he'⟩)
      obtain ⟨Q0, hQ, hQne⟩ := hb e' he'
      -- the side of the other end
      obtain ⟨c, hce, hct⟩ : ∃ c, ((e'.1 = t ∧ e'.2 = c) ∨ (e'.1 = c ∧ e'.2 = t)) ∧ P c = true := by
        rcases inc_iff.1 hi' with h | h
        · exact ⟨e'.2, .inl ⟨h, rfl⟩, by rw [← hcl', h]; exact ht⟩
        · exact ⟨e'.1, .inr ⟨rfl, h⟩, by rw [hcl', h]; exact ht⟩
      obtain ⟨Q, hQ, hQc, hQt⟩ : ∃ Q, Cl (L.erase e') Q ∧ Q c = true ∧ Q t = false := by
        have hd : Q0 c ≠ Q0 t := by
          rcases hce with ⟨a, b⟩ | ⟨a, b⟩
          · rw [a, b] at hQne; exact hQne.symm
          · rw [a, b] at hQne; exact hQne
        cases hc : Q0 c with
        | true => exact ⟨Q0, hQ, hc, by rw [hc] at hd; simpa using hd.symm⟩
        | false => exact ⟨fun v => !Q0 v, fun p hp => by simp [hQ p hp], by simp [hc], by rw [hc] at hd; simpa using hd.symm⟩
      refine ih (cnt n fun v => P v && Q v) (hm ▸ cnt_lt (t := t) (fun v h => by simp at h; exact h.1) ht (by simp [hQt]) htn) e' (fun v => P v && Q v) he' (fun p hp => ?_) ?_ rfl
      · have hp' := (hok.nd.mem_erase_iff).1 hp
        by_cases hpe : p = e
        · subst hpe
          rcases hends with ⟨a, b⟩ | ⟨a, b⟩
          · simp [a, b, hs, hQt]
          · simp [a, b, hs, hQt]
        · show (P p.1 && Q p.1) = (P p.2 && Q p.2)
          rw [hcl p ((hok.nd.mem_erase_iff).2 ⟨hpe, hp'.2⟩), hQ p hp]
      · rcases hce with ⟨a, b⟩ | ⟨a, b⟩
        · simp [a, b, hQt, hQc, hct]
        · simp [a, b, hQt, hQc, hct]
/-- No edge can be left out. -/
def Min (n : Nat) (L : List (Nat × Nat)) (x : Nat → Int) : Prop := ∀ e ∈ L, ¬ Zr n (L.erase e) x
theorem Min.bridges {n : Nat} {L : List (Nat × Nat)} {x : Nat → Int} (hok : Ok n L) (hz : Zr n L x) (hm : Min n L x) : ∀ e ∈ L, ∃ P, Cl (L.erase e) P ∧ P e.1 ≠ P e.2 := fun e he => by
  have h := hm e he
  unfold Zr at h
  obtain ⟨P, h⟩ := Classical.not_forall.1 h
  have h1 : Cl (L.erase e) P := Classical.not_not.1 fun h1 => h fun h2 => absurd h2 h1
  have h2 : sumP n x P ≠ 0 := fun h2 => h fun _ => h2
  refine ⟨P, h1, fun heq => h2 (hz P fun p hp => ?_)⟩
  by_cases hpe : p = e
  · subst hpe; exact heq
  · exact h1 p ((hok.nd.mem_erase_iff).2 ⟨hpe, hp⟩)
theorem Min.leaf {n : Nat} {L : List (Nat × Nat)} {x : Nat → Int} (hok : Ok n L) (hz : Zr n L x) (hm : Min n L x) (hne : L ≠ []) : ∃ i e, i < n ∧ Leaf L i e := by
  obtain ⟨e, he⟩ := List.exists_mem_of_ne_nil L hne
  have hb := hm.bridges hok hz
  obtain ⟨P, h1, h2⟩ := hb e he
  exact leaf_of_bridges hok hb _ e P he h1 h2 rfl
theorem oth_spec {n : Nat} {L : List (Nat × Nat)} (hok : Ok n L) {i : Nat} {e : Nat × Nat} (he : e ∈ L) (hi : inc i e = true) : oth e i < n ∧ i ≠ oth e i ∧ i < n ∧ inc (oth e i) e = true := by
  obtain ⟨h1, h2, h3⟩ := hok.lt e he
  unfold oth
  rcases inc_iff.1 hi with h | h
  · subst h
    have : e.1 + e.2 - e.1 = e.2 := by omega
    rw [this]; exact ⟨h2, h3, h1, by simp [inc]⟩
  · subst h
    have : e.1 + e.2 - e.2 = e.1 := by omega
    rw [this]; exact ⟨h1, fun e' => h3 e'.symm, h2, by simp [inc]⟩
/-- A set that the other edges do not leave, made one that no edge leaves. -/
theorem cl_flip {n : Nat} {L : List (Nat × Nat)} (hok : Ok n L) {i : Nat} {e : Nat × Nat} (hl : Leaf L i e) {P : Nat → Bool} (h : Cl (L.erase e) P) : Cl L (flip P i (P (oth e i))) := fun p hp => by
  obtain ⟨he, hi, ho⟩ := hl
  obtain ⟨_, hne, _, _⟩ := oth_spec hok he hi
  have hself : flip P i (P (oth e i)) i = P (oth e i) := by simp [flip]
  have hoth : flip P i (P (oth e i)) (oth e i) = P (oth e i) := by unfold flip; rw [if_neg (fun e' => hne e'.symm)]
  by_cases hpe : p = e
  · subst hpe
    rcases inc_iff.1 hi with h1 | h1
    · have : p.2 = oth p i := by unfold oth; omega
      rw [h1, this, hself, hoth]
    · have : p.1 = oth p i := by unfold oth; omega
      rw [h1, this, hself, hoth]
  · have hn : inc i p ≠ true := fun h1 => hpe (ho p hp h1)
    have h1 : p.1 ≠ i := fun h1 => hn (by simp [inc, h1])
    have h2 : p.2 ≠ i := fun h2 => hn (by simp [inc, h2])
    unfold flip
    rw [if_neg h1, if_neg h2]
    exact h p ((hok.nd.mem_erase_iff).2 ⟨hpe, hp⟩)
theorem Min.left {n : Nat} {L : List (Nat × Nat)} {x : Nat → Int} (hok : Ok n L) (hz : Zr n L x) (hm : Min n L x) {i : Nat} {e : Nat × Nat} (hl : Leaf L i e) : x i ≠ 0 := fun h0 => by
  obtain ⟨_, _, hin, _⟩ := oth_spec hok hl.1 hl.2.1
  refine hm e hl.1 fun P h => ?_
  have := hz _ (cl_flip hok hl h)
  rw [sumP_flip hin, h0] at this
  simpa using this
theorem step_zr {n : Nat} {L : List (Nat × Nat)} {x : Nat → Int} (hok : Ok n L) (hz : Zr n L x) {i : Nat} {e : Nat × Nat} (hl : Leaf L i e) : Zr n (L.erase e) (mv x i (oth e i)) := fun P h => by
  obtain ⟨hon, hne, hin, _⟩ := oth_spec hok hl.1 hl.2.1
  have h1 := hz _ (cl_flip hok hl h)
  have h2 : sumP n (mv x i (oth e i)) (flip P i (P (oth e i))) = sumP n x (flip P i (P (oth e i))) := sumP_mv hin hon hne (by unfold flip; rw [if_pos rfl, if_neg (fun e' => hne e'.symm)])
  rw [sumP_flip hin, mv_i, h1] at h2
  simpa using h2
theorem step_zr_back {n : Nat} {L : List (Nat × Nat)} {x : Nat → Int} (hok : Ok n L) {i : Nat} {e : Nat × Nat} (he : e ∈ L) (hi : inc i e = true) (hz : Zr n (L.erase e) (mv x i (oth e i))) : Zr n L x := fun P h => by
  obtain ⟨hon, hne, hin, _⟩ := oth_spec hok he hi
  rw [← sumP_mv (x := x) hin hon hne (cl_inc (L := L) hi (h e he))]
  exact hz P fun p hp => h p (List.mem_of_mem_erase hp)
theorem erase_erase {L : List (Nat × Nat)} {e e' : Nat × Nat} : (L.erase e).erase e' = (L.erase e').erase e := List.erase_comm ..
theorem step_min {n : Nat} {L : List (Nat × Nat)} {x : Nat → Int} (hok : Ok n L) (hm : Min n L x) {i : Nat} {e : Nat × Nat} (hl : Leaf L i e) : Min n (L.erase e) (mv x i (oth e i)) := fun e' he' hz => by
  have h1 := (hok.nd.mem_erase_iff).1 he'
  refine hm e' h1.2 (step_zr_back (hok.erase e') ((hok.nd.mem_erase_iff).2 ⟨fun h => h1.1 h.symm, hl.1⟩) hl.2.1 ?_)
  rw [erase_erase]
  exact hz
/-- Some edges do, and none of these can be left out. -/
theorem exists_min {n : Nat} {x : Nat → Int} : ∀ (m : Nat) {L : List (Nat × Nat)}, L.length = m → Ok n L → Zr n L x → ∃ S, List.Sublist S L ∧ Ok n S ∧ Zr n S x ∧ Min n S x := by
  intro m
  induction m with
  | zero =>
    intro L hl hok hz
    have : L = [] := List.eq_nil_of_length_eq_zero hl
    subst this
    exact ⟨[], List.Sublist.refl _, hok, hz, fun _ h => by cases h⟩
  | succ m ih =>
    intro L hl hok hz
    by_cases h : Min n L x
    · exact ⟨L, List.Sublist.refl _, hok, hz, h⟩
    · unfold Min at h
      obtain ⟨e, h⟩ := Classical.not_forall.1 h
      have he : e ∈ L := Classical.not_not.1 fun h1 => h fun h2 => absurd h2 h1
      have hze : Zr n (L.erase e) x := Classical.not_not.1 fun h1 => h fun _ => h1
      obtain ⟨S, h1, h2⟩ := ih (by rw [List.length_erase_of_mem he]; omega) (hok.erase e) hze
      exact ⟨S, h1.trans List.erase_sublist, h2⟩
/-- Floors that have an edge. -/
def deg (L : List (Nat × Nat)) (v : Nat) : Bool := L.any (inc v)
theorem cnt_le (P : Nat → Bool) : ∀ n, cnt n P ≤ n
  | 0 => Nat.le_refl _
  | n + 1 => by unfold cnt; have := cnt_le P n; split <;> omega
theorem cnt_two {P : Nat → Bool} {a b : Nat} (h1 : P a = true) (h2 : P b = true) (hne : a ≠ b) : ∀ {n : Nat}, a < n → b < n → 2 ≤ cnt n P := by
  have one : ∀ {c n}, P c = true → c < n → 1 ≤ cnt n P := by
    intro c n h
    induction n with
    | zero => intro h; omega
    | succ n ih =>
      intro hc
      unfold cnt
      by_cases e : c = n
      · subst e; rw [if_pos h]; omega
      · have := ih (by omega); omega
  intro n
  induction n with
  | zero => intro h; omega
  | succ n ih =>
    intro ha hb
    unfold cnt
    by_cases e : a = n
    · subst e; rw [if_pos h1]; have := one (n := a) h2 (by omega); omega
    · by_cases e' : b = n
      · subst e'; rw [if_pos h2]; have := one (n := b) h1 (by omega); omega
      · have := ih (by omega) (by omega); omega
theorem deg_step {n : Nat} {L : List (Nat × Nat)} (hok : Ok n L) {i : Nat} {e : Nat × Nat} (hl : Leaf L i e) : cnt n (deg (L.erase e)) < cnt n (deg L) := by
  obtain ⟨_, _, hin, _⟩ := oth_spec hok hl.1 hl.2.1
  refine cnt_lt (t := i) (fun v h => ?_) ?_ ?_ hin
  · obtain ⟨p, hp, h⟩ := List.any_eq_true.1 h
    exact List.any_eq_true.2 ⟨p, List.mem_of_mem_erase hp, h⟩
  · exact List.any_eq_true.2 ⟨e, hl.1, hl.2.1⟩
  · refine Bool.eq_false_iff.2 fun h => ?_
    obtain ⟨p, hp, h⟩ := List.any_eq_true.1 h
    have h1 := (hok.nd.mem_erase_iff).1 hp
    exact h1.1 (hl.2.2 p h1.2 h)
theorem Min.size {n : Nat} : ∀ (m : Nat) {L : List (Nat × Nat)} {x : Nat → Int}, L.length = m → Ok n L → Zr n L x → Min n L x → L ≠ [] → L.length + 1 ≤ cnt n (deg L) := by
  intro m
  induction m with
  | zero => intro L x hl _ _ _ hne; exact absurd (List.eq_nil_of_length_eq_zero hl) hne
  | succ m ih =>
    intro L x hl hok hz hm hne
    obtain ⟨i, e, hin, hle⟩ := hm.leaf hok hz hne
    have hd := deg_step hok hle
    have hlen := List.length_erase_of_mem hle.1
    by_cases h0 : L.erase e = []
    · rw [h0] at hlen
      obtain ⟨hon, hne', _, hio⟩ := oth_spec hok hle.1 hle.2.1
      have := cnt_two (P := deg L) (n := n) (List.any_eq_true.2 ⟨e, hle.1, hle.2.1⟩) (List.any_eq_true.2 ⟨e, hle.1, hio⟩) hne' hin hon
      simp at hlen
      omega
    · have := ih (x := mv x i (oth e i)) (by omega) (hok.erase e) (step_zr hok hz hle) (step_min hok hm hle) h0
      omega
theorem Min.small {n : Nat} {L : List (Nat × Nat)} {x : Nat → Int} (hok : Ok n L) (hz : Zr n L x) (hm : Min n L x) : L.length = 0 ∨ L.length + 1 ≤ n := by
  by_cases h : L = []
  · left; rw [h]; rfl
  · right; exact Nat.le_trans (hm.size _ rfl hok hz h) (cnt_le _ _)
theorem zr_nil {n : Nat} {x : Nat → Int} (h : Zr n [] x) : ∀ v, v < n → x v = 0 := fun v hv => by
  have h1 := h (flip (fun _ => false) v true) (fun _ h => by cases h)
  rw [sumP_flip hv] at h1
  have : ∀ n, sumP n x (fun _ => false) = 0 := by
    intro n
    induction n with
    | zero => rfl
    | succ n ih => unfold sumP; rw [ih]; rfl
  rw [this] at h1
  simpa using h1
theorem zr_zero {n : Nat} {L : List (Nat × Nat)} {x : Nat → Int} (h : ∀ v, v < n → x v = 0) : Zr n L x := fun P _ => by
  have : ∀ m, m ≤ n → sumP m x P = 0 := by
    intro m
    induction m with
    | zero => intro _; rfl
    | succ m ih => intro hm; unfold sumP; rw [ih (by omega), h m (by omega)]; simp
  exact this n (Nat.le_refl _)
end Go.Proofs.YtihonljdanjfmaaDoor.Gr
