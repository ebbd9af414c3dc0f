/- Proofs for one card: FloorS, FloorU, FloorT, FloorJudges, FloorTells, FloorLa, FloorCa, FloorCd, FloorLb, FloorLc, SwS, FloorLd, FloorLe, FloorLf, FloorCe, FloorCg, FloorDb, FloorLp. No condition of its own. -/
import Derived.Scope
import Derived.Test.YtihonljdanjfmaaDoorZp6
namespace Go.Proofs.YtihonljdanjfmaaDoor.Sw
open Go.RowKit Go Go.Shelf Go.Proofs
def greatF (f : Flo) : Bool := decide ((10 : Int) < f.ids.length) || decide ((20 : Int) < f.qs.length) || decide ((16 : Int) < f.bs.length) || decide ((20 : Int) < f.ps.length) || f.bs.any fun b => decide ((10 : Int) < b.st.length)
theorem sml_of {f : Flo} (h : greatF f = false) : f.ids.length ≤ 10 ∧ f.qs.length ≤ 20 ∧ f.bs.length ≤ 16 ∧ f.ps.length ≤ 20 ∧ ∀ b ∈ f.bs, b.st.length ≤ 10 := by
  simp [greatF] at h
  exact ⟨by omega, by omega, by omega, by omega, fun b hb => by have := h.2 b hb; omega⟩
set_option maxRecDepth 20000 in
theorem great8_con (f : Flo) : Con Tryd.prog 9 [.agg (flC f)] [] (Is (.val (.bool (greatF f))) []) := by
  refine con_of Tryd.func9 rfl (enters_of Tryd.func9 (by kernel_rfl) rfl) rfl ?_; intro n w0 F0 G0
  (refine goSt ?_; (repeat (refine goAl ?_; intro p hp; refine goSt ?_)))
  refine wl_part rfl rfl (fun g1 => ?_) (fun g1 => ?_)
  · (refine goSt ?_; (repeat (refine goAl ?_; intro p hp; refine goSt ?_)))
    (apply res1; exact rfl; exact rfl; exact ⟨(congrArg (fun b => AV.val (Value.bool b)) (by simp at g1; simp [greatF, g1])), rfl⟩)
  · (refine goSt ?_; (repeat (refine goAl ?_; intro p hp; refine goSt ?_)))
    refine wl_part rfl rfl (fun g2 => ?_) (fun g2 => ?_)
    · (refine goSt ?_; (repeat (refine goAl ?_; intro p hp; refine goSt ?_)))
      (apply res1; exact rfl; exact rfl; exact ⟨(congrArg (fun b => AV.val (Value.bool b)) (by simp at g2; simp [greatF, g2])), rfl⟩)
    · (refine goSt ?_; (repeat (refine goAl ?_; intro p hp; refine goSt ?_)))
      refine wl_part rfl rfl (fun g3 => ?_) (fun g3 => ?_)
      · (refine goSt ?_; (repeat (refine goAl ?_; intro p hp; refine goSt ?_)))
        (apply res1; exact rfl; exact rfl; exact ⟨(congrArg (fun b => AV.val (Value.bool b)) (by simp at g3; simp [greatF, g3])), rfl⟩)
      · (refine goSt ?_; (repeat (refine goAl ?_; intro p hp; refine goSt ?_)))
        refine w_cond rfl (fun g4 => ?_) (fun g4 => ?_)
        · (refine goSt ?_; (repeat (refine goAl ?_; intro p hp; refine goSt ?_)))
          (apply res1; exact rfl; exact rfl; exact ⟨(congrArg (fun b => AV.val (Value.bool b)) (by simp at g4; simp [greatF, g4])), rfl⟩)
        · have hW : greatF f = f.bs.any fun b => decide ((10 : Int) < b.st.length) := by unfold greatF; rw [g1, g2, g3, g4]; simp
          have hbl : f.bs.length ≤ 16 := by simp at g3; omega
          rw [hW]
          (refine goSt ?_; (repeat (refine goAl ?_; intro p hp; refine goSt ?_)))
          refine W_loopJ (fun (k : Nat) => ⟨[(28, .sl 4 biC f.bs), (29, .val (.int .i64 f.bs.length)), (30, .val (.int .i64 k))], []⟩) (fun k => k ≤ f.bs.length ∧ (f.bs.take k).any (fun b => decide ((10 : Int) < b.st.length)) = false) (fun k => f.bs.length - k) 0 (fun _ _ st => st_sub2 st goSubr goSubp) ?hj0 ?round
          case hj0 => simp
          case round =>
            rintro k ⟨hk, hno⟩
            (refine goSt ?_; (repeat (refine goAl ?_; intro p hp; refine goSt ?_)))
            refine w_cond rfl (fun hlt => ?_) (fun hlt => ?_)
            · have hlt' : k < f.bs.length := by simpa using hlt
              have htk : f.bs.take (k + 1) = f.bs.take k ++ [f.bs[k]] := List.take_succ_eq_append_getElem hlt'
              (refine goSt ?_; (repeat (refine goAl ?_; intro p hp; refine goSt ?_)))
              refine w_cond rfl (fun hg => ?_) (fun hg => ?_)
              · (refine goSt ?_; (repeat (refine goAl ?_; intro p hp; refine goSt ?_)))
                have : f.bs.any (fun b => decide ((10 : Int) < b.st.length)) = true := List.any_eq_true.2 ⟨_, List.getElem_mem hlt', hg⟩
                (apply res1; exact rfl; exact rfl; exact ⟨(congrArg (fun b => AV.val (Value.bool b)) (by rw [this])), rfl⟩)
              · (refine goSt ?_; (repeat (refine goAl ?_; intro p hp; refine goSt ?_)))
                (refine ⟨k + 1, fun _ _ st => st_sub2 st ?_ ?_, ?_, ?_⟩; exact goSubr; exact goSubp)
                · exact ⟨by omega, by rw [htk, List.any_append, hno]; simpa using hg⟩
                · omega
            · (refine goSt ?_; (repeat (refine goAl ?_; intro p hp; refine goSt ?_)))
              have hkk : k = f.bs.length := by simp at hlt; omega
              subst hkk
              rw [List.take_length] at hno
              (apply res1; exact rfl; exact rfl; exact ⟨(congrArg (fun b => AV.val (Value.bool b)) hno.symm), rfl⟩)
set_option maxRecDepth 20000 in
theorem sameInts_con (xs ys : List Int) (hl : xs.length ≤ 1000000) (hl2 : ys.length ≤ 1000000) : Con Tryd.prog 88 [.sl 1 iC xs, .sl 1 iC ys] [] (Is (.val (.bool (decide (xs = ys)))) []) := by
  refine con_of Tryd.func88 rfl (enters_of Tryd.func88 (by kernel_rfl) rfl) rfl ?_; intro n w0 F0 G0
  (refine goSt ?_; (repeat (refine goAl ?_; intro p hp; refine goSt ?_)))
  refine w_cond rfl (fun hne => ?_) (fun hne => ?_)
  · have hne' : xs ≠ ys := by intro e; rw [e] at hne; simp at hne
    (refine goSt ?_; (repeat (refine goAl ?_; intro p hp; refine goSt ?_)))
    (apply res1; exact rfl; exact rfl; exact ⟨(congrArg (fun b => AV.val (Value.bool b)) (by simp [hne'])), rfl⟩)
  · have hlen : xs.length = ys.length := by simp at hne; omega
    (refine goSt ?_; (repeat (refine goAl ?_; intro p hp; refine goSt ?_)))
    refine W_loopJ (fun (k : Nat) => ⟨[(0, .sl 1 iC xs), (1, .sl 1 iC ys), (5, .val (.int .i64 k))], []⟩) (fun k => k ≤ xs.length ∧ xs.take k = ys.take k) (fun k => xs.length - k) 0 (fun _ _ st => st_sub2 st goSubr goSubp) ?hj0 ?round
    case hj0 => simp
    case round =>
      rintro k ⟨hk, hall⟩
      (refine goSt ?_; (repeat (refine goAl ?_; intro p hp; refine goSt ?_)))
      refine w_cond rfl (fun hlt => ?_) (fun hlt => ?_)
      · have hlt' : k < xs.length := by simpa using hlt
        have hlt2 : k < ys.length := by omega
        have hq1 : xs[k]? = some xs[k] := List.getElem?_eq_getElem hlt'
        have hq2 : ys[k]? = some ys[k] := List.getElem?_eq_getElem hlt2
        (refine goSt ?_; (repeat (refine goAl ?_; intro p hp; refine goSt ?_)))
        refine W_run 8 [17, 18, 19, 20, 21, 22, 23, 24] [0, 1, 2, 3, 4, 5, 6, 7] Cut.nil rfl goFlt mixedS (by kernel_rfl) rfl ?_
        refine rpv [] [] ?_
        refine rpv [] [] ?_
        refine rpv [0, 1] [] ?_
        refine rpv [2] [] ?_
        refine rpv [] [] ?_
        refine rpv [] [] ?_
        refine rpv [4, 5] [] ?_
        refine rpv [6] [] ?_
        refine ⟨⟨by kernel_rfl, by kernel_rfl⟩, fun vs => ?_⟩
        apply WL_auto [3, 7]
        · exact goPk
        · exact goNrm
        · kernel_rfl
        · kernel_rfl
        (refine goSt ?_; (repeat (refine goAl ?_; intro p hp; refine goSt ?_)))
        refine w_cond rfl (fun hg => ?_) (fun hg => ?_)
        · have hne' : xs ≠ ys := by intro e; subst e; simp at hg
          (refine goSt ?_; (repeat (refine goAl ?_; intro p hp; refine goSt ?_)))
          (apply res1; exact rfl; exact rfl; exact ⟨(congrArg (fun b => AV.val (Value.bool b)) (by simp [hne'])), rfl⟩)
        · (refine goSt ?_; (repeat (refine goAl ?_; intro p hp; refine goSt ?_)))
          (refine ⟨k + 1, fun _ _ st => st_sub2 st ?_ ?_, ?_, ?_⟩; exact goSubr; exact goSubp)
          · refine ⟨by omega, ?_⟩
            rw [List.take_succ_eq_append_getElem hlt', List.take_succ_eq_append_getElem hlt2, hall]
            simp at hg; rw [hg]
          · omega
      · (refine goSt ?_; (repeat (refine goAl ?_; intro p hp; refine goSt ?_)))
        have hkk : k = xs.length := by simp at hlt; omega
        have he : xs = ys := by
          rw [List.take_of_length_le (by omega), List.take_of_length_le (by omega)] at hall; exact hall
        (apply res1; exact rfl; exact rfl; exact ⟨(congrArg (fun b => AV.val (Value.bool b)) (by simp [he])), rfl⟩)
set_option maxRecDepth 20000 in
theorem sameInts7_con (xs ys : List Int) (hl : xs.length ≤ 1000000) (hl2 : ys.length ≤ 1000000) : Con Tryd.prog 65 [.sl 1 iC xs, .sl 1 iC ys] [] (Is (.val (.bool (decide (xs = ys)))) []) := by
  refine con_of Tryd.func65 rfl (enters_of Tryd.func65 (by kernel_rfl) rfl) rfl ?_; intro n w0 F0 G0
  (refine goSt ?_; (repeat (refine goAl ?_; intro p hp; refine goSt ?_)))
  (first | (apply wl_call (sameInts_con _ _ hl hl2); exact rfl; exact rfl) | (apply wl_callR (sameInts_con _ _ hl hl2); exact rfl; exact goAtm; exact rfl))
  (refine goSt ?_; (repeat (refine goAl ?_; intro p hp; refine goSt ?_)))
  (apply res1; exact rfl; exact rfl; exact ⟨rfl, rfl⟩)
set_option maxRecDepth 20000 in
theorem sameInts8_con (xs ys : List Int) (hl : xs.length ≤ 1000000) (hl2 : ys.length ≤ 1000000) : Con Tryd.prog 13 [.sl 1 iC xs, .sl 1 iC ys] [] (Is (.val (.bool (decide (xs = ys)))) []) := by
  refine con_of Tryd.func13 rfl (enters_of Tryd.func13 (by kernel_rfl) rfl) rfl ?_; intro n w0 F0 G0
  (refine goSt ?_; (repeat (refine goAl ?_; intro p hp; refine goSt ?_)))
  (first | (apply wl_call (sameInts7_con _ _ hl hl2); exact rfl; exact rfl) | (apply wl_callR (sameInts7_con _ _ hl hl2); exact rfl; exact goAtm; exact rfl))
  (refine goSt ?_; (repeat (refine goAl ?_; intro p hp; refine goSt ?_)))
  (apply res1; exact rfl; exact rfl; exact ⟨rfl, rfl⟩)
theorem payNe (x y : Pay) : (!decide ([x.a, x.b, x.p] = [y.a, y.b, y.p])) = !decide (x = y) := by
  congr 1
  refine decide_eq_decide.2 ?_
  cases x; cases y; simp
set_option maxRecDepth 20000 in
theorem samePays_con (xs ys : List Pay) (hl : xs.length ≤ 1000000) (hl2 : ys.length ≤ 1000000) : Con Tryd.prog 15 [.sl 3 payC xs, .sl 3 payC ys] [] (Is (.val (.bool (decide (xs = ys)))) []) := by
  refine con_of Tryd.func15 rfl (enters_of Tryd.func15 (by kernel_rfl) rfl) rfl ?_; intro n w0 F0 G0
  (refine goSt ?_; (repeat (refine goAl ?_; intro p hp; refine goSt ?_)))
  refine w_cond rfl (fun hne => ?_) (fun hne => ?_)
  · have hne' : xs ≠ ys := by intro e; rw [e] at hne; simp at hne
    (refine goSt ?_; (repeat (refine goAl ?_; intro p hp; refine goSt ?_)))
    (apply res1; exact rfl; exact rfl; exact ⟨(congrArg (fun b => AV.val (Value.bool b)) (by simp [hne'])), rfl⟩)
  · have hlen : xs.length = ys.length := by simp at hne; omega
    (refine goSt ?_; (repeat (refine goAl ?_; intro p hp; refine goSt ?_)))
    refine W_loopJ (fun (k : Nat) => ⟨[(0, .sl 3 payC xs), (1, .sl 3 payC ys), (5, .val (.int .i64 k))], []⟩) (fun k => k ≤ xs.length ∧ xs.take k = ys.take k) (fun k => xs.length - k) 0 (fun _ _ st => st_sub2 st goSubr goSubp) ?hj0 ?round
    case hj0 => simp
    case round =>
      rintro k ⟨hk, hall⟩
      (refine goSt ?_; (repeat (refine goAl ?_; intro p hp; refine goSt ?_)))
      refine w_cond rfl (fun hlt => ?_) (fun hlt => ?_)
      · have hlt' : k < xs.length := by simpa using hlt
        have hlt2 : k < ys.length := by omega
        have hq1 : xs[k]? = some xs[k] := List.getElem?_eq_getElem hlt'
        have hq2 : ys[k]? = some ys[k] := List.getElem?_eq_getElem hlt2
        (refine goSt ?_; (repeat (refine goAl ?_; intro p hp; refine goSt ?_)))
        refine W_run 8 [17, 18, 19, 20, 21, 22, 23, 24] [0, 1, 2, 3, 4, 5, 6, 7] Cut.nil rfl goFlt mixedS (by kernel_rfl) rfl ?_
        refine rpv [] [] ?_
        refine rpv [] [] ?_
        refine rpv [0, 1] [] ?_
        refine rpv [2] [] ?_
        refine rpv [] [] ?_
        refine rpv [] [] ?_
        refine rpv [4, 5] [] ?_
        refine rpv [6] [] ?_
        refine ⟨⟨by kernel_rfl, by kernel_rfl⟩, fun vs => ?_⟩
        apply WL_auto [3, 7]
        · exact goPk
        · exact goNrm
        · kernel_rfl
        · kernel_rfl
        (refine goSt ?_; (repeat (refine goAl ?_; intro p hp; refine goSt ?_)))
        rw [payNe]
        refine w_cond rfl (fun hg => ?_) (fun hg => ?_)
        · have hne' : xs ≠ ys := by intro e; subst e; simp at hg
          (refine goSt ?_; (repeat (refine goAl ?_; intro p hp; refine goSt ?_)))
          (apply res1; exact rfl; exact rfl; exact ⟨(congrArg (fun b => AV.val (Value.bool b)) (by simp [hne'])), rfl⟩)
        · (refine goSt ?_; (repeat (refine goAl ?_; intro p hp; refine goSt ?_)))
          (refine ⟨k + 1, fun _ _ st => st_sub2 st ?_ ?_, ?_, ?_⟩; exact goSubr; exact goSubp)
          · refine ⟨by omega, ?_⟩
            rw [List.take_succ_eq_append_getElem hlt', List.take_succ_eq_append_getElem hlt2, hall]
            simp at hg; rw [hg]
          · omega
      · (refine goSt ?_; (repeat (refine goAl ?_; intro p hp; refine goSt ?_)))
        have hkk : k = xs.length := by simp at hlt; omega
        have he : xs = ys := by
          rw [List.take_of_length_le (by omega), List.take_of_length_le (by omega)] at hall; exact hall
        (apply res1; exact rfl; exact rfl; exact ⟨(congrArg (fun b => AV.val (Value.bool b)) (by simp [he])), rfl⟩)
end Go.Proofs.YtihonljdanjfmaaDoor.Sw
namespace Go.Proofs.YtihonljdanjfmaaDoor.Sw
open Go.RowKit Go Go.Shelf Go.Proofs
theorem quNe (x y : Qu) : (!decide ([x.a, x.b] = [y.a, y.b])) = !decide (x = y) := by
  congr 1
  refine decide_eq_decide.2 ?_
  cases x; cases y; simp
theorem stNe (x y : Stk) : (!decide ([x.fl, x.pt] = [y.fl, y.pt])) = !decide (x = y) := by
  congr 1
  refine decide_eq_decide.2 ?_
  cases x; cases y; simp
theorem take_succ_eq {α : Type} {xs ys : List α} {k : Nat} (h : xs.take k = ys.take k) (h1 : k < xs.length) (h2 : k < ys.length) (e : xs[k] = ys[k]) : xs.take (k + 1) = ys.take (k + 1) := by
  rw [List.take_succ_eq_append_getElem h1, List.take_succ_eq_append_getElem h2, h, e]
theorem take_all_eq {α : Type} {xs ys : List α} {k : Nat} (h : xs.take k = ys.take k) (h1 : xs.length ≤ k) (h2 : ys.length ≤ k) : xs = ys := by
  rwa [List.take_of_length_le h1, List.take_of_length_le h2] at h
set_option maxRecDepth 20000 in
set_option maxHeartbeats 2000000 in
theorem same8_con (f g : Flo) (hS : Sml f) (hT : Sml g) : Con Tryd.prog 14 [.agg (flC f), .agg (flC g)] [] (Is (.val (.bool (decide (f = g)))) []) := by
  have hidsl := hS.ids
  have hqsl := hS.qs
  have hbsl := hS.bs
  have hpsl := hS.ps
  have hidsl2 := hT.ids
  have hpsl2 := hT.ps
  refine con_of Tryd.func14 rfl (enters_of Tryd.func14 (by kernel_rfl) rfl) rfl ?_; intro n w0 F0 G0
  (refine goSt ?_; (repeat (refine goAl ?_; intro p hp; refine goSt ?_)))
  rename_i pf hpf
  (first | (apply wl_call (sameInts8_con f.ids g.ids (by omega) (by omega)); exact rfl; exact rfl) | (apply wl_callR (sameInts8_con f.ids g.ids (by omega) (by omega)); exact rfl; exact goAtm; exact rfl))
  (refine goSt ?_; (repeat (refine goAl ?_; intro p hp; refine goSt ?_)))
  refine wl_part rfl rfl (fun g1 => ?_) (fun g1 => ?_)
  · have hne : f ≠ g := by intro e; subst e; simp at g1
    (refine goSt ?_; (repeat (refine goAl ?_; intro p hp; refine goSt ?_)))
    (apply res1; exact rfl; exact rfl; exact ⟨(congrArg (fun b => AV.val (Value.bool b)) (by simp [hne])), rfl⟩)
  · have e1 : f.ids = g.ids := by simpa using g1
    (refine goSt ?_; (repeat (refine goAl ?_; intro p hp; refine goSt ?_)))
    refine wl_part rfl rfl (fun g2 => ?_) (fun g2 => ?_)
    · have hne : f ≠ g := by intro e; subst e; simp at g2
      (refine goSt ?_; (repeat (refine goAl ?_; intro p hp; refine goSt ?_)))
      (apply res1; exact rfl; exact rfl; exact ⟨(congrArg (fun b => AV.val (Value.bool b)) (by simp [hne])), rfl⟩)
    · have e2 : f.qs.length = g.qs.length := by simp at g2; omega
      (refine goSt ?_; (repeat (refine goAl ?_; intro p hp; refine goSt ?_)))
      refine wl_part rfl rfl (fun g3 => ?_) (fun g3 => ?_)
      · have hne : f ≠ g := by intro e; subst e; simp at g3
        (refine goSt ?_; (repeat (refine goAl ?_; intro p hp; refine goSt ?_)))
        (apply res1; exact rfl; exact rfl; exact ⟨(congrArg (fun b => AV.val (Value.bool b)) (by simp [hne])), rfl⟩)
      · have e3 : f.bs.length = g.bs.length := by simp at g3; omega
        (refine goSt ?_; (repeat (refine goAl ?_; intro p hp; refine goSt ?_)))
        (first | (apply wl_call (samePays_con f.ps g.ps (by omega) (by omega)); exact rfl; exact rfl) | (apply wl_callR (samePays_con f.ps g.ps (by omega) (by omega)); exact rfl; exact goAtm; exact rfl))
        (refine goSt ?_; (repeat (refine goAl ?_; intro p hp; refine goSt ?_)))
        refine w_cond rfl (fun g4 => ?_) (fun g4 => ?_)
        · have hne : f ≠ g := by intro e; subst e; simp at g4
          (refine goSt ?_; (repeat (refine goAl ?_; intro p hp; refine goSt ?_)))
          (apply res1; exact rfl; exact rfl; exact ⟨(congrArg (fun b => AV.val (Value.bool b)) (by simp [hne])), rfl⟩)
        · have e4 : f.ps = g.ps := by simpa using g4
          (refine goSt ?_; (repeat (refine goAl ?_; intro p hp; refine goSt ?_)))
          refine W_loopJ (fun (k : Nat) => ⟨[(2, .val pf), (3, .val p), (5, .val (.int .i64 k))], [.box pf (flC f) 27, .box p (flC g) 27]⟩) (fun k => k ≤ f.qs.length ∧ f.qs.take k = g.qs.take k) (fun k => f.qs.length - k) 0 (fun _ _ st => st_sub2 st goSubr goSubp) ?hj0 ?round
          case hj0 => simp
          case round =>
            rintro k ⟨hk, hall⟩
            (refine goSt ?_; (repeat (refine goAl ?_; intro p hp; refine goSt ?_)))
            refine w_cond rfl (fun hlt => ?_) (fun hlt => ?_)
            · have hlt' : k < f.qs.length := by simpa using hlt
              have hlt2 : k < g.qs.length := by omega
              have hq1 : f.qs[k]? = some f.qs[k] := List.getElem?_eq_getElem hlt'
              have hq2 : g.qs[k]? = some g.qs[k] := List.getElem?_eq_getElem hlt2
              (refine goSt ?_; (repeat (refine goAl ?_; intro p hp; refine goSt ?_)))
              refine W_run 10 [49, 50, 51, 52, 53, 54, 55, 56, 57, 58] [0, 1, 2, 3, 4, 5, 6, 7, 8, 9] Cut.nil rfl goFlt mixedS (by kernel_rfl) rfl ?_
              refine rpv [] [] ?_
              refine rpv [0] [] ?_
              refine rpv [] [] ?_
              refine rpv [1, 2] [] ?_
              refine rpv [3] [] ?_
              refine rpv [] [] ?_
              refine rpv [5] [] ?_
              refine rpv [] [] ?_
              refine rpv [6, 7] [] ?_
              refine rpv [8] [] ?_
              refine ⟨⟨by kernel_rfl, by kernel_rfl⟩, fun vs => ?_⟩
              refine WL_to [(2, .val pf), (3, .val p), (5, .val (.int .i64 k)), (53, .agg (quC f.qs[k])), (58, .agg (quC g.qs[k]))] [.box pf (flC f) 27, .box p (flC g) 27] (by kernel_rfl) (by kernel_rfl) ?_
              (refine goSt ?_; (repeat (refine goAl ?_; intro p hp; refine goSt ?_)))
              rw [quNe]
              refine w_cond rfl (fun hg => ?_) (fun hg => ?_)
              · have hne : f ≠ g := by intro e; subst e; simp at hg
                (refine goSt ?_; (repeat (refine goAl ?_; intro p hp; refine goSt ?_)))
                (apply res1; exact rfl; exact rfl; exact ⟨(congrArg (fun b => AV.val (Value.bool b)) (by simp [hne])), rfl⟩)
              · (refine goSt ?_; (repeat (refine goAl ?_; intro p hp; refine goSt ?_)))
                (refine ⟨k + 1, fun _ _ st => st_sub2 st ?_ ?_, ?_, ?_⟩; exact goSubr; exact goSubp)
                · exact ⟨by omega, take_succ_eq hall hlt' hlt2 (by simpa using hg)⟩
                · omega
            · have e5 : f.qs = g.qs := take_all_eq hall (by simp at hlt; omega) (by simp at hlt; omega)
              (refine goSt ?_; (repeat (refine goAl ?_; intro p hp; refine goSt ?_)))
              refine W_loopJ (fun (k : Nat) => ⟨[(2, .val pf), (3, .val p), (6, .val (.int .i64 k))], [.box pf (flC f) 27, .box p (flC g) 27]⟩) (fun k => k ≤ f.bs.length ∧ f.bs.take k = g.bs.take k) (fun k => f.bs.length - k) 0 (fun _ _ st => st_sub2 st goSubr goSubp) ?hj0 ?round
              case hj0 => simp
              case round =>
                clear hlt hall hk k
                rintro k ⟨hk, hall⟩
                (refine goSt ?_; (repeat (refine goAl ?_; intro p hp; refine goSt ?_)))
                refine w_cond rfl (fun hlt => ?_) (fun hlt => ?_)
                · have hlt' : k < f.bs.length := by simpa using hlt
                  have hlt2 : k < g.bs.length := by omega
                  have hq1 : f.bs[k]? = some f.bs[k] := List.getElem?_eq_getElem hlt'
                  have hq2 : g.bs[k]? = some g.bs[k] := List.getElem?_eq_getElem hlt2
                  have hsl1 := hS.st _ (List.getElem_mem hlt')
                  have hsl2 := hT.st _ (List.getElem_mem hlt2)
                  (refine goSt ?_; (repeat (refine goAl ?_; intro p hp; refine goSt ?_)))
                  refine W_run 13 [67, 68, 69, 70, 71, 72, 73, 74, 75, 76, 7, 8, 1000012] [0, 1, 2, 3, 4, 5, 6, 7, 8, 9, 11, 12] Cut.nil rfl goFlt mixedS (by kernel_rfl) rfl ?_
                  refine rpv [] [] ?_
                  refine rpv [0] [] ?_
                  refine rpv [] [] ?_
                  refine rpv [1, 2] [] ?_
                  refine rpv [3] [] ?_
                  refine rpv [] [] ?_
                  refine rpv [5] [] ?_
                  refine rpv [] [] ?_
                  refine rpv [6, 7] [] ?_
                  refine rpv [8] [] ?_
                  refine Run.tok [] [] rfl (fun vs => by apply ltr_pk; exact goPk; exact goLtr) goApp ?_
                  refine Run.tok [] [] rfl (fun vs => by apply ltr_pk; exact goPk; exact goLtr) goApp ?_
                  refine Run.fx [4, 10] [10] 10 (fun q => [.box q (biC f.bs[k]) 66]) rfl (fun vs => by apply ltr_pk; exact goPk; (refine ltr ?_; apply LT.fx; apply lt_store (av := .agg (biC f.bs[k])); (first | exact .inl rfl | exact .inr ⟨rfl, rfl⟩); exact rfl; exact rfl; exact (of_decide_eq_true rfl); exact rfl)) goApp ?_
                  refine ⟨⟨by kernel_rfl, by kernel_rfl⟩, fun vs => ?_⟩
                  refine WL_to [(2, .val pf), (3, .val p), (6, .val (.int .i64 k)), (7, .val (vs 10)), (8, .val (vs 11)), (76, .agg (biC g.bs[k]))] [.box (vs 11) [.val (.int .i64 0), .val (.int .i64 0), .val (.int .i64 0), .val (.slice none 0 0)] 66, .box (vs 10) (biC f.bs[k]) 66, .box pf (flC f) 27, .box p (flC g) 27] (by kernel_rfl) (by kernel_rfl) ?_
                  generalize vs 10 = q1
                  generalize vs 11 = q2
                  (refine goSt ?_; (repeat (refine goAl ?_; intro p hp; refine goSt ?_)))
                  (refine goSt ?_; (repeat (refine goAl ?_; intro p hp; refine goSt ?_)))
                  refine wl_part rfl rfl (fun i1 => ?_) (fun i1 => ?_)
                  · have hne : f ≠ g := by intro e; subst e; simp at i1
                    (refine goSt ?_; (repeat (refine goAl ?_; intro p hp; refine goSt ?_)))
                    (apply res1; exact rfl; exact rfl; exact ⟨(congrArg (fun b => AV.val (Value.bool b)) (by simp [hne])), rfl⟩)
                  · have j1 : f.bs[k].no = g.bs[k].no := by simpa using i1
                    (refine goSt ?_; (repeat (refine goAl ?_; intro p hp; refine goSt ?_)))
                    refine wl_part rfl rfl (fun i2 => ?_) (fun i2 => ?_)
                    · have hne : f ≠ g := by intro e; subst e; simp at i2
                      (refine goSt ?_; (repeat (refine goAl ?_; intro p hp; refine goSt ?_)))
                      (apply res1; exact rfl; exact rfl; exact ⟨(congrArg (fun b => AV.val (Value.bool b)) (by simp [hne])), rfl⟩)
                    · have j2 : f.bs[k].py = g.bs[k].py := by simpa using i2
                      (refine goSt ?_; (repeat (refine goAl ?_; intro p hp; refine goSt ?_)))
                      refine wl_part rfl rfl (fun i3 => ?_) (fun i3 => ?_)
                      · have hne : f ≠ g := by intro e; subst e; simp at i3
                        (refine goSt ?_; (repeat (refine goAl ?_; intro p hp; refine goSt ?_)))
                        (apply res1; exact rfl; exact rfl; exact ⟨(congrArg (fun b => AV.val (Value.bool b)) (by simp [hne])), rfl⟩)
                      · have j3 : f.bs[k].pe = g.bs[k].pe := by simpa using i3
                        (refine goSt ?_; (repeat (refine goAl ?_; intro p hp; refine goSt ?_)))
                        refine w_cond rfl (fun i4 => ?_) (fun i4 => ?_)
                        · have hne : f ≠ g := by intro e; subst e; simp at i4
                          (refine goSt ?_; (repeat (refine goAl ?_; intro p hp; refine goSt ?_)))
                          (apply res1; exact rfl; exact rfl; exact ⟨(congrArg (fun b => AV.val (Value.bool b)) (by simp [hne])), rfl⟩)
                        · have j4 : f.bs[k].st.length = g.bs[k].st.length := by simp at i4; omega
                          (refine goSt ?_; (repeat (refine goAl ?_; intro p hp; refine goSt ?_)))
                          refine W_loopJ (fun (m : Nat) => ⟨[(2, .val pf), (3, .val p), (6, .val (.int .i64 k)), (7, .val q1), (8, .val q2), (9, .val (.int .i64 m))], [.box q1 (biC f.bs[k]) 66, .box q2 (biC g.bs[k]) 66, .box pf (flC f) 27, .box p (flC g) 27]⟩) (fun m => m ≤ f.bs[k].st.length ∧ f.bs[k].st.take m = g.bs[k].st.take m) (fun m => f.bs[k].st.length - m) 0 (fun _ _ st => st_sub2 st goSubr goSubp) ?hj0 ?round
                          case hj0 => simp
                          case round =>
                            rintro m ⟨hm, hal⟩
                            (refine goSt ?_; (repeat (refine goAl ?_; intro p hp; refine goSt ?_)))
                            refine w_cond rfl (fun hlm => ?_) (fun hlm => ?_)
                            · have hlm' : m < f.bs[k].st.length := by simpa using hlm
                              have hlm2 : m < g.bs[k].st.length := by omega
                              have hp1 : f.bs[k].st[m]? = some f.bs[k].st[m] := List.getElem?_eq_getElem hlm'
                              have hp2 : g.bs[k].st[m]? = some g.bs[k].st[m] := List.getElem?_eq_getElem hlm2
                              (refine goSt ?_; (repeat (refine goAl ?_; intro p hp; refine goSt ?_)))
                              refine W_run 10 [112, 113, 114, 115, 116, 117, 118, 119, 120, 121] [0, 1, 2, 3, 4, 5, 6, 7, 8, 9] Cut.nil rfl goFlt mixedS (by kernel_rfl) rfl ?_
                              refine rpv [] [] ?_
                              refine rpv [0] [] ?_
                              refine rpv [] [] ?_
                              refine rpv [1, 2] [] ?_
                              refine rpv [3] [] ?_
                              refine rpv [] [] ?_
                              refine rpv [5] [] ?_
                              refine rpv [] [] ?_
                              refine rpv [6, 7] [] ?_
                              refine rpv [8] [] ?_
                              refine ⟨⟨by kernel_rfl, by kernel_rfl⟩, fun vs => ?_⟩
                              refine WL_to [(2, .val pf), (3, .val p), (6, .val (.int .i64 k)), (7, .val q1), (8, .val q2), (9, .val (.int .i64 m)), (116, .agg (stC f.bs[k].st[m])), (121, .agg (stC g.bs[k].st[m]))] [.box q1 (biC f.bs[k]) 66, .box q2 (biC g.bs[k]) 66, .box pf (flC f) 27, .box p (flC g) 27] (by kernel_rfl) (by kernel_rfl) ?_
                              (refine goSt ?_; (repeat (refine goAl ?_; intro p hp; refine goSt ?_)))
                              rw [stNe]
                              refine w_cond rfl (fun hg => ?_) (fun hg => ?_)
                              · have hne : f ≠ g := by intro e; subst e; simp at hg
                                (refine goSt ?_; (repeat (refine goAl ?_; intro p hp; refine goSt ?_)))
                                (apply res1; exact rfl; exact rfl; exact ⟨(congrArg (fun b => AV.val (Value.bool b)) (by simp [hne])), rfl⟩)
                              · (refine goSt ?_; (repeat (refine goAl ?_; intro p hp; refine goSt ?_)))
                                (refine ⟨m + 1, fun _ _ st => st_sub2 st ?_ ?_, ?_, ?_⟩; exact goSubr; exact goSubp)
                                · exact ⟨by omega, take_succ_eq hal hlm' hlm2 (by simpa using hg)⟩
                                · omega
                            · have e6 : f.bs[k].st = g.bs[k].st := take_all_eq hal (by simp at hlm; omega) (by simp at hlm; omega)
                              (refine goSt ?_; (repeat (refine goAl ?_; intro p hp; refine goSt ?_)))
                              (refine ⟨k + 1, fun _ _ st => st_sub2 st ?_ ?_, ?_, ?_⟩; exact goSubr; exact goSubp)
                              · refine ⟨by omega, take_succ_eq hall hlt' hlt2 ?_⟩
                                revert j1 j2 j3 e6
                                generalize f.bs[k] = x
                                generalize g.bs[k] = y
                                intro j1 j2 j3 e6
                                cases x; cases y; simp_all
                              · omega
                · have e7 : f.bs = g.bs := take_all_eq hall (by simp at hlt; omega) (by simp at hlt; omega)
                  have he : f = g := by cases f; cases g; simp_all
                  (refine goSt ?_; (repeat (refine goAl ?_; intro p hp; refine goSt ?_)))
                  (apply res1; exact rfl; exact rfl; exact ⟨(congrArg (fun b => AV.val (Value.bool b)) (by simp [he])), rfl⟩)
end Go.Proofs.YtihonljdanjfmaaDoor.Sw
namespace Go.Proofs.YtihonljdanjfmaaDoor.Sw
open Go.RowKit Go Go.Shelf Go.Proofs
set_option maxRecDepth 20000 in
set_option maxHeartbeats 2000000 in
theorem twin8_con (f : Flo) (hS : Sml f) : Con Tryd.prog 10 [.agg (flC f)] [] (Is (.agg (flC f)) []) := by
  have hidsl := hS.ids
  have hqsl := hS.qs
  have hbsl := hS.bs
  have hpsl := hS.ps
  refine con_of Tryd.func10 rfl (enters_of Tryd.func10 (by kernel_rfl) rfl) rfl ?_; intro n w0 F0 G0
  (refine goSt ?_; (repeat (refine goAl ?_; intro p hp; refine goSt ?_)))
  rename_i pf hpf
  refine W_run 14 [6, 7, 8, 9, 10, 11, 12, 13, 14, 15, 16, 17, 18, 3] [1, 2, 3, 5, 6, 7, 9, 10, 11, 12, 13] Cut.nil rfl goFlt mixedS (by kernel_rfl) rfl ?_
  refine Run.tok [] [] rfl (fun vs => by apply ltr_pk; exact goPk; (refine ltr ?_; apply lt_lit (f := iC); (repeat (first | exact Elems.nil | (apply Elems.cons; exact rfl; exact inferInstance; exact rfl))); exact rfl; (first | exact (of_decide_eq_true rfl) | decide | (simp; done) | (simp; omega)))) goApp ?_
  refine rpv [] [] ?_
  refine rpv [1] [] ?_
  refine Run.pv [0, 2] [0] rfl (fun vs => by apply ltr_pk; exact goPk; (refine ltr ?_; apply LT_frz; apply lt_append; exact rfl; exact rfl; (first | omega | (simp; omega)))) goApp ?_
  refine Run.tok [] [] rfl (fun vs => by apply ltr_pk; exact goPk; (refine ltr ?_; apply lt_lit (f := quC); (repeat (first | exact Elems.nil | (apply Elems.cons; exact rfl; exact inferInstance; exact rfl))); exact rfl; (first | exact (of_decide_eq_true rfl) | decide | (simp; done) | (simp; omega)))) goApp ?_
  refine rpv [] [] ?_
  refine rpv [5] [] ?_
  refine Run.pv [4, 6] [4] rfl (fun vs => by apply ltr_pk; exact goPk; (refine ltr ?_; apply LT_frz; apply lt_append; exact rfl; exact rfl; (first | omega | (simp; omega)))) goApp ?_
  refine Run.tok [] [] rfl (fun vs => by apply ltr_pk; exact goPk; (refine ltr ?_; apply lt_lit (f := payC); (repeat (first | exact Elems.nil | (apply Elems.cons; exact rfl; exact inferInstance; exact rfl))); exact rfl; (first | exact (of_decide_eq_true rfl) | decide | (simp; done) | (simp; omega)))) goApp ?_
  refine rpv [] [] ?_
  refine rpv [9] [] ?_
  refine Run.pv [8, 10] [8] rfl (fun vs => by apply ltr_pk; exact goPk; (refine ltr ?_; apply LT_frz; apply lt_append; exact rfl; exact rfl; (first | omega | (simp; omega)))) goApp ?_
  refine Run.pv [3, 7, 11] [] rfl (fun vs => by apply ltr_pk; exact goPk; (refine ltr ?_; apply lt_build; apply Parts.cons (av := .sl 1 iC ([] ++ f.ids)); exact rfl; exact rfl; exact inferInstance; exact rfl; exact (of_decide_eq_true rfl); apply Parts.cons (av := .sl 2 quC ([] ++ f.qs)); exact rfl; exact rfl; exact inferInstance; exact rfl; exact (of_decide_eq_true rfl); apply Parts.cons (av := .sl 3 payC ([] ++ f.ps)); exact rfl; exact rfl; exact inferInstance; exact rfl; exact (of_decide_eq_true rfl); exact Parts.nil)) goApp ?_
  refine Run.tok [] [] rfl (fun vs => by apply ltr_pk; exact goPk; exact goLtr) goApp ?_
  refine ⟨⟨by kernel_rfl, by kernel_rfl⟩, fun vs => ?_⟩
  refine WL_to [(1, .val pf), (2, .val p), (18, .agg [.sl 1 iC ([] ++ f.ids), .sl 2 quC ([] ++ f.qs), .val (.slice none 0 0), .sl 3 payC ([] ++ f.ps)]), (3, .val (vs 13))] [.box (vs 13) [.val (.slice none 0 0), .val (.slice none 0 0), .val (.slice none 0 0), .val (.slice none 0 0)] 27, .box p [.val (.slice none 0 0), .val (.slice none 0 0), .val (.slice none 0 0), .val (.slice none 0 0)] 27, .box pf (flC f) 27] (by kernel_rfl) (by kernel_rfl) ?_
  generalize vs 13 = q
  (refine goSt ?_; (repeat (refine goAl ?_; intro p hp; refine goSt ?_)))
  (refine goSt ?_; (repeat (refine goAl ?_; intro p hp; refine goSt ?_)))
  refine W_loopJ (fun (b : Nat × Value) => ⟨[(1, .val pf), (2, .val p), (3, .val q), (20, .sl 4 biC f.bs), (21, .val (.int .i64 f.bs.length)), (22, .val (.int .i64 b.1))], [.row b.2 66 4 biC (f.bs.take b.1), .box q [.sl 1 iC f.ids, .sl 2 quC f.qs, .val b.2, .sl 3 payC f.ps] 27, .box p [.val (.slice none 0 0), .val (.slice none 0 0), .val (.slice none 0 0), .val (.slice none 0 0)] 27]⟩) (fun b => b.1 ≤ f.bs.length) (fun b => f.bs.length - b.1) (0, .slice none 0 0) (fun _ _ st => st_sub2 (st_nil 66 4 biC st) (by exact goSubr) (by exact goSubp)) (Nat.zero_le _) ?_
  rintro ⟨k, v⟩ hk
  dsimp only at hk ⊢
  (refine goSt ?_; (repeat (refine goAl ?_; intro p hp; refine goSt ?_)))
  refine w_cond rfl (fun hlt => ?_) (fun hlt => ?_)
  · have hlt' : k < f.bs.length := by simpa using hlt
    have hm := hS.st _ (List.getElem_mem hlt')
    have htk : f.bs.take (k + 1) = f.bs.take k ++ [f.bs[k]] := List.take_succ_eq_append_getElem hlt'
    (refine goSt ?_; (repeat (refine goAl ?_; intro p hp; refine goSt ?_)))
    (apply wl_lit stC; exact inferInstance; exact inferInstance; exact inferInstance; (repeat (first | exact Elems.nil | (apply Elems.cons; exact rfl; exact inferInstance; exact rfl))); exact rfl; (first | exact (of_decide_eq_true rfl) | decide | (simp; done) | (simp; omega)); exact rfl)
    intro v1
    (refine goSt ?_; (repeat (refine goAl ?_; intro p hp; refine goSt ?_)))
    (first | (apply wl_append; exact rfl; exact rfl; exact goRm; exact inferInstance; exact inferInstance; (first | omega | (simp; omega)); exact rfl) | (apply wl_appendN; exact rfl; exact rfl; exact inferInstance; exact inferInstance; (first | omega | (simp; omega)); exact rfl))
    intro v2
    (apply WL_frz 29; exact rfl; exact goRm)
    (refine goSt ?_; (repeat (refine goAl ?_; intro p hp; refine goSt ?_)))
    refine WL_as 33 (.agg (biC f.bs[k])) rfl ?_
    (apply wl_litF biC; exact inferInstance; exact inferInstance; exact inferInstance; (repeat (first | exact Elems.nil | (apply Elems.cons; exact rfl; exact inferInstance; exact rfl))); exact rfl; (first | exact (of_decide_eq_true rfl) | decide | (simp; done) | (simp; omega)); exact rfl)
    (first | (apply wl_append; exact rfl; exact rfl; exact goRm; exact inferInstance; exact inferInstance; (first | omega | (simp; omega)); exact rfl) | (apply wl_appendN; exact rfl; exact rfl; exact inferInstance; exact inferInstance; (first | omega | (simp; omega)); exact rfl))
    intro v'
    rw [← htk]
    refine WL_one At.here (fun hone => ?_)
    (refine goSt ?_; (repeat (refine goAl ?_; intro p hp; refine goSt ?_)))
    (refine ⟨(k + 1, v'), fun _ _ st => st_sub2 st ?_ ?_, ?_, ?_⟩; exact goSubr; exact goSubp)
    · dsimp only; omega
    · dsimp only; omega
  · have hkk : k = f.bs.length := by simp at hlt; omega
    subst hkk
    rw [List.take_length]
    (refine goSt ?_; (repeat (refine goAl ?_; intro p hp; refine goSt ?_)))
    (apply WL_frzA 38 2; exact rfl; exact rfl; exact goRm)
    refine WL_as 38 (.agg (flC f)) rfl ?_
    (refine goSt ?_; (repeat (refine goAl ?_; intro p hp; refine goSt ?_)))
    (apply resN; exact rfl; exact rfl; exact goAtm; exact inferInstance; exact rfl; exact ⟨rfl, rfl⟩)
end Go.Proofs.YtihonljdanjfmaaDoor.Sw
namespace Go.Proofs.YtihonljdanjfmaaDoor.Sw
open Go.RowKit Go Go.Shelf Go.Proofs
theorem sml_small {f : Flo} (h : greatF f = false) : Sml f := by
  obtain ⟨h1, h2, h3, h4, h5⟩ := sml_of h
  exact ⟨by omega, by omega, by omega, by omega, fun b hb => by have := h5 b hb; omega⟩
end Go.Proofs.YtihonljdanjfmaaDoor.Sw
namespace Go.Proofs.YtihonljdanjfmaaDoor.Sw
open Go.RowKit Go Go.Shelf Go.Proofs
open Go.Proofs.YtihonljdanjfmaaDoor.Gr (treeR pick Zr lf)
theorem cl_same {L M : List (Nat × Nat)} (h : ∀ p, p ∈ M → p ∈ L) {P : Nat → Bool} (k : Gr.Cl L P) : Gr.Cl M P := fun p hp => k p (h p hp)
theorem zr_same {n : Nat} {L M : List (Nat × Nat)} {x : Nat → Int} (h : ∀ p, p ∈ L ↔ p ∈ M) : Zr n L x ↔ Zr n M x :=
  ⟨fun k P hP => k P (cl_same (fun p hp => (h p).1 hp) hP), fun k P hP => k P (cl_same (fun p hp => (h p).2 hp) hP)⟩
theorem fewTo_nil {α : Type} {g : Nat → List α} : ∀ {m : Nat}, fewTo g m = [] ↔ ∀ k, k < m → g k = []
  | 0 => by simp [fewTo]
  | m + 1 => by
    have ih := fewTo_nil (g := g) (m := m)
    rw [fewTo]
    cases h : fewTo g m with
    | nil =>
      rw [if_pos (by rfl)]
      constructor
      · intro e k hk
        by_cases hkm : k = m
        · rw [hkm]; exact e
        · exact ih.1 h k (by omega)
      · intro h2; exact h2 m (by omega)
    | cons x t =>
      rw [if_neg (by simp)]
      constructor
      · intro e; cases e
      · intro h2
        have := ih.2 fun k hk => h2 k (by omega)
        rw [h] at this; exact this
end Go.Proofs.YtihonljdanjfmaaDoor.Sw
namespace Go.Proofs.YtihonljdanjfmaaDoor.Sw
open Go.RowKit Go Go.Shelf Go.Proofs
open Go.Proofs.YtihonljdanjfmaaDoor.Gr (behR behS Ok Ord Forest Zr lf Ends amt payE)
theorem beh_bound {n : Nat} {x : Nat → Int} {L : List (Nat × Nat)} (hn : n ≤ 10) (hok : Ok n L) (ho : Ord L) (hf : Forest L) (hz : Zr n L x) (hb : ∀ v, v < n → -1000000000 ≤ x v ∧ x v ≤ 1000000000) {m a fr : Nat} (hg : Gr.Good n L m a fr) : -10000000000 ≤ behR x L m a fr ∧ behR x L m a fr ≤ 10000000000 := by
  obtain ⟨e, he, hio, _⟩ := hg.go
  obtain ⟨Q, _, h2⟩ := Gr.beh_sum hok ho hf hz m a fr e he hio hg
  have := sumP_bound (by omega) hb Q
  rw [h2]
  omega
theorem behR_succ (x : Nat → Int) (L : List (Nat × Nat)) (m a fr : Nat) : behR x L (m + 1) a fr = L.foldl (behS a fr fun b => behR x L m b a) (x a) := rfl
set_option maxRecDepth 20000 in
set_option maxHeartbeats 8000000 in
theorem behind_con (ph ow : Value) (f : Flo) (cu : List Int) (L : List (Nat × Nat)) (hn : f.ids.length ≤ 10) (hl : L.length ≤ 10) (hcl : cu.length = f.ids.length) (hbt : Btw (-1000000000) 1000000000 cu)
    (hok : Ok f.ids.length L) (ho : Ord L) (hf : Forest L) (hz : Zr f.ids.length L (lf cu)) : ∀ (m a fr : Nat), Gr.Good f.ids.length L m a fr → Con Tryd.prog 157 [.val ph, .sl 2 pnC L, .val (.int .i64 a), .val (.int .i64 fr)] [hsB ph f ow, .row ow 3 1 iC cu] (Is (.val (.int .i64 (behR (lf cu) L m a fr))) [hsB ph f ow, .row ow 3 1 iC cu]) := by
  have hbb : ∀ v, v < f.ids.length → -1000000000 ≤ lf cu v ∧ lf cu v ≤ 1000000000 := fun v hv => by
    have hv' : v < cu.length := by omega
    rw [lf_at hv']; exact hbt.at hv'
  intro m
  induction m with
  | zero => intro a fr hg; exact absurd (Gr.good_pos hok hg).1 (Nat.lt_irrefl _)
  | succ m ih =>
    intro a fr hg
    obtain ⟨_, han, hfn⟩ := Gr.good_pos hok hg
    have hac : a < cu.length := by omega
    have hxa := hbt.at hac
    rw [behR_succ, lf_at hac]
    refine con_of Tryd.func157 rfl (enters_of Tryd.func157 (by kernel_rfl) rfl) rfl ?_; intro n w0 F0 G0
    (refine goSt ?_; (repeat (refine goAl ?_; intro p hp; refine goSt ?_)))
    refine W_loopJ (fun (b : Nat × Int) => ⟨[(0, .val ph), (1, .sl 2 pnC L), (2, .val (.int .i64 a)), (3, .val (.int .i64 fr)), (22, .sl 2 pnC L), (23, .val (.int .i64 L.length)), (24, .val (.int .i64 b.1)), (9, .val (.int .i64 b.2))], [hsB ph f ow, .row ow 3 1 iC cu]⟩) (fun b => b.1 ≤ L.length ∧ b.2 = (L.take b.1).foldl (behS a fr fun b => behR (lf cu) L m b a) cu[a] ∧ -(1000000000 + 20000000000 * b.1) ≤ b.2 ∧ b.2 ≤ 1000000000 + 20000000000 * b.1) (fun b => L.length - b.1) (0, cu[a]) (fun _ _ st => st_sub2 st goSubr goSubp) ⟨Nat.zero_le _, rfl, by dsimp only; omega, by dsimp only; omega⟩ ?_
    rintro ⟨j, acc⟩ ⟨hj, hacc, hlo, hhi⟩
    dsimp only at hj hacc hlo hhi ⊢
    (refine goSt ?_; (repeat (refine goAl ?_; intro p hp; refine goSt ?_)))
    refine w_cond rfl (fun hlt => ?_) (fun hlt => ?_)
    · have hj' : j < L.length := by simpa using hlt
      have hpL := List.getElem_mem hj'
      have hst : (L.take (j + 1)).foldl (behS a fr fun b => behR (lf cu) L m b a) cu[a] = behS a fr (fun b => behR (lf cu) L m b a) acc L[j] := by rw [List.take_succ_eq_append_getElem hj', List.foldl_append, ← hacc]; rfl
      have hp := hok.lt _ hpL
      have g1 : L[j].1 = a → L[j].2 ≠ fr → Gr.Good f.ids.length L m L[j].2 a := fun h1 h2 => Gr.good_step hok ho hf hg hpL (.inl ⟨h1, rfl⟩) h2
      have g2 : L[j].2 = a → L[j].1 ≠ fr → Gr.Good f.ids.length L m L[j].1 a := fun h1 h2 => Gr.good_step hok ho hf hg hpL (.inr ⟨rfl, h1⟩) h2
      have fin : ∀ acc', (L.take (j + 1)).foldl (behS a fr fun b => behR (lf cu) L m b a) cu[a] = acc' → -20000000000 ≤ acc' - acc → acc' - acc ≤ 20000000000 → j + 1 ≤ L.length ∧ acc' = (L.take (j + 1)).foldl (behS a fr fun b => behR (lf cu) L m b a) cu[a] ∧ -(1000000000 + 20000000000 * ((j + 1 : Nat) : Int)) ≤ acc' ∧ acc' ≤ 1000000000 + 20000000000 * ((j + 1 : Nat) : Int) := fun acc' h1 h2 h3 => ⟨hj', h1.symm, by omega, by omega⟩
      have hst : (L.take (j + 1)).foldl (behS a fr fun b => behR (lf cu) L m b a) cu[a] = if L[j].2 = a ∧ L[j].1 ≠ fr then (if L[j].1 = a ∧ L[j].2 ≠ fr then acc + behR (lf cu) L m L[j].2 a else acc) + behR (lf cu) L m L[j].1 a else (if L[j].1 = a ∧ L[j].2 ≠ fr then acc + behR (lf cu) L m L[j].2 a else acc) := hst
      (refine goSt ?_; (repeat (refine goAl ?_; intro p hp; refine goSt ?_)))
      generalize L[j] = e at *
      refine W_rounds 3 ?_
      refine WR_step ?_
      (refine goSt ?_; (repeat (refine goAl ?_; intro p hp; refine goSt ?_)))
      (apply wl_indexV1 (e := 3); exact Tryd.underlying105; exact rfl; exact rfl; exact (rfl : (0 : Int) = ((0 : Nat) : Int)); decide; exact rfl; exact rfl)
      (refine goSt ?_; (repeat (refine goAl ?_; intro p hp; refine goSt ?_)))
      refine wl_part rfl rfl (fun c1 => ?_) (fun c1 => ?_)
      · have c1' : e.1 = a := by simp at c1; omega
        have c3n : ¬ (e.2 = a ∧ e.1 ≠ fr) := fun h => by omega
        (refine goSt ?_; (repeat (refine goAl ?_; intro p hp; refine goSt ?_)))
        refine w_cond rfl (fun c2 => ?_) (fun c2 => ?_)
        · have c2' : e.2 ≠ fr := by simp at c2; omega
          rw [if_pos (show e.1 = a ∧ e.2 ≠ fr from ⟨c1', c2'⟩), if_neg c3n] at hst
          have hbd := beh_bound hn hok ho hf hz hbb (g1 c1' c2')
          (refine goSt ?_; (repeat (refine goAl ?_; intro p hp; refine goSt ?_)))
          (apply wl_callP (ih e.2 a (g1 c1' c2')); exact rfl; exact goCutl; exact rfl)
          rintro _ _ ⟨rfl, rfl⟩
          (refine goSt ?_; (repeat (refine goAl ?_; intro p hp; refine goSt ?_)))
          (apply wl_indexV1 (e := 3); exact Tryd.underlying105; exact rfl; exact rfl; exact (rfl : (0 + 1 : Int) = ((1 : Nat) : Int)); decide; exact rfl; exact rfl)
          (refine goSt ?_; (repeat (refine goAl ?_; intro p hp; refine goSt ?_)))
          refine wl_part rfl rfl (fun c3 => ?_) (fun c3 => ?_)
          · exfalso; simp at c3; omega
          · (refine goSt ?_; (repeat (refine goAl ?_; intro p hp; refine goSt ?_)))
            (refine ⟨(j + 1, acc + behR (lf cu) L m e.2 a), fun _ _ st => st_sub2 st ?_ ?_, ?_, ?_⟩; exact goSubr; exact goSubp)
            · exact fin _ hst (by omega) (by omega)
            · dsimp only; omega
        · have c2' : ¬ (e.1 = a ∧ e.2 ≠ fr) := fun h => by simp at c2; omega
          rw [if_neg c2', if_neg c3n] at hst
          (refine goSt ?_; (repeat (refine goAl ?_; intro p hp; refine goSt ?_)))
          (apply wl_indexV1 (e := 3); exact Tryd.underlying105; exact rfl; exact rfl; exact (rfl : (0 + 1 : Int) = ((1 : Nat) : Int)); decide; exact rfl; exact rfl)
          (refine goSt ?_; (repeat (refine goAl ?_; intro p hp; refine goSt ?_)))
          refine wl_part rfl rfl (fun c3 => ?_) (fun c3 => ?_)
          · exfalso; simp at c3; omega
          · (refine goSt ?_; (repeat (refine goAl ?_; intro p hp; refine goSt ?_)))
            (refine ⟨(j + 1, acc), fun _ _ st => st_sub2 st ?_ ?_, ?_, ?_⟩; exact goSubr; exact goSubp)
            · exact fin _ hst (by omega) (by omega)
            · dsimp only; omega
      · have c1' : ¬ (e.1 = a ∧ e.2 ≠ fr) := fun h => by simp at c1; omega
        rw [if_neg c1'] at hst
        (refine goSt ?_; (repeat (refine goAl ?_; intro p hp; refine goSt ?_)))
        (apply wl_indexV1 (e := 3); exact Tryd.underlying105; exact rfl; exact rfl; exact (rfl : (0 + 1 : Int) = ((1 : Nat) : Int)); decide; exact rfl; exact rfl)
        (refine goSt ?_; (repeat (refine goAl ?_; intro p hp; refine goSt ?_)))
        refine wl_part rfl rfl (fun c3 => ?_) (fun c3 => ?_)
        · have c3' : e.2 = a := by simp at c3; omega
          (refine goSt ?_; (repeat (refine goAl ?_; intro p hp; refine goSt ?_)))
          refine w_cond rfl (fun c4 => ?_) (fun c4 => ?_)
          · have c4' : e.1 ≠ fr := by simp at c4; omega
            rw [if_pos (show e.2 = a ∧ e.1 ≠ fr from ⟨c3', c4'⟩)] at hst
            have hbd := beh_bound hn hok ho hf hz hbb (g2 c3' c4')
            (refine goSt ?_; (repeat (refine goAl ?_; intro p hp; refine goSt ?_)))
            (apply wl_callP (ih e.1 a (g2 c3' c4')); exact rfl; exact goCutl; exact rfl)
            rintro _ _ ⟨rfl, rfl⟩
            (refine goSt ?_; (repeat (refine goAl ?_; intro p hp; refine goSt ?_)))
            (refine ⟨(j + 1, acc + behR (lf cu) L m e.1 a), fun _ _ st => st_sub2 st ?_ ?_, ?_, ?_⟩; exact goSubr; exact goSubp)
            · exact fin _ hst (by omega) (by omega)
            · dsimp only; omega
          · have c4' : ¬ (e.2 = a ∧ e.1 ≠ fr) := fun h => by simp at c4; omega
            rw [if_neg c4'] at hst
            (refine goSt ?_; (repeat (refine goAl ?_; intro p hp; refine goSt ?_)))
            (refine ⟨(j + 1, acc), fun _ _ st => st_sub2 st ?_ ?_, ?_, ?_⟩; exact goSubr; exact goSubp)
            · exact fin _ hst (by omega) (by omega)
            · dsimp only; omega
        · have c3' : ¬ (e.2 = a ∧ e.1 ≠ fr) := fun h => by simp at c3; omega
          rw [if_neg c3'] at hst
          (refine goSt ?_; (repeat (refine goAl ?_; intro p hp; refine goSt ?_)))
          (refine ⟨(j + 1, acc), fun _ _ st => st_sub2 st ?_ ?_, ?_, ?_⟩; exact goSubr; exact goSubp)
          · exact fin _ hst (by omega) (by omega)
          · dsimp only; omega
    · have hjj : j = L.length := by simp at hlt; omega
      subst hjj
      rw [List.take_length] at hacc
      rw [← hacc]
      (refine goSt ?_; (repeat (refine goAl ?_; intro p hp; refine goSt ?_)))
      (apply resK1; exact rfl; exact rfl; exact ⟨rfl, rfl⟩; exact goCutl)
end Go.Proofs.YtihonljdanjfmaaDoor.Sw
/- Slices in new memory. -/
namespace Go.Proofs.YtihonljdanjfmaaDoor.Sw
open Go.RowKit Go Go.Shelf Go.Proofs
end Go.Proofs.YtihonljdanjfmaaDoor.Sw
/- Floors in own memory; 'copied'. -/
namespace Go.Proofs.YtihonljdanjfmaaDoor.Sw
open Go.RowKit Go Go.Shelf Go.Proofs
end Go.Proofs.YtihonljdanjfmaaDoor.Sw
/- The program's 'copied'. -/
namespace Go.Proofs.YtihonljdanjfmaaDoor.Sw
open Go.RowKit Go Go.Shelf Go.Proofs
end Go.Proofs.YtihonljdanjfmaaDoor.Sw
namespace Go.Proofs.YtihonljdanjfmaaDoor.Sw
open Go.RowKit Go Go.Shelf Go.Proofs
/-- x in its place behind all that it isn't before, from the end on. -/
def insR {α : Type} (lt : α → α → Bool) (x : α) : List α → List α
  | [] => [x]
  | a :: t => if lt x a = true then a :: insR lt x t else x :: a :: t
def insE {α : Type} (lt : α → α → Bool) (l : List α) (x : α) : List α := (insR lt x l.reverse).reverse
theorem insE_nil {α : Type} (lt : α → α → Bool) (x : α) : insE lt [] x = [x] := rfl
theorem insE_yes {α : Type} {lt : α → α → Bool} {l : List α} {a x : α} (h : lt x a = true) : insE lt (l ++ [a]) x = insE lt l x ++ [a] := by
  unfold insE; rw [List.reverse_append, List.reverse_singleton, List.singleton_append, insR, if_pos h, List.reverse_cons]
theorem insE_no {α : Type} {lt : α → α → Bool} {l : List α} {a x : α} (h : lt x a = false) : insE lt (l ++ [a]) x = l ++ [a] ++ [x] := by
  unfold insE; rw [List.reverse_append, List.reverse_singleton, List.singleton_append, insR, if_neg (by rw [h]; simp)]; simp
def srt {α : Type} (lt : α → α → Bool) (l : List α) : List α := l.foldl (insE lt) []
theorem srt_snoc {α : Type} (lt : α → α → Bool) (l : List α) (x : α) : srt lt (l ++ [x]) = insE lt (srt lt l) x := by unfold srt; rw [List.foldl_append]; rfl
theorem insR_len {α : Type} (lt : α → α → Bool) (x : α) : ∀ l : List α, (insR lt x l).length = l.length + 1
  | [] => rfl
  | a :: t => by rw [insR]; split <;> simp [insR_len lt x t]
theorem insE_len {α : Type} (lt : α → α → Bool) (l : List α) (x : α) : (insE lt l x).length = l.length + 1 := by unfold insE; rw [List.length_reverse, insR_len]; simp
theorem srt_len {α : Type} (lt : α → α → Bool) (l : List α) : (srt lt l).length = l.length := by
  have : ∀ (l acc : List α), (l.foldl (insE lt) acc).length = acc.length + l.length := by
    intro l
    induction l with
    | nil => intro acc; simp
    | cons x t ih => intro acc; rw [List.foldl_cons, ih, insE_len, List.length_cons]; omega
  unfold srt; rw [this]; simp
/-- What lies while x sinks: it stands at j, what was before it from there on is moved by one. -/
def snk {α : Type} (pre suf : List α) (x : α) (j : Nat) : List α := pre.take j ++ x :: (pre.drop j ++ suf)
theorem snk_len {α : Type} {pre suf : List α} {x : α} {j : Nat} (h : j ≤ pre.length) : (snk pre suf x j).length = pre.length + 1 + suf.length := by
  unfold snk; simp only [List.length_append, List.length_take, List.length_cons, List.length_drop]; omega
theorem snk_at {α : Type} {pre suf : List α} {x : α} {j : Nat} (h : j ≤ pre.length) : (snk pre suf x j)[j]? = some x := by
  unfold snk
  rw [List.getElem?_append_right (by rw [List.length_take]; omega), List.length_take, Nat.min_eq_left h, Nat.sub_self]; rfl
theorem snk_before {α : Type} {pre suf : List α} {x : α} {j : Nat} (h : j + 1 ≤ pre.length) : (snk pre suf x (j + 1))[j]? = some pre[j] := by
  unfold snk
  rw [List.getElem?_append_left (by rw [List.length_take]; omega), List.getElem?_take, if_pos (by omega), List.getElem?_eq_getElem (by omega)]
theorem snk_swap {α : Type} {pre suf : List α} {x : α} {j : Nat} (h : j + 1 ≤ pre.length) : ((snk pre suf x (j + 1)).set (j + 1) pre[j]).set j x = snk pre suf x j := by
  unfold snk
  have e : pre.take (j + 1) = pre.take j ++ [pre[j]] := List.take_succ_eq_append_getElem (by omega)
  have l1 : (pre.take j).length = j := by rw [List.length_take]; omega
  rw [e, List.append_assoc, List.singleton_append, List.set_append_right _ _ (by omega), l1, show j + 1 - j = 1 by omega, List.set_cons_succ, List.set_cons_zero, List.set_append_right _ _ (by omega), l1, Nat.sub_self, List.set_cons_zero, List.drop_eq_getElem_cons (show j < pre.length by omega), List.cons_append]
theorem snk_full {α : Type} (pre suf : List α) (x : α) : snk pre suf x pre.length = pre ++ x :: suf := by unfold snk; simp
set_option maxRecDepth 20000 in
set_option maxHeartbeats 4000000 in
theorem isortP_con (v : Value) (xs : List Pay) (k : FuncId) (caps : List AV) (cmp : Pay → Pay → Int) (hl : xs.length ≤ 100000) (hc : ∀ x y, Con Tryd.prog k ([.agg (payC x), .agg (payC y)] ++ caps) [] (Is (.val (.int .i64 (cmp x y))) [])) : Con Tryd.prog 181 [.val v, .val (.int .i64 0), .val (.int .i64 xs.length), .clo k caps] [.row v 53 3 payC xs] (Is (.tup []) [.row v 53 3 payC (srt (fun x y => decide (cmp x y < 0)) xs)]) := by
  generalize hlt0 : (fun x y => decide (cmp x y < 0)) = lt
  have hlt : ∀ x y, decide (cmp x y < 0) = lt x y := fun x y => by rw [← hlt0]
  refine con_of Tryd.func181 rfl (enters_of Tryd.func181 (by kernel_rfl) rfl) rfl ?_; intro n w0 F0 G0
  (refine goSt ?_; (repeat (refine goAl ?_; intro p hp; refine goSt ?_)))
  refine W_loopJ (fun (i : Nat) => ⟨[(0, .val v), (1, .val (.int .i64 0)), (2, .val (.int .i64 xs.length)), (3, .clo k caps), (8, .val (.int .i64 i))], [.row v 53 3 payC (srt lt (xs.take i) ++ xs.drop i)]⟩) (fun i => 1 ≤ i ∧ (i ≤ xs.length ∨ i = 1)) (fun i => xs.length - i) 1 (fun _ _ st => st_sub2 st (by exact goSubr) (by rw [show srt lt (xs.take 1) ++ xs.drop 1 = xs from by cases xs <;> rfl]; exact goSubp)) ⟨Nat.le_refl _, .inr rfl⟩ ?_
  rintro i ⟨hi1, hi2⟩
  (refine goSt ?_; (repeat (refine goAl ?_; intro p hp; refine goSt ?_)))
  refine w_cond rfl (fun hin => ?_) (fun hin => ?_)
  · have hin' : i < xs.length := by simp at hin; omega
    have hpl : (srt lt (xs.take i)).length = i := by rw [srt_len, List.length_take]; omega
    have hnx : srt lt (xs.take (i + 1)) = insE lt (srt lt (xs.take i)) xs[i] := by rw [List.take_succ_eq_append_getElem hin', srt_snoc]
    have hdr : xs.drop i = xs[i] :: xs.drop (i + 1) := List.drop_eq_getElem_cons hin'
    have hsl : (xs.drop (i + 1)).length + i + 1 = xs.length := by rw [List.length_drop]; omega
    generalize srt lt (xs.take i) = pre at *
    generalize hsuf : xs.drop (i + 1) = suf at *
    generalize hx : xs[i] = x at *
    rw [hdr]
    (refine goSt ?_; (repeat (refine goAl ?_; intro p hp; refine goSt ?_)))
    refine W_loopJ (fun (j : Nat) => ⟨[(0, .val v), (1, .val (.int .i64 0)), (2, .val (.int .i64 xs.length)), (3, .clo k caps), (8, .val (.int .i64 i)), (9, .val (.int .i64 j))], [.row v 53 3 payC (snk pre suf x j)]⟩) (fun j => j ≤ i ∧ insE lt pre x = insE lt (pre.take j) x ++ pre.drop j) (fun j => j) i (fun _ _ st => st_sub2 st (by exact goSubr) (by rw [show snk pre suf x i = pre ++ x :: suf from by rw [← hpl]; exact snk_full _ _ _]; exact goSubp)) ⟨Nat.le_refl _, by rw [← hpl]; simp⟩ ?_
    rintro j ⟨hj, hins⟩
    have hdl : (snk pre suf x j).length = xs.length := by rw [snk_len (by omega)]; omega
    have hq1 : (snk pre suf x j)[j]? = some x := snk_at (by omega)
    (refine goSt ?_; (repeat (refine goAl ?_; intro p hp; refine goSt ?_)))
    cases j with
    | zero =>
      have hend : snk pre suf x 0 = insE lt pre x ++ suf := by rw [hins]; simp [snk, insE_nil]
      refine W_run 14 [18, 19, 20, 21, 22, 23, 24, 25, 26, 27, 28, 29, 30, 31] [0, 1, 2, 3, 4, 5, 6, 7, 8, 9, 10, 11, 12, 13] Cut.nil rfl goFlt mixedS (by kernel_rfl) rfl ?_
      refine rpv [] [] ?_
      refine rpv [] [] ?_
      refine Run.pv [0, 1] [] rfl (fun vs => by apply ltr_pk; exact goPk; (refine ltr ?_; apply LT_bool false; apply lt_gtr; exact rfl; exact rfl; simp)) goApp ?_
      refine rpv [2] [] ?_
      refine Run.no [3] [] rfl rfl (fun vs => by apply look_pk; exact goPk; exact rfl) (by exact rfl) goApp ?_
      refine Run.no [3] [] rfl rfl (fun vs => by apply look_pk; exact goPk; exact rfl) (by exact rfl) goApp ?_
      refine Run.no [3] [] rfl rfl (fun vs => by apply look_pk; exact goPk; exact rfl) (by exact rfl) goApp ?_
      refine Run.no [3, 5, 6] [] rfl rfl (fun vs => by apply look_pk; exact goPk; exact rfl) (by exact rfl) goApp ?_
      refine Run.no [3, 7] [] rfl rfl (fun vs => by apply look_pk; exact goPk; exact rfl) (by exact rfl) goApp ?_
      refine Run.no [3] [] rfl rfl (fun vs => by apply look_pk; exact goPk; exact rfl) (by exact rfl) goApp ?_
      refine Run.no [3] [] rfl rfl (fun vs => by apply look_pk; exact goPk; exact rfl) (by exact rfl) goApp ?_
      refine Run.no [3, 10] [] rfl rfl (fun vs => by apply look_pk; exact goPk; exact rfl) (by exact rfl) goApp ?_
      refine Run.no [3, 9, 11] [] rfl rfl (fun vs => by apply look_pk; exact goPk; exact rfl) (by exact rfl) goApp ?_
      refine Run.no [3, 12] [] rfl rfl (fun vs => by apply look_pk; exact goPk; exact rfl) (by exact rfl) goApp ?_
      refine ⟨⟨by kernel_rfl, by kernel_rfl⟩, fun vs => ?_⟩
      apply WL_auto [3, 4, 8, 13]
      · exact goPk
      · exact goNrm
      · kernel_rfl
      · kernel_rfl
      (refine goSt ?_; (repeat (refine goAl ?_; intro p hp; refine goSt ?_)))
      refine ⟨i + 1, fun _ _ st => st_sub2 st ?_ ?_, ?_, ?_⟩
      · exact goSubr
      · rw [hnx, hsuf, ← hend]; exact goSubp
      · omega
      · omega
    | succ j =>
      have hjp : j < pre.length := by omega
      have hq2 : (snk pre suf x (j + 1))[j]? = some pre[j] := snk_before (by omega)
      have htk : pre.take (j + 1) = pre.take j ++ [pre[j]] := List.take_succ_eq_append_getElem hjp
      have hdp : pre.drop j = pre[j] :: pre.drop (j + 1) := List.drop_eq_getElem_cons hjp
      refine W_run 14 [18, 19, 20, 21, 22, 23, 24, 25, 26, 27, 28, 29, 30, 31] [0, 1, 2, 3, 4, 5, 6, 7, 8, 9, 10, 11, 12, 13] Cut.nil rfl goFlt mixedS (by kernel_rfl) rfl ?_
      refine rpv [] [] ?_
      refine rpv [] [] ?_
      refine Run.pv [0, 1] [] rfl (fun vs => by apply ltr_pk; exact goPk; (refine ltr ?_; apply LT_bool true; apply lt_gtr; exact rfl; exact rfl; (first | (simp; done) | (simp; omega)))) goApp ?_
      refine rpv [2] [] ?_
      refine Run.yes [3] [] rfl rfl (fun vs => by apply look_pk; exact goPk; exact rfl) (fun vs => by apply ltr_pk; exact goPk; exact goLtr) goApp ?_
      refine Run.yes [3] [] rfl rfl (fun vs => by apply look_pk; exact goPk; exact rfl) (fun vs => by apply ltr_pk; exact goPk; exact goLtr) goApp ?_
      refine Run.yes [3] [] rfl rfl (fun vs => by apply look_pk; exact goPk; exact rfl) (fun vs => by apply ltr_pk; exact goPk; exact goLtr) goApp ?_
      refine Run.yes [3, 5, 6] [] rfl rfl (fun vs => by apply look_pk; exact goPk; exact rfl) (fun vs => by apply ltr_pk; exact goPk; exact goLtr) goApp ?_
      refine Run.yes [3, 7] [] rfl rfl (fun vs => by apply look_pk; exact goPk; exact rfl) (fun vs => by apply ltr_pk; exact goPk; exact goLtr) goApp ?_
      refine Run.yes [3] [] rfl rfl (fun vs => by apply look_pk; exact goPk; exact rfl) (fun vs => by apply ltr_pk; exact goPk; exact goLtr) goApp ?_
      refine Run.yes [3] [] rfl rfl (fun vs => by apply look_pk; exact goPk; exact rfl) (fun vs => by apply ltr_pk; exact goPk; exact goLtr) goApp ?_
      refine Run.yes [3, 10] [] rfl rfl (fun vs => by apply look_pk; exact goPk; exact rfl) (fun vs => by apply ltr_pk; exact goPk; (refine ltr ?_; apply LT_int (j : Int); apply lt_sub; exact rfl; exact rfl; omega; omega; omega)) goApp ?_
      refine Run.yes [3, 9, 11] [] rfl rfl (fun vs => by apply look_pk; exact goPk; exact rfl) (fun vs => by apply ltr_pk; exact goPk; exact goLtr) goApp ?_
      refine Run.yes [3, 12] [] rfl rfl (fun vs => by apply look_pk; exact goPk; exact rfl) (fun vs => by apply ltr_pk; exact goPk; exact goLtr) goApp ?_
      refine ⟨⟨by kernel_rfl, by kernel_rfl⟩, fun vs => ?_⟩
      apply WL_auto [3, 4, 8, 13]
      · exact goPk
      · exact goNrm
      · kernel_rfl
      · kernel_rfl
      (refine goSt ?_; (repeat (refine goAl ?_; intro p hp; refine goSt ?_)))
      (apply wl_callV (hc x pre[j]); exact rfl; exact rfl; exact rfl)
      (refine goSt ?_; (repeat (refine goAl ?_; intro p hp; refine goSt ?_)))
      rw [hlt]
      cases hb : lt x pre[j] with
      | false =>
        have hend : snk pre suf x (j + 1) = insE lt pre x ++ suf := by
          rw [hins, htk, insE_no hb, ← htk]; simp [snk]
        (refine goSt ?_; (repeat (refine goAl ?_; intro p hp; refine goSt ?_)))
        refine ⟨i + 1, fun _ _ st => st_sub2 st ?_ ?_, ?_, ?_⟩
        · exact goSubr
        · rw [hnx, hsuf, ← hend]; exact goSubp
        · omega
        · omega
      | true =>
        have hins2 : insE lt pre x = insE lt (pre.take j) x ++ pre.drop j := by
          rw [hins, htk, insE_yes hb, hdp]; simp
        (refine goSt ?_; (repeat (refine goAl ?_; intro p hp; refine goSt ?_)))
        refine W_run 16 [37, 38, 39, 40, 41, 42, 43, 44, 45, 46, 47, 48, 49, 50, 51, 1000015] [0, 1, 2, 3, 4, 5, 6, 7, 8, 9, 10, 11, 12, 13, 14, 15] (Cut.cons (h := HA.row v 53 3 payC (snk pre suf x (j + 1))) goRm (Cut.nil)) rfl goFlt mixedS (by kernel_rfl) rfl ?_
        refine rpv [] [] ?_
        refine rpv [] [] ?_
        refine rpv [] [] ?_
        refine rpv [] [] ?_
        refine Run.pv [3] [] rfl (fun vs => by apply ltr_pk; exact goPk; (refine ltr ?_; apply LT_int (j : Int); apply lt_sub; exact rfl; exact rfl; omega; omega; omega)) goApp ?_
        refine rpv [] [] ?_
        refine rpv [] [] ?_
        refine Run.pv [6] [] rfl (fun vs => by apply ltr_pk; exact goPk; (refine ltr ?_; apply LT_int (j : Int); apply lt_sub; exact rfl; exact rfl; omega; omega; omega)) goApp ?_
        refine Run.rd [5, 7] [] [1000] rfl (fun vs => by apply ltr_pk; exact goPk; exact goLtr) goApp ?_
        refine Run.rd [8] [] [1000] rfl (fun vs => by apply ltr_pk; exact goPk; exact goLtr) goApp ?_
        refine rpv [] [] ?_
        refine rpv [] [] ?_
        refine Run.rd [10, 11] [] [1000] rfl (fun vs => by apply ltr_pk; exact goPk; exact goLtr) goApp ?_
        refine Run.rd [12] [] [1000] rfl (fun vs => by apply ltr_pk; exact goPk; exact goLtr) goApp ?_
        refine Run.rd [0, 1] [] [1000] rfl (fun vs => by apply ltr_pk; exact goPk; exact goLtr) goApp ?_
        refine Run.fx [9, 14] [1000] 14 (fun _ => [HA.row v 53 3 payC ((snk pre suf x (j + 1)).set (j + 1) pre[j])]) rfl (fun vs => by apply ltr_pk; exact goPk; (refine ltr ?_; refine LT.fx (lt_storeRN (n := 3) (f := payC) (xs := snk pre suf x (j + 1)) (k := j + 1) (x' := pre[j]) rfl rfl (by omega) rfl) rfl)) goApp ?_
        refine ⟨⟨by kernel_rfl, by kernel_rfl⟩, fun vs => ?_⟩
        apply WL_auto [2, 4, 13]
        · exact goPk
        · exact goNrm
        · kernel_rfl
        · kernel_rfl
        (refine goSt ?_; (repeat (refine goAl ?_; intro p hp; refine goSt ?_)))
        apply wl_storeRNx x
        · exact rfl
        · exact goAtm
        · exact rfl
        · exact inferInstance
        · exact inferInstance
        · rw [List.length_set]; omega
        · rfl
        rw [snk_swap (by omega)]
        (refine goSt ?_; (repeat (refine goAl ?_; intro p hp; refine goSt ?_)))
        rw [show (((j + 1 : Nat) : Int) - 1) = (j : Int) by omega]
        refine ⟨j, fun _ _ st => st_sub2 st ?_ ?_, ?_, ?_⟩
        · exact goSubr
        · exact goSubp
        · exact ⟨by omega, hins2⟩
        · omega
  · have hkk : xs.length ≤ i := by simp at hin; omega
    rw [List.take_of_length_le hkk, List.drop_of_length_le hkk, List.append_nil]
    (refine goSt ?_; (repeat (refine goAl ?_; intro p hp; refine goSt ?_)))
    (apply resK0; exact rfl; exact ⟨rfl, rfl⟩; exact goCutl)
end Go.Proofs.YtihonljdanjfmaaDoor.Sw
namespace Go.Proofs.YtihonljdanjfmaaDoor.Sw
open Go.RowKit Go Go.Shelf Go.Proofs
open Go.Proofs.YtihonljdanjfmaaDoor.Gr (payLt)
instance tyeL : TyE Tryd.prog 155 53 3 := tyE (z := .agg #[.int .i64 0, .int .i64 0, .int .i64 0]) (b := 24) (by kernel_rfl) (by kernel_rfl) (by decide) rfl (by decide)
section
variable {P : Program} {rs : List (Nat × AV)} {d : Option Nat} {ty : TypeId} {pos : String} {af : Array Edge} {g : Option (Nat × Bool)}
theorem lt_convC {x : Operand} {u v : Value} {s t : TypeId} (hx : opv rs x = some (.val u)) (h : ∀ w, (convert s t u).run P w = .ok v w) : LT P ⟨d, .convert s t x, ty, pos, af, g⟩ rs [] (Is (.val v) []) :=
  LT_val (fun _ e => by cases e) fun a w G hR _ => ⟨_, rfl, by
    have e1 : a.eval x = _ := opv_ok hR hx
    simp only [execOp, e1, Sem.run_bind, h w, Result.andThen_ok]
    rfl⟩
theorem lt_idxC {x y : Operand} {u u2 v : Value} {t : TypeId} (hx : opv rs x = some (.val u)) (hy : opv rs y = some (.val u2)) (h : ∀ w, (Instr.index t u u2).run P w = .ok v w) : LT P ⟨d, .index t x y, ty, pos, af, g⟩ rs [] (Is (.val v) []) :=
  LT_val (fun _ e => by cases e) fun a w G hR _ => ⟨_, rfl, by
    have e1 : a.eval x = _ := opv_ok hR hx
    have e2 : a.eval y = _ := opv_ok hR hy
    simp only [execOp, e1, e2, Sem.run_bind, h w, Result.andThen_ok]
    rfl⟩
end
section
variable {c : Cx} {rs : List (Nat × AV)} {hs : List HA} {Q : Exit → S → Prop} {ops : Array Oper} {tl : List Oper} {d : Nat} {ty : TypeId} {pos : String} {af : Array Edge}
theorem wl_convC {x : Operand} {u : Value} (v : Value) {s t : TypeId} (hx : opv rs x = some (.val u)) (h : ∀ w, (convert s t u).run c.P w = .ok v w) (hd : Nat.blt d c.nt = true) (k : WL c ops tl ⟨(d, .val v) :: rs, hs⟩ Q) : WL c ops (⟨some d, .convert s t x, ty, pos, af, none⟩ :: tl) ⟨rs, hs⟩ Q := wl_ex (lt_convC hx h) hd k
theorem wl_idxC {x y : Operand} {u u2 : Value} (v : Value) {t : TypeId} (hx : opv rs x = some (.val u)) (hy : opv rs y = some (.val u2)) (h : ∀ w, (Instr.index t u u2).run c.P w = .ok v w) (hd : Nat.blt d c.nt = true) (k : WL c ops tl ⟨(d, .val v) :: rs, hs⟩ Q) : WL c ops (⟨some d, .index t x y, ty, pos, af, none⟩ :: tl) ⟨rs, hs⟩ Q := wl_ex (lt_idxC hx hy h) hd k
end
/-- How many bits a few have. -/
def lenB (n : Nat) : Int := if n = 0 then 0 else if n = 1 then 1 else if n ≤ 3 then 2 else 3
set_option maxRecDepth 20000 in
theorem len64_con (n : Nat) (hn : n ≤ 5) : Con Tryd.prog 190 [.val (.int .u64 n)] [] (Is (.val (.int .i64 (lenB n))) []) := by
  have hk : n = 0 ∨ n = 1 ∨ n = 2 ∨ n = 3 ∨ n = 4 ∨ n = 5 := by omega
  rcases hk with rfl | rfl | rfl | rfl | rfl | rfl
  · refine con_of Tryd.func190 rfl (enters_of Tryd.func190 (by kernel_rfl) rfl) rfl ?_; intro n w0 F0 G0
    (refine goSt ?_; (repeat (refine goAl ?_; intro p hp; refine goSt ?_)))
    (apply wl_convC (.int .u8 0); exact rfl; exact (fun w => by kernel_rfl); exact rfl)
    (apply wl_idxC (.int .u8 0); exact rfl; exact rfl; exact (fun w => by kernel_rfl); exact rfl)
    (apply wl_convC (.int .i64 0); exact rfl; exact (fun w => by kernel_rfl); exact rfl)
    (refine goSt ?_; (repeat (refine goAl ?_; intro p hp; refine goSt ?_)))
    (apply res1; exact rfl; exact rfl; exact ⟨rfl, rfl⟩)
  · refine con_of Tryd.func190 rfl (enters_of Tryd.func190 (by kernel_rfl) rfl) rfl ?_; intro n w0 F0 G0
    (refine goSt ?_; (repeat (refine goAl ?_; intro p hp; refine goSt ?_)))
    (apply wl_convC (.int .u8 1); exact rfl; exact (fun w => by kernel_rfl); exact rfl)
    (apply wl_idxC (.int .u8 1); exact rfl; exact rfl; exact (fun w => by kernel_rfl); exact rfl)
    (apply wl_convC (.int .i64 1); exact rfl; exact (fun w => by kernel_rfl); exact rfl)
    (refine goSt ?_; (repeat (refine goAl ?_; intro p hp; refine goSt ?_)))
    (apply res1; exact rfl; exact rfl; exact ⟨rfl, rfl⟩)
  · refine con_of Tryd.func190 rfl (enters_of Tryd.func190 (by kernel_rfl) rfl) rfl ?_; intro n w0 F0 G0
    (refine goSt ?_; (repeat (refine goAl ?_; intro p hp; refine goSt ?_)))
    (apply wl_convC (.int .u8 2); exact rfl; exact (fun w => by kernel_rfl); exact rfl)
    (apply wl_idxC (.int .u8 2); exact rfl; exact rfl; exact (fun w => by kernel_rfl); exact rfl)
    (apply wl_convC (.int .i64 2); exact rfl; exact (fun w => by kernel_rfl); exact rfl)
    (refine goSt ?_; (repeat (refine goAl ?_; intro p hp; refine goSt ?_)))
    (apply res1; exact rfl; exact rfl; exact ⟨rfl, rfl⟩)
  · refine con_of Tryd.func190 rfl (enters_of Tryd.func190 (by kernel_rfl) rfl) rfl ?_; intro n w0 F0 G0
    (refine goSt ?_; (repeat (refine goAl ?_; intro p hp; refine goSt ?_)))
    (apply wl_convC (.int .u8 3); exact rfl; exact (fun w => by kernel_rfl); exact rfl)
    (apply wl_idxC (.int .u8 2); exact rfl; exact rfl; exact (fun w => by kernel_rfl); exact rfl)
    (apply wl_convC (.int .i64 2); exact rfl; exact (fun w => by kernel_rfl); exact rfl)
    (refine goSt ?_; (repeat (refine goAl ?_; intro p hp; refine goSt ?_)))
    (apply res1; exact rfl; exact rfl; exact ⟨rfl, rfl⟩)
  · refine con_of Tryd.func190 rfl (enters_of Tryd.func190 (by kernel_rfl) rfl) rfl ?_; intro n w0 F0 G0
    (refine goSt ?_; (repeat (refine goAl ?_; intro p hp; refine goSt ?_)))
    (apply wl_convC (.int .u8 4); exact rfl; exact (fun w => by kernel_rfl); exact rfl)
    (apply wl_idxC (.int .u8 3); exact rfl; exact rfl; exact (fun w => by kernel_rfl); exact rfl)
    (apply wl_convC (.int .i64 3); exact rfl; exact (fun w => by kernel_rfl); exact rfl)
    (refine goSt ?_; (repeat (refine goAl ?_; intro p hp; refine goSt ?_)))
    (apply res1; exact rfl; exact rfl; exact ⟨rfl, rfl⟩)
  · refine con_of Tryd.func190 rfl (enters_of Tryd.func190 (by kernel_rfl) rfl) rfl ?_; intro n w0 F0 G0
    (refine goSt ?_; (repeat (refine goAl ?_; intro p hp; refine goSt ?_)))
    (apply wl_convC (.int .u8 5); exact rfl; exact (fun w => by kernel_rfl); exact rfl)
    (apply wl_idxC (.int .u8 3); exact rfl; exact rfl; exact (fun w => by kernel_rfl); exact rfl)
    (apply wl_convC (.int .i64 3); exact rfl; exact (fun w => by kernel_rfl); exact rfl)
    (refine goSt ?_; (repeat (refine goAl ?_; intro p hp; refine goSt ?_)))
    (apply res1; exact rfl; exact rfl; exact ⟨rfl, rfl⟩)
theorem w_constF {c : Cx} {s : S} {x y : Code} {Q : Exit → S → Prop} (h : W c y s Q) : W c (.cond (.const (.bool false)) x y) s Q := ⟨fun a w st => wpIn_cond (show a.eval (.const (.bool false)) = .bool false from rfl) (h.out a w st)⟩
set_option maxRecDepth 20000 in
theorem lenBits_con (m : Nat) (hm : m ≤ 5) : Con Tryd.prog 175 [.val (.int .u64 m)] [] (Is (.val (.int .i64 (lenB m))) []) := by
  refine con_of Tryd.func175 rfl (enters_of Tryd.func175 (by kernel_rfl) rfl) rfl ?_; intro n w0 F0 G0
  (refine goSt ?_; (repeat (refine goAl ?_; intro p hp; refine goSt ?_)))
  refine w_constF ?_
  (refine goSt ?_; (repeat (refine goAl ?_; intro p hp; refine goSt ?_)))
  (first | (apply wl_call (len64_con m hm); exact rfl; exact rfl) | (apply wl_callR (len64_con m hm); exact rfl; exact goAtm; exact rfl))
  (refine goSt ?_; (repeat (refine goAl ?_; intro p hp; refine goSt ?_)))
  (apply res1; exact rfl; exact rfl; exact ⟨rfl, rfl⟩)
theorem cvU : ∀ (m : Nat), m ≤ 5 → ∀ w : World, (convert 3 225 (.int .i64 (m : Int))).run Tryd.prog w = .ok (.int .u64 (m : Int)) w
  | 0, _ => fun w => by kernel_rfl
  | 1, _ => fun w => by kernel_rfl
  | 2, _ => fun w => by kernel_rfl
  | 3, _ => fun w => by kernel_rfl
  | 4, _ => fun w => by kernel_rfl
  | 5, _ => fun w => by kernel_rfl
  | m + 6, h => absurd h (by omega)
set_option maxRecDepth 20000 in
theorem pdqP_con (v : Value) (xs : List Pay) (k : FuncId) (caps : List AV) (cmp : Pay → Pay → Int) (lim : Int) (hl : xs.length ≤ 12) (hc : ∀ x y, Con Tryd.prog k ([.agg (payC x), .agg (payC y)] ++ caps) [] (Is (.val (.int .i64 (cmp x y))) [])) : Con Tryd.prog 174 [.val v, .val (.int .i64 0), .val (.int .i64 xs.length), .val (.int .i64 lim), .clo k caps] [.row v 53 3 payC xs] (Is (.tup []) [.row v 53 3 payC (srt (fun x y => decide (cmp x y < 0)) xs)]) := by
  refine con_of Tryd.func174 rfl (enters_of Tryd.func174 (by kernel_rfl) rfl) rfl ?_; intro n w0 F0 G0
  (refine goSt ?_; (repeat (refine goAl ?_; intro p hp; refine goSt ?_)))
  refine W_rounds 1 ?_
  refine WR_step ?_
  (refine goSt ?_; (repeat (refine goAl ?_; intro p hp; refine goSt ?_)))
  refine w_cond rfl (fun h12 => ?_) (fun h12 => ?_)
  · (refine goSt ?_; (repeat (refine goAl ?_; intro p hp; refine goSt ?_)))
    (apply wl_callP (isortP_con v xs k caps cmp (by omega) hc); exact rfl; exact goCutl; exact rfl)
    rintro _ _ ⟨rfl, rfl⟩
    (refine goSt ?_; (repeat (refine goAl ?_; intro p hp; refine goSt ?_)))
    (apply resK0; exact rfl; exact ⟨rfl, rfl⟩; exact goCutl)
  · exfalso; simp at h12; omega
set_option maxRecDepth 20000 in
theorem sortP_con (v : Value) (xs : List Pay) (k : FuncId) (caps : List AV) (cmp : Pay → Pay → Int) (hl : xs.length ≤ 5) (hc : ∀ x y, Con Tryd.prog k ([.agg (payC x), .agg (payC y)] ++ caps) [] (Is (.val (.int .i64 (cmp x y))) [])) : Con Tryd.prog 158 [.val v, .clo k caps] [.row v 53 3 payC xs] (Is (.tup []) [.row v 53 3 payC (srt (fun x y => decide (cmp x y < 0)) xs)]) := by
  have hcv : ∀ w, (convert 3 225 (.int .i64 (xs.length : Int))).run Tryd.prog w = .ok (.int .u64 (xs.length : Int)) w := fun w => cvU xs.length hl w
  refine con_of Tryd.func158 rfl (enters_of Tryd.func158 (by kernel_rfl) rfl) rfl ?_; intro n w0 F0 G0
  (refine goSt ?_; (repeat (refine goAl ?_; intro p hp; refine goSt ?_)))
  (apply wl_convC (.int .u64 (xs.length : Int)); exact rfl; exact hcv; exact rfl)
  (refine goSt ?_; (repeat (refine goAl ?_; intro p hp; refine goSt ?_)))
  (first | (apply wl_call (lenBits_con xs.length hl); exact rfl; exact rfl) | (apply wl_callR (lenBits_con xs.length hl); exact rfl; exact goAtm; exact rfl))
  (refine goSt ?_; (repeat (refine goAl ?_; intro p hp; refine goSt ?_)))
  (apply wl_callP (pdqP_con v xs k caps cmp (lenB xs.length) (by omega) hc); exact rfl; exact goCutl; exact rfl)
  rintro _ _ ⟨rfl, rfl⟩
  (refine goSt ?_; (repeat (refine goAl ?_; intro p hp; refine goSt ?_)))
  (apply resK0; exact rfl; exact ⟨rfl, rfl⟩; exact goCutl)
def pyCmp (x y : Pay) : Int := firstNZ [cmpR x.a y.a, cmpR x.b y.b, cmpR x.p y.p]
theorem pyCmp_lt (x y : Pay) : decide (pyCmp x y < 0) = payLt x y := by
  unfold pyCmp firstNZ firstNZ firstNZ firstNZ cmpR payLt
  by_cases h1 : x.a = y.a
  · by_cases h2 : x.b = y.b
    · simp only [h1, h2]
      by_cases h3 : x.p < y.p
      · simp [h3]
      · by_cases h4 : y.p < x.p
        · simp [h3, h4]
        · simp [h3, h4]
    · simp only [h1]
      by_cases h3 : x.b < y.b
      · simp [h2, h3]
      · have h4 : y.b < x.b := by omega
        simp [h2, h3, h4]
  · by_cases h3 : x.a < y.a
    · simp [h1, h3]
    · have h4 : y.a < x.a := by omega
      simp [h1, h3, h4]
set_option maxRecDepth 20000 in
set_option maxHeartbeats 4000000 in
theorem payments_con (x y : Pay) : Con Tryd.prog 136 [.agg (payC x), .agg (payC y)] [] (Is (.val (.int .i64 (pyCmp x y))) []) := by
  refine con_of Tryd.func136 rfl (enters_of Tryd.func136 (by kernel_rfl) rfl) rfl ?_; intro n w0 F0 G0
  (refine goSt ?_; (repeat (refine goAl ?_; intro p hp; refine goSt ?_)))
  refine W_run 14 [5, 6, 7, 8, 9, 10, 11, 12, 13, 14, 15, 16, 17, 18] [0, 1, 2, 3, 4, 5, 6, 7, 8, 9, 10, 11, 12, 13] Cut.nil rfl goFlt mixedS (by kernel_rfl) rfl ?_
  refine rpv [] [] ?_
  refine rpv [0] [] ?_
  refine rpv [] [] ?_
  refine rpv [2] [] ?_
  refine Run.pv [1, 3] [] rfl (fun vs => by apply ltr_pk; exact goPk; (refine ltr ?_; refine lt_call ?_ ((compare_con x.a y.a)); exact rfl)) goApp ?_
  refine rpv [] [] ?_
  refine rpv [5] [] ?_
  refine rpv [] [] ?_
  refine rpv [7] [] ?_
  refine Run.pv [6, 8] [] rfl (fun vs => by apply ltr_pk; exact goPk; (refine ltr ?_; refine lt_call ?_ ((compare_con x.b y.b)); exact rfl)) goApp ?_
  refine rpv [] [] ?_
  refine rpv [10] [] ?_
  refine rpv [] [] ?_
  refine rpv [12] [] ?_
  refine ⟨⟨by kernel_rfl, by kernel_rfl⟩, fun vs => ?_⟩
  apply WL_auto [4, 9, 11, 13]
  · exact goPk
  · exact goNrm
  · kernel_rfl
  · kernel_rfl
  (refine goSt ?_; (repeat (refine goAl ?_; intro p hp; refine goSt ?_)))
  (first | (apply wl_call (compare_con x.p y.p); exact rfl; exact rfl) | (apply wl_callR (compare_con x.p y.p); exact rfl; exact goAtm; exact rfl))
  (refine goSt ?_; (repeat (refine goAl ?_; intro p hp; refine goSt ?_)))
  (apply wl_litF iC; exact inferInstance; exact inferInstance; exact inferInstance; (repeat (first | exact Elems.nil | (apply Elems.cons; exact rfl; exact inferInstance; exact rfl))); exact rfl; (first | exact (of_decide_eq_true rfl) | decide | (simp; done) | (simp; omega)); exact rfl)
  (refine goSt ?_; (repeat (refine goAl ?_; intro p hp; refine goSt ?_)))
  (first | (apply wl_call (or_con [cmpR x.a y.a, cmpR x.b y.b, cmpR x.p y.p] (by simp)); exact rfl; exact rfl) | (apply wl_callR (or_con [cmpR x.a y.a, cmpR x.b y.b, cmpR x.p y.p] (by simp)); exact rfl; exact goAtm; exact rfl))
  (refine goSt ?_; (repeat (refine goAl ?_; intro p hp; refine goSt ?_)))
  (apply res1; exact rfl; exact rfl; exact ⟨rfl, rfl⟩)
end Go.Proofs.YtihonljdanjfmaaDoor.Sw
namespace Go.Proofs.YtihonljdanjfmaaDoor.Sw
open Go.RowKit Go Go.Shelf Go.Proofs
open Go.Proofs.YtihonljdanjfmaaDoor.Gr (behR behS Ok Ord Forest Zr lf amt payE payLt)
theorem Rm.perm {hs r : List HA} {h : HA} (k : Rm hs h r) : hs.Perm (h :: r) := by
  induction k with
  | here => exact .refl _
  | there k ih => exact (ih.cons _).trans (List.Perm.swap _ _ _)
/-- A call in a drawn region that is lent two things and hands them back. -/
theorem ltr_call2 {P : Program} {rs : List (Nat × AV)} {hsR r1 r2 : List HA} {d : Option Nat} {ty : TypeId} {pos : String} {af : Array Edge} {g : Option (Nat × Bool)} {k : FuncId} {xs : List Operand} {ts : Array TypeId} {avs : List AV} {av : AV} {h1 h2 : HA} (hc : Con P k avs [h1, h2] (Is av [h1, h2])) (hx : opvs rs xs = some avs) (hr1 : Rm hsR h1 r1) (hr2 : Rm r1 h2 r2) :
    LTr P ⟨d, .call { callee := .value (.func k), args := xs.toArray, argTypes := ts }, ty, pos, af, g⟩ rs hsR [] (Is av []) := by
  have hp : hsR.Perm (h1 :: h2 :: r2) := hr1.perm.trans (hr2.perm.cons _)
  refine ⟨?_⟩
  intro F n hF a w G Fp K Q hR hI hk
  have hI' : Inv G Fp ([h1, h2] ++ r2) w := ⟨hI.gin, hI.nd, hI.own, hsP.permL hp hI.hs⟩
  obtain ⟨F1, k1, k2⟩ := Inv.frame hI'
  refine (lt_call hx hc).go F n hF a w G F1 K Q hR k1 fun v av' prod G' F' w' ⟨e1, e2⟩ hfr hi hv => ?_
  subst e1 e2
  obtain ⟨F'', h3, h4⟩ := k2 hfr hi
  exact hk v _ hsR G' F'' w' ⟨[], rfl, rfl, rfl⟩ h4 ⟨h3.gin, h3.nd, h3.own, hsP.permL hp.symm h3.hs⟩ hv
noncomputable def lstR (ids : List Int) (L : List (Nat × Nat)) (cu : List Int) : Option (List Pay) :=
  if L.all (fun e => decide (amt ids.length (lf cu) L e ≠ 0)) = true then some (srt (fun x y => decide (pyCmp x y < 0)) (L.map (payE ids (lf cu) L))) else none
theorem amt_bound {n : Nat} {x : Nat → Int} {L : List (Nat × Nat)} (hn : n ≤ 10) (hok : Ok n L) (hf : Forest L) (hz : Zr n L x) (hb : ∀ v, v < n → -1000000000 ≤ x v ∧ x v ≤ 1000000000) {e : Nat × Nat} (he : e ∈ L) : -10000000000 ≤ amt n x L e ∧ amt n x L e ≤ 10000000000 := by
  obtain ⟨Q, hQ⟩ := Gr.side_of hf he (.inr ⟨rfl, rfl⟩ : Gr.Ends e e.2 e.1)
  have := sumP_bound (by omega) hb Q
  rw [Gr.amt_side hok.nd hz hQ]; omega
set_option maxRecDepth 20000 in
set_option maxHeartbeats 8000000 in
theorem list_con (ph ow : Value) (f : Flo) (cu : List Int) (L : List (Nat × Nat)) (hn : f.ids.length ≤ 10) (hl : L.length ≤ 5) (hcl : cu.length = f.ids.length) (hbt : Btw (-1000000000) 1000000000 cu)
    (hok : Ok f.ids.length L) (ho : Ord L) (hf : Forest L) (hz : Zr f.ids.length L (lf cu)) : Con Tryd.prog 140 [.val ph, .sl 2 pnC L] [hsB ph f ow, .row ow 3 1 iC cu] (Is (treeA (lstR f.ids L cu)) [hsB ph f ow, .row ow 3 1 iC cu]) := by
  have hbb : ∀ v, v < f.ids.length → -1000000000 ≤ lf cu v ∧ lf cu v ≤ 1000000000 := fun v hv => by
    have hv' : v < cu.length := by omega
    rw [lf_at hv']; exact hbt.at hv'
  unfold lstR
  refine con_of Tryd.func140 rfl (enters_of Tryd.func140 (by kernel_rfl) rfl) rfl ?_; intro n w0 F0 G0
  (refine goSt ?_; (repeat (refine goAl ?_; intro p hp; refine goSt ?_)))
  refine W_loopJ (fun (b : Nat × Value) => ⟨[(0, .val ph), (1, .sl 2 pnC L), (6, .val b.2), (10, .sl 2 pnC L), (11, .val (.int .i64 L.length)), (12, .val (.int .i64 b.1))], [.row b.2 53 3 payC ((L.take b.1).map (payE f.ids (lf cu) L)), hsB ph f ow, .row ow 3 1 iC cu]⟩) (fun b => b.1 ≤ L.length ∧ (L.take b.1).all (fun e => decide (amt f.ids.length (lf cu) L e ≠ 0)) = true) (fun b => L.length - b.1) (0, .slice none 0 0) (fun _ _ st => st_sub2 (st_nil 53 3 payC st) goSubr goSubp) ⟨Nat.zero_le _, rfl⟩ ?_
  rintro ⟨j, v⟩ ⟨hj, hal⟩
  dsimp only at hj hal ⊢
  (refine goSt ?_; (repeat (refine goAl ?_; intro p hp; refine goSt ?_)))
  refine w_cond rfl (fun hlt => ?_) (fun hlt => ?_)
  · have hj' : j < L.length := by simpa using hlt
    have hpL := List.getElem_mem hj'
    have hp := hok.lt _ hpL
    have hq1 : f.ids[L[j].1]? = some f.ids[L[j].1] := List.getElem?_eq_getElem hp.1
    have hq2 : f.ids[L[j].2]? = some f.ids[L[j].2] := List.getElem?_eq_getElem hp.2.1
    have hg1 : f.ids.getD L[j].1 0 = f.ids[L[j].1] := by simp [List.getD_eq_getElem?_getD, hq1]
    have hg2 : f.ids.getD L[j].2 0 = f.ids[L[j].2] := by simp [List.getD_eq_getElem?_getD, hq2]
    have hE : Gr.Ends L[j] L[j].2 L[j].1 := .inr ⟨rfl, rfl⟩
    obtain ⟨Q, hQ⟩ := Gr.side_of hf hpL hE
    have B := behind_con ph ow f cu L hn (by omega) hcl hbt hok ho hf hz f.ids.length L[j].2 L[j].1 ⟨L[j], hpL, hE, Q, hQ, Gr.cnt_le _ _⟩
    rw [Gr.beh_amt hok ho hf hz hpL] at B
    have hab := amt_bound hn hok hf hz hbb hpL
    have hmap : (L.take (j + 1)).map (payE f.ids (lf cu) L) = (L.take j).map (payE f.ids (lf cu) L) ++ [payE f.ids (lf cu) L L[j]] := by rw [List.take_succ_eq_append_getElem hj', List.map_append]; rfl
    have hall : (L.take (j + 1)).all (fun e => decide (amt f.ids.length (lf cu) L e ≠ 0)) = decide (amt f.ids.length (lf cu) L L[j] ≠ 0) := by rw [List.take_succ_eq_append_getElem hj', List.all_append, hal]; simp
    have hpy : payE f.ids (lf cu) L L[j] = if amt f.ids.length (lf cu) L L[j] < 0 then ⟨f.ids[L[j].2], f.ids[L[j].1], - amt f.ids.length (lf cu) L L[j]⟩ else ⟨f.ids[L[j].1], f.ids[L[j].2], amt f.ids.length (lf cu) L L[j]⟩ := by unfold payE; rw [hg1, hg2]
    have hno : amt f.ids.length (lf cu) L L[j] = 0 → ¬ L.all (fun e => decide (amt f.ids.length (lf cu) L e ≠ 0)) = true := fun h0 h => by
      have := List.all_eq_true.1 h _ hpL
      simp [h0] at this
    have hlt2 : (L.take j).length ≤ 10 := by rw [List.length_take]; omega
    (refine goSt ?_; (repeat (refine goAl ?_; intro p hp; refine goSt ?_)))
    refine W_run 27 [16, 17, 18, 19, 20, 21, 22, 23, 24, 25, 26, 27, 28, 29, 30, 31, 32, 33, 34, 35, 36, 37, 38, 39, 40, 41, 9] [0, 1, 2, 3, 4, 5, 6, 7, 8, 9, 10, 11, 12, 13, 14, 15, 16, 17, 18, 19, 20, 21, 22, 23, 24, 25, 26] Cut.nil rfl goFlt mixedS (by kernel_rfl) rfl ?_
    refine rpv [] [] ?_
    refine rpv [0] [] ?_
    refine rpv [1] [] ?_
    refine rpv [2] [] ?_
    refine rpv [3] [] ?_
    refine rpv [] [] ?_
    refine rpv [5] [] ?_
    refine rpv [4, 6] [] ?_
    refine rpv [7] [] ?_
    refine rpv [] [] ?_
    refine rpv [9] [] ?_
    refine rpv [10] [] ?_
    refine rpv [11] [] ?_
    refine rpv [12] [] ?_
    refine rpv [] [] ?_
    refine rpv [14] [] ?_
    refine rpv [13, 15] [] ?_
    refine rpv [16] [] ?_
    refine rpv [] [] ?_
    refine rpv [] [] ?_
    refine rpv [] [] ?_
    refine rpv [20] [] ?_
    refine rpv [] [] ?_
    refine rpv [22] [] ?_
    refine Run.pv [18, 19, 21, 23] [] rfl (fun vs => by apply ltr_pk; exact goPk; (refine ltr_call2 B ?_ goRm goRm; exact rfl)) goApp ?_
    refine rpv [8, 17, 24] [] ?_
    refine Run.tok [] [] rfl (fun vs => by apply ltr_pk; exact goPk; exact goLtr) goApp ?_
    refine ⟨⟨by kernel_rfl, by kernel_rfl⟩, fun vs => ?_⟩
    apply WL_auto [25, 26]
    · exact goPk
    · exact goNrm
    · kernel_rfl
    · kernel_rfl
    (refine goSt ?_; (repeat (refine goAl ?_; intro p hp; refine goSt ?_)))
    refine W_meet ⟨[(0, .val ph), (1, .sl 2 pnC L), (6, .val v), (10, .sl 2 pnC L), (11, .val (.int .i64 L.length)), (12, .val (.int .i64 j)), (9, .val (vs 26))], [.box (vs 26) (payC (payE f.ids (lf cu) L L[j])) 53, .row v 53 3 payC ((L.take j).map (payE f.ids (lf cu) L)), hsB ph f ow, .row ow 3 1 iC cu]⟩ ?_ ?_
    · refine w_cond rfl (fun hneg => ?_) (fun hneg => ?_)
      · rw [hpy, if_pos (by simpa using hneg)]
        (refine goSt ?_; (repeat (refine goAl ?_; intro p hp; refine goSt ?_)))
        exact ⟨rfl, fun _ _ st => st_sub2 st goSubr goSubp⟩
      · rw [hpy, if_neg (by simpa using hneg)]
        (refine goSt ?_; (repeat (refine goAl ?_; intro p hp; refine goSt ?_)))
        exact ⟨rfl, fun _ _ st => st_sub2 st goSubr goSubp⟩
    · have hz0 : (payE f.ids (lf cu) L L[j]).p = 0 ↔ amt f.ids.length (lf cu) L L[j] = 0 := by rw [hpy]; split <;> simp
      generalize payE f.ids (lf cu) L L[j] = py at hmap hz0 ⊢
      (refine goSt ?_; (repeat (refine goAl ?_; intro p hp; refine goSt ?_)))
      refine w_cond rfl (fun he => ?_) (fun he => ?_)
      · have h0 : py.p = 0 := by have := of_decide_eq_true he; simpa using this
        rw [if_neg (hno (hz0.1 h0))]
        (refine goSt ?_; (repeat (refine goAl ?_; intro p hp; refine goSt ?_)))
        refine Res_nil 4 3 payC rfl ?_
        unfold treeA
        (apply resK2; exact rfl; exact rfl; exact rfl; exact ⟨rfl, rfl⟩; exact goCutl)
      · have h0 : py.p ≠ 0 := fun h => by rw [h] at he; simp at he
        (refine goSt ?_; (repeat (refine goAl ?_; intro p hp; refine goSt ?_)))
        (apply wl_litF payC; exact inferInstance; exact inferInstance; exact inferInstance; (repeat (first | exact Elems.nil | (apply Elems.cons; exact rfl; exact inferInstance; exact rfl))); exact rfl; (first | exact (of_decide_eq_true rfl) | decide | (simp; done) | (simp; omega)); exact rfl)
        (first | (apply wl_append; exact rfl; exact rfl; exact goRm; exact inferInstance; exact inferInstance; (first | omega | (simp; omega)); exact rfl) | (apply wl_appendN; exact rfl; exact rfl; exact inferInstance; exact inferInstance; (first | omega | (simp; omega)); exact rfl))
        intro v2
        rw [← hmap]
        (refine goSt ?_; (repeat (refine goAl ?_; intro p hp; refine goSt ?_)))
        (refine ⟨(j + 1, v2), fun _ _ st => st_sub2 st ?_ ?_, ?_, ?_⟩; exact goSubr; exact goSubp)
        · exact ⟨hj', by rw [hall]; exact decide_eq_true fun h => h0 (hz0.2 h)⟩
        · dsimp only; omega
  · have hjj : j = L.length := by simp at hlt; omega
    subst hjj
    rw [List.take_length] at hal ⊢
    rw [if_pos hal]
    have hml : (L.map (payE f.ids (lf cu) L)).length ≤ 5 := by rw [List.length_map]; exact hl
    (refine goSt ?_; (repeat (refine goAl ?_; intro p hp; refine goSt ?_)))
    (apply wl_callP (sortP_con v (L.map (payE f.ids (lf cu) L)) 136 [] pyCmp hml (fun x y => payments_con x y)); exact rfl; exact goCutl; exact rfl)
    rintro _ _ ⟨rfl, rfl⟩
    (refine goSt ?_; (repeat (refine goAl ?_; intro p hp; refine goSt ?_)))
    (apply Res_frz 4; exact rfl; exact goRm)
    unfold treeA
    (apply resK2; exact rfl; exact rfl; exact rfl; exact ⟨rfl, rfl⟩; exact goCutl)
end Go.Proofs.YtihonljdanjfmaaDoor.Sw
namespace Go.Proofs.YtihonljdanjfmaaDoor.Sw
open Go.RowKit Go
def scQ (Q : Exit → S → Prop) : Exit → S → Prop
  | .goto _, _ => False
  | e, s => Q e s
theorem W_scope {n : Nat} {P : Program} {w0 : World} {F0 : List Nat} {G0 : Nat → Option Obj} {nt : Nat} {wd : Wd Fence.wide} {s : S} {x : Code} {Q : Exit → S → Prop} (h : W (Cx.mk Fence.wide n P w0 F0 G0 nt wd) x s (scQ Q)) : W (Cx.mk Fence.wide n P w0 F0 G0 nt wd) (.scope x) s Q := ⟨fun a w st => by
  refine wpIn_wide.2 (wp_scope_straight (wpIn_wide.1 (Go.wpIn_mono (h.out a w st) fun e a' w' ⟨s', st', q⟩ => ?_)))
  cases e with
  | goto l => exact q
  | _ => exact ⟨s', st', q⟩⟩
theorem W_label {c : Cx} {s : S} {l : Nat} {Q : Exit → S → Prop} (h : Q .normal s) : W c (.label l) s Q := ⟨fun _ _ st => wpIn_label ⟨s, st, h⟩⟩
section
variable {P : Program} {rs : List (Nat × AV)} {d : Option Nat} {ty : TypeId} {pos : String} {af : Array Edge} {g : Option (Nat × Bool)}
/-- A method bound to its receiver. -/
def bndV (k : FuncId) (u : Value) : Value := .func (.func k) #[u] #[]
theorem lt_bind {k : FuncId} {x : Operand} {u : Value} (hx : opv rs x = some (.val u)) : LT P ⟨d, .makeFunc (.func k) #[x] #[], ty, pos, af, g⟩ rs [] (Is (.val (bndV k u)) []) :=
  LT_val (fun _ e => by cases e) fun a w G hR hG => ⟨_, rfl, by
    have e1 : a.eval x = _ := opv_ok hR hx
    have e2 : (#[x] : Array Operand).map a.eval = #[u] := by rw [List.map_toArray, List.map_cons, List.map_nil, e1]
    simp only [execOp, e2]
    simp [Instr.makeFunc, go_sem, bndV]⟩
theorem lt_callB {x : Operand} {k : FuncId} {u : Value} {xs : List Operand} {ts : Array TypeId} {avs : List AV} {pre : List HA} {post : AV → List HA → Prop} (hf : opv rs x = some (.val (bndV k u))) (hx : opvs rs xs = some avs) (hc : Con P k (.val u :: avs) pre post) :
    LT P ⟨d, .call { callee := .value x, args := xs.toArray, argTypes := ts }, ty, pos, af, g⟩ rs pre post := by
  refine ⟨?_⟩
  intro F n hF a w G Fp K Q hR hI hk
  have e1 : a.eval x = bndV k u := opv_ok hR hf
  have hv := opvs_ok hR hx
  have hcalls := hc.calls G Fp (u :: xs.map a.eval) w ⟨rfl, hv⟩ hI
  unfold Oper.wpIn
  refine ⟨fun f _ => hF.fn f, ?_⟩
  rw [Oper.semAt_eq _ _ _ (fun _ e => by cases e)]
  have hr : (execOp a.eval ⟨d, .call { callee := .value x, args := xs.toArray, argTypes := ts }, ty, pos, af, g⟩).run P w = .ok (.enter k (u :: xs.map a.eval).toArray) w := by
    simp [execOp, resolve, e1, bndV, Deferred.ofValue, invoke, hc.enters]
  rw [hr]
  refine ⟨fun h => (by rw [hF.depth] at h; cases h), hF.calls (hcalls.mono ?_)⟩
  rintro e w' ⟨v, av, prod, G', F', rfl, hp, hfr, hi, hv⟩
  exact hk v av prod G' F' w' hp hfr hi hv
end
section
variable {c : Cx} {rs : List (Nat × AV)} {hs r : List HA} {Q : Exit → S → Prop} {ops : Array Oper} {tl : List Oper} {d : Nat} {ty : TypeId} {pos : String} {af : Array Edge}
theorem wl_bind {k : FuncId} {x : Operand} {u : Value} (hx : opv rs x = some (.val u)) (hd : Nat.blt d c.nt = true) (kk : WL c ops tl ⟨(d, .val (bndV k u)) :: rs, hs⟩ Q) : WL c ops (⟨some d, .makeFunc (.func k) #[x] #[], ty, pos, af, none⟩ :: tl) ⟨rs, hs⟩ Q := wl_ex (lt_bind hx) hd kk
theorem wl_callB {x : Operand} {k : FuncId} {u : Value} {xs : List Operand} {ts : Array TypeId} {avs : List AV} {pre : List HA} {post : AV → List HA → Prop} (hc : Con c.P k (.val u :: avs) pre post) (hf : opv rs x = some (.val (bndV k u))) (hx : opvs rs xs = some avs) (hcut : Cut hs pre r) (hd : Nat.blt d c.nt = true) (kk : ∀ av prod, post av prod → WL c ops tl ⟨(d, av) :: rs, prod ++ r⟩ Q) : WL c ops (⟨some d, .call { callee := .value x, args := xs.toArray, argTypes := ts }, ty, pos, af, none⟩ :: tl) ⟨rs, hs⟩ Q :=
  WL_lt (cons := pre) (rest := r) hd rfl (fun _ _ _ h => hcut.sel h) (lt_callB hf hx hc) kk
/-- A call of a closure that is lent memory. -/
theorem wl_callVP {x : Operand} {k : FuncId} {caps : List AV} {xs : List Operand} {ts : Array TypeId} {avs : List AV} {pre : List HA} {post : AV → List HA → Prop} (hc : Con c.P k (avs ++ caps) pre post) (hf : opv rs x = some (.clo k caps)) (hx : opvs rs xs = some avs) (hcut : Cut hs pre r) (hd : Nat.blt d c.nt = true) (kk : ∀ av prod, post av prod → WL c ops tl ⟨(d, av) :: rs, prod ++ r⟩ Q) : WL c ops (⟨some d, .call { callee := .value x, args := xs.toArray, argTypes := ts }, ty, pos, af, none⟩ :: tl) ⟨rs, hs⟩ Q :=
  WL_lt (cons := pre) (rest := r) hd rfl (fun _ _ _ h => hcut.sel h) (lt_callV hf hx hc) kk
/-- A call of yield. -/
theorem wl_yield {x : Operand} {y : Value} {xs : List Operand} {ts : Array TypeId} {avs : List AV} {pre : List HA} {post : AV → List HA → Prop} (hc : Yield c.P y avs pre post) (hf : opv rs x = some (.val y)) (hx : opvs rs xs = some avs) (hcut : Cut hs pre r) (hd : Nat.blt d c.nt = true) (kk : ∀ av prod, post av prod → WL c ops tl ⟨(d, av) :: rs, prod ++ r⟩ Q) : WL c ops (⟨some d, .call { callee := .value x, args := xs.toArray, argTypes := ts }, ty, pos, af, none⟩ :: tl) ⟨rs, hs⟩ Q :=
  WL_lt (cons := pre) (rest := r) hd rfl (fun _ _ _ h => hcut.sel h) (lt_yield hf hx hc) kk
end
end Go.Proofs.YtihonljdanjfmaaDoor.Sw
namespace Go.Proofs.YtihonljdanjfmaaDoor.Sw
open Go.RowKit Go Go.Shelf Go.Proofs
open Go.Proofs.YtihonljdanjfmaaDoor.Gr (Ok Ord Forest Zr lf headsR hf Lab)
set_option maxRecDepth 20000 in
theorem clonePr_con (xs : List (Nat × Nat)) (hl : xs.length ≤ 100000) : Con Tryd.prog 141 [.sl 2 pnC xs] [] (Tok 105 2 pnC xs) := by
  refine con_of Tryd.func141 rfl (enters_of Tryd.func141 (by kernel_rfl) rfl) rfl ?_; intro n w0 F0 G0
  (refine goSt ?_; (repeat (refine goAl ?_; intro p hp; refine goSt ?_)))
  apply wl_eqlNil
  · exact rfl
  · exact inferInstance
  · exact rfl
  intro b hb
  (refine goSt ?_; (repeat (refine goAl ?_; intro p hp; refine goSt ?_)))
  refine w_cond rfl (fun h => ?_) (fun h => ?_)
  · obtain rfl := hb h
    (refine goSt ?_; (repeat (refine goAl ?_; intro p hp; refine goSt ?_)))
    refine Res_row0 105 2 pnC ?_
    (apply resK; exact rfl; exact rfl; (apply Cut.cons; exact goRm; exact Cut.nil); exact ⟨_, rfl, rfl⟩)
  · (refine goSt ?_; (repeat (refine goAl ?_; intro p hp; refine goSt ?_)))
    (apply wl_lit pnC; exact inferInstance; exact inferInstance; exact inferInstance; (repeat (first | exact Elems.nil | (apply Elems.cons; exact rfl; exact inferInstance; exact rfl))); exact rfl; (first | exact (of_decide_eq_true rfl) | decide | (simp; done) | (simp; omega)); exact rfl)
    intro v0
    (refine goSt ?_; (repeat (refine goAl ?_; intro p hp; refine goSt ?_)))
    (first | (apply wl_append; exact rfl; exact rfl; exact goRm; exact inferInstance; exact inferInstance; (first | omega | (simp; omega)); exact rfl) | (apply wl_appendN; exact rfl; exact rfl; exact inferInstance; exact inferInstance; (first | omega | (simp; omega)); exact rfl))
    intro v1
    (refine goSt ?_; (repeat (refine goAl ?_; intro p hp; refine goSt ?_)))
    (apply resK; exact rfl; exact rfl; (apply Cut.cons; exact goRm; exact Cut.nil); exact ⟨_, rfl, rfl⟩)
def apB (n : Nat) (l : List (Nat × Nat)) (p : Nat × Nat) : Bool := decide (hf (headsR n l) p.1 ≠ hf (headsR n l) p.2)
noncomputable def leafG (f : Flo) (cu : List Int) (l : List (Nat × Nat)) : List (List Pay) := if evB f.ids.length l cu = true then (lstR f.ids l cu).toList else []
noncomputable def chG (f : Flo) (cu : List Int) (many : Nat) : List (Nat × Nat) → List (Nat × Nat) → List (List Pay)
  | [], l => if l.length = many then leafG f cu l else []
  | p :: t, l => if l.length = many then leafG f cu l else (if apB f.ids.length l p = true then chG f cu many t (l ++ [p]) else []) ++ chG f cu many t l
theorem chG_yes {f : Flo} {cu : List Int} {many : Nat} {l : List (Nat × Nat)} (h : l.length = many) : ∀ rest, chG f cu many rest l = leafG f cu l
  | [] => by rw [chG, if_pos h]
  | _ :: _ => by rw [chG, if_pos h]
theorem chG_nil {f : Flo} {cu : List Int} {many : Nat} {l : List (Nat × Nat)} (h : l.length ≠ many) : chG f cu many [] l = [] := by rw [chG, if_neg h]
theorem chG_cons {f : Flo} {cu : List Int} {many : Nat} {p : Nat × Nat} {t l : List (Nat × Nat)} (h : l.length ≠ many) : chG f cu many (p :: t) l = (if apB f.ids.length l p = true then chG f cu many t (l ++ [p]) else []) ++ chG f cu many t l := by rw [chG, if_neg h]
/-- What is needed of some pairs chosen so far. -/
structure Chs (n : Nat) (Lp : List (Nat × Nat)) (fr many : Nat) (l : List (Nat × Nat)) : Prop where
  nd : l.Nodup
  sub : ∀ q ∈ l, q ∈ Lp.take fr
  fo : Forest l
  le : l.length ≤ many
theorem Chs.props {n : Nat} {Lp : List (Nat × Nat)} {fr many : Nat} {l : List (Nat × Nat)} (h : Chs n Lp fr many l) (hL : ∀ p ∈ Lp, p.1 < p.2 ∧ p.2 < n) : Ok n l ∧ Ord l ∧ ∀ p ∈ l, p.1 < n ∧ p.2 < n := by
  have hm : ∀ p ∈ l, p.1 < p.2 ∧ p.2 < n := fun p hp => hL p (List.mem_of_mem_take (h.sub p hp))
  exact ⟨⟨h.nd, fun p hp => by have := hm p hp; omega⟩, fun p hp => (hm p hp).1, fun p hp => by have := hm p hp; omega⟩
theorem Chs.step {n : Nat} {Lp : List (Nat × Nat)} {fr many i : Nat} {l : List (Nat × Nat)} (h : Chs n Lp fr many l) (hn : Lp.Nodup) (hL : ∀ p ∈ Lp, p.1 < p.2 ∧ p.2 < n) (hfr : fr ≤ i) (hi : i < Lp.length) (hne : l.length ≠ many) (hap : apB n l Lp[i] = true) : Chs n Lp (i + 1) many (l ++ [Lp[i]]) := by
  obtain ⟨hok, _, hlt⟩ := h.props hL
  have hni : Lp[i] ∉ l := fun hm => by
    have h1 := List.mem_of_mem_take (show Lp[i] ∈ Lp.take fr from h.sub _ hm)
    obtain ⟨j, hj, e⟩ := List.getElem_of_mem (h.sub _ hm)
    rw [List.getElem_take] at e
    have hjl : j < Lp.length := by rw [List.length_take] at hj; omega
    have hj2 : j < fr := by rw [List.length_take] at hj; omega
    have := (List.getElem_inj hn).1 e
    omega
  have hnd : (l ++ [Lp[i]]).Nodup := List.nodup_append.2 ⟨h.nd, by simp, fun a ha b hb e => by
    have : b = Lp[i] := by simpa using hb
    subst e this; exact hni ha⟩
  have hp := hL _ (List.getElem_mem hi)
  refine ⟨hnd, fun q hq => ?_, (Gr.forest_snoc hnd).2 ⟨h.fo, (Gr.lab_apart (Gr.lab_all hlt) (by omega) hp.2).1 (of_decide_eq_true hap)⟩, by rw [List.length_append, List.length_singleton]; have := h.le; omega⟩
  rw [List.take_succ_eq_append_getElem hi]
  rcases List.mem_append.1 hq with hq | hq
  · refine List.mem_append.2 (.inl ?_)
    have := h.sub q hq
    exact List.take_subset_take_left Lp hfr this
  · exact List.mem_append.2 (.inr hq)
/-- What 'choose' has caught. -/
abbrev capC (ph yv p9 : Value) (many : Nat) (Lp : List (Nat × Nat)) : List AV := [.fp 1 [.val (.int .i64 many)], .fp 1 [.val ph], .fp 1 [.val yv], .fp 1 [.sl 2 pnC Lp], .val p9]
abbrev preC {β : Type} (ph ow yv p9 : Value) (f : Flo) (cu : List Int) (many : Nat) (Lp : List (Nat × Nat)) (H : β → List HA) (b : β) : List HA := [.box p9 [.clo 139 (capC ph yv p9 many Lp)] 202, hsB ph f ow, .row ow 3 1 iC cu, .pack (H b)]
def lsC (x : List Pay) (_ : Unit) : List AV := [.sl 3 payC x]
set_option maxRecDepth 20000 in
set_option maxHeartbeats 8000000 in
theorem choose_con {β βx : Type} (ph ow yv p9 : Value) (f : Flo) (cu : List Int) (many : Nat) (Lp : List (Nat × Nat)) (XS : List (List Pay)) (H : β → List HA) (Hx : βx → List HA) (I : Nat → β → Prop) (Ix : Nat → βx → Prop)
    (hF : FloF f) (hm5 : many ≤ 5) (hLn : Lp.Nodup) (hLl : Lp.length ≤ 15) (hL : ∀ p ∈ Lp, p.1 < p.2 ∧ p.2 < f.ids.length) (hcl : cu.length = f.ids.length) (hbt : Btw (-1000000000) 1000000000 cu)
    (hY : ∀ k (hk : k < XS.length) b (u : Unit), I k b → Yield Tryd.prog yv (lsC XS[k] u) (([hsB ph f ow, .row ow 3 1 iC cu] ++ []) ++ [.pack (H b)]) fun av prod => (av = .val (.bool true) ∧ ∃ b', I (k + 1) b' ∧ prod = [hsB ph f ow, .row ow 3 1 iC cu] ++ [.pack (H b')]) ∨ (av = .val (.bool false) ∧ ∃ b', Ix (k + 1) b' ∧ prod = [hsB ph f ow, .row ow 3 1 iC cu] ++ [.pack (Hx b')])) :
    ∀ (m fr : Nat) (l : List (Nat × Nat)) (k0 : Nat) (b : β), Lp.length - fr = m → fr ≤ Lp.length → Chs f.ids.length Lp fr many l → chG f cu many (Lp.drop fr) l <+: XS.drop k0 → I k0 b →
      Con Tryd.prog 139 ([.sl 2 pnC l, .val (.int .i64 fr)] ++ capC ph yv p9 many Lp) (preC ph ow yv p9 f cu many Lp H b) fun av prod =>
        (av = .val (.bool true) ∧ ∃ b', I (k0 + (chG f cu many (Lp.drop fr) l).length) b' ∧ prod = preC ph ow yv p9 f cu many Lp H b') ∨
        (av = .val (.bool false) ∧ ∃ k b', 0 < k ∧ k ≤ XS.length ∧ Ix k b' ∧ prod = preC ph ow yv p9 f cu many Lp Hx b') := by
  have hn := hF.ids
  intro m
  induction m using Nat.strongRecOn with
  | _ m ih =>
    intro fr l k0 b hfm hfr hch hpre hI
    obtain ⟨hok, hord, hlt⟩ := hch.props hL
    have hle := hch.le
    have hbb := hbt
    refine con_of Tryd.func139 rfl (enters_of Tryd.func139 (by kernel_rfl) rfl) rfl ?_; intro n w0 F0 G0
    (refine goSt ?_; (repeat (refine goAl ?_; intro p hp; refine goSt ?_)))
    refine W_scope ?_
    (refine goSt ?_; (repeat (refine goAl ?_; intro p hp; refine goSt ?_)))
    refine w_cond rfl (fun hm => ?_) (fun hm => ?_)
    · have hm' : l.length = many := by have := of_decide_eq_true hm; omega
      rw [chG_yes hm'] at hpre ⊢
      unfold leafG at hpre ⊢
      (refine goSt ?_; (repeat (refine goAl ?_; intro p hp; refine goSt ?_)))
      (apply wl_callP (even_con ph ow f cu l (by omega) (by omega) hlt hcl hbt); exact rfl; exact goCutl; exact rfl)
      rintro _ _ ⟨rfl, rfl⟩
      (refine goSt ?_; (repeat (refine goAl ?_; intro p hp; refine goSt ?_)))
      cases hev : evB f.ids.length l cu with
      | false =>
        rw [if_neg (by simp)]
        (refine goSt ?_; (repeat (refine goAl ?_; intro p hp; refine goSt ?_)))
        (apply resK1; exact rfl; exact rfl; exact .inl ⟨rfl, b, hI, rfl⟩; exact goCutl)
      | true =>
        rw [if_pos rfl]
        rw [hev, if_pos rfl] at hpre
        have hz := (evB_iff hlt).1 hev
        have CL := list_con ph ow f cu l (by omega) (by omega) hcl hbt hok hord hch.fo hz
        (refine goSt ?_; (repeat (refine goAl ?_; intro p hp; refine goSt ?_)))
        cases hls : lstR f.ids l cu with
        | none =>
          rw [hls] at CL
          unfold treeA at CL
          (apply wl_callP (CL); exact rfl; exact goCutl; exact rfl)
          rintro _ _ ⟨rfl, rfl⟩
          (refine goSt ?_; (repeat (refine goAl ?_; intro p hp; refine goSt ?_)))
          (apply resK1; exact rfl; exact rfl; exact .inl ⟨rfl, b, hI, rfl⟩; exact goCutl)
        | some out =>
          rw [hls] at CL hpre
          unfold treeA at CL
          obtain ⟨s, hs⟩ := hpre
          have hk0 : k0 < XS.length := by
            have := congrArg List.length hs
            simp at this; omega
          have hx0 : XS[k0] = out := by
            have h1 : out :: s = XS[k0] :: XS.drop (k0 + 1) := hs.trans (List.drop_eq_getElem_cons hk0)
            injection h1 with h1 h2
            exact h1.symm
          have Y := hY k0 hk0 b () hI
          rw [hx0] at Y
          (apply wl_callP (CL); exact rfl; exact goCutl; exact rfl)
          rintro _ _ ⟨rfl, rfl⟩
          (refine goSt ?_; (repeat (refine goAl ?_; intro p hp; refine goSt ?_)))
          (apply wl_yield Y; exact rfl; exact rfl; exact goCutl; exact rfl)
          rintro _ _ (⟨rfl, b', hb', rfl⟩ | ⟨rfl, b', hb', rfl⟩)
          · (refine goSt ?_; (repeat (refine goAl ?_; intro p hp; refine goSt ?_)))
            (apply resK1; exact rfl; exact rfl; exact .inl ⟨rfl, b', hb', rfl⟩; exact goCutl)
          · (refine goSt ?_; (repeat (refine goAl ?_; intro p hp; refine goSt ?_)))
            (apply resK1; exact rfl; exact rfl; exact .inr ⟨rfl, k0 + 1, b', by omega, by omega, hb', rfl⟩; exact goCutl)
    · have hm' : l.length ≠ many := fun h => by have := of_decide_eq_false hm; omega
      have hrest : chG f cu many (Lp.drop fr) l = chG f cu many (Lp.drop fr) l := rfl
      (refine goSt ?_; (repeat (refine goAl ?_; intro p hp; refine goSt ?_)))
      (apply wl_callP (groups_con ph ow f l (by omega) (by omega) hlt); exact rfl; exact goCutl; exact rfl)
      rintro _ _ ⟨u, rfl, rfl⟩
      (refine goSt ?_; (repeat (refine goAl ?_; intro p hp; refine goSt ?_)))
      refine W_label ?_
      (refine goSt ?_; (repeat (refine goAl ?_; intro p hp; refine goSt ?_)))
      have hhl := headsR_len f.ids.length l
      have hhf : ∀ v, v < f.ids.length → hf (headsR f.ids.length l) v = (headsR f.ids.length l).getD v 0 := fun v _ => rfl
      unfold preC
      refine W_loopJ (fun (b : Nat × Nat × β) => ⟨[(0, .sl 2 pnC l), (2, .fp 1 [.val (.int .i64 many)]), (3, .fp 1 [.val ph]), (4, .fp 1 [.val yv]), (5, .fp 1 [.sl 2 pnC Lp]), (6, .val p9), (12, .val u), (13, .val (.int .i64 b.1))], [.row u 3 1 nC (headsR f.ids.length l), .box p9 [.clo 139 (capC ph yv p9 many Lp)] 202, hsB ph f ow, .row ow 3 1 iC cu, .pack (H b.2.2)]⟩)
        (fun b => fr ≤ b.1 ∧ b.1 ≤ Lp.length ∧ I b.2.1 b.2.2 ∧ chG f cu many (Lp.drop b.1) l <+: XS.drop b.2.1 ∧ b.2.1 + (chG f cu many (Lp.drop b.1) l).length = k0 + (chG f cu many (Lp.drop fr) l).length) (fun b => Lp.length - b.1) (fr, k0, b) (fun _ _ st => st_sub2 st goSubr goSubp) ⟨Nat.le_refl _, hfr, hI, hpre, rfl⟩ ?_
      rintro ⟨i, k, b2⟩ ⟨hi1, hi2, hIk, hpk, hkl⟩
      dsimp only at hi1 hi2 hIk hpk hkl ⊢
      (refine goSt ?_; (repeat (refine goAl ?_; intro p hp; refine goSt ?_)))
      refine w_cond rfl (fun hlt2 => ?_) (fun hlt2 => ?_)
      · have hi' : i < Lp.length := by simpa using hlt2
        have hp := hL _ (List.getElem_mem hi')
        have hq3 : Lp[i]? = some Lp[i] := List.getElem?_eq_getElem hi'
        rw [drop_step hi', chG_cons hm'] at hpk hkl
        have hq1 : (headsR f.ids.length l)[Lp[i].1]? = some (headsR f.ids.length l)[Lp[i].1] := List.getElem?_eq_getElem (by omega)
        have hq2 : (headsR f.ids.length l)[Lp[i].2]? = some (headsR f.ids.length l)[Lp[i].2] := List.getElem?_eq_getElem (by omega)
        have hap : apB f.ids.length l Lp[i] = !decide (((headsR f.ids.length l)[Lp[i].1] : Int) = (headsR f.ids.length l)[Lp[i].2]) := by
          unfold apB
          rw [hf_at (by omega), hf_at (by omega)]
          by_cases h : (headsR f.ids.length l)[Lp[i].1] = (headsR f.ids.length l)[Lp[i].2]
          · simp [h]
          · rw [decide_eq_true h, decide_eq_false (fun e => h (by omega))]; rfl
        (refine goSt ?_; (repeat (refine goAl ?_; intro p hp; refine goSt ?_)))
        refine W_run 10 [50, 51, 52, 53, 54, 55, 56, 57, 58, 59] [0, 1, 2, 3, 4, 5, 6, 7, 8, 9] Cut.nil rfl goFlt mixedS (by kernel_rfl) rfl ?_
        refine rpv [] [] ?_
        refine rpv [] [] ?_
        refine rpv [1] [] ?_
        refine rpv [0, 2] [] ?_
        refine rpv [3] [] ?_
        refine rpv [] [] ?_
        refine rpv [] [] ?_
        refine rpv [6] [] ?_
        refine rpv [5, 7] [] ?_
        refine rpv [8] [] ?_
        refine ⟨⟨by kernel_rfl, by kernel_rfl⟩, fun vs => ?_⟩
        apply WL_auto [4, 9]
        · exact goPk
        · exact goNrm
        · kernel_rfl
        · kernel_rfl
        (refine goSt ?_; (repeat (refine goAl ?_; intro p hp; refine goSt ?_)))
        refine w_cond rfl (fun heq => ?_) (fun heq => ?_)
        · rw [heq] at hap
          rw [hap, if_neg (by simp), List.nil_append] at hpk hkl
          (refine goSt ?_; (repeat (refine goAl ?_; intro p hp; refine goSt ?_)))
          (refine ⟨(i + 1, k, b2), fun _ _ st => st_sub2 st ?_ ?_, ?_, ?_⟩; exact goSubr; exact goSubp)
          · exact ⟨by dsimp only; omega, hi', hIk, hpk, hkl⟩
          · dsimp only; omega
        · rw [heq] at hap
          rw [hap, if_pos (by rfl), List.length_append] at hkl
          rw [hap, if_pos (by rfl)] at hpk
          have hch2 := hch.step hLn hL hi1 hi' hm' hap
          have IH := ih (Lp.length - (i + 1)) (by omega) (i + 1) (l ++ [Lp[i]]) k b2 rfl hi' hch2 ((List.prefix_append _ _).trans hpk) hIk
          (refine goSt ?_; (repeat (refine goAl ?_; intro p hp; refine goSt ?_)))
          refine W_run 11 [61, 62, 63, 64, 65, 66, 67, 68, 69, 70, 71] [0, 1, 3, 4, 5, 6, 7, 8, 9, 10] Cut.nil rfl goFlt mixedS (by kernel_rfl) rfl ?_
          refine rpv [] [] ?_
          refine rpv [] [] ?_
          refine Run.tok [1] [] rfl (fun vs => by apply ltr_pk; exact goPk; (refine ltr ?_; refine lt_call ?_ (clonePr_con l (by omega)); exact rfl)) goApp ?_
          refine Run.pv [] [] rfl (fun vs => by apply ltr_pk; exact goPk; (refine ltr ?_; apply lt_loadE1'; exact rfl; exact rfl; exact rfl)) goApp ?_
          refine rpv [] [] ?_
          refine rpv [3, 4] [] ?_
          refine rpv [5] [] ?_
          refine Run.pv [6] [] rfl (fun vs => by apply ltr_pk; exact goPk; (refine ltr ?_; apply LT_frz; apply lt_lit (f := pnC); (repeat (first | exact Elems.nil | (apply Elems.cons; exact rfl; exact inferInstance; exact rfl))); exact rfl; (first | exact (of_decide_eq_true rfl) | decide | (simp; done) | (simp; omega)))) goApp ?_
          refine Run.tok [2, 7] [2] rfl (fun vs => by apply ltr_pk; exact goPk; (refine ltr ?_; apply lt_append; exact rfl; exact rfl; (first | omega | (simp; omega)))) goApp ?_
          refine rpv [] [] ?_
          refine rpv [9] [] ?_
          refine ⟨⟨by kernel_rfl, by kernel_rfl⟩, fun vs => ?_⟩
          apply WL_auto [0, 8, 10]
          · exact goPk
          · exact goNrm
          · kernel_rfl
          · kernel_rfl
          (refine goSt ?_; (repeat (refine goAl ?_; intro p hp; refine goSt ?_)))
          (apply WL_frz 69; exact rfl; exact goRm)
          (refine goSt ?_; (repeat (refine goAl ?_; intro p hp; refine goSt ?_)))
          (apply wl_callVP IH; exact rfl; exact rfl; exact goCutl; exact rfl)
          rintro _ _ (⟨rfl, b', hb', rfl⟩ | ⟨rfl, k', b', h1, h2, hb', rfl⟩)
          · (refine goSt ?_; (repeat (refine goAl ?_; intro p hp; refine goSt ?_)))
            (refine ⟨(i + 1, k + (chG f cu many (Lp.drop (i + 1)) (l ++ [Lp[i]])).length, b'), fun _ _ st => st_sub2 st ?_ ?_, ?_, ?_⟩; exact goSubr; exact goSubp)
            · refine ⟨by dsimp only; omega, hi', hb', ?_, by dsimp only; omega⟩
              obtain ⟨s, hs⟩ := hpk
              refine ⟨s, ?_⟩
              have := congrArg (List.drop (chG f cu many (Lp.drop (i + 1)) (l ++ [Lp[i]])).length) hs
              rw [List.append_assoc, List.drop_left, List.drop_drop] at this
              exact this
            · dsimp only; omega
          · (refine goSt ?_; (repeat (refine goAl ?_; intro p hp; refine goSt ?_)))
            (apply resK1; exact rfl; exact rfl; exact .inr ⟨rfl, k', b', h1, h2, hb', rfl⟩; exact goCutl)
      · have hii : i = Lp.length := by simp at hlt2; omega
        subst hii
        rw [List.drop_length, chG_nil hm'] at hkl
        (refine goSt ?_; (repeat (refine goAl ?_; intro p hp; refine goSt ?_)))
        have hIf : I (k0 + (chG f cu many (Lp.drop fr) l).length) b2 := by rw [← hkl]; exact hIk
        (apply resK1; exact rfl; exact rfl; exact .inl ⟨rfl, b2, hIf, rfl⟩; exact goCutl)
end Go.Proofs.YtihonljdanjfmaaDoor.Sw
namespace Go.Proofs.YtihonljdanjfmaaDoor.Sw
open Go.RowKit Go Go.Shelf Go.Proofs
open Go.Proofs.YtihonljdanjfmaaDoor.Gr (Ok Ord Forest Zr lf headsR hf Lab)
theorem Con.arg {P : Program} {k : FuncId} {av av' : AV} {t : List AV} {pre : List HA} {post : AV → List HA → Prop} (h : ∀ G v, av.P G v → av'.P G v) (c : Con P k (av' :: t) pre post) : Con P k (av :: t) pre post :=
  ⟨c.enters, fun G Fp vs w hf hI => by
    match vs, hf with
    | v :: vs, ⟨h1, h2⟩ => exact c.calls G Fp (v :: vs) w ⟨h _ _ h1, h2⟩ hI⟩
/-- All lists of so many payments, as they come up. -/
noncomputable def lstsR (f : Flo) (cu : List Int) (many : Nat) : List (List Pay) := chG f cu many (prP (spk f) f.ids.length) []
theorem prI_nodup (sp : Nat → Nat → Bool) (i k : Nat) : (prI sp i k).Nodup := by
  unfold prI
  rw [List.Nodup, List.pairwise_map]
  exact (List.nodup_range.filter _).imp fun h e => h (by injection e)
theorem prP_nodup (sp : Nat → Nat → Bool) : ∀ n, (prP sp n).Nodup
  | 0 => by simp [prP]
  | n + 1 => by
    rw [prP_succ]
    refine List.nodup_append.2 ⟨prP_nodup sp n, prI_nodup sp _ _, fun a ha b hb e => ?_⟩
    subst e
    have h1 := prP_mem.1 ha
    have h2 := prI_mem.1 hb
    omega
def triP : Nat → Nat
  | 0 => 0
  | n + 1 => triP n + n
theorem prP_tri (sp : Nat → Nat → Bool) : ∀ n, (prP sp n).length ≤ triP n
  | 0 => by simp [prP, triP]
  | n + 1 => by
    have h1 := prP_tri sp n
    have h2 := prI_len sp n n
    rw [prP_succ, List.length_append, triP]; omega
theorem prP_15 (sp : Nat → Nat → Bool) {n : Nat} (h : n ≤ 6) : (prP sp n).length ≤ 15 := by
  refine Nat.le_trans (prP_tri sp n) ?_
  have : n = 0 ∨ n = 1 ∨ n = 2 ∨ n = 3 ∨ n = 4 ∨ n = 5 ∨ n = 6 := by omega
  rcases this with rfl | rfl | rfl | rfl | rfl | rfl | rfl <;> decide
set_option maxRecDepth 20000 in
set_option maxHeartbeats 8000000 in
theorem lists_iter (ph ow : Value) (f : Flo) (cu : List Int) (many : Nat) (hok : floOk f = true) (hql : f.qs.length ≤ 1000) (hm5 : many ≤ 5) (hcl : cu.length = f.ids.length) (hbt : Btw (-1000000000) 1000000000 cu) :
    Iter Tryd.prog 138 [.fp 1 [.val ph], .fp 1 [.val (.int .i64 many)]] [hsB ph f ow, .row ow 3 1 iC cu] lsC (fun _ _ => []) (lstsR f cu many) := by
  have hF := flo_f hok
  have hn := hF.ids
  have hr := rises_of_ok hok
  have h15 := prP_15 (spk f) hn
  have hll : ∀ n, n ≤ 6 → (prP (spk f) n).length ≤ 15 := fun n hn => prP_15 (spk f) hn
  refine ⟨fun yv β βx H Hx I Ix hone hY b0 hI0 => ?_⟩
  refine con_of Tryd.func138 rfl (enters_of Tryd.func138 (by kernel_rfl) rfl) rfl ?_; intro n w0 F0 G0
  (refine goSt ?_; (repeat (refine goAl ?_; intro p hp; refine goSt ?_)))
  rename_i p3 hp3
  (apply WL_frzb 3 1; exact rfl; exact goRm)
  (apply wl_bind; exact rfl; exact rfl)
  (refine goSt ?_; (repeat (refine goAl ?_; intro p hp; refine goSt ?_)))
  refine W_loopJ (fun (b : Nat × Value) => ⟨[(1, .fp 1 [.val ph]), (2, .fp 1 [.val (.int .i64 many)]), (3, .fp 1 [.val yv]), (4, .val p), (5, .val (bndV 57 ph)), (17, .val (.int .i64 f.ids.length)), (18, .val (.int .i64 b.1))], [.box p [.val b.2] 142, .row b.2 105 2 pnC (prP (spk f) b.1), hsB ph f ow, .row ow 3 1 iC cu, .pack (H b0)]⟩) (fun b => b.1 ≤ f.ids.length) (fun b => f.ids.length - b.1) (0, .slice none 0 0) (fun _ _ st => st_sub2 (st_nil 105 2 pnC st) goSubr goSubp) (Nat.zero_le _) ?_
  rintro ⟨i, v⟩ hi
  dsimp only at hi ⊢
  (refine goSt ?_; (repeat (refine goAl ?_; intro p hp; refine goSt ?_)))
  refine w_cond rfl (fun hlt => ?_) (fun hlt => ?_)
  · have hi' : i < f.ids.length := by simpa using hlt
    have hl1 := hll i (by omega)
    (refine goSt ?_; (repeat (refine goAl ?_; intro p hp; refine goSt ?_)))
    refine W_loopJ (fun (b : Nat × Value) => ⟨[(1, .fp 1 [.val ph]), (2, .fp 1 [.val (.int .i64 many)]), (3, .fp 1 [.val yv]), (4, .val p), (5, .val (bndV 57 ph)), (17, .val (.int .i64 f.ids.length)), (18, .val (.int .i64 i)), (6, .val (.int .i64 i)), (21, .val (.int .i64 i)), (22, .val (.int .i64 b.1))], [.box p [.val b.2] 142, .row b.2 105 2 pnC (prP (spk f) i ++ prI (spk f) i b.1), hsB ph f ow, .row ow 3 1 iC cu, .pack (H b0)]⟩) (fun b => b.1 ≤ i) (fun b => i - b.1) (0, v) (fun _ _ st => st_sub2 st goSubr (by rw [show prI (spk f) i 0 = [] from rfl, List.append_nil]; exact goSubp)) (Nat.zero_le _) ?_
    rintro ⟨k, u⟩ hk
    dsimp only at hk ⊢
    (refine goSt ?_; (repeat (refine goAl ?_; intro p hp; refine goSt ?_)))
    refine w_cond rfl (fun hlt2 => ?_) (fun hlt2 => ?_)
    · have hk' : k < i := by simpa using hlt2
      have hl2 := prI_len (spk f) i k
      have hks : k < f.ids.length := by omega
      have S := speak_con ph ow f k i hks hi' hr (by omega) hql
      rw [show speakR f.qs f.ids[k] f.ids[i] = spk f k i from by simp [spk, List.getD_eq_getElem?_getD, hks, hi']] at S
      have hsu := prI_succ (spk f) i k
      (refine goSt ?_; (repeat (refine goAl ?_; intro p hp; refine goSt ?_)))
      (apply wl_callB S; exact rfl; exact rfl; exact goCutl; exact rfl)
      rintro _ _ ⟨rfl, rfl⟩
      (refine goSt ?_; (repeat (refine goAl ?_; intro p hp; refine goSt ?_)))
      refine w_cond rfl (fun hs => ?_) (fun hs => ?_)
      · rw [if_pos hs] at hsu
        (refine goSt ?_; (repeat (refine goAl ?_; intro p hp; refine goSt ?_)))
        refine WL_as 32 (.agg (pnC (k, i))) rfl ?_
        (apply wl_litF pnC; exact inferInstance; exact inferInstance; exact inferInstance; (repeat (first | exact Elems.nil | (apply Elems.cons; exact rfl; exact inferInstance; exact rfl))); exact rfl; (first | exact (of_decide_eq_true rfl) | decide | (simp; done) | (simp; omega)); exact rfl)
        (first | (apply wl_append; exact rfl; exact rfl; exact goRm; exact inferInstance; exact inferInstance; (first | omega | (simp; omega)); exact rfl) | (apply wl_appendN; exact rfl; exact rfl; exact inferInstance; exact inferInstance; (first | omega | (simp; omega)); exact rfl))
        intro v2
        rw [List.append_assoc, ← hsu]
        refine WL_one At.here (fun hone2 => ?_)
        (refine goSt ?_; (repeat (refine goAl ?_; intro p hp; refine goSt ?_)))
        (refine ⟨(k + 1, v2), fun _ _ st => st_sub2 st ?_ ?_, ?_, ?_⟩; exact goSubr; exact goSubp)
        · dsimp only; omega
        · dsimp only; omega
      · rw [if_neg (by rw [hs]; simp)] at hsu
        rw [← hsu]
        (refine goSt ?_; (repeat (refine goAl ?_; intro p hp; refine goSt ?_)))
        (refine ⟨(k + 1, u), fun _ _ st => st_sub2 st ?_ ?_, ?_, ?_⟩; exact goSubr; exact goSubp)
        · dsimp only; omega
        · dsimp only; omega
    · have hkk : k = i := by simp at hlt2; omega
      subst hkk
      rw [← prP_succ]
      (refine goSt ?_; (repeat (refine goAl ?_; intro p hp; refine goSt ?_)))
      (refine ⟨(k + 1, u), fun _ _ st => st_sub2 st ?_ ?_, ?_, ?_⟩; exact goSubr; exact goSubp)
      · dsimp only; omega
      · dsimp only; omega
  · have hii : i = f.ids.length := by simp at hlt; omega
    subst hii
    (apply W_frzX (v := v) p 0; exact goRm; exact rfl; exact goAtm; exact rfl)
    simp only [List.set_cons_zero]
    (apply W_frzb 4 1; exact rfl; exact goRm)
    (refine goSt ?_; (repeat (refine goAl ?_; intro p hp; refine goSt ?_)))
    have C := choose_con ph ow yv p f cu many (prP (spk f) f.ids.length) (lstsR f cu many) H Hx I Ix hF hm5 (prP_nodup _ _) h15 (fun q hq => by have := prP_mem.1 hq; exact ⟨this.1, this.2.1⟩) hcl hbt hY ((prP (spk f) f.ids.length).length) 0 [] 0 b0 (by simp) (Nat.zero_le _) ⟨List.nodup_nil, (fun q hq => by cases hq), (fun e he => by cases he), Nat.zero_le _⟩ (by rw [List.drop_zero, List.drop_zero]; exact List.prefix_refl _) hI0
    have C' : Con Tryd.prog 139 ([.val (.slice none 0 0), .val (.int .i64 0)] ++ capC ph yv p many (prP (spk f) f.ids.length)) _ _ := Con.arg (av' := .sl 2 pnC ([] : List (Nat × Nat))) (fun G v h => ⟨none, 0, h, Nat.le_refl _, fun i hi => (by cases hi)⟩) C
    (apply wl_callVP C'; exact rfl; exact rfl; exact goCutl; exact rfl)
    rintro _ _ (⟨rfl, b', hb', rfl⟩ | ⟨rfl, k', b', h1, h2, hb', rfl⟩)
    · rw [Nat.zero_add, List.drop_zero] at hb'
      (refine goSt ?_; (repeat (refine goAl ?_; intro p hp; refine goSt ?_)))
      (apply resK0; exact rfl; exact .inl ⟨b', hb', rfl⟩; exact goCutl)
    · (refine goSt ?_; (repeat (refine goAl ?_; intro p hp; refine goSt ?_)))
      (apply resK0; exact rfl; exact .inr ⟨k', b', h1, h2, hb', rfl⟩; exact goCutl)
set_option maxRecDepth 20000 in
theorem lists_con (ph : Value) [One (.val ph)] (many : Nat) : Con Tryd.prog 102 [.val ph, .val (.int .i64 many)] [] (Is (.clo 138 [.fp 1 [.val ph], .fp 1 [.val (.int .i64 many)]]) []) := by
  refine con_of Tryd.func102 rfl (enters_of Tryd.func102 (by kernel_rfl) rfl) rfl ?_; intro n w0 F0 G0
  refine goSt ?_
  refine goAl ?_
  intro p1 hp1
  refine goAl ?_
  intro p2 hp2
  (apply WL_frzb 2 1; exact rfl; exact goRm)
  (apply WL_frzb 3 1; exact rfl; exact goRm)
  (refine goSt ?_; (repeat (refine goAl ?_; intro p hp; refine goSt ?_)))
  (apply res1; exact rfl; exact rfl; exact ⟨rfl, rfl⟩)
end Go.Proofs.YtihonljdanjfmaaDoor.Sw
namespace Go.Proofs.YtihonljdanjfmaaDoor.Sw
open Go.RowKit Go Go.Shelf Go.Proofs
open Go.Proofs.YtihonljdanjfmaaDoor.Gr (Ok Ord Forest Zr lf headsR hf Lab)
theorem leafG_len (f : Flo) (cu : List Int) (l : List (Nat × Nat)) : (leafG f cu l).length ≤ 1 := by
  unfold leafG
  split
  · cases lstR f.ids l cu <;> simp
  · simp
theorem chG_len (f : Flo) (cu : List Int) (many : Nat) : ∀ (t l : List (Nat × Nat)), (chG f cu many t l).length ≤ 2 ^ t.length
  | [], l => by
    rw [chG]; split
    · simpa using leafG_len f cu l
    · simp
  | p :: t, l => by
    have h1 := chG_len f cu many t (l ++ [p])
    have h2 := chG_len f cu many t l
    have h3 := leafG_len f cu l
    have h4 : 1 ≤ 2 ^ t.length := Nat.one_le_two_pow
    rw [chG, List.length_cons, Nat.pow_succ]
    split
    · omega
    · rw [List.length_append]
      split
      · omega
      · simp; omega
theorem lsts_len {f : Flo} (cu : List Int) (many : Nat) (hn : f.ids.length ≤ 6) : (lstsR f cu many).length ≤ 32768 := Nat.le_trans (chG_len f cu many _ _) (pow15 (prP_15 (spk f) hn))
/-- A slice of lists, and what is kept. -/
def TokL (xs : List (List Pay)) (r : List HA) : AV → List HA → Prop := fun x y => ∃ u, x = .val u ∧ y = .row u 155 1 plC xs :: r
set_option maxRecDepth 20000 in
set_option maxHeartbeats 8000000 in
theorem appendSeq_con (ph ow : Value) (f : Flo) (cu : List Int) (many : Nat) (hok : floOk f = true) (hql : f.qs.length ≤ 1000) (hm5 : many ≤ 5) (hcl : cu.length = f.ids.length) (hbt : Btw (-1000000000) 1000000000 cu) :
    Con Tryd.prog 173 [.val (.slice none 0 0), .clo 138 [.fp 1 [.val ph], .fp 1 [.val (.int .i64 many)]]] [hsB ph f ow, .row ow 3 1 iC cu] (TokL (lstsR f cu many) [hsB ph f ow, .row ow 3 1 iC cu]) := by
  have IT := lists_iter ph ow f cu many hok hql hm5 hcl hbt
  have hl := lsts_len cu many (flo_f hok).ids
  generalize lstsR f cu many = xs at IT hl ⊢
  refine con_of Tryd.func173 rfl (enters_of Tryd.func173 (by kernel_rfl) rfl) rfl ?_; intro n w0 F0 G0
  (refine goSt ?_; (repeat (refine goAl ?_; intro p hp; refine goSt ?_)))
  refine W_weak ⟨[(2, .val p), (6, .clo 138 [.fp 1 [.val ph], .fp 1 [.val (.int .i64 many)]])], [.box p [.val (.slice none 0 0)] 152, .row (.slice none 0 0) 155 1 plC [], hsB ph f ow, .row ow 3 1 iC cu]⟩ (fun _ _ st => st_sub2 (st_nil 155 1 plC st) goSubr goSubp) ?_
  refine W_range (own := [hsB ph f ow, .row ow 3 1 iC cu]) (by exact rfl) IT goCutl (fun k (b : Nat × Value) => b.1 = k) (fun b => [.box p [.val b.2] 152, .row b.2 155 1 plC (xs.take b.1)]) (fun _ _ => False) (fun _ _ => []) (0, .slice none 0 0) (by exact rfl) goSubp (by intro _ _ _; exact rfl) (by exact rfl) ?_ ?_ (fun _ _ _ h => h.elim)
  · intro lr m w1 F1 G1 hrec k hk b u hI
    obtain ⟨j, v⟩ := b
    dsimp only at hI
    subst hI
    dsimp only [zipR, lsC, List.cons_append, List.nil_append]
    have hst : xs.take (j + 1) = xs.take j ++ [xs[j]] := by rw [List.take_succ_eq_append_getElem hk]
    have htl : (xs.take j).length ≤ 32768 := by rw [List.length_take]; omega
    (refine goSt ?_; (repeat (refine goAl ?_; intro p hp; refine goSt ?_)))
    intro w2 F2 G2 hrec2
    (refine goSt ?_; (repeat (refine goAl ?_; intro p hp; refine goSt ?_)))
    (apply wl_litF plC; exact inferInstance; exact inferInstance; exact inferInstance; (repeat (first | exact Elems.nil | (apply Elems.cons; exact rfl; exact inferInstance; exact rfl))); exact rfl; (first | exact (of_decide_eq_true rfl) | decide | (simp; done) | (simp; omega)); exact rfl)
    (first | (apply wl_append; exact rfl; exact rfl; exact goRm; exact inferInstance; exact inferInstance; (first | omega | (simp; omega)); exact rfl) | (apply wl_appendN; exact rfl; exact rfl; exact inferInstance; exact inferInstance; (first | omega | (simp; omega)); exact rfl))
    intro v2
    rw [← hst]
    refine WL_one At.here (fun hone2 => ?_)
    (refine goSt ?_; (repeat (refine goAl ?_; intro p hp; refine goSt ?_)))
    refine ⟨(j + 1, v2), rfl, fun a w st => st_sub2 st goSubr goSubp⟩
  · rintro ⟨j, v⟩ hI
    dsimp only at hI
    subst hI
    dsimp only
    rw [List.take_length]
    (repeat (first | refine th_norm ?_ | refine th_exit ?_ | refine th_ret ?_ | refine bl_norm ?_ | refine bl_eq ?_ | refine bl_ne rfl ?_ | refine bl_ret ?_ | refine rt_norm ?_ | refine rt_ret ?_))
    (refine goSt ?_; (repeat (refine goAl ?_; intro p hp; refine goSt ?_)))
    (apply resK1; exact rfl; exact rfl; exact ⟨_, rfl, rfl⟩; exact goCutl)
set_option maxRecDepth 20000 in
theorem collect_con (ph ow : Value) (f : Flo) (cu : List Int) (many : Nat) (hok : floOk f = true) (hql : f.qs.length ≤ 1000) (hm5 : many ≤ 5) (hcl : cu.length = f.ids.length) (hbt : Btw (-1000000000) 1000000000 cu) :
    Con Tryd.prog 156 [.clo 138 [.fp 1 [.val ph], .fp 1 [.val (.int .i64 many)]]] [hsB ph f ow, .row ow 3 1 iC cu] (Is (.sl 1 plC (lstsR f cu many)) [hsB ph f ow, .row ow 3 1 iC cu]) := by
  refine con_of Tryd.func156 rfl (enters_of Tryd.func156 (by kernel_rfl) rfl) rfl ?_; intro n w0 F0 G0
  (refine goSt ?_; (repeat (refine goAl ?_; intro p hp; refine goSt ?_)))
  (apply wl_callP (appendSeq_con ph ow f cu many hok hql hm5 hcl hbt); exact rfl; exact goCutl; exact rfl)
  rintro _ _ ⟨u, rfl, rfl⟩
  (refine goSt ?_; (repeat (refine goAl ?_; intro p hp; refine goSt ?_)))
  (apply Res_frz 2; exact rfl; exact goRm)
  (apply resK1; exact rfl; exact rfl; exact ⟨rfl, rfl⟩; exact goCutl)
theorem fewTo_hit {α : Type} {g : Nat → List α} {m : Nat} (h0 : ∀ k, k < m → g k = []) (hm : g m ≠ []) : ∀ N, m < N → fewTo g N = g m
  | 0, h => by omega
  | N + 1, h => by
    rw [fewTo]
    by_cases hN : N = m
    · subst hN
      rw [fewTo_nil.2 h0]; rfl
    · rw [fewTo_hit h0 hm N (by omega)]
      rw [if_neg (by simp [hm])]
/-- All lists of the fewest payments, as the program finds them. -/
noncomputable def fewP (f : Flo) (cu : List Int) : List (List Pay) := fewTo (lstsR f cu) (max 1 f.ids.length)
set_option maxRecDepth 20000 in
set_option maxHeartbeats 8000000 in
theorem fewest_con (ph ow : Value) (f : Flo) (cu : List Int) (hok : floOk f = true) (hql : f.qs.length ≤ 1000) (hcl : cu.length = f.ids.length) (hbt : Btw (-1000000000) 1000000000 cu) :
    Con Tryd.prog 133 [.val ph] [hsB ph f ow, .row ow 3 1 iC cu] (Is (.sl 1 plC (fewP f cu)) [hsB ph f ow, .row ow 3 1 iC cu]) := by
  have hn := (flo_f hok).ids
  have hl : ∀ k, (lstsR f cu k).length ≤ 32768 := fun k => lsts_len cu k hn
  have CC := fun many h5 => collect_con ph ow f cu many hok hql h5 hcl hbt
  unfold fewP
  have hmx : (max (1 : Int) (f.ids.length : Int)) = ((max 1 f.ids.length : Nat) : Int) := by omega
  have hmx6 : max 1 f.ids.length ≤ 6 := by omega
  generalize max 1 f.ids.length = mx at hmx hmx6 ⊢
  generalize lstsR f cu = g at CC hl ⊢
  refine con_of Tryd.func133 rfl (enters_of Tryd.func133 (by kernel_rfl) rfl) rfl ?_; intro n w0 F0 G0
  (refine goSt ?_; (repeat (refine goAl ?_; intro p hp; refine goSt ?_)))
  rw [hmx]
  refine W_loopJ (fun (b : Nat) => ⟨[(0, .val ph), (11, .val (.int .i64 mx)), (12, .val (.int .i64 b))], [hsB ph f ow, .row ow 3 1 iC cu]⟩) (fun b => b ≤ mx ∧ ∀ k, k < b → g k = []) (fun b => mx - b) 0 (fun _ _ st => st_sub2 st goSubr goSubp) ⟨Nat.zero_le _, fun k hk => by omega⟩ ?_
  rintro i ⟨hi, hg⟩
  (refine goSt ?_; (repeat (refine goAl ?_; intro p hp; refine goSt ?_)))
  refine w_cond rfl (fun hlt => ?_) (fun hlt => ?_)
  · have hi' : i < mx := by simpa using hlt
    have hll := hl i
    (refine goSt ?_; (repeat (refine goAl ?_; intro p hp; refine goSt ?_)))
    apply WL_oneB At.here
    intro hone
    (first | (apply wl_call (lists_con ph i); exact rfl; exact rfl) | (apply wl_callR (lists_con ph i); exact rfl; exact goAtm; exact rfl))
    (refine goSt ?_; (repeat (refine goAl ?_; intro p hp; refine goSt ?_)))
    (apply wl_callP (CC i (by omega)); exact rfl; exact goCutl; exact rfl)
    rintro _ _ ⟨rfl, rfl⟩
    (refine goSt ?_; (repeat (refine goAl ?_; intro p hp; refine goSt ?_)))
    refine w_cond rfl (fun hne => ?_) (fun hne => ?_)
    · have hne' : g i ≠ [] := fun e => by rw [e] at hne; simp at hne
      rw [fewTo_hit hg hne' mx hi']
      (refine goSt ?_; (repeat (refine goAl ?_; intro p hp; refine goSt ?_)))
      (apply resK1; exact rfl; exact rfl; exact ⟨rfl, rfl⟩; exact goCutl)
    · have hnil : g i = [] := by
        rcases hq : g i with _ | ⟨x, t⟩
        · rfl
        · rw [hq] at hne; simp at hne
      (refine goSt ?_; (repeat (refine goAl ?_; intro p hp; refine goSt ?_)))
      (refine ⟨i + 1, fun _ _ st => st_sub2 st ?_ ?_, ?_, ?_⟩; exact goSubr; exact goSubp)
      · exact ⟨hi', fun k hk => by
          by_cases hki : k = i
          · rw [hki]; exact hnil
          · exact hg k (by omega)⟩
      · omega
  · have hii : i = mx := by simp at hlt; omega
    subst hii
    rw [fewTo_nil.2 hg]
    (refine goSt ?_; (repeat (refine goAl ?_; intro p hp; refine goSt ?_)))
    refine Res_nil 2 1 plC rfl ?_
    (apply resK1; exact rfl; exact rfl; exact ⟨rfl, rfl⟩; exact goCutl)
/-- What 'asked' of the program says. -/
noncomputable def errL (f : Flo) : Int := if floOk f = true then (if (fewP f (owed8 f)).isEmpty = true then 8 else 0) else 80
set_option maxRecDepth 20000 in
theorem askedErr_con (f : Flo) (hS : Sml f) (he : errL f ≠ 0) : Con Tryd.prog 95 [.agg (flC f)] [tab8] (Is (.tup [.val (.pointer none), .val (.slice none 0 0), .val (.int .i64 (errL f))]) [tab8]) := by
  cases hok : floOk f with
  | false =>
    have C := openedNo_con f hS hok
    unfold errL
    rw [if_neg (by rw [hok]; simp)]
    refine con_of Tryd.func95 rfl (enters_of Tryd.func95 (by kernel_rfl) rfl) rfl ?_; intro n w0 F0 G0
    (refine goSt ?_; (repeat (refine goAl ?_; intro p hp; refine goSt ?_)))
    (first | (apply wl_call (C); exact rfl; exact rfl) | (apply wl_callR (C); exact rfl; exact goAtm; exact rfl))
    (refine goSt ?_; (repeat (refine goAl ?_; intro p hp; refine goSt ?_)))
    (apply resK3; exact rfl; exact rfl; exact rfl; exact rfl; exact ⟨rfl, rfl⟩; exact goCutl)
  | true =>
    have C := opened_con f hS hok
    have hF := flo_f hok
    have hidl := hF.ids
    have hqsl := hS.qs
    have hnil : fewP f (owed8 f) = [] := by
      unfold errL at he
      rw [if_pos hok] at he
      rcases hq : fewP f (owed8 f) with _ | ⟨x, t⟩
      · rfl
      · rw [hq] at he; exact absurd rfl he
    unfold errL
    rw [if_pos hok, hnil, if_pos (show ([] : List (List Pay)).isEmpty = true from rfl)]
    refine con_of Tryd.func95 rfl (enters_of Tryd.func95 (by kernel_rfl) rfl) rfl ?_; intro n w0 F0 G0
    (refine goSt ?_; (repeat (refine goAl ?_; intro p hp; refine goSt ?_)))
    (apply wl_callP (C); exact rfl; exact goCutl; exact rfl)
    rintro _ _ ⟨ph, ow, rfl, rfl⟩
    have CF := fewest_con ph ow f (owed8 f) hok (by omega) (owed8_len f) ((owed8_btw hF hS).mono (by omega) (by omega))
    rw [hnil] at CF
    (refine goSt ?_; (repeat (refine goAl ?_; intro p hp; refine goSt ?_)))
    (apply wl_callP (CF); exact rfl; exact goCutl; exact rfl)
    rintro _ _ ⟨rfl, rfl⟩
    (refine goSt ?_; (repeat (refine goAl ?_; intro p hp; refine goSt ?_)))
    (apply resK3; exact rfl; exact rfl; exact rfl; exact rfl; exact ⟨rfl, rfl⟩; exact goCutl)
def AskP (f : Flo) (xs : List (List Pay)) : AV → List HA → Prop := fun x y => ∃ ph v, x = .tup [.val ph, .sl 1 plC xs, .val (.int .i64 0)] ∧ y = [hsB ph f v, .row v 3 1 iC (owed8 f), tab8]
set_option maxRecDepth 20000 in
theorem askedOk_con (f : Flo) (hS : Sml f) (he : errL f = 0) : Con Tryd.prog 95 [.agg (flC f)] [tab8] (AskP f (fewP f (owed8 f))) := by
  unfold errL at he
  cases hok : floOk f with
  | false => rw [hok] at he; simp at he
  | true =>
    have C := opened_con f hS hok
    have hF := flo_f hok
    have hidl := hF.ids
    have hqsl := hS.qs
    have hl : (fewP f (owed8 f)).length ≠ 0 := fun h => by
      rw [if_pos hok, List.length_eq_zero_iff.1 h] at he
      exact absurd he (by decide)
    refine con_of Tryd.func95 rfl (enters_of Tryd.func95 (by kernel_rfl) rfl) rfl ?_; intro n w0 F0 G0
    (refine goSt ?_; (repeat (refine goAl ?_; intro p hp; refine goSt ?_)))
    (apply wl_callP (C); exact rfl; exact goCutl; exact rfl)
    rintro _ _ ⟨ph, ow, rfl, rfl⟩
    have CF := fewest_con ph ow f (owed8 f) hok (by omega) (owed8_len f) ((owed8_btw hF hS).mono (by omega) (by omega))
    generalize fewP f (owed8 f) = xs at CF hl ⊢
    (refine goSt ?_; (repeat (refine goAl ?_; intro p hp; refine goSt ?_)))
    (apply wl_callP (CF); exact rfl; exact goCutl; exact rfl)
    rintro _ _ ⟨rfl, rfl⟩
    (refine goSt ?_; (repeat (refine goAl ?_; intro p hp; refine goSt ?_)))
    refine w_cond rfl (fun h => ?_) (fun h => ?_)
    · have := of_decide_eq_true h
      omega
    · (refine goSt ?_; (repeat (refine goAl ?_; intro p hp; refine goSt ?_)))
      (apply resK3; exact rfl; exact rfl; exact rfl; exact rfl; exact ⟨ph, ow, rfl, rfl⟩; exact goCutl)
end Go.Proofs.YtihonljdanjfmaaDoor.Sw
/- Delete, of one quarrel. -/
namespace Go.Proofs.YtihonljdanjfmaaDoor.Sw
open Go.RowKit Go Go.Shelf Go.Proofs
instance tyzQ : TyZ Tryd.prog 55 [.int .i64 0, .int .i64 0] := inferInstance
end Go.Proofs.YtihonljdanjfmaaDoor.Sw
/- Sorting, stable, of fewer than 20 quarrels or bills. -/
namespace Go.Proofs.YtihonljdanjfmaaDoor.Sw
open Go.RowKit Go Go.Shelf Go.Proofs
end Go.Proofs.YtihonljdanjfmaaDoor.Sw
/- The program's 'Pay'. -/
namespace Go.Proofs.YtihonljdanjfmaaDoor.Sw
open Go.RowKit Go Go.Shelf Go.Proofs
end Go.Proofs.YtihonljdanjfmaaDoor.Sw
/- The program's 'Split' and 'Mend'. -/
namespace Go.Proofs.YtihonljdanjfmaaDoor.Sw
open Go.RowKit Go Go.Shelf Go.Proofs
end Go.Proofs.YtihonljdanjfmaaDoor.Sw
namespace Go.Proofs.YtihonljdanjfmaaDoor.Sw
open Go.RowKit Go Go.Shelf Go.Proofs
theorem insR_perm {α : Type} (lt : α → α → Bool) (x : α) : ∀ l : List α, (insR lt x l).Perm (x :: l)
  | [] => .refl _
  | a :: t => by
    rw [insR]
    split
    · exact ((insR_perm lt x t).cons a).trans (List.Perm.swap _ _ _)
    · exact .refl _
theorem srt_perm {α : Type} (lt : α → α → Bool) (l : List α) : (srt lt l).Perm l := by
  have h : ∀ (l acc : List α), (l.foldl (insE lt) acc).Perm (acc ++ l) := by
    intro l
    induction l with
    | nil => intro acc; simp
    | cons x t ih =>
      intro acc
      rw [List.foldl_cons]
      refine (ih _).trans ?_
      have h1 : (insE lt acc x).Perm (acc ++ [x]) := by
        unfold insE
        exact ((List.reverse_perm _).trans (insR_perm lt x _)).trans (((List.reverse_perm acc).cons x).trans (List.perm_append_comm (l₁ := [x]) (l₂ := acc)))
      have h2 := h1.append_right t
      rwa [List.append_assoc] at h2
  have := h l []
  unfold srt; simpa using this
end Go.Proofs.YtihonljdanjfmaaDoor.Sw
namespace Go.Proofs.YtihonljdanjfmaaDoor.Sw
open Go.RowKit Go Go.Shelf Go.Proofs
open Go.Proofs.YtihonljdanjfmaaDoor.Gr (Ok Ord Forest Zr lf headsR hf Lab payLt payLt_iff payLt_no SortedP sorted_uniq amt payE treeR treeR_iff pick Side)
theorem erase_same {L M : List (Nat × Nat)} (hL : L.Nodup) (hM : M.Nodup) (h : ∀ p, p ∈ L ↔ p ∈ M) (e p : Nat × Nat) : p ∈ L.erase e ↔ p ∈ M.erase e := by
  rw [hL.mem_erase_iff, hM.mem_erase_iff, h]
theorem side_same {L M : List (Nat × Nat)} (hL : L.Nodup) (hM : M.Nodup) (h : ∀ p, p ∈ L ↔ p ∈ M) {e : Nat × Nat} {i o : Nat} {Q : Nat → Bool} (k : Side L e i o Q) : Side M e i o Q :=
  ⟨cl_same (fun p hp => (erase_same hL hM h e p).2 hp) k.cl, k.inn, k.out⟩
theorem amt_same {n : Nat} {x : Nat → Int} {L M : List (Nat × Nat)} (hL : L.Nodup) (hM : M.Nodup) (h : ∀ p, p ∈ L ↔ p ∈ M) (hf : Forest L) (hz : Zr n L x) {e : Nat × Nat} (he : e ∈ L) : amt n x L e = amt n x M e := by
  obtain ⟨Q, hQ⟩ := Gr.side_of hf he (.inr ⟨rfl, rfl⟩ : Gr.Ends e e.2 e.1)
  rw [Gr.amt_side hL hz hQ, Gr.amt_side hM ((zr_same h).1 hz) (side_same hL hM h hQ)]
theorem payE_same {ids : List Int} {x : Nat → Int} {L M : List (Nat × Nat)} (hL : L.Nodup) (hM : M.Nodup) (h : ∀ p, p ∈ L ↔ p ∈ M) (hf : Forest L) (hz : Zr ids.length L x) {e : Nat × Nat} (he : e ∈ L) : payE ids x L e = payE ids x M e := by
  unfold payE
  rw [amt_same hL hM h hf hz he]
/-- A list of payments for some pairs. -/
structure SetL (ids cu : List Int) (p : Nat × Nat → Prop) (many : Nat) (L : List (Nat × Nat)) (out : List Pay) : Prop where
  nd : L.Nodup
  mem : ∀ e ∈ L, p e
  len : L.length = many
  fo : Forest L
  zr : Zr ids.length L (lf cu)
  nz : ∀ e ∈ L, amt ids.length (lf cu) L e ≠ 0
  so : SortedP out
  pe : out.Perm (L.map (payE ids (lf cu) L))
theorem SetL.same {ids cu : List Int} {p : Nat × Nat → Prop} {many : Nat} {L M : List (Nat × Nat)} {out : List Pay} (h : SetL ids cu p many L out) (hM : M.Nodup) (hm : ∀ e, e ∈ L ↔ e ∈ M) : SetL ids cu p many M out := by
  have hp : L.Perm M := (List.perm_ext_iff_of_nodup h.nd hM).2 hm
  refine ⟨hM, fun e he => h.mem e ((hm e).2 he), hp.length_eq ▸ h.len, h.fo.sub h.nd hM fun e he => (hm e).2 he, (zr_same hm).1 h.zr, fun e he => ?_, h.so, ?_⟩
  · rw [← amt_same h.nd hM hm h.fo h.zr ((hm e).2 he)]; exact h.nz e ((hm e).2 he)
  · refine h.pe.trans ((List.Perm.of_eq ?_).trans (hp.map _))
    exact List.map_congr_left fun e he => payE_same h.nd hM hm h.fo h.zr he
/-- The pairs that speak, the lesser index first. -/
def PrS (f : Flo) (e : Nat × Nat) : Prop := e.1 < e.2 ∧ e.2 < f.ids.length ∧ spk f e.1 e.2 = true
theorem sub_of_set {α : Type} [DecidableEq α] {L R : List α} (hL : L.Nodup) (hR : R.Nodup) (h : ∀ e ∈ L, e ∈ R) : ∃ S, List.Sublist S R ∧ S.Nodup ∧ ∀ e, e ∈ L ↔ e ∈ S :=
  ⟨R.filter fun e => decide (e ∈ L), List.filter_sublist, hR.filter _, fun e => by
    rw [List.mem_filter]
    exact ⟨fun he => ⟨h e he, by simpa using he⟩, fun he => by simpa using he.2⟩⟩
/-- What the reference lists. -/
theorem allR_mem {f : Flo} {k : Nat} {out : List Pay} : out ∈ allR f k ↔ ∃ L, SetL f.ids (owed8 f) (PrS f) k L out := by
  have hok := prR_ok (spk f) f.ids.length
  unfold allR allTo
  rw [List.mem_filterMap]
  constructor
  · rintro ⟨s, _, hs⟩
    split at hs
    · rename_i hk
      have hsub := Gr.pick_sub (prR (spk f) f.ids.length f.ids.length) s
      have hoS := hok.sub hsub
      obtain ⟨h1, h2, h3, h4, h5⟩ := (treeR_iff hoS (owed8_len f)).1 hs
      refine ⟨_, hoS.nd, fun e he => ?_, hk, h1, h2, h3, h4, h5⟩
      have := (prR_mem (Nat.le_refl _)).1 (hsub.subset he)
      exact ⟨this.2.1, this.2.2.1, this.2.2.2⟩
    · cases hs
  · rintro ⟨L, h⟩
    obtain ⟨S, h1, h2, h3⟩ := sub_of_set (R := prR (spk f) f.ids.length f.ids.length) h.nd hok.nd fun e he => by
      have := h.mem e he
      exact (prR_mem (Nat.le_refl _)).2 ⟨Nat.lt_trans this.1 this.2.1, this.1, this.2.1, this.2.2⟩
    have hS := h.same h2 h3
    obtain ⟨s, hs1, hs2⟩ := Gr.sub_pick h1
    refine ⟨s, List.mem_range.2 hs1, ?_⟩
    rw [hs2, if_pos hS.len]
    exact (treeR_iff (hok.sub h1) (owed8_len f)).2 ⟨hS.fo, hS.zr, hS.nz, hS.so, hS.pe⟩
theorem insR_desc (x : Pay) : ∀ l : List Pay, l.Pairwise (fun a b => payLt a b = false) → (insR payLt x l).Pairwise (fun a b => payLt a b = false)
  | [], _ => by simp [insR]
  | a :: t, h => by
    obtain ⟨h1, h2⟩ := List.pairwise_cons.1 h
    rw [insR]
    split
    · rename_i hx
      refine List.pairwise_cons.2 ⟨fun y hy => ?_, insR_desc x t h2⟩
      rcases List.mem_cons.1 ((insR_perm payLt x t).mem_iff.1 hy) with rfl | hy
      · rw [payLt_iff] at hx; rw [payLt_no]; omega
      · exact h1 y hy
    · rename_i hx
      have hx' : payLt x a = false := by simpa using hx
      refine List.pairwise_cons.2 ⟨fun y hy => ?_, h⟩
      rcases List.mem_cons.1 hy with rfl | hy
      · exact hx'
      · have := h1 y hy
        rw [payLt_no] at this hx' ⊢; omega
theorem srtP_sorted (l : List Pay) : SortedP (srt payLt l) := by
  unfold srt SortedP
  have h : ∀ (l acc : List Pay), acc.Pairwise (fun a b => payLt b a = false) → (l.foldl (insE payLt) acc).Pairwise (fun a b => payLt b a = false) := by
    intro l
    induction l with
    | nil => exact fun acc h => h
    | cons x t ih =>
      intro acc h
      refine ih _ ?_
      unfold insE
      rw [List.pairwise_reverse]
      exact insR_desc x _ (by rw [List.pairwise_reverse]; exact h)
  exact h l [] List.Pairwise.nil
theorem lstR_iff {ids cu : List Int} {L : List (Nat × Nat)} {out : List Pay} : lstR ids L cu = some out ↔ (∀ e ∈ L, amt ids.length (lf cu) L e ≠ 0) ∧ SortedP out ∧ out.Perm (L.map (payE ids (lf cu) L)) := by
  have hlt : (fun x y => decide (pyCmp x y < 0)) = payLt := by funext x y; exact pyCmp_lt x y
  unfold lstR
  rw [hlt]
  have hall : L.all (fun e => decide (amt ids.length (lf cu) L e ≠ 0)) = true ↔ ∀ e ∈ L, amt ids.length (lf cu) L e ≠ 0 := by simp [List.all_eq_true]
  split
  · rename_i h
    constructor
    · intro e
      injection e with e
      subst e
      exact ⟨hall.1 h, srtP_sorted _, srt_perm _ _⟩
    · rintro ⟨_, h2, h3⟩
      rw [sorted_uniq (srtP_sorted _) h2 ((srt_perm _ _).trans h3.symm)]
  · rename_i h
    constructor
    · intro e; cases e
    · rintro ⟨h1, _⟩; exact absurd (hall.2 h1) h
theorem leafG_mem {f : Flo} {cu : List Int} {l : List (Nat × Nat)} {out : List Pay} (h : ∀ p ∈ l, p.1 < f.ids.length ∧ p.2 < f.ids.length) : out ∈ leafG f cu l ↔ Zr f.ids.length l (lf cu) ∧ lstR f.ids l cu = some out := by
  unfold leafG
  rw [← evB_iff h]
  split
  · rename_i he
    rw [Option.mem_toList]
    simp [he]
  · rename_i he
    simp [he]
theorem chG_mem {f : Flo} {cu : List Int} {many : Nat} {out : List Pay} : ∀ {t l : List (Nat × Nat)}, (l ++ t).Nodup → (∀ p ∈ l ++ t, p.1 < f.ids.length ∧ p.2 < f.ids.length) → Forest l → l.length ≤ many →
    (out ∈ chG f cu many t l ↔ ∃ s, List.Sublist s t ∧ (l ++ s).length = many ∧ Forest (l ++ s) ∧ Zr f.ids.length (l ++ s) (lf cu) ∧ lstR f.ids (l ++ s) cu = some out)
  | [], l, hn, hl, hf, hle => by
    rw [chG]
    constructor
    · intro h
      split at h
      · rename_i hm
        have := (leafG_mem (fun p hp => hl p (by simp [hp]))).1 h
        exact ⟨[], .slnil, by simpa using hm, by simpa using hf, by simpa using this.1, by simpa using this.2⟩
      · cases h
    · rintro ⟨s, hs, h1, h2, h3, h4⟩
      obtain rfl := List.sublist_nil.1 hs
      rw [List.append_nil] at h1 h3 h4
      rw [if_pos h1]
      exact (leafG_mem (fun p hp => hl p (by simp [hp]))).2 ⟨h3, h4⟩
  | p :: t, l, hn, hl, hf, hle => by
    by_cases hm : l.length = many
    · rw [chG_yes hm]
      constructor
      · intro h
        have := (leafG_mem (fun p hp => hl p (by simp [hp]))).1 h
        exact ⟨[], List.nil_sublist _, by simpa using hm, by simpa using hf, by simpa using this.1, by simpa using this.2⟩
      · rintro ⟨s, hs, h1, h2, h3, h4⟩
        have : s = [] := List.length_eq_zero_iff.1 (by rw [List.length_append] at h1; omega)
        subst this
        rw [List.append_nil] at h3 h4
        exact (leafG_mem (fun p hp => hl p (by simp [hp]))).2 ⟨h3, h4⟩
    · rw [chG_cons hm, List.mem_append]
      have e1 : l ++ p :: t = (l ++ [p]) ++ t := by simp
      have hn1 : ((l ++ [p]) ++ t).Nodup := by rw [← e1]; exact hn
      have hl1 : ∀ q ∈ (l ++ [p]) ++ t, q.1 < f.ids.length ∧ q.2 < f.ids.length := by rw [← e1]; exact hl
      have hn2 : (l ++ t).Nodup := hn.sublist ((List.sublist_cons_self p t).append_left l)
      have hl2 : ∀ q ∈ l ++ t, q.1 < f.ids.length ∧ q.2 < f.ids.length := fun q hq => hl q (by simp at hq ⊢; rcases hq with h | h <;> simp [h])
      have hnp : (l ++ [p]).Nodup := (List.nodup_append.1 hn1).1
      have hp := hl p (by simp)
      have hap : Forest (l ++ [p]) ↔ apB f.ids.length l p = true := by
        rw [Gr.forest_snoc hnp, ← Gr.lab_apart (Gr.lab_all (fun q hq => hl q (by simp [hq]))) hp.1 hp.2]
        unfold apB
        simp [hf]
      have ih2 := chG_mem (out := out) (cu := cu) hn2 hl2 hf hle
      constructor
      · rintro (h | h)
        · split at h
          · rename_i ha
            obtain ⟨s, h1, h2, h3, h4, h5⟩ := (chG_mem hn1 hl1 (hap.2 ha) (by rw [List.length_append, List.length_singleton]; omega)).1 h
            rw [List.append_assoc, List.singleton_append] at h2 h3 h4 h5
            exact ⟨p :: s, h1.cons_cons p, h2, h3, h4, h5⟩
          · cases h
        · obtain ⟨s, h1, h2⟩ := ih2.1 h
          exact ⟨s, h1.cons p, h2⟩
      · rintro ⟨s, hs, h1, h2, h3, h4⟩
        cases hs with
        | cons _ hs => exact .inr (ih2.2 ⟨s, hs, h1, h2, h3, h4⟩)
        | cons_cons _ hs =>
          rename_i s
          have e2 : l ++ p :: s = (l ++ [p]) ++ s := by simp
          rw [e2] at h1 h2 h3 h4
          have hns : ((l ++ [p]) ++ s).Nodup := hn1.sublist (hs.append_left _)
          have hfp : Forest (l ++ [p]) := h2.sub hns hnp fun q hq => by simp only [List.mem_append] at hq ⊢; exact .inl hq
          refine .inl ?_
          rw [if_pos (hap.1 hfp)]
          exact (chG_mem hn1 hl1 hfp (by rw [List.length_append, List.length_singleton]; omega)).2 ⟨s, hs, h1, h2, h3, h4⟩
theorem forest_nil : Forest [] := fun e he => by cases he
/-- What the program lists. -/
theorem lstsR_mem {f : Flo} {k : Nat} {out : List Pay} : out ∈ lstsR f (owed8 f) k ↔ ∃ L, SetL f.ids (owed8 f) (PrS f) k L out := by
  unfold lstsR
  rw [chG_mem (by simpa using prP_nodup _ _) (fun p hp => by have := prP_mem.1 (by simpa using hp : p ∈ prP (spk f) f.ids.length); omega) forest_nil (Nat.zero_le _)]
  constructor
  · rintro ⟨s, hs, h1, h2, h3, h4⟩
    rw [List.nil_append] at h1 h2 h3 h4
    obtain ⟨h5, h6, h7⟩ := lstR_iff.1 h4
    exact ⟨s, (prP_nodup _ _).sublist hs, fun e he => prP_mem.1 (hs.subset he), h1, h2, h3, h5, h6, h7⟩
  · rintro ⟨L, h⟩
    obtain ⟨S, h1, h2, h3⟩ := sub_of_set (R := prP (spk f) f.ids.length) h.nd (prP_nodup _ _) fun e he => prP_mem.2 (h.mem e he)
    have hS := h.same h2 h3
    exact ⟨S, h1, by simpa using hS.len, by simpa using hS.fo, by simpa using hS.zr, by simpa using lstR_iff.2 ⟨hS.nz, hS.so, hS.pe⟩⟩
end Go.Proofs.YtihonljdanjfmaaDoor.Sw
