/- Proofs for one card: FloorOb, Gr, Gr2, Gr3, Gr4, FloorTa, SwI, SwL, SwM. No condition of its own. -/
import Derived.WalkKit
import Derived.Lib.LazyBuf
import Derived.Deep.AppendSrc
import Derived.DeepKeys4
import Derived.Maps.OwnIn
import Derived.Maps.Views
import Derived.Test.YtihonljdanjfmaaGreatDoorZe5
namespace Go.Proofs.YtihonljdanjfmaaGreatDoor.Sw
open Go.RowKit Go Go.Shelf Go.Proofs
set_option maxRecDepth 100000 in
theorem eqPair (a b c d : Int) (w : World) : (Op.equalIn 10000 122 (.agg #[.int .i64 a, .int .i64 b]) (.agg #[.int .i64 c, .int .i64 d])).run Tryz.prog w = .ok (a == c && b == d) w := by
 have u3 := Tryz.underlying3
 have a3 := Tryz.isAgg3
 have z3 := Tryz.sizeOf3
 rw [show (10000 : Nat) = 9999 + 1 from rfl, Op.equalIn]
 simp only [Sem.run_bind, run_underlying Tryz.underlying122, Result.andThen_ok]
 simp only [Std.Legacy.Range.forIn_eq_forIn_range', Std.Legacy.Range.size, Nat.sub_zero, Nat.add_sub_cancel, Nat.div_one, List.range'_succ, List.range'_zero, List.forIn_cons, List.forIn_nil]
 go_simp
 by_cases h1 : a = c <;> by_cases h2 : b = d <;> simp [h1, h2]
instance tyqPair : TyQ Tryz.prog 122 2 := ⟨fun x y xs ys w h1 h2 => by
 match xs, ys, h1, h2 with
 | [x0, x1], [y0, y1], _, _ =>
  refine ⟨?_, ?_, ?_, ?_⟩
  ·simp [go_sem]
  ·simp [go_sem]
  ·simp [go_sem]; rw [eqPair]; simp [Result.andThen]; rfl
  ·simp [go_sem]; rw [eqPair]; simp [Result.andThen]; rfl⟩
theorem quEq (x y : Qu) : decide ([x.a, x.b] = [y.a, y.b]) = decide (x = y) := by
 refine decide_eq_decide.2 ?_
 cases x; cases y; simp
def ixQ (l : List Qu) (x : Qu) : Int := fiX (fun y => decide (x = y)) l
set_option maxRecDepth 20000 in
theorem indexQ_con (xs : List Qu) (x : Qu) (hl : xs.length ≤ 1000000) : Con Tryz.prog 93 [.sl 2 quC xs, .agg (quC x)] [] (Is (.val (.int .i64 (ixQ xs x))) []) := by
 refine con_of Tryz.func93 rfl (enters_of Tryz.func93 (by kernel_rfl) rfl) rfl ?_; intro n w0 F0 G0
 (refine goSt ?_; (repeat (refine goAl ?_; intro p hp; refine goSt ?_)))
 refine W_loopJ (fun (k : Nat) => ⟨[(0, .sl 2 quC xs), (3, .val p), (7, .val (.int .i64 xs.length)), (8, .val (.int .i64 k))], [.box p (quC x) 87]⟩) (fun k => k ≤ xs.length ∧ (xs.take k).any (fun y => decide (x = y)) = false) (fun k => xs.length - k) 0 (fun _ _ st => st_sub2 st goSubr goSubp) ?hj0 ?round
 case hj0 => simp
 case round =>
  rintro k ⟨hk, hno⟩
  refine goSt ?_
  refine w_cond rfl (fun hlt => ?_) (fun hlt => ?_)
  ·have hlt' : k < xs.length := by simpa using hlt
   have hq1 : xs[k]? = some xs[k] := List.getElem?_eq_getElem hlt'
   refine goSt ?_
   refine W_run 5 [11, 12, 13, 14, 15] [0, 1, 2, 3, 4] Cut.nil rfl goFlt mixedS (by kernel_rfl) rfl ?_
   refine rpv [] [] ?_
   refine rpv [] [] ?_
   refine rpv [] [] ?_
   refine rpv [1, 2] [] ?_
   refine rpv [3] [] ?_
   refine ⟨⟨by kernel_rfl, by kernel_rfl⟩, fun vs => ?_⟩
   apply WL_auto [0, 4]
   ·exact goPk
   ·exact goNrm
   ·kernel_rfl
   ·kernel_rfl
   refine goSt ?_
   rw [quEq]
   refine w_cond rfl (fun he => ?_) (fun he => ?_)
   ·refine goSt ?_
    (apply res1; exact rfl; exact rfl; exact ⟨(congrArg (fun b => AV.val (Value.int .i64 b)) (fiX_at (p := fun y => decide (x = y)) hlt' hno he).symm), rfl⟩)
   ·refine goSt ?_
    (refine ⟨k + 1, fun _ _ st => st_sub2 st ?_ ?_, ?_, ?_⟩; exact goSubr; exact goSubp)
    ·refine ⟨by omega, ?_⟩
     rw [List.take_succ_eq_append_getElem hlt', List.any_append, hno]
     simpa using he
    ·omega
  ·refine goSt ?_
   have hkk : k = xs.length := by simp at hlt; omega
   subst hkk
   rw [List.take_length] at hno
   (apply res1; exact rfl; exact rfl; exact ⟨(congrArg (fun b => AV.val (Value.int .i64 b)) (fiX_none hno).symm), rfl⟩)
set_option maxRecDepth 20000 in
theorem containsQ_con (xs : List Qu) (x : Qu) (hl : xs.length ≤ 1000000) : Con Tryz.prog 134 [.sl 2 quC xs, .agg (quC x)] [] (Is (.val (.bool (xs.any fun y => decide (x = y)))) []) := by
 refine con_of Tryz.func134 rfl (enters_of Tryz.func134 (by kernel_rfl) rfl) rfl ?_; intro n w0 F0 G0
 (refine goSt ?_; (repeat (refine goAl ?_; intro p hp; refine goSt ?_)))
 (first | (apply wl_call (indexQ_con xs x hl); exact rfl; exact rfl) | (apply wl_callR (indexQ_con xs x hl); exact rfl; exact goAtm; exact rfl))
 refine goSt ?_
 (apply res1; exact rfl; exact rfl; exact ⟨(congrArg (fun b => AV.val (Value.bool b)) fiX_ge), rfl⟩)
theorem rises_sorted : ∀ {l : List Int} {last : Int}, rises last l = true → ∀ i j (hi : i < l.length) (hj : j < l.length), i < j → l[i] < l[j]
 | [], _, _, i, j, hi, _, _ => by simp at hi
 | x :: t, last, h, i, j, hi, hj, hij => by
  have h2 := rises_all (l := t) (last := x) (by simp only [rises, Bool.and_eq_true] at h; exact h.2)
  cases j with
  | zero => omega
  | succ j =>
   cases i with
   | zero =>
    simp only [List.getElem_cons_zero, List.getElem_cons_succ]
    have := h2 _ (List.getElem_mem (by simpa using hj)); omega
   | succ i =>
    simp only [List.getElem_cons_succ]
    exact rises_sorted (l := t) (last := x) (by simp only [rises, Bool.and_eq_true] at h; exact h.2) i j _ _ (by omega)
def prC (i k : Int) : List AV := [.val (.int .i64 i), .val (.int .i64 k)]
theorem speakR_same (qs : List Qu) (a : Int) : speakR qs a a = false := by simp [speakR]
set_option maxRecDepth 20000 in
set_option maxHeartbeats 4000000 in
theorem speak_con (ph ow : Value) (f : Flo) (i k : Nat) (hi : i < f.ids.length) (hk : k < f.ids.length) (hr : rises 0 f.ids = true) (hl : f.ids.length ≤ 1000) (hql : f.qs.length ≤ 1000) : Con Tryz.prog 89 [.val ph, .agg (prC i k)] [hsB ph f ow] (Is (.val (.bool (speakR f.qs f.ids[i] f.ids[k]))) [hsB ph f ow]) := by
 refine con_of Tryz.func89 rfl (enters_of Tryz.func89 (by kernel_rfl) rfl) rfl ?_; intro n w0 F0 G0
 (refine goSt ?_; (repeat (refine goAl ?_; intro p hp; refine goSt ?_)))
 by_cases hik : i = k
 ·subst hik
  rw [speakR_same]
  refine W_run 41 [5, 6, 7, 8, 9, 10, 11, 12, 13, 14, 15, 16, 17, 18, 19, 20, 21, 22, 23, 24, 25, 26, 27, 28, 29, 30, 31, 32, 33, 34, 35, 36, 37, 38, 39, 40, 41, 42, 43, 44, 45] [0, 1, 2, 3, 4, 5, 6, 7, 8, 9, 10, 11, 12, 13, 14, 15, 16, 17, 18, 19, 20, 21, 22, 23, 24, 25, 26, 27, 28, 29, 30, 31, 32, 33, 34, 35, 36, 37, 38, 39, 40] Cut.nil rfl goFlt mixedS (by kernel_rfl) rfl ?_
  refine rpv [] [] ?_
  refine rpv [] [] ?_
  refine rpv [1] [] ?_
  refine rpv [] [] ?_
  refine rpv [3] [] ?_
  refine rpv [2, 4] [] ?_
  refine Run.pv [0, 5] [] rfl (fun vs => by apply ltr_pk; exact goPk; (refine ltr ?_; apply LT_bool false; apply lt_neqN; exact rfl; exact rfl; (repeat (first | exact Ints.nil | apply Ints.cons)); (repeat (first | exact Ints.nil | apply Ints.cons)); exact rfl; exact rfl; simp)) goApp ?_
  refine rpv [6] [] ?_
  refine Run.no [7] [] rfl rfl (fun vs => by apply look_pk; exact goPk; exact rfl) (by exact rfl) goApp ?_
  refine Run.no [7, 8] [] rfl rfl (fun vs => by apply look_pk; exact goPk; exact rfl) (by exact rfl) goApp ?_
  refine Run.no [7, 9] [] rfl rfl (fun vs => by apply look_pk; exact goPk; exact rfl) (by exact rfl) goApp ?_
  refine Run.no [7, 10] [] rfl rfl (fun vs => by apply look_pk; exact goPk; exact rfl) (by exact rfl) goApp ?_
  refine Run.no [7, 11] [] rfl rfl (fun vs => by apply look_pk; exact goPk; exact rfl) (by exact rfl) goApp ?_
  refine Run.no [7] [] rfl rfl (fun vs => by apply look_pk; exact goPk; exact rfl) (by exact rfl) goApp ?_
  refine Run.no [7, 13] [] rfl rfl (fun vs => by apply look_pk; exact goPk; exact rfl) (by exact rfl) goApp ?_
  refine Run.no [7, 14] [] rfl rfl (fun vs => by apply look_pk; exact goPk; exact rfl) (by exact rfl) goApp ?_
  refine Run.no [7, 15] [] rfl rfl (fun vs => by apply look_pk; exact goPk; exact rfl) (by exact rfl) goApp ?_
  refine Run.no [7, 16] [] rfl rfl (fun vs => by apply look_pk; exact goPk; exact rfl) (by exact rfl) goApp ?_
  refine Run.no [7] [] rfl rfl (fun vs => by apply look_pk; exact goPk; exact rfl) (by exact rfl) goApp ?_
  refine Run.no [7, 18] [] rfl rfl (fun vs => by apply look_pk; exact goPk; exact rfl) (by exact rfl) goApp ?_
  refine Run.no [7] [] rfl rfl (fun vs => by apply look_pk; exact goPk; exact rfl) (by exact rfl) goApp ?_
  refine Run.no [7, 20] [] rfl rfl (fun vs => by apply look_pk; exact goPk; exact rfl) (by exact rfl) goApp ?_
  refine Run.no [7, 19, 21] [] rfl rfl (fun vs => by apply look_pk; exact goPk; exact rfl) (by exact rfl) goApp ?_
  refine Run.no [7, 17, 22] [] rfl rfl (fun vs => by apply look_pk; exact goPk; exact rfl) (by exact rfl) goApp ?_
  refine Run.no [7, 23] [] rfl rfl (fun vs => by apply look_pk; exact goPk; exact rfl) (by exact rfl) goApp ?_
  refine Run.no [7] [] rfl rfl (fun vs => by apply look_pk; exact goPk; exact rfl) (by exact rfl) goApp ?_
  refine Run.no [7, 25] [] rfl rfl (fun vs => by apply look_pk; exact goPk; exact rfl) (by exact rfl) goApp ?_
  refine Run.no [7, 26] [] rfl rfl (fun vs => by apply look_pk; exact goPk; exact rfl) (by exact rfl) goApp ?_
  refine Run.no [7, 27] [] rfl rfl (fun vs => by apply look_pk; exact goPk; exact rfl) (by exact rfl) goApp ?_
  refine Run.no [7, 28] [] rfl rfl (fun vs => by apply look_pk; exact goPk; exact rfl) (by exact rfl) goApp ?_
  refine Run.no [7] [] rfl rfl (fun vs => by apply look_pk; exact goPk; exact rfl) (by exact rfl) goApp ?_
  refine Run.no [7, 30] [] rfl rfl (fun vs => by apply look_pk; exact goPk; exact rfl) (by exact rfl) goApp ?_
  refine Run.no [7] [] rfl rfl (fun vs => by apply look_pk; exact goPk; exact rfl) (by exact rfl) goApp ?_
  refine Run.no [7, 32] [] rfl rfl (fun vs => by apply look_pk; exact goPk; exact rfl) (by exact rfl) goApp ?_
  refine Run.no [7, 31, 33] [] rfl rfl (fun vs => by apply look_pk; exact goPk; exact rfl) (by exact rfl) goApp ?_
  refine Run.no [7, 29, 34] [] rfl rfl (fun vs => by apply look_pk; exact goPk; exact rfl) (by exact rfl) goApp ?_
  refine Run.no [7, 35] [] rfl rfl (fun vs => by apply look_pk; exact goPk; exact rfl) (by exact rfl) goApp ?_
  refine Run.no [7, 24, 36] [] rfl rfl (fun vs => by apply look_pk; exact goPk; exact rfl) (by exact rfl) goApp ?_
  refine Run.no [7, 12, 37] [] rfl rfl (fun vs => by apply look_pk; exact goPk; exact rfl) (by exact rfl) goApp ?_
  refine Run.no [7, 38] [] rfl rfl (fun vs => by apply look_pk; exact goPk; exact rfl) (by exact rfl) goApp ?_
  refine rpv [7, 39] [] ?_
  refine ⟨⟨by kernel_rfl, by kernel_rfl⟩, fun vs => ?_⟩
  apply WL_auto [40]
  ·exact goPk
  ·exact goNrm
  ·kernel_rfl
  ·kernel_rfl
  refine goSt ?_
  (apply resK1; exact rfl; exact rfl; exact ⟨rfl, rfl⟩; exact goCutl)
 ·have hm : f.ids[min i k]? = some (min f.ids[i] f.ids[k]) ∧ f.ids[max i k]? = some (max f.ids[i] f.ids[k]) ∧ f.ids[i] ≠ f.ids[k] := by
   rcases Nat.lt_or_gt_of_ne hik with h | h
   ·have := rises_sorted hr i k hi hk h
    rw [Nat.min_eq_left (by omega), Nat.max_eq_right (by omega), Int.min_eq_left (by omega), Int.max_eq_right (by omega), List.getElem?_eq_getElem hi, List.getElem?_eq_getElem hk]
    exact ⟨rfl, rfl, by omega⟩
   ·have := rises_sorted hr k i hk hi h
    rw [Nat.min_eq_right (by omega), Nat.max_eq_left (by omega), Int.min_eq_right (by omega), Int.max_eq_left (by omega), List.getElem?_eq_getElem hi, List.getElem?_eq_getElem hk]
    exact ⟨rfl, rfl, by omega⟩
  obtain ⟨hm1, hm2, hm3⟩ := hm
  have hsp : speakR f.qs f.ids[i] f.ids[k] = !(f.qs.any fun y => decide ((⟨min f.ids[i] f.ids[k], max f.ids[i] f.ids[k]⟩ : Qu) = y)) := by
   unfold speakR
   rw [decide_eq_true hm3, Bool.and_true]
   congr 2
   funext q
   cases q
   simp only [hits, Qu.mk.injEq]
   rw [← Bool.decide_and]
   exact decide_eq_decide.2 (by constructor <;> rintro ⟨h1, h2⟩ <;> exact ⟨h1.symm, h2.symm⟩)
  rw [hsp]
  refine W_run 41 [5, 6, 7, 8, 9, 10, 11, 12, 13, 14, 15, 16, 17, 18, 19, 20, 21, 22, 23, 24, 25, 26, 27, 28, 29, 30, 31, 32, 33, 34, 35, 36, 37, 38, 39, 40, 41, 42, 43, 44, 45] [0, 1, 2, 3, 4, 5, 6, 7, 8, 9, 10, 11, 12, 13, 14, 15, 16, 17, 18, 19, 20, 21, 22, 23, 24, 25, 26, 27, 28, 29, 30, 31, 32, 33, 34, 35, 36, 37, 38, 39, 40] Cut.nil rfl goFlt mixedS (by kernel_rfl) rfl ?_
  refine rpv [] [] ?_
  refine rpv [] [] ?_
  refine rpv [1] [] ?_
  refine rpv [] [] ?_
  refine rpv [3] [] ?_
  refine rpv [2, 4] [] ?_
  refine Run.pv [0, 5] [] rfl (fun vs => by apply ltr_pk; exact goPk; (refine ltr ?_; apply LT_bool true; apply lt_neqN; exact rfl; exact rfl; (repeat (first | exact Ints.nil | apply Ints.cons)); (repeat (first | exact Ints.nil | apply Ints.cons)); exact rfl; exact rfl; (simp; omega))) goApp ?_
  refine rpv [6] [] ?_
  refine Run.yes [7] [] rfl rfl (fun vs => by apply look_pk; exact goPk; exact rfl) (fun vs => by apply ltr_pk; exact goPk; exact goLtr) goApp ?_
  refine Run.yes [7, 8] [] rfl rfl (fun vs => by apply look_pk; exact goPk; exact rfl) (fun vs => by apply ltr_pk; exact goPk; exact goLtr) goApp ?_
  refine Run.yes [7, 9] [] rfl rfl (fun vs => by apply look_pk; exact goPk; exact rfl) (fun vs => by apply ltr_pk; exact goPk; exact goLtr) goApp ?_
  refine Run.yes [7, 10] [] rfl rfl (fun vs => by apply look_pk; exact goPk; exact rfl) (fun vs => by apply ltr_pk; exact goPk; exact goLtr) goApp ?_
  refine Run.yes [7, 11] [] rfl rfl (fun vs => by apply look_pk; exact goPk; exact rfl) (fun vs => by apply ltr_pk; exact goPk; exact goLtr) goApp ?_
  refine Run.yes [7] [] rfl rfl (fun vs => by apply look_pk; exact goPk; exact rfl) (fun vs => by apply ltr_pk; exact goPk; exact goLtr) goApp ?_
  refine Run.yes [7, 13] [] rfl rfl (fun vs => by apply look_pk; exact goPk; exact rfl) (fun vs => by apply ltr_pk; exact goPk; exact goLtr) goApp ?_
  refine Run.yes [7, 14] [] rfl rfl (fun vs => by apply look_pk; exact goPk; exact rfl) (fun vs => by apply ltr_pk; exact goPk; exact goLtr) goApp ?_
  refine Run.yes [7, 15] [] rfl rfl (fun vs => by apply look_pk; exact goPk; exact rfl) (fun vs => by apply ltr_pk; exact goPk; exact goLtr) goApp ?_
  refine Run.yes [7, 16] [] rfl rfl (fun vs => by apply look_pk; exact goPk; exact rfl) (fun vs => by apply ltr_pk; exact goPk; exact goLtr) goApp ?_
  refine Run.yes [7] [] rfl rfl (fun vs => by apply look_pk; exact goPk; exact rfl) (fun vs => by apply ltr_pk; exact goPk; exact goLtr) goApp ?_
  refine Run.yes [7, 18] [] rfl rfl (fun vs => by apply look_pk; exact goPk; exact rfl) (fun vs => by apply ltr_pk; exact goPk; exact goLtr) goApp ?_
  refine Run.yes [7] [] rfl rfl (fun vs => by apply look_pk; exact goPk; exact rfl) (fun vs => by apply ltr_pk; exact goPk; exact goLtr) goApp ?_
  refine Run.yes [7, 20] [] rfl rfl (fun vs => by apply look_pk; exact goPk; exact rfl) (fun vs => by apply ltr_pk; exact goPk; exact goLtr) goApp ?_
  refine Run.yes [7, 19, 21] [] rfl rfl (fun vs => by apply look_pk; exact goPk; exact rfl) (fun vs => by apply ltr_pk; exact goPk; (refine ltr ?_; apply LT_int ((min i k : Nat) : Int); apply lt_min2; exact rfl; exact rfl; omega)) goApp ?_
  refine Run.yes [7, 17, 22] [] rfl rfl (fun vs => by apply look_pk; exact goPk; exact rfl) (fun vs => by apply ltr_pk; exact goPk; exact goLtr) goApp ?_
  refine Run.yes [7, 23] [] rfl rfl (fun vs => by apply look_pk; exact goPk; exact rfl) (fun vs => by apply ltr_pk; exact goPk; exact goLtr) goApp ?_
  refine Run.yes [7] [] rfl rfl (fun vs => by apply look_pk; exact goPk; exact rfl) (fun vs => by apply ltr_pk; exact goPk; exact goLtr) goApp ?_
  refine Run.yes [7, 25] [] rfl rfl (fun vs => by apply look_pk; exact goPk; exact rfl) (fun vs => by apply ltr_pk; exact goPk; exact goLtr) goApp ?_
  refine Run.yes [7, 26] [] rfl rfl (fun vs => by apply look_pk; exact goPk; exact rfl) (fun vs => by apply ltr_pk; exact goPk; exact goLtr) goApp ?_
  refine Run.yes [7, 27] [] rfl rfl (fun vs => by apply look_pk; exact goPk; exact rfl) (fun vs => by apply ltr_pk; exact goPk; exact goLtr) goApp ?_
  refine Run.yes [7, 28] [] rfl rfl (fun vs => by apply look_pk; exact goPk; exact rfl) (fun vs => by apply ltr_pk; exact goPk; exact goLtr) goApp ?_
  refine Run.yes [7] [] rfl rfl (fun vs => by apply look_pk; exact goPk; exact rfl) (fun vs => by apply ltr_pk; exact goPk; exact goLtr) goApp ?_
  refine Run.yes [7, 30] [] rfl rfl (fun vs => by apply look_pk; exact goPk; exact rfl) (fun vs => by apply ltr_pk; exact goPk; exact goLtr) goApp ?_
  refine Run.yes [7] [] rfl rfl (fun vs => by apply look_pk; exact goPk; exact rfl) (fun vs => by apply ltr_pk; exact goPk; exact goLtr) goApp ?_
  refine Run.yes [7, 32] [] rfl rfl (fun vs => by apply look_pk; exact goPk; exact rfl) (fun vs => by apply ltr_pk; exact goPk; exact goLtr) goApp ?_
  refine Run.yes [7, 31, 33] [] rfl rfl (fun vs => by apply look_pk; exact goPk; exact rfl) (fun vs => by apply ltr_pk; exact goPk; (refine ltr ?_; apply LT_int ((max i k : Nat) : Int); apply lt_max2; exact rfl; exact rfl; omega)) goApp ?_
  refine Run.yes [7, 29, 34] [] rfl rfl (fun vs => by apply look_pk; exact goPk; exact rfl) (fun vs => by apply ltr_pk; exact goPk; exact goLtr) goApp ?_
  refine Run.yes [7, 35] [] rfl rfl (fun vs => by apply look_pk; exact goPk; exact rfl) (fun vs => by apply ltr_pk; exact goPk; exact goLtr) goApp ?_
  refine Run.yes [7, 24, 36] [] rfl rfl (fun vs => by apply look_pk; exact goPk; exact rfl) (fun vs => by apply ltr_pk; exact goPk; exact goLtr) goApp ?_
  refine Run.yes [7, 12, 37] [] rfl rfl (fun vs => by apply look_pk; exact goPk; exact rfl) (fun vs => by apply ltr_pk; exact goPk; (refine ltr ?_; refine lt_call ?_ ((containsQ_con f.qs ⟨min f.ids[i] f.ids[k], max f.ids[i] f.ids[k]⟩ (by omega))); exact rfl)) goApp ?_
  refine Run.yes [7, 38] [] rfl rfl (fun vs => by apply look_pk; exact goPk; exact rfl) (fun vs => by apply ltr_pk; exact goPk; exact goLtr) goApp ?_
  refine rpv [7, 39] [] ?_
  refine ⟨⟨by kernel_rfl, by kernel_rfl⟩, fun vs => ?_⟩
  apply WL_auto [40]
  ·exact goPk
  ·exact goNrm
  ·kernel_rfl
  ·kernel_rfl
  refine goSt ?_
  (apply resK1; exact rfl; exact rfl; exact ⟨rfl, rfl⟩; exact goCutl)
end Go.Proofs.YtihonljdanjfmaaGreatDoor.Sw
namespace Go.Proofs.YtihonljdanjfmaaGreatDoor.Gr
def Cl (L : List (Nat × Nat)) (P : Nat → Bool) : Prop := ∀ p ∈ L, P p.1 = P p.2
def sumP : Nat → (Nat → Int) → (Nat → Bool) → Int
 | 0, _, _ => 0
 | n + 1, x, P => sumP n x P + (if P n then x n else 0)
def cnt : Nat → (Nat → Bool) → Nat
 | 0, _ => 0
 | n + 1, P => cnt n P + (if P n then 1 else 0)
def Zr (n : Nat) (L : List (Nat × Nat)) (x : Nat → Int) : Prop := ∀ P, Cl L P → sumP n x P = 0
def upd (x : Nat → Int) (i : Nat) (c : Int) : Nat → Int := fun v => if v = i then c else x v
def flip (P : Nat → Bool) (i : Nat) (c : Bool) : Nat → Bool := fun v => if v = i then c else P v
theorem sumP_congr {x y : Nat → Int} {P Q : Nat → Bool} : ∀ {n : Nat}, (∀ v, v < n → x v = y v) → (∀ v, v < n → P v = Q v) → sumP n x P = sumP n y Q
 | 0, _, _ => rfl
 | n + 1, h1, h2 => by
  unfold sumP
  rw [sumP_congr (fun v hv => h1 v (by omega)) (fun v hv => h2 v (by omega)), h1 n (by omega), h2 n (by omega)]
theorem sumP_upd {x : Nat → Int} {P : Nat → Bool} {i : Nat} {c : Int} : ∀ {n : Nat}, i < n → sumP n (upd x i c) P = sumP n x P + (if P i then c - x i else 0)
 | n + 1, h => by
  unfold sumP
  by_cases e : i = n
  ·subst e
   rw [sumP_congr (y := x) (Q := P) (fun v hv => by unfold upd; rw [if_neg (by omega)]) (fun _ _ => rfl)]
   simp only [upd, if_true]
   split <;> omega
  ·rw [sumP_upd (by omega)]
   have : upd x i c n = x n := by unfold upd; rw [if_neg (fun e' => e e'.symm)]
   rw [this]
   omega
theorem sumP_flip {x : Nat → Int} {P : Nat → Bool} {i : Nat} {c : Bool} : ∀ {n : Nat}, i < n → sumP n x (flip P i c) = sumP n x P + ((if c then x i else 0) - (if P i then x i else 0))
 | n + 1, h => by
  unfold sumP
  by_cases e : i = n
  ·subst e
   rw [sumP_congr (y := x) (Q := P) (fun _ _ => rfl) (fun v hv => by unfold flip; rw [if_neg (by omega)])]
   simp only [flip, if_true]
   omega
  ·rw [sumP_flip (by omega)]
   have : flip P i c n = P n := by unfold flip; rw [if_neg (fun e' => e e'.symm)]
   rw [this]
   omega
def mv (x : Nat → Int) (i o : Nat) : Nat → Int := upd (upd x o (x o + x i)) i 0
theorem sumP_mv {n : Nat} {x : Nat → Int} {P : Nat → Bool} {i o : Nat} (hi : i < n) (ho : o < n) (hne : i ≠ o) (h : P i = P o) : sumP n (mv x i o) P = sumP n x P := by
 unfold mv
 rw [sumP_upd hi, sumP_upd ho, h]
 have : upd x o (x o + x i) i = x i := by unfold upd; rw [if_neg hne]
 rw [this]
 split <;> omega
theorem mv_i {x : Nat → Int} {i o : Nat} : mv x i o i = 0 := by unfold mv upd; simp
theorem cnt_lt {P Q : Nat → Bool} {t : Nat} (hs : ∀ v, Q v = true → P v = true) (h1 : P t = true) (h2 : Q t = false) : ∀ {n : Nat}, t < n → cnt n Q < cnt n P := by
 have le : ∀ n, cnt n Q ≤ cnt n P := by
  intro n
  induction n with
  | zero => exact Nat.le_refl _
  | succ n ih =>
   unfold cnt
   by_cases h : Q n = true
   ·rw [if_pos h, if_pos (hs n h)]; omega
   ·rw [if_neg h]; omega
 intro n
 induction n with
 | zero => intro h; omega
 | succ n ih =>
  intro h
  unfold cnt
  by_cases e : t = n
  ·subst e
   rw [h1, h2]
   have := le t
   simp; omega
  ·have := ih (by omega)
   by_cases h : Q n = true
   ·rw [if_pos h, if_pos (hs n h)]; omega
   ·rw [if_neg h]; omega
def inc (i : Nat) (p : Nat × Nat) : Bool := decide (p.1 = i) || decide (p.2 = i)
structure Ok (n : Nat) (L : List (Nat × Nat)) : Prop where
 nd : L.Nodup
 lt : ∀ p ∈ L, p.1 < n ∧ p.2 < n ∧ p.1 ≠ p.2
theorem Ok.erase {n : Nat} {L : List (Nat × Nat)} (h : Ok n L) (e : Nat × Nat) : Ok n (L.erase e) := ⟨h.nd.erase e, fun p hp => h.lt p (List.mem_of_mem_erase hp)⟩
def Leaf (L : List (Nat × Nat)) (i : Nat) (e : Nat × Nat) : Prop := e ∈ L ∧ inc i e = true ∧ ∀ p ∈ L, inc i p = true → p = e
def oth (e : Nat × Nat) (i : Nat) : Nat := e.1 + e.2 - i
theorem inc_iff {i : Nat} {e : Nat × Nat} : inc i e = true ↔ e.1 = i ∨ e.2 = i := by simp [inc]
theorem cl_inc {L : List (Nat × Nat)} {P : Nat → Bool} {e : Nat × Nat} {i : Nat} (hi : inc i e = true) (h : P e.1 = P e.2) : P i = P (oth e i) := by
 unfold oth
 rcases inc_iff.1 hi with h1 | h1
 ·subst h1; rw [h]; congr 1; omega
 ·subst h1; rw [← h]; congr 1; omega
theorem leaf_of_bridges {n : Nat} {L : List (Nat × Nat)} (hok : Ok n L) (hb : ∀ e ∈ L, ∃ P, Cl (L.erase e) P ∧ P e.1 ≠ P e.2) : ∀ (m : Nat) (e : Nat × Nat) (P : Nat → Bool), e ∈ L → Cl (L.erase e) P → P e.1 ≠ P e.2 → cnt n P = m → ∃ i e, i < n ∧ Leaf L i e := by
 intro m
 induction m using Nat.strongRecOn with
 | _ m ih =>
  intro e P he hcl hne hm
  obtain ⟨h1, h2, h3⟩ := hok.lt e he
  -- the end within the set
  obtain ⟨s, t, hs, ht, htn, hit, hends⟩ : ∃ s t, P s = false ∧ P t = true ∧ t < n ∧ inc t e = true ∧ ((e.1 = s ∧ e.2 = t) ∨ (e.1 = t ∧ e.2 = s)) := by
   cases ha : P e.1 with
   | true => exact ⟨e.2, e.1, by rw [ha] at hne; simpa using hne.symm, ha, h1, by simp [inc], .inr ⟨rfl, rfl⟩⟩
   | false => exact ⟨e.1, e.2, ha, by rw [ha] at hne; simpa using hne.symm, h2, by simp [inc], .inl ⟨rfl, rfl⟩⟩
  by_cases hl : ∀ p ∈ L, inc t p = true → p = e
  ·exact ⟨t, e, htn, he, hit, hl⟩
  ·obtain ⟨e', hl⟩ := Classical.not_forall.1 hl
   have hl' : e' ∈ L ∧ inc t e' = true ∧ e' ≠ e := by
    by_cases a : e' ∈ L
    ·by_cases b : inc t e' = true
     ·exact ⟨a, b, fun c => hl fun _ _ => c⟩
     ·exact absurd (fun _ h => absurd h b) hl
    ·exact absurd (fun h => absurd h a) hl
   obtain ⟨he', hi', hne'⟩ := hl'
   have hcl' : P e'.1 = P e'.2 := hcl e' ((hok.nd.mem_erase_iff).2 ⟨hne', he'⟩)
   obtain ⟨Q0, hQ, hQne⟩ := hb e' he'
   -- the side of the other end
   obtain ⟨c, hce, hct⟩ : ∃ c, ((e'.1 = t ∧ e'.2 = c) ∨ (e'.1 = c ∧ e'.2 = t)) ∧ P c = true := by
    rcases inc_iff.1 hi' with h | h
    ·exact ⟨e'.2, .inl ⟨h, rfl⟩, by rw [← hcl', h]; exact ht⟩
    ·exact ⟨e'.1, .inr ⟨rfl, h⟩, by rw [hcl', h]; exact ht⟩
   obtain ⟨Q, hQ, hQc, hQt⟩ : ∃ Q, Cl (L.erase e') Q ∧ Q c = true ∧ Q t = false := by
    have hd : Q0 c ≠ Q0 t := by
     rcases hce with ⟨a, b⟩ | ⟨a, b⟩
     ·rw [a, b] at hQne; exact hQne.symm
     ·rw [a, b] at hQne; exact hQne
    cases hc : Q0 c with
    | true => exact ⟨Q0, hQ, hc, by rw [hc] at hd; simpa using hd.symm⟩
    | false => exact ⟨fun v => !Q0 v, fun p hp => by simp [hQ p hp], by simp [hc], by rw [hc] at hd; simpa using hd.symm⟩
   refine ih (cnt n fun v => P v && Q v) (hm ▸ cnt_lt (t := t) (fun v h => by simp at h; exact h.1) ht (by simp [hQt]) htn) e' (fun v => P v && Q v) he' (fun p hp => ?_) ?_ rfl
   ·have hp' := (hok.nd.mem_erase_iff).1 hp
    by_cases hpe : p = e
    ·subst hpe
     rcases hends with ⟨a, b⟩ | ⟨a, b⟩
     ·simp [a, b, hs, hQt]
     ·simp [a, b, hs, hQt]
    ·show (P p.1 && Q p.1) = (P p.2 && Q p.2)
     rw [hcl p ((hok.nd.mem_erase_iff).2 ⟨hpe, hp'.2⟩), hQ p hp]
   ·rcases hce with ⟨a, b⟩ | ⟨a, b⟩
    ·simp [a, b, hQt, hQc, hct]
    ·simp [a, b, hQt, hQc, hct]
def Min (n : Nat) (L : List (Nat × Nat)) (x : Nat → Int) : Prop := ∀ e ∈ L, ¬ Zr n (L.erase e) x
theorem Min.bridges {n : Nat} {L : List (Nat × Nat)} {x : Nat → Int} (hok : Ok n L) (hz : Zr n L x) (hm : Min n L x) : ∀ e ∈ L, ∃ P, Cl (L.erase e) P ∧ P e.1 ≠ P e.2 := fun e he => by
 have h := hm e he
 unfold Zr at h
 obtain ⟨P, h⟩ := Classical.not_forall.1 h
 have h1 : Cl (L.erase e) P := Classical.not_not.1 fun h1 => h fun h2 => absurd h2 h1
 have h2 : sumP n x P ≠ 0 := fun h2 => h fun _ => h2
 refine ⟨P, h1, fun heq => h2 (hz P fun p hp => ?_)⟩
 by_cases hpe : p = e
 ·subst hpe; exact heq
 ·exact h1 p ((hok.nd.mem_erase_iff).2 ⟨hpe, hp⟩)
theorem Min.leaf {n : Nat} {L : List (Nat × Nat)} {x : Nat → Int} (hok : Ok n L) (hz : Zr n L x) (hm : Min n L x) (hne : L ≠ []) : ∃ i e, i < n ∧ Leaf L i e := by
 obtain ⟨e, he⟩ := List.exists_mem_of_ne_nil L hne
 have hb := hm.bridges hok hz
 obtain ⟨P, h1, h2⟩ := hb e he
 exact leaf_of_bridges hok hb _ e P he h1 h2 rfl
theorem oth_spec {n : Nat} {L : List (Nat × Nat)} (hok : Ok n L) {i : Nat} {e : Nat × Nat} (he : e ∈ L) (hi : inc i e = true) : oth e i < n ∧ i ≠ oth e i ∧ i < n ∧ inc (oth e i) e = true := by
 obtain ⟨h1, h2, h3⟩ := hok.lt e he
 unfold oth
 rcases inc_iff.1 hi with h | h
 ·subst h
  have : e.1 + e.2 - e.1 = e.2 := by omega
  rw [this]; exact ⟨h2, h3, h1, by simp [inc]⟩
 ·subst h
  have : e.1 + e.2 - e.2 = e.1 := by omega
  rw [this]; exact ⟨h1, fun e' => h3 e'.symm, h2, by simp [inc]⟩
theorem cl_flip {n : Nat} {L : List (Nat × Nat)} (hok : Ok n L) {i : Nat} {e : Nat × Nat} (hl : Leaf L i e) {P : Nat → Bool} (h : Cl (L.erase e) P) : Cl L (flip P i (P (oth e i))) := fun p hp => by
 obtain ⟨he, hi, ho⟩ := hl
 obtain ⟨_, hne, _, _⟩ := oth_spec hok he hi
 have hself : flip P i (P (oth e i)) i = P (oth e i) := by simp [flip]
 have hoth : flip P i (P (oth e i)) (oth e i) = P (oth e i) := by unfold flip; rw [if_neg (fun e' => hne e'.symm)]
 by_cases hpe : p = e
 ·subst hpe
  rcases inc_iff.1 hi with h1 | h1
  ·have : p.2 = oth p i := by unfold oth; omega
   rw [h1, this, hself, hoth]
  ·have : p.1 = oth p i := by unfold oth; omega
   rw [h1, this, hself, hoth]
 ·have hn : inc i p ≠ true := fun h1 => hpe (ho p hp h1)
  have h1 : p.1 ≠ i := fun h1 => hn (by simp [inc, h1])
  have h2 : p.2 ≠ i := fun h2 => hn (by simp [inc, h2])
  unfold flip
  rw [if_neg h1, if_neg h2]
  exact h p ((hok.nd.mem_erase_iff).2 ⟨hpe, hp⟩)
theorem Min.left {n : Nat} {L : List (Nat × Nat)} {x : Nat → Int} (hok : Ok n L) (hz : Zr n L x) (hm : Min n L x) {i : Nat} {e : Nat × Nat} (hl : Leaf L i e) : x i ≠ 0 := fun h0 => by
 obtain ⟨_, _, hin, _⟩ := oth_spec hok hl.1 hl.2.1
 refine hm e hl.1 fun P h => ?_
 have := hz _ (cl_flip hok hl h)
 rw [sumP_flip hin, h0] at this
 simpa using this
theorem step_zr {n : Nat} {L : List (Nat × Nat)} {x : Nat → Int} (hok : Ok n L) (hz : Zr n L x) {i : Nat} {e : Nat × Nat} (hl : Leaf L i e) : Zr n (L.erase e) (mv x i (oth e i)) := fun P h => by
 obtain ⟨hon, hne, hin, _⟩ := oth_spec hok hl.1 hl.2.1
 have h1 := hz _ (cl_flip hok hl h)
 have h2 : sumP n (mv x i (oth e i)) (flip P i (P (oth e i))) = sumP n x (flip P i (P (oth e i))) := sumP_mv hin hon hne (by unfold flip; rw [if_pos rfl, if_neg (fun e' => hne e'.symm)])
 rw [sumP_flip hin, mv_i, h1] at h2
 simpa using h2
theorem step_zr_back {n : Nat} {L : List (Nat × Nat)} {x : Nat → Int} (hok : Ok n L) {i : Nat} {e : Nat × Nat} (he : e ∈ L) (hi : inc i e = true) (hz : Zr n (L.erase e) (mv x i (oth e i))) : Zr n L x := fun P h => by
 obtain ⟨hon, hne, hin, _⟩ := oth_spec hok he hi
 rw [← sumP_mv (x := x) hin hon hne (cl_inc (L := L) hi (h e he))]
 exact hz P fun p hp => h p (List.mem_of_mem_erase hp)
theorem erase_erase {L : List (Nat × Nat)} {e e' : Nat × Nat} : (L.erase e).erase e' = (L.erase e').erase e := List.erase_comm ..
theorem step_min {n : Nat} {L : List (Nat × Nat)} {x : Nat → Int} (hok : Ok n L) (hm : Min n L x) {i : Nat} {e : Nat × Nat} (hl : Leaf L i e) : Min n (L.erase e) (mv x i (oth e i)) := fun e' he' hz => by
 have h1 := (hok.nd.mem_erase_iff).1 he'
 refine hm e' h1.2 (step_zr_back (hok.erase e') ((hok.nd.mem_erase_iff).2 ⟨fun h => h1.1 h.symm, hl.1⟩) hl.2.1 ?_)
 rw [erase_erase]
 exact hz
theorem exists_min {n : Nat} {x : Nat → Int} : ∀ (m : Nat) {L : List (Nat × Nat)}, L.length = m → Ok n L → Zr n L x → ∃ S, List.Sublist S L ∧ Ok n S ∧ Zr n S x ∧ Min n S x := by
 intro m
 induction m with
 | zero =>
  intro L hl hok hz
  have : L = [] := List.eq_nil_of_length_eq_zero hl
  subst this
  exact ⟨[], List.Sublist.refl _, hok, hz, fun _ h => by cases h⟩
 | succ m ih =>
  intro L hl hok hz
  by_cases h : Min n L x
  ·exact ⟨L, List.Sublist.refl _, hok, hz, h⟩
  ·unfold Min at h
   obtain ⟨e, h⟩ := Classical.not_forall.1 h
   have he : e ∈ L := Classical.not_not.1 fun h1 => h fun h2 => absurd h2 h1
   have hze : Zr n (L.erase e) x := Classical.not_not.1 fun h1 => h fun _ => h1
   obtain ⟨S, h1, h2⟩ := ih (by rw [List.length_erase_of_mem he]; omega) (hok.erase e) hze
   exact ⟨S, h1.trans List.erase_sublist, h2⟩
def deg (L : List (Nat × Nat)) (v : Nat) : Bool := L.any (inc v)
theorem cnt_le (P : Nat → Bool) : ∀ n, cnt n P ≤ n
 | 0 => Nat.le_refl _
 | n + 1 => by unfold cnt; have := cnt_le P n; split <;> omega
theorem cnt_two {P : Nat → Bool} {a b : Nat} (h1 : P a = true) (h2 : P b = true) (hne : a ≠ b) : ∀ {n : Nat}, a < n → b < n → 2 ≤ cnt n P := by
 have one : ∀ {c n}, P c = true → c < n → 1 ≤ cnt n P := by
  intro c n h
  induction n with
  | zero => intro h; omega
  | succ n ih =>
   intro hc
   unfold cnt
   by_cases e : c = n
   ·subst e; rw [if_pos h]; omega
   ·have := ih (by omega); omega
 intro n
 induction n with
 | zero => intro h; omega
 | succ n ih =>
  intro ha hb
  unfold cnt
  by_cases e : a = n
  ·subst e; rw [if_pos h1]; have := one (n := a) h2 (by omega); omega
  ·by_cases e' : b = n
   ·subst e'; rw [if_pos h2]; have := one (n := b) h1 (by omega); omega
   ·have := ih (by omega) (by omega); omega
theorem deg_step {n : Nat} {L : List (Nat × Nat)} (hok : Ok n L) {i : Nat} {e : Nat × Nat} (hl : Leaf L i e) : cnt n (deg (L.erase e)) < cnt n (deg L) := by
 obtain ⟨_, _, hin, _⟩ := oth_spec hok hl.1 hl.2.1
 refine cnt_lt (t := i) (fun v h => ?_) ?_ ?_ hin
 ·obtain ⟨p, hp, h⟩ := List.any_eq_true.1 h
  exact List.any_eq_true.2 ⟨p, List.mem_of_mem_erase hp, h⟩
 ·exact List.any_eq_true.2 ⟨e, hl.1, hl.2.1⟩
 ·refine Bool.eq_false_iff.2 fun h => ?_
  obtain ⟨p, hp, h⟩ := List.any_eq_true.1 h
  have h1 := (hok.nd.mem_erase_iff).1 hp
  exact h1.1 (hl.2.2 p h1.2 h)
theorem Min.size {n : Nat} : ∀ (m : Nat) {L : List (Nat × Nat)} {x : Nat → Int}, L.length = m → Ok n L → Zr n L x → Min n L x → L ≠ [] → L.length + 1 ≤ cnt n (deg L) := by
 intro m
 induction m with
 | zero => intro L x hl _ _ _ hne; exact absurd (List.eq_nil_of_length_eq_zero hl) hne
 | succ m ih =>
  intro L x hl hok hz hm hne
  obtain ⟨i, e, hin, hle⟩ := hm.leaf hok hz hne
  have hd := deg_step hok hle
  have hlen := List.length_erase_of_mem hle.1
  by_cases h0 : L.erase e = []
  ·rw [h0] at hlen
   obtain ⟨hon, hne', _, hio⟩ := oth_spec hok hle.1 hle.2.1
   have := cnt_two (P := deg L) (n := n) (List.any_eq_true.2 ⟨e, hle.1, hle.2.1⟩) (List.any_eq_true.2 ⟨e, hle.1, hio⟩) hne' hin hon
   simp at hlen
   omega
  ·have := ih (x := mv x i (oth e i)) (by omega) (hok.erase e) (step_zr hok hz hle) (step_min hok hm hle) h0
   omega
theorem Min.small {n : Nat} {L : List (Nat × Nat)} {x : Nat → Int} (hok : Ok n L) (hz : Zr n L x) (hm : Min n L x) : L.length = 0 ∨ L.length + 1 ≤ n := by
 by_cases h : L = []
 ·left; rw [h]; rfl
 ·right; exact Nat.le_trans (hm.size _ rfl hok hz h) (cnt_le _ _)
theorem zr_nil {n : Nat} {x : Nat → Int} (h : Zr n [] x) : ∀ v, v < n → x v = 0 := fun v hv => by
 have h1 := h (flip (fun _ => false) v true) (fun _ h => by cases h)
 rw [sumP_flip hv] at h1
 have : ∀ n, sumP n x (fun _ => false) = 0 := by
  intro n
  induction n with
  | zero => rfl
  | succ n ih => unfold sumP; rw [ih]; rfl
 rw [this] at h1
 simpa using h1
theorem zr_zero {n : Nat} {L : List (Nat × Nat)} {x : Nat → Int} (h : ∀ v, v < n → x v = 0) : Zr n L x := fun P _ => by
 have : ∀ m, m ≤ n → sumP m x P = 0 := by
  intro m
  induction m with
  | zero => intro _; rfl
  | succ m ih => intro hm; unfold sumP; rw [ih (by omega), h m (by omega)]; simp
 exact this n (Nat.le_refl _)
end Go.Proofs.YtihonljdanjfmaaGreatDoor.Gr
namespace Go.Proofs.YtihonljdanjfmaaGreatDoor.Gr
open Go.Proofs.YtihonljdanjfmaaGreatDoor.Sw (Pay)
def payLt (a b : Pay) : Bool := if a.a ≠ b.a then decide (a.a < b.a) else if a.b ≠ b.b then decide (a.b < b.b) else decide (a.p < b.p)
def atP (l : List Pay) (x : Pay) : Nat := (l.takeWhile fun y => payLt y x).length
def addP (l : List Pay) (x : Pay) : List Pay := l.take (atP l x) ++ [x] ++ l.drop (atP l x)
def payX (ids : List Int) (i o : Nat) (c : Int) : Pay := if 0 < c then ⟨ids.getD o 0, ids.getD i 0, c⟩ else ⟨ids.getD i 0, ids.getD o 0, -c⟩
def mvL (l : List Int) (i o : Nat) : List Int := (l.set o (l.getD o 0 + l.getD i 0)).set i 0
def lf (l : List Int) : Nat → Int := fun v => l.getD v 0
def leafAt (L : List (Nat × Nat)) (i : Nat) : Option (Nat × (Nat × Nat)) := match L.filter (inc i) with | [e] => some (i, e) | _ => none
def findLeaf (n : Nat) (L : List (Nat × Nat)) : Option (Nat × (Nat × Nat)) := (List.range n).findSome? (leafAt L)
def treeGo (ids : List Int) : Nat → List (Nat × Nat) → List Int → List Pay → Option (List Int × List Pay)
 | 0, _, left, out => some (left, out)
 | m + 1, L, left, out => match findLeaf ids.length L with
  | none => none
  | some (i, e) => if left.getD i 0 = 0 then none else treeGo ids m (L.erase e) (mvL left i (oth e i)) (addP out (payX ids i (oth e i) (left.getD i 0)))
def treeR (ids : List Int) (L : List (Nat × Nat)) (owed : List Int) : Option (List Pay) := match treeGo ids L.length L owed [] with
 | some r => if r.1.all (fun n => decide (n = 0)) = true then some r.2 else none
 | none => none
theorem lf_mvL {l : List Int} {i o : Nat} (hi : i < l.length) (ho : o < l.length) : lf (mvL l i o) = mv (lf l) i o := by
 funext v
 simp only [lf, mvL, mv, upd]
 simp only [List.getD_eq_getElem?_getD, List.getElem?_set, List.length_set]
 by_cases h1 : v = i
 ·subst h1; simp [hi]
 ·rw [if_neg (fun e => h1 e.symm), if_neg h1]
  by_cases h2 : v = o
  ·subst h2; simp [ho]
  ·rw [if_neg (fun e => h2 e.symm), if_neg h2]
theorem mvL_len (l : List Int) (i o : Nat) : (mvL l i o).length = l.length := by simp [mvL]
theorem leafAt_some {L : List (Nat × Nat)} {i j : Nat} {e : Nat × Nat} (h : leafAt L i = some (j, e)) : j = i ∧ Leaf L i e := by
 unfold leafAt at h
 split at h
 ·rename_i e' he
  simp only [Option.some.injEq, Prod.mk.injEq] at h
  obtain ⟨rfl, rfl⟩ := h
  have h1 : e' ∈ L.filter (inc i) := by rw [he]; simp
  have h2 := List.mem_filter.1 h1
  refine ⟨rfl, h2.1, h2.2, fun p hp hi => ?_⟩
  have : p ∈ L.filter (inc i) := List.mem_filter.2 ⟨hp, hi⟩
  rw [he] at this
  simpa using this
 ·cases h
theorem leafAt_of {L : List (Nat × Nat)} (hn : L.Nodup) {i : Nat} {e : Nat × Nat} (h : Leaf L i e) : leafAt L i = some (i, e) := by
 have : L.filter (inc i) = [e] := by
  have hnd := hn.filter (inc i)
  have hm : e ∈ L.filter (inc i) := List.mem_filter.2 ⟨h.1, h.2.1⟩
  have ha : ∀ p ∈ L.filter (inc i), p = e := fun p hp => h.2.2 p (List.mem_filter.1 hp).1 (List.mem_filter.1 hp).2
  match hq : L.filter (inc i), hnd, hm, ha with
  | [], _, hm, _ => cases hm
  | [x], _, _, ha => rw [ha x (by simp)]
  | x :: y :: t, hnd, _, ha =>
   have h1 := ha x (by simp)
   have h2 := ha y (by simp)
   exact absurd (h1.trans h2.symm) (by intro hxy; subst hxy; simp at hnd)
 unfold leafAt
 rw [this]
theorem findLeaf_some {n : Nat} {L : List (Nat × Nat)} {i : Nat} {e : Nat × Nat} (h : findLeaf n L = some (i, e)) : i < n ∧ Leaf L i e := by
 obtain ⟨j, hj, h1⟩ := List.exists_of_findSome?_eq_some h
 obtain ⟨rfl, h2⟩ := leafAt_some h1
 exact ⟨List.mem_range.1 hj, h2⟩
theorem findLeaf_of {n : Nat} {L : List (Nat × Nat)} (hn : L.Nodup) {i : Nat} {e : Nat × Nat} (hi : i < n) (h : Leaf L i e) : ∃ r, findLeaf n L = some r := by
 cases hf : findLeaf n L with
 | some r => exact ⟨r, rfl⟩
 | none =>
  have := List.findSome?_eq_none_iff.1 hf i (List.mem_range.2 hi)
  rw [leafAt_of hn h] at this
  cases this
theorem treeGo_len {ids : List Int} : ∀ {m : Nat} {L : List (Nat × Nat)} {left : List Int} {out : List Pay} {r : List Int × List Pay}, treeGo ids m L left out = some r → r.1.length = left.length
 | 0, _, _, _, _, h => by simp [treeGo] at h; rw [← h]
 | m + 1, L, left, out, r, h => by
  unfold treeGo at h
  split at h
  ·cases h
  ·split at h
   ·cases h
   ·rw [treeGo_len h, mvL_len]
theorem treeGo_zr {ids : List Int} : ∀ {m : Nat} {L : List (Nat × Nat)} {left : List Int} {out : List Pay} {r : List Int × List Pay}, L.length = m → Ok ids.length L → left.length = ids.length → treeGo ids m L left out = some r → (∀ v, v < ids.length → lf r.1 v = 0) → Zr ids.length L (lf left)
 | 0, L, left, out, r, hl, hok, hlen, h, hz => by
  simp [treeGo] at h
  rw [← h] at hz
  exact zr_zero hz
 | m + 1, L, left, out, r, hl, hok, hlen, h, hz => by
  unfold treeGo at h
  split at h
  ·cases h
  ·rename_i i e hf
   split at h
   ·cases h
   ·obtain ⟨hi, hle⟩ := findLeaf_some hf
    obtain ⟨hon, hne, _, _⟩ := oth_spec hok hle.1 hle.2.1
    have h1 := treeGo_zr (by rw [List.length_erase_of_mem hle.1]; omega) (hok.erase e) (by rw [mvL_len, hlen]) h hz
    rw [lf_mvL (by omega) (by omega)] at h1
    exact step_zr_back hok hle.1 hle.2.1 h1
theorem all_zero {l : List Int} : l.all (fun n => decide (n = 0)) = true ↔ ∀ v, v < l.length → lf l v = 0 := by
 rw [List.all_eq_true]
 constructor
 ·intro h v hv
  have := h l[v] (List.getElem_mem hv)
  simpa [lf, List.getD_eq_getElem?_getD, List.getElem?_eq_getElem hv] using this
 ·intro h x hx
  obtain ⟨v, hv, rfl⟩ := List.getElem_of_mem hx
  have := h v hv
  simpa [lf, List.getD_eq_getElem?_getD, List.getElem?_eq_getElem hv] using this
theorem treeR_zr {ids : List Int} {L : List (Nat × Nat)} {owed : List Int} {out : List Pay} (hok : Ok ids.length L) (hlen : owed.length = ids.length) (h : treeR ids L owed = some out) : Zr ids.length L (lf owed) := by
 unfold treeR at h
 split at h
 ·rename_i r hr
  split at h
  ·rename_i ha
   have hl := treeGo_len hr
   exact treeGo_zr rfl hok hlen hr (by have := all_zero.1 ha; rw [hl, hlen] at this; exact this)
  ·cases h
 ·cases h
def pick {α : Type} : List α → Nat → List α
 | [], _ => []
 | p :: l, s => if s % 2 = 1 then p :: pick l (s / 2) else pick l (s / 2)
theorem pick_sub {α : Type} : ∀ (l : List α) (s : Nat), List.Sublist (pick l s) l
 | [], _ => List.Sublist.refl _
 | p :: l, s => by
  unfold pick
  split
  ·exact (pick_sub l _).cons_cons p
  ·exact (pick_sub l _).cons p
theorem sub_pick {α : Type} {S l : List α} (h : List.Sublist S l) : ∃ s, s < 2 ^ l.length ∧ pick l s = S := by
 induction h with
 | slnil => exact ⟨0, by simp, rfl⟩
 | cons a _ ih =>
  obtain ⟨s, h1, h2⟩ := ih
  refine ⟨2 * s, by simp [Nat.pow_succ]; omega, ?_⟩
  unfold pick
  rw [if_neg (by omega), show 2 * s / 2 = s by omega, h2]
 | cons_cons a _ ih =>
  obtain ⟨s, h1, h2⟩ := ih
  refine ⟨2 * s + 1, by simp [Nat.pow_succ]; omega, ?_⟩
  unfold pick
  rw [if_pos (by omega), show (2 * s + 1) / 2 = s by omega, h2]
theorem Ok.sub {n : Nat} {L S : List (Nat × Nat)} (h : Ok n L) (hs : List.Sublist S L) : Ok n S := ⟨h.nd.sublist hs, fun p hp => h.lt p (hs.subset hp)⟩
def mergeH (h : List Nat) (p : Nat × Nat) : List Nat := h.map fun v => if v = max (h.getD p.1 0) (h.getD p.2 0) then min (h.getD p.1 0) (h.getD p.2 0) else v
def headsR (n : Nat) (L : List (Nat × Nat)) : List Nat := L.foldl mergeH (List.range n)
def hf (h : List Nat) : Nat → Nat := fun v => h.getD v 0
theorem headsR_snoc (n : Nat) (L : List (Nat × Nat)) (p : Nat × Nat) : headsR n (L ++ [p]) = mergeH (headsR n L) p := by simp [headsR]
theorem hf_merge {h : List Nat} {p : Nat × Nat} {v : Nat} (hv : v < h.length) : hf (mergeH h p) v = if hf h v = max (hf h p.1) (hf h p.2) then min (hf h p.1) (hf h p.2) else hf h v := by
 simp only [hf, mergeH, List.getD_eq_getElem?_getD, List.getElem?_map, List.getElem?_eq_getElem hv, Option.map_some, Option.getD_some]
structure Lab (n : Nat) (L : List (Nat × Nat)) (h : List Nat) : Prop where
 len : h.length = n
 lt : ∀ v, v < n → hf h v < n
 one : ∀ p ∈ L, hf h p.1 = hf h p.2
 cl : ∀ P, Cl L P → ∀ v, v < n → P (hf h v) = P v
theorem lab_nil (n : Nat) : Lab n [] (List.range n) := by
 have : ∀ v, v < n → hf (List.range n) v = v := fun v hv => by simp [hf, List.getD_eq_getElem?_getD, hv]
 exact ⟨by simp, fun v hv => by rw [this v hv]; exact hv, fun _ h => (by cases h), fun P _ v hv => by rw [this v hv]⟩
theorem Lab.snoc {n : Nat} {L : List (Nat × Nat)} {h : List Nat} {p : Nat × Nat} (k : Lab n L h) (hL : ∀ q ∈ L, q.1 < n ∧ q.2 < n) (h1 : p.1 < n) (h2 : p.2 < n) : Lab n (L ++ [p]) (mergeH h p) := by
 have l1 := k.lt _ h1
 have l2 := k.lt _ h2
 refine ⟨by simp [mergeH, k.len], fun v hv => ?_, fun q hq => ?_, fun P hP v hv => ?_⟩
 ·rw [hf_merge (by rw [k.len]; exact hv)]
  split
  ·omega
  ·exact k.lt v hv
 ·rcases List.mem_append.1 hq with hq | hq
  ·have b := hL q hq
   rw [hf_merge (by rw [k.len]; exact b.1), hf_merge (by rw [k.len]; exact b.2), k.one q hq]
  ·obtain rfl : q = p := by simpa using hq
   rw [hf_merge (by rw [k.len]; exact h1), hf_merge (by rw [k.len]; exact h2)]
   split <;> split <;> omega
 ·have hcl : Cl L P := fun q hq => hP q (List.mem_append.2 (.inl hq))
  have e0 := k.cl P hcl v hv
  have e1 := k.cl P hcl _ h1
  have e2 := k.cl P hcl _ h2
  have e3 : P p.1 = P p.2 := hP p (by simp)
  rw [hf_merge (by rw [k.len]; exact hv)]
  split
  ·rename_i e'
   rw [← e0, e']
   rcases Nat.le_total (hf h p.1) (hf h p.2) with hle | hle
   ·rw [Nat.min_eq_left hle, Nat.max_eq_right hle, e1, e2, e3]
   ·rw [Nat.min_eq_right hle, Nat.max_eq_left hle, e1, e2, e3]
  ·exact e0
theorem lab_heads {n : Nat} {L : List (Nat × Nat)} (h : ∀ p ∈ L, p.1 < n ∧ p.2 < n) : ∀ k, k ≤ L.length → Lab n (L.take k) (headsR n (L.take k)) := by
 intro k
 induction k with
 | zero => intro _; exact lab_nil n
 | succ k ih =>
  intro hk
  have h1 := h L[k] (List.getElem_mem (by omega))
  rw [List.take_succ_eq_append_getElem (by omega), headsR_snoc]
  exact (ih (by omega)).snoc (fun q hq => h q (List.mem_of_mem_take hq)) h1.1 h1.2
theorem lab_all {n : Nat} {L : List (Nat × Nat)} (h : ∀ p ∈ L, p.1 < n ∧ p.2 < n) : Lab n L (headsR n L) := by
 have := lab_heads h L.length (Nat.le_refl _)
 rwa [List.take_length] at this
def sumN : Nat → (Nat → Int) → Int
 | 0, _ => 0
 | n + 1, g => sumN n g + g n
theorem sumN_succ (n : Nat) (g : Nat → Int) : sumN (n + 1) g = sumN n g + g n := rfl
theorem sumN_add (f : Nat → Int) (j : Nat) (c : Int) : ∀ {m : Nat}, j < m → sumN m (fun k => f k + if j = k then c else 0) = sumN m f + c
 | m + 1, h => by
  rw [sumN_succ, sumN_succ]
  by_cases e : j = m
  ·subst e
   have : ∀ m, m ≤ j → sumN m (fun k => f k + if j = k then c else 0) = sumN m f := by
    intro m
    induction m with
    | zero => intro _; rfl
    | succ m ih => intro hm; rw [sumN_succ, sumN_succ, ih (by omega), if_neg (by omega)]; omega
   rw [this j (Nat.le_refl _), if_pos rfl]; omega
  ·rw [sumN_add f j c (by omega), if_neg e]; omega
theorem sumN_zero (m : Nat) : sumN m (fun _ => 0) = 0 := by
 induction m with
 | zero => rfl
 | succ m ih => unfold sumN; rw [ih]; rfl
theorem sumN_congr {f g : Nat → Int} (h : ∀ k, f k = g k) (m : Nat) : sumN m f = sumN m g := by rw [funext h]
theorem sum_by {x : Nat → Int} {P : Nat → Bool} {h : Nat → Nat} {m : Nat} : ∀ {n : Nat}, (∀ v, v < n → h v < m) → (∀ v, v < n → P (h v) = P v) → sumP n x P = sumN m fun k => if P k then sumP n x (fun v => decide (h v = k)) else 0
 | 0, _, _ => by
  rw [sumN_congr (g := fun _ => 0) (fun k => by split <;> rfl), sumN_zero]; rfl
 | n + 1, h1, h2 => by
  have ih := sum_by (x := x) (P := P) (h := h) (m := m) (n := n) (fun v hv => h1 v (by omega)) (fun v hv => h2 v (by omega))
  rw [sumN_congr (g := fun k => (if P k then sumP n x (fun v => decide (h v = k)) else 0) + if h n = k then (if P n then x n else 0) else 0) (fun k => ?_), sumN_add _ _ _ (h1 n (by omega)), ← ih]
  ·rfl
  ·have hs : sumP (n + 1) x (fun v => decide (h v = k)) = sumP n x (fun v => decide (h v = k)) + (if decide (h n = k) = true then x n else 0) := rfl
   rw [hs]
   by_cases e : h n = k
   ·subst e
    rw [if_pos rfl, h2 n (by omega)]
    cases P n <;> simp
   ·rw [if_neg e]
    have : decide (h n = k) = false := decide_eq_false e
    rw [this]
    cases P k <;> simp
theorem even_iff {n : Nat} {L : List (Nat × Nat)} {h : List Nat} {x : Nat → Int} (k : Lab n L h) : (∀ j, sumP n x (fun v => decide (hf h v = j)) = 0) ↔ Zr n L x := by
 constructor
 ·intro h0 P hP
  rw [sum_by (m := n) k.lt (k.cl P hP), sumN_congr (g := fun _ => 0) (fun j => by rw [h0 j]; split <;> rfl), sumN_zero]
 ·intro hz j
  exact hz _ fun p hp => by rw [k.one p hp]
end Go.Proofs.YtihonljdanjfmaaGreatDoor.Gr
namespace Go.Proofs.YtihonljdanjfmaaGreatDoor.Gr
open Go.Proofs.YtihonljdanjfmaaGreatDoor.Sw (Pay)
def Forest (L : List (Nat × Nat)) : Prop := ∀ e ∈ L, ∃ P, Cl (L.erase e) P ∧ P e.1 ≠ P e.2
structure Side (L : List (Nat × Nat)) (e : Nat × Nat) (i o : Nat) (Q : Nat → Bool) : Prop where
 cl : Cl (L.erase e) Q
 inn : Q i = true
 out : Q o = false
theorem sumP_split (n : Nat) (x : Nat → Int) (P Q : Nat → Bool) : sumP n x P = sumP n x (fun v => P v && Q v) + sumP n x (fun v => P v && !Q v) := by
 induction n with
 | zero => rfl
 | succ n ih =>
  unfold sumP
  rw [ih]
  dsimp only
  by_cases hP : P n = true <;> by_cases hQ : Q n = true <;> simp [hP, hQ] <;> omega
theorem sumP_or (n : Nat) (x : Nat → Int) (P Q : Nat → Bool) : sumP n x (fun v => P v || Q v) = sumP n x P + sumP n x Q - sumP n x (fun v => P v && Q v) := by
 induction n with
 | zero => rfl
 | succ n ih =>
  unfold sumP
  rw [ih]
  dsimp only
  by_cases hP : P n = true <;> by_cases hQ : Q n = true <;> simp [hP, hQ] <;> omega
theorem sumP_not (n : Nat) (x : Nat → Int) (P : Nat → Bool) : sumP n x (fun v => !P v) = sumP n x (fun _ => true) - sumP n x P := by
 induction n with
 | zero => rfl
 | succ n ih =>
  unfold sumP
  rw [ih]
  dsimp only
  by_cases hP : P n = true <;> simp [hP] <;> omega
theorem cl_of_erase {L : List (Nat × Nat)} {e : Nat × Nat} {Q : Nat → Bool} (hn : L.Nodup) (h : Cl (L.erase e) Q) (he : e ∈ L → Q e.1 = Q e.2) : Cl L Q := fun p hp => by
 by_cases hpe : p = e
 ·subst hpe; exact he hp
 ·exact h p ((hn.mem_erase_iff).2 ⟨hpe, hp⟩)
def Ends (e : Nat × Nat) (i o : Nat) : Prop := (e.1 = i ∧ e.2 = o) ∨ (e.1 = o ∧ e.2 = i)
theorem Ends.swap {e : Nat × Nat} {i o : Nat} (h : Ends e i o) : Ends e o i := h.elim (fun h => .inr h) (fun h => .inl h)
theorem side_sum {n : Nat} {L : List (Nat × Nat)} {x : Nat → Int} (hn : L.Nodup) (hz : Zr n L x) {e : Nat × Nat} {i o : Nat} (he : Ends e i o) {Q R : Nat → Bool} (h : Side L e i o Q) (k : Side L e i o R) : sumP n x Q = sumP n x R := by
 have z1 : sumP n x (fun v => Q v && !R v) = 0 := hz _ (cl_of_erase (e := e) hn (fun p hp => by show (Q p.1 && !R p.1) = _; rw [h.cl p hp, k.cl p hp]) fun _ => by
  rcases he with ⟨a, b⟩ | ⟨a, b⟩ <;> simp [a, b, h.inn, h.out, k.inn, k.out])
 have z2 : sumP n x (fun v => R v && !Q v) = 0 := hz _ (cl_of_erase (e := e) hn (fun p hp => by show (R p.1 && !Q p.1) = _; rw [h.cl p hp, k.cl p hp]) fun _ => by
  rcases he with ⟨a, b⟩ | ⟨a, b⟩ <;> simp [a, b, h.inn, h.out, k.inn, k.out])
 have s1 := sumP_split n x Q R
 have s2 := sumP_split n x R Q
 have e3 : sumP n x (fun v => Q v && R v) = sumP n x (fun v => R v && Q v) := sumP_congr (fun _ _ => rfl) (fun v _ => Bool.and_comm _ _)
 omega
theorem Side.swap {L : List (Nat × Nat)} {e : Nat × Nat} {i o : Nat} {Q : Nat → Bool} (h : Side L e i o Q) : Side L e o i (fun v => !Q v) := ⟨fun p hp => by show (!Q p.1) = _; rw [h.cl p hp], by simp [h.out], by simp [h.inn]⟩
theorem side_of {L : List (Nat × Nat)} (hf : Forest L) {e : Nat × Nat} (he : e ∈ L) {i o : Nat} (hio : Ends e i o) : ∃ Q, Side L e i o Q := by
 obtain ⟨P, h1, h2⟩ := hf e he
 have hne : P i ≠ P o := by rcases hio with ⟨a, b⟩ | ⟨a, b⟩ <;> rw [a, b] at h2 <;> first | exact h2 | exact h2.symm
 cases hi : P i with
 | true => exact ⟨P, h1, hi, by rw [hi] at hne; simpa using hne.symm⟩
 | false => exact ⟨fun v => !P v, fun p hp => by show (!P p.1) = _; rw [h1 p hp], by simp [hi], by rw [hi] at hne; simpa using hne.symm⟩
noncomputable def amt (n : Nat) (x : Nat → Int) (L : List (Nat × Nat)) (e : Nat × Nat) : Int := @dite _ (∃ Q, Side L e e.2 e.1 Q) (Classical.propDecidable _) (fun h => sumP n x h.choose) fun _ => 0
theorem amt_side {n : Nat} {L : List (Nat × Nat)} {x : Nat → Int} (hn : L.Nodup) (hz : Zr n L x) {e : Nat × Nat} {Q : Nat → Bool} (h : Side L e e.2 e.1 Q) : amt n x L e = sumP n x Q := by
 have hex : ∃ Q, Side L e e.2 e.1 Q := ⟨Q, h⟩
 unfold amt
 rw [dif_pos hex]
 exact side_sum hn hz (.inr ⟨rfl, rfl⟩) hex.choose_spec h
theorem amt_swap {n : Nat} {L : List (Nat × Nat)} {x : Nat → Int} (hn : L.Nodup) (hz : Zr n L x) {e : Nat × Nat} {Q : Nat → Bool} (h : Side L e e.1 e.2 Q) : amt n x L e = - sumP n x Q := by
 rw [amt_side hn hz h.swap, sumP_not, hz (fun _ => true) (fun _ _ => rfl)]; omega
noncomputable def payE (ids : List Int) (x : Nat → Int) (L : List (Nat × Nat)) (e : Nat × Nat) : Pay :=
 if amt ids.length x L e < 0 then ⟨ids.getD e.2 0, ids.getD e.1 0, - amt ids.length x L e⟩ else ⟨ids.getD e.1 0, ids.getD e.2 0, amt ids.length x L e⟩
theorem payE_side {ids : List Int} {L : List (Nat × Nat)} {x : Nat → Int} (hn : L.Nodup) (hz : Zr ids.length L x) {e : Nat × Nat} {i : Nat} (hi : inc i e = true) {Q : Nat → Bool} (h : Side L e i (oth e i) Q) (h0 : sumP ids.length x Q ≠ 0) : payE ids x L e = payX ids i (oth e i) (sumP ids.length x Q) := by
 unfold payE payX
 rcases inc_iff.1 hi with h1 | h1
 ·have h2 : oth e i = e.2 := by unfold oth; omega
  rw [h2] at h ⊢
  subst h1
  rw [amt_swap hn hz h]
  by_cases hc : 0 < sumP ids.length x Q
  ·rw [if_pos hc, if_pos (by omega), Int.neg_neg]
  ·rw [if_neg hc, if_neg (by omega)]
 ·have h2 : oth e i = e.1 := by unfold oth; omega
  rw [h2] at h ⊢
  subst h1
  rw [amt_side hn hz h]
  by_cases hc : 0 < sumP ids.length x Q
  ·rw [if_pos hc, if_neg (by omega)]
  ·rw [if_neg hc, if_pos (by omega)]
def behS (at_ fr : Nat) (b : Nat → Int) (n : Int) (p : Nat × Nat) : Int :=
 (fun n1 : Int => if p.2 = at_ ∧ p.1 ≠ fr then n1 + b p.1 else n1) (if p.1 = at_ ∧ p.2 ≠ fr then n + b p.2 else n)
def behR (x : Nat → Int) (L : List (Nat × Nat)) : Nat → Nat → Nat → Int
 | 0, _, _ => 0
 | m + 1, a, fr => L.foldl (behS a fr fun b => behR x L m b a) (x a)
structure Good (n : Nat) (L : List (Nat × Nat)) (m a fr : Nat) : Prop where
 go : ∃ e ∈ L, Ends e a fr ∧ ∃ P, Side L e a fr P ∧ cnt n P ≤ m
def Ord (L : List (Nat × Nat)) : Prop := ∀ p ∈ L, p.1 < p.2
theorem ends_uniq {L : List (Nat × Nat)} (ho : Ord L) {p e : Nat × Nat} (hp : p ∈ L) (he : e ∈ L) {a b : Nat} (h1 : Ends p a b) (h2 : Ends e a b) : p = e := by
 have := ho p hp
 have := ho e he
 obtain ⟨p1, p2⟩ := p
 obtain ⟨e1, e2⟩ := e
 unfold Ends at h1 h2
 simp only [Prod.mk.injEq] at *
 rcases h1 with ⟨r1, r2⟩ | ⟨r1, r2⟩ <;> rcases h2 with ⟨r3, r4⟩ | ⟨r3, r4⟩ <;> omega
theorem cnt_pos {P : Nat → Bool} {t : Nat} (h : P t = true) : ∀ {n : Nat}, t < n → 0 < cnt n P
 | n + 1, ht => by
  unfold cnt
  by_cases e : t = n
  ·subst e; rw [if_pos h]; omega
  ·have := cnt_pos h (n := n) (by omega); omega
theorem good_pos {n : Nat} {L : List (Nat × Nat)} (hok : Ok n L) {m a fr : Nat} (h : Good n L m a fr) : 0 < m ∧ a < n ∧ fr < n := by
 obtain ⟨e, he, hio, P, hs, hc⟩ := h.go
 obtain ⟨h1, h2, _⟩ := hok.lt e he
 have ha : a < n ∧ fr < n := by rcases hio with ⟨r1, r2⟩ | ⟨r1, r2⟩ <;> omega
 have := cnt_pos hs.inn ha.1
 exact ⟨by omega, ha⟩
theorem good_step {n : Nat} {L : List (Nat × Nat)} (hok : Ok n L) (ho : Ord L) (hf : Forest L) {m a fr : Nat} (h : Good n L (m + 1) a fr) {p : Nat × Nat} (hp : p ∈ L) {b : Nat} (hpb : Ends p a b) (hb : b ≠ fr) : Good n L m b a := by
 have h0 := good_pos hok h
 obtain ⟨e, he, hio, P, hs, hc⟩ := h.go
 have hpe : p ≠ e := fun heq => by
  subst heq
  have := ho p hp
  rcases hpb with ⟨r1, r2⟩ | ⟨r1, r2⟩ <;> rcases hio with ⟨r3, r4⟩ | ⟨r3, r4⟩ <;> omega
 obtain ⟨Q, hQ⟩ := side_of hf hp hpb.swap
 have hPp : P p.1 = P p.2 := hs.cl p ((hok.nd.mem_erase_iff).2 ⟨hpe, hp⟩)
 have hPb : P b = true := by rcases hpb with ⟨r1, r2⟩ | ⟨r1, r2⟩ <;> rw [r1, r2] at hPp <;> (rw [← hs.inn]; first | exact hPp | exact hPp.symm)
 have hQe : Q e.1 = Q e.2 := hQ.cl e ((hok.nd.mem_erase_iff).2 ⟨fun h => hpe h.symm, he⟩)
 have hQfr : Q fr = false := by rcases hio with ⟨r1, r2⟩ | ⟨r1, r2⟩ <;> rw [r1, r2] at hQe <;> (rw [← hQ.out]; first | exact hQe | exact hQe.symm)
 refine ⟨p, hp, hpb.swap, fun v => P v && Q v, ⟨fun q hq => ?_, by simp [hPb, hQ.inn], by simp [hQ.out]⟩, ?_⟩
 ·have hq' := (hok.nd.mem_erase_iff).1 hq
  show (P q.1 && Q q.1) = (P q.2 && Q q.2)
  by_cases hqe : q = e
  ·subst hqe
   rcases hio with ⟨r1, r2⟩ | ⟨r1, r2⟩ <;> simp [r1, r2, hs.out, hQ.out, hQfr]
  ·rw [hQ.cl q hq, hs.cl q ((hok.nd.mem_erase_iff).2 ⟨hqe, hq'.2⟩)]
 ·have := cnt_lt (P := P) (Q := fun v => P v && Q v) (t := a) (fun v h => by simp at h; exact h.1) hs.inn (by simp [hQ.out]) (n := n) h0.2.1
  omega
theorem sumP_none (n : Nat) (x : Nat → Int) : sumP n x (fun _ => false) = 0 := by
 induction n with
 | zero => rfl
 | succ n ih => unfold sumP; rw [ih]; rfl
theorem beh_sum {n : Nat} {x : Nat → Int} {L : List (Nat × Nat)} (hok : Ok n L) (ho : Ord L) (hf : Forest L) (hz : Zr n L x) : ∀ (m a fr : Nat) (e : Nat × Nat), e ∈ L → Ends e a fr → Good n L m a fr → ∃ Q, Side L e a fr Q ∧ behR x L m a fr = sumP n x Q := by
 intro m
 induction m with
 | zero => intro a fr e _ _ hg; exact absurd (good_pos hok hg).1 (Nat.lt_irrefl _)
 | succ m ih =>
  intro a fr e he hio hg
  obtain ⟨_, han, hfn⟩ := good_pos hok hg
  have haf : a ≠ fr := by
   have := (hok.lt e he).2.2
   rcases hio with ⟨r1, r2⟩ | ⟨r1, r2⟩ <;> omega
  have key : ∀ (L2 L1 : List (Nat × Nat)) (U : Nat → Bool), L = L1 ++ L2 → U a = true → U fr = false → (∀ p ∈ L, inc a p = false → U p.1 = U p.2) → (∀ p ∈ L1, p ≠ e → inc a p = true → U p.1 = U p.2) → (∀ p ∈ L2, p ≠ e → ∀ c, Ends p a c → U c = false) →
    ∃ Q, Side L e a fr Q ∧ L2.foldl (behS a fr fun b => behR x L m b a) (sumP n x U) = sumP n x Q := by
   intro L2
   induction L2 with
   | nil =>
    intro L1 U hL ha hfr hB hC _
    rw [List.append_nil] at hL
    subst hL
    refine ⟨U, ⟨fun p hp => ?_, ha, hfr⟩, rfl⟩
    have hp' := (hok.nd.mem_erase_iff).1 hp
    cases hi : inc a p with
    | true => exact hC p hp'.2 hp'.1 hi
    | false => exact hB p hp'.2 hi
   | cons p L2 ih2 =>
    intro L1 U hL ha hfr hB hC hD
    have hpL : p ∈ L := by rw [hL]; simp
    have hL' : L = (L1 ++ [p]) ++ L2 := by rw [hL]; simp
    rw [List.foldl_cons]
    have hsub2 : ∀ q ∈ L2, q ∈ L ∧ q ≠ p := fun q hq => ⟨by rw [hL]; simp [hq], fun h => by
     have := hok.nd
     rw [hL, List.nodup_append] at this
     have h2 := this.2.1
     rw [List.nodup_cons] at h2
     exact h2.1 (h ▸ hq)⟩
    -- a step by an edge from a to b
    have go : ∀ b, Ends p a b → b ≠ fr → ∃ Q, Side L e a fr Q ∧ L2.foldl (behS a fr fun b => behR x L m b a) (sumP n x U + behR x L m b a) = sumP n x Q := by
     intro b hpb hb
     have hpe : p ≠ e := fun heq => by
      subst heq
      rcases hpb with ⟨r1, r2⟩ | ⟨r1, r2⟩ <;> rcases hio with ⟨r3, r4⟩ | ⟨r3, r4⟩ <;> omega
     obtain ⟨Q, hQ, hbq⟩ := ih b a p hpL hpb.swap (good_step hok ho hf hg hpL hpb hb)
     have hQc : ∀ q ∈ L, q ≠ p → ∀ c, Ends q a c → Q c = false := fun q hq hne c hc => by
      have := hQ.cl q ((hok.nd.mem_erase_iff).2 ⟨hne, hq⟩)
      rcases hc with ⟨r1, r2⟩ | ⟨r1, r2⟩ <;> rw [r1, r2] at this <;> (rw [← hQ.out]; first | exact this | exact this.symm)
     have hUb : U b = false := hD p (by simp) hpe b hpb
     have hR : sumP n x (fun v => U v && Q v) = 0 := hz _ fun q hq => by
      show (U q.1 && Q q.1) = (U q.2 && Q q.2)
      cases hi : inc a q with
      | false =>
       have hqp : q ≠ p := fun h => by subst h; rcases hpb with ⟨r1, r2⟩ | ⟨r1, r2⟩ <;> simp [inc, r1, r2] at hi
       rw [hB q hq hi, hQ.cl q ((hok.nd.mem_erase_iff).2 ⟨hqp, hq⟩)]
      | true =>
       by_cases hqp : q = p
       ·subst hqp
        rcases hpb with ⟨r1, r2⟩ | ⟨r1, r2⟩ <;> simp [r1, r2, hUb, hQ.out]
       ·rcases inc_iff.1 hi with r | r
        ·have := hQc q hq hqp q.2 (.inl ⟨r, rfl⟩)
         simp [r, this, hQ.out]
        ·have := hQc q hq hqp q.1 (.inr ⟨rfl, r⟩)
         simp [r, this, hQ.out]
     have hs : sumP n x U + behR x L m b a = sumP n x (fun v => U v || Q v) := by rw [sumP_or, hR, hbq]; omega
     rw [hs]
     refine ih2 (L1 ++ [p]) _ hL' (by simp [ha]) (by simp [hfr, hQc e he (fun h => hpe h.symm) fr hio]) (fun q hq hi => ?_) (fun q hq hne hi => ?_) (fun q hq hne c hc => ?_)
     ·show (U q.1 || Q q.1) = (U q.2 || Q q.2)
      have hqp : q ≠ p := fun h => by subst h; rcases hpb with ⟨r1, r2⟩ | ⟨r1, r2⟩ <;> simp [inc, r1, r2] at hi
      rw [hB q hq hi, hQ.cl q ((hok.nd.mem_erase_iff).2 ⟨hqp, hq⟩)]
     ·show (U q.1 || Q q.1) = (U q.2 || Q q.2)
      rcases List.mem_append.1 hq with hq | hq
      ·have := hC q hq hne hi
       rcases inc_iff.1 hi with r | r
       ·rw [r, ha] at this; simp [r, ha, ← this]
       ·rw [r, ha] at this; simp [r, ha, this]
      ·have : q = p := by simpa using hq
       subst this
       rcases hpb with ⟨r1, r2⟩ | ⟨r1, r2⟩ <;> simp [r1, r2, ha, hQ.inn]
     ·simp [hD q (by simp [hq]) hne c hc, hQc q (hsub2 q hq).1 (hsub2 q hq).2 c hc]
    have stay : (∀ b, Ends p a b → b = fr) → ∃ Q, Side L e a fr Q ∧ L2.foldl (behS a fr fun b => behR x L m b a) (sumP n x U) = sumP n x Q := by
     intro hall
     refine ih2 (L1 ++ [p]) U hL' ha hfr hB (fun q hq hne hi => ?_) (fun q hq hne c hc => hD q (by simp [hq]) hne c hc)
     rcases List.mem_append.1 hq with hq | hq
     ·exact hC q hq hne hi
     ·have : q = p := by simpa using hq
      subst this
      exfalso
      rcases inc_iff.1 hi with r | r
      ·have h1 := hall q.2 (.inl ⟨r, rfl⟩)
       exact hne (ends_uniq ho hpL he (.inl ⟨r, h1⟩) hio)
      ·have h1 := hall q.1 (.inr ⟨rfl, r⟩)
       exact hne (ends_uniq ho hpL he (.inr ⟨h1, r⟩) hio)
    have hlt := (hok.lt p hpL).2.2
    unfold behS
    by_cases c1 : p.1 = a ∧ p.2 ≠ fr
    ·rw [if_pos c1]
     dsimp only
     rw [if_neg (fun h => hlt (c1.1.trans h.1.symm))]
     exact go p.2 (.inl ⟨c1.1, rfl⟩) c1.2
    ·rw [if_neg c1]
     dsimp only
     by_cases c2 : p.2 = a ∧ p.1 ≠ fr
     ·rw [if_pos c2]
      exact go p.1 (.inr ⟨rfl, c2.1⟩) c2.2
     ·rw [if_neg c2]
      refine stay fun b hb => ?_
      rcases hb with ⟨r1, r2⟩ | ⟨r1, r2⟩
      ·exact Classical.not_not.1 fun h => c1 ⟨r1, by rw [r2]; exact h⟩
      ·exact Classical.not_not.1 fun h => c2 ⟨r2, by rw [r1]; exact h⟩
  have hU := key L [] (flip (fun _ => false) a true) rfl (by simp [flip]) (by unfold flip; rw [if_neg (fun h => haf h.symm)]) (fun p hp hi => by
   have h1 : p.1 ≠ a := fun h => by simp [inc, h] at hi
   have h2 : p.2 ≠ a := fun h => by simp [inc, h] at hi
   unfold flip; rw [if_neg h1, if_neg h2]) (fun p hp => by cases hp) (fun p hp hne c hc => by
   have := (hok.lt p hp).2.2
   unfold flip
   rw [if_neg]
   rcases hc with ⟨r1, r2⟩ | ⟨r1, r2⟩ <;> omega)
  rw [sumP_flip han, sumP_none] at hU
  simpa [behR] using hU
theorem beh_amt {n : Nat} {x : Nat → Int} {L : List (Nat × Nat)} (hok : Ok n L) (ho : Ord L) (hf : Forest L) (hz : Zr n L x) {e : Nat × Nat} (he : e ∈ L) : behR x L n e.2 e.1 = amt n x L e := by
 have hE : Ends e e.2 e.1 := .inr ⟨rfl, rfl⟩
 obtain ⟨P, hP⟩ := side_of hf he hE
 obtain ⟨Q, h1, h2⟩ := beh_sum hok ho hf hz n e.2 e.1 e he hE ⟨e, he, hE, P, hP, cnt_le _ _⟩
 rw [h2, amt_side hok.nd hz h1]
end Go.Proofs.YtihonljdanjfmaaGreatDoor.Gr
namespace Go.Proofs.YtihonljdanjfmaaGreatDoor.Gr
open Go.Proofs.YtihonljdanjfmaaGreatDoor.Sw (Pay)
def SortedP (l : List Pay) : Prop := l.Pairwise fun a b => payLt b a = false
theorem payLt_iff {a b : Pay} : payLt a b = true ↔ a.a < b.a ∨ (a.a = b.a ∧ (a.b < b.b ∨ (a.b = b.b ∧ a.p < b.p))) := by
 unfold payLt
 by_cases h1 : a.a = b.a
 ·by_cases h2 : a.b = b.b
  ·simp [h1, h2]
  ·simp [h1, h2]
 ·simp [h1]
theorem payLt_no {a b : Pay} : payLt a b = false ↔ b.a < a.a ∨ (a.a = b.a ∧ (b.b < a.b ∨ (a.b = b.b ∧ b.p ≤ a.p))) := by
 rw [← Bool.not_eq_true, payLt_iff]
 omega
theorem payLt_anti {a b : Pay} (h : payLt a b = false) (k : payLt b a = false) : a = b := by
 rw [payLt_no] at h k
 obtain ⟨a1, a2, a3⟩ := a
 obtain ⟨b1, b2, b3⟩ := b
 simp only [Pay.mk.injEq] at *
 omega
theorem sorted_uniq : ∀ {l l' : List Pay}, SortedP l → SortedP l' → l.Perm l' → l = l'
 | [], l', _, _, p => p.nil_eq
 | a :: t, l', h, h', p => by
  obtain ⟨h1, h2⟩ := List.pairwise_cons.1 h
  match l', p with
  | [], p => exact absurd p.length_eq (by simp)
  | b :: t', p =>
   obtain ⟨h3, h4⟩ := List.pairwise_cons.1 h'
   have hab : a = b := by
    have ha : a ∈ b :: t' := p.mem_iff.1 (by simp)
    have hb : b ∈ a :: t := p.mem_iff.2 (by simp)
    rcases List.mem_cons.1 ha with e | ha
    ·exact e
    ·rcases List.mem_cons.1 hb with e | hb
     ·exact e.symm
     ·exact payLt_anti (h3 a ha |> fun q => by simpa using q) (by simpa using h1 b hb) |>.symm ▸ rfl
   subst hab
   rw [sorted_uniq h2 h4 ((List.perm_cons a).1 p)]
theorem addP_perm (l : List Pay) (x : Pay) : (addP l x).Perm (x :: l) := by
 unfold addP
 rw [List.append_assoc]
 refine (List.perm_append_comm_assoc _ _ _).trans ?_
 simp
theorem takeWhile_split (q : Pay → Bool) : ∀ l : List Pay, l.take (l.takeWhile q).length = l.takeWhile q ∧ l.drop (l.takeWhile q).length = l.dropWhile q
 | [] => ⟨rfl, rfl⟩
 | a :: t => by
  have ih := takeWhile_split q t
  cases h : q a with
  | true => simp [h, ih.1, ih.2]
  | false => simp [h]
theorem dropWhile_head {q : Pay → Bool} : ∀ {l : List Pay} {b : Pay} {t : List Pay}, l.dropWhile q = b :: t → q b = false
 | [], _, _, h => by cases h
 | a :: l, b, t, h => by
  cases ha : q a with
  | true => rw [List.dropWhile_cons_of_pos ha] at h; exact dropWhile_head h
  | false => rw [List.dropWhile_cons_of_neg (by simp [ha])] at h; injection h with h1 h2; rw [← h1]; exact ha
theorem addP_sorted {l : List Pay} {x : Pay} (h : SortedP l) : SortedP (addP l x) := by
 unfold addP atP
 obtain ⟨e1, e2⟩ := takeWhile_split (fun y => payLt y x) l
 rw [e1, e2, List.append_assoc]
 have hl : l = l.takeWhile (fun y => payLt y x) ++ l.dropWhile (fun y => payLt y x) := (List.takeWhile_append_dropWhile).symm
 have h' : SortedP (l.takeWhile (fun y => payLt y x) ++ l.dropWhile (fun y => payLt y x)) := by rw [← hl]; exact h
 obtain ⟨k1, k2, k3⟩ := List.pairwise_append.1 h'
 have hx : ∀ b ∈ l.dropWhile (fun y => payLt y x), payLt b x = false := fun b hb => by
  cases hd : l.dropWhile (fun y => payLt y x) with
  | nil => rw [hd] at hb; cases hb
  | cons c t =>
   have hc := dropWhile_head hd
   rw [hd] at hb k2
   rcases List.mem_cons.1 hb with rfl | hb
   ·exact hc
   ·have := (List.pairwise_cons.1 k2).1 b hb
    rw [payLt_no] at hc this ⊢
    omega
 refine List.pairwise_append.2 ⟨k1, List.pairwise_cons.2 ⟨hx, k2⟩, fun a ha b hb => ?_⟩
 have ha' : payLt a x = true := by
  have := List.all_takeWhile (p := fun y => payLt y x) (l := l)
  exact List.all_eq_true.1 this a ha
 rcases List.mem_cons.1 hb with rfl | hb
 ·rw [payLt_iff] at ha'
  rw [payLt_no]; omega
 ·exact k3 a ha b hb
theorem Forest.sub {L S : List (Nat × Nat)} (h : Forest L) (hL : L.Nodup) (hn : S.Nodup) (hs : ∀ p ∈ S, p ∈ L) : Forest S := fun e he => by
 obtain ⟨P, h1, h2⟩ := h e (hs e he)
 exact ⟨P, fun p hp => h1 p (by
  have := (hn.mem_erase_iff).1 hp
  exact (hL.mem_erase_iff).2 ⟨this.1, hs p this.2⟩), h2⟩
theorem forest_back {n : Nat} {L : List (Nat × Nat)} (hok : Ok n L) {i : Nat} {e : Nat × Nat} (hl : Leaf L i e) (h : Forest (L.erase e)) : Forest L := fun e' he' => by
 obtain ⟨he, hi, hu⟩ := hl
 obtain ⟨_, hne, hin, _⟩ := oth_spec hok he hi
 have noi : ∀ p ∈ L, p ≠ e → p.1 ≠ i ∧ p.2 ≠ i := fun p hp hpe => by
  have : inc i p ≠ true := fun h => hpe (hu p hp h)
  exact ⟨fun h => this (by simp [inc, h]), fun h => this (by simp [inc, h])⟩
 by_cases hee : e' = e
 ·subst hee
  refine ⟨flip (fun _ => false) i true, fun p hp => ?_, ?_⟩
  ·have hp' := (hok.nd.mem_erase_iff).1 hp
   obtain ⟨a, b⟩ := noi p hp'.2 hp'.1
   unfold flip; rw [if_neg a, if_neg b]
  ·have := (hok.lt e' he).2.2
   rcases inc_iff.1 hi with r | r
   ·unfold flip; rw [if_pos r, if_neg (fun h => this (r.trans h.symm))]; simp
   ·unfold flip; rw [if_pos r, if_neg (fun h => this (h.trans r.symm))]; simp
 ·obtain ⟨P, h1, h2⟩ := h e' ((hok.nd.mem_erase_iff).2 ⟨hee, he'⟩)
  have hl' : Leaf (L.erase e') i e := ⟨(hok.nd.mem_erase_iff).2 ⟨fun h => hee h.symm, he⟩, hi, fun p hp h => hu p (List.mem_of_mem_erase hp) h⟩
  refine ⟨_, cl_flip (hok.erase e') hl' (P := P) (by rw [erase_erase]; exact h1), ?_⟩
  obtain ⟨a, b⟩ := noi e' he' hee
  unfold flip; rw [if_neg a, if_neg b]; exact h2
theorem Forest.leaf {n : Nat} {L : List (Nat × Nat)} (hok : Ok n L) (hf : Forest L) (hne : L ≠ []) : ∃ i e, i < n ∧ Leaf L i e := by
 obtain ⟨e, he⟩ := List.exists_mem_of_ne_nil L hne
 obtain ⟨P, h1, h2⟩ := hf e he
 exact leaf_of_bridges hok hf _ e P he h1 h2 rfl
theorem treeGo_forest {ids : List Int} : ∀ {m : Nat} {L : List (Nat × Nat)} {left : List Int} {out : List Pay} {r : List Int × List Pay}, L.length = m → Ok ids.length L → treeGo ids m L left out = some r → Forest L
 | 0, L, _, _, _, hl, _, _ => fun e he => by rw [List.eq_nil_of_length_eq_zero hl] at he; cases he
 | m + 1, L, left, out, r, hl, hok, h => by
  unfold treeGo at h
  split at h
  ·cases h
  ·rename_i i e hf
   split at h
   ·cases h
   ·obtain ⟨hi, hle⟩ := findLeaf_some hf
    exact forest_back hok hle (treeGo_forest (by rw [List.length_erase_of_mem hle.1]; omega) (hok.erase e) h)
structure TI (ids : List Int) (x : Nat → Int) (L0 L : List (Nat × Nat)) (left : List Int) : Prop where
 ok : Ok ids.length L
 sub : ∀ p ∈ L, p ∈ L0
 len : left.length = ids.length
 zr : Zr ids.length L (lf left)
 inv : ∀ e ∈ L, ∀ Q, Cl (L0.erase e) Q → sumP ids.length (lf left) Q = sumP ids.length x Q
theorem TI.step {ids : List Int} {x : Nat → Int} {L0 L : List (Nat × Nat)} {left : List Int} (hn : L0.Nodup) (h : TI ids x L0 L left) {i : Nat} {e : Nat × Nat} (hl : Leaf L i e) : TI ids x L0 (L.erase e) (mvL left i (oth e i)) := by
 obtain ⟨hon, hne, hin, _⟩ := oth_spec h.ok hl.1 hl.2.1
 have hz := step_zr h.ok h.zr hl
 refine ⟨h.ok.erase e, fun p hp => h.sub p (List.mem_of_mem_erase hp), by rw [mvL_len, h.len], by rw [lf_mvL (by rw [h.len]; exact hin) (by rw [h.len]; exact hon)]; exact hz, fun e' he' Q hQ => ?_⟩
 have he2 := (h.ok.nd.mem_erase_iff).1 he'
 have hQe : Q i = Q (oth e i) := cl_inc (L := L) hl.2.1 (hQ e ((hn.mem_erase_iff).2 ⟨fun h => he2.1 h.symm, h.sub e hl.1⟩))
 rw [lf_mvL (by rw [h.len]; exact hin) (by rw [h.len]; exact hon), sumP_mv hin hon hne hQe]
 exact h.inv e' he2.2 Q hQ
theorem TI.left {ids : List Int} {x : Nat → Int} {L0 L : List (Nat × Nat)} {left : List Int} (hn : L0.Nodup) (h : TI ids x L0 L left) {i : Nat} {e : Nat × Nat} (hl : Leaf L i e) {Q : Nat → Bool} (hQ : Side L0 e i (oth e i) Q) : left.getD i 0 = sumP ids.length x Q := by
 obtain ⟨hon, hne, hin, _⟩ := oth_spec h.ok hl.1 hl.2.1
 have h1 := h.zr (flip Q i false) fun p hp => by
  by_cases hpe : p = e
  ·subst hpe
   rcases inc_iff.1 hl.2.1 with r | r
   ·have : p.2 = oth p i := by unfold oth; omega
    unfold flip; rw [if_pos r, this, if_neg (fun h => hne h.symm), hQ.out]
   ·have : p.1 = oth p i := by unfold oth; omega
    unfold flip; rw [if_pos r, this, if_neg (fun h => hne h.symm), hQ.out]
  ·have : inc i p ≠ true := fun h => hpe (hl.2.2 p hp h)
   unfold flip
   rw [if_neg (fun h => this (by simp [inc, h])), if_neg (fun h => this (by simp [inc, h]))]
   exact hQ.cl p ((hn.mem_erase_iff).2 ⟨hpe, h.sub p hp⟩)
 rw [sumP_flip hin, h.inv e hl.1 Q hQ.cl] at h1
 simp [hQ.inn, lf] at h1 ⊢
 omega
theorem inc_ends {e : Nat × Nat} {i : Nat} (h : inc i e = true) : Ends e i (oth e i) := by
 rcases inc_iff.1 h with r | r
 ·exact .inl ⟨r, by unfold oth; omega⟩
 ·exact .inr ⟨by unfold oth; omega, r⟩
theorem amt_zero {n : Nat} {L : List (Nat × Nat)} {x : Nat → Int} (hn : L.Nodup) (hz : Zr n L x) {e : Nat × Nat} {i : Nat} (hi : inc i e = true) {Q : Nat → Bool} (h : Side L e i (oth e i) Q) : amt n x L e = 0 ↔ sumP n x Q = 0 := by
 rcases inc_iff.1 hi with h1 | h1
 ·have h2 : oth e i = e.2 := by unfold oth; omega
  rw [h2] at h; subst h1
  rw [amt_swap hn hz h]; omega
 ·have h2 : oth e i = e.1 := by unfold oth; omega
  rw [h2] at h; subst h1
  rw [amt_side hn hz h]
theorem treeGo_out {ids : List Int} {x : Nat → Int} {L0 : List (Nat × Nat)} (hn : L0.Nodup) (hf : Forest L0) (hz : Zr ids.length L0 x) : ∀ {m : Nat} {L : List (Nat × Nat)} {left : List Int} {out : List Pay} {r : List Int × List Pay}, L.length = m → TI ids x L0 L left → SortedP out → treeGo ids m L left out = some r →
  (∀ e ∈ L, amt ids.length x L0 e ≠ 0) ∧ SortedP r.2 ∧ r.2.Perm (out ++ L.map (payE ids x L0))
 | 0, L, left, out, r, hl, h, hs, hr => by
  have : L = [] := List.eq_nil_of_length_eq_zero hl
  subst this
  simp [treeGo] at hr
  subst hr
  exact ⟨fun _ h => (by cases h), hs, by simp⟩
 | m + 1, L, left, out, r, hl, h, hs, hr => by
  unfold treeGo at hr
  split at hr
  ·cases hr
  ·rename_i i e hfl
   split at hr
   ·cases hr
   ·rename_i hne
    obtain ⟨hi, hle⟩ := findLeaf_some hfl
    obtain ⟨Q, hQ⟩ := side_of hf (h.sub e hle.1) (inc_ends hle.2.1)
    have hlv := h.left hn hle hQ
    obtain ⟨k1, k2, k3⟩ := treeGo_out hn hf hz (by rw [List.length_erase_of_mem hle.1]; omega) (h.step hn hle) (addP_sorted hs) hr
    have hx : sumP ids.length x Q ≠ 0 := by rw [← hlv]; exact hne
    have hpe := payE_side hn hz hle.2.1 hQ hx
    refine ⟨fun e' he' => ?_, k2, ?_⟩
    ·by_cases hee : e' = e
     ·subst hee; exact fun h => hx ((amt_zero hn hz hle.2.1 hQ).1 h)
     ·exact k1 e' ((h.ok.nd.mem_erase_iff).2 ⟨hee, he'⟩)
    ·refine k3.trans ?_
     rw [hlv, ← hpe]
     refine ((addP_perm out _).append_right _).trans ?_
     have h1 : (L.map (payE ids x L0)).Perm (payE ids x L0 e :: (L.erase e).map (payE ids x L0)) := (List.perm_cons_erase hle.1).map _
     refine List.Perm.trans ?_ (h1.symm.append_left out)
     rw [List.cons_append]
     exact List.perm_middle.symm
theorem treeGo_some {ids : List Int} {x : Nat → Int} {L0 : List (Nat × Nat)} (hn : L0.Nodup) (hf : Forest L0) (hz : Zr ids.length L0 x) : ∀ {m : Nat} {L : List (Nat × Nat)} {left : List Int} {out : List Pay}, L.length = m → TI ids x L0 L left → (∀ e ∈ L, amt ids.length x L0 e ≠ 0) → ∃ r, treeGo ids m L left out = some r ∧ ∀ v, v < ids.length → lf r.1 v = 0
 | 0, L, left, out, hl, h, _ => by
  have : L = [] := List.eq_nil_of_length_eq_zero hl
  subst this
  exact ⟨(left, out), rfl, zr_nil h.zr⟩
 | m + 1, L, left, out, hl, h, hm => by
  obtain ⟨i0, e0, hi0, hl0⟩ := (hf.sub hn h.ok.nd h.sub).leaf h.ok (by intro h; rw [h] at hl; simp at hl)
  obtain ⟨⟨i, e⟩, hfl⟩ := findLeaf_of h.ok.nd hi0 hl0
  obtain ⟨hi, hle⟩ := findLeaf_some hfl
  obtain ⟨Q, hQ⟩ := side_of hf (h.sub e hle.1) (inc_ends hle.2.1)
  have hlv := h.left hn hle hQ
  have hx : left.getD i 0 ≠ 0 := by rw [hlv]; exact fun h => hm e hle.1 ((amt_zero hn hz hle.2.1 hQ).2 h)
  unfold treeGo
  rw [hfl]
  dsimp only
  rw [if_neg hx]
  exact treeGo_some hn hf hz (by rw [List.length_erase_of_mem hle.1]; omega) (h.step hn hle) fun e' he' => hm e' (List.mem_of_mem_erase he')
theorem treeR_iff {ids : List Int} {L : List (Nat × Nat)} {owed : List Int} {out : List Pay} (hok : Ok ids.length L) (hlen : owed.length = ids.length) :
  treeR ids L owed = some out ↔ Forest L ∧ Zr ids.length L (lf owed) ∧ (∀ e ∈ L, amt ids.length (lf owed) L e ≠ 0) ∧ SortedP out ∧ out.Perm (L.map (payE ids (lf owed) L)) := by
 have ti : Zr ids.length L (lf owed) → TI ids (lf owed) L L owed := fun hz => ⟨hok, fun _ h => h, hlen, hz, fun _ _ _ _ => rfl⟩
 constructor
 ·intro h
  have hz := treeR_zr hok hlen h
  unfold treeR at h
  split at h
  ·rename_i r hr
   split at h
   ·have hf := treeGo_forest rfl hok hr
    obtain ⟨k1, k2, k3⟩ := treeGo_out hok.nd hf hz rfl (ti hz) List.Pairwise.nil hr
    injection h with h
    subst h
    exact ⟨hf, hz, k1, k2, by simpa using k3⟩
   ·cases h
  ·cases h
 ·rintro ⟨hf, hz, hm, hs, hp⟩
  obtain ⟨r, hr, h0⟩ := treeGo_some (out := []) hok.nd hf hz rfl (ti hz) hm
  obtain ⟨_, k2, k3⟩ := treeGo_out hok.nd hf hz rfl (ti hz) List.Pairwise.nil hr
  unfold treeR
  rw [hr]
  dsimp only
  rw [if_pos (all_zero.2 (by rw [treeGo_len hr, hlen]; exact h0))]
  exact congrArg some (sorted_uniq k2 hs ((by simpa using k3 : r.2.Perm _).trans hp.symm))
theorem forest_snoc {L : List (Nat × Nat)} {p : Nat × Nat} (hn : (L ++ [p]).Nodup) : Forest (L ++ [p]) ↔ Forest L ∧ ∃ R, Cl L R ∧ R p.1 ≠ R p.2 := by
 have hnL : L.Nodup := (List.nodup_append.1 hn).1
 have hpL : p ∉ L := fun h => (List.nodup_append.1 hn).2.2 p h p (by simp) rfl
 have her : (L ++ [p]).erase p = L := by rw [List.erase_append_right _ hpL]; simp
 constructor
 ·intro h
  refine ⟨h.sub hn hnL fun q hq => by simp [hq], ?_⟩
  obtain ⟨P, h1, h2⟩ := h p (by simp)
  rw [her] at h1
  exact ⟨P, h1, h2⟩
 ·rintro ⟨h, R, hR1, hR2⟩ e he
  rcases List.mem_append.1 he with he | he
  ·obtain ⟨P, h1, h2⟩ := h e he
   have hpe : p ≠ e := fun h => hpL (h ▸ he)
   have her2 : ∀ q ∈ (L ++ [p]).erase e, q ∈ L.erase e ∨ q = p := fun q hq => by
    have := (hn.mem_erase_iff).1 hq
    rcases List.mem_append.1 this.2 with h | h
    ·exact .inl ((hnL.mem_erase_iff).2 ⟨this.1, h⟩)
    ·exact .inr (by simpa using h)
   by_cases hPp : P p.1 = P p.2
   ·refine ⟨P, fun q hq => ?_, h2⟩
    rcases her2 q hq with h | rfl
    ·exact h1 q h
    ·exact hPp
   ·refine ⟨fun v => P v ^^ R v, fun q hq => ?_, ?_⟩
    ·rcases her2 q hq with h | rfl
     ·show (P q.1 ^^ R q.1) = (P q.2 ^^ R q.2)
      rw [h1 q h, hR1 q (List.mem_of_mem_erase h)]
     ·show (P q.1 ^^ R q.1) = (P q.2 ^^ R q.2)
      revert hPp hR2
      cases P q.1 <;> cases P q.2 <;> cases R q.1 <;> cases R q.2 <;> simp
    ·show (P e.1 ^^ R e.1) ≠ (P e.2 ^^ R e.2)
     rw [hR1 e he]
     revert h2
     cases P e.1 <;> cases P e.2 <;> cases R e.2 <;> simp
  ·have : e = p := by simpa using he
   subst this
   rw [her]
   exact ⟨R, hR1, hR2⟩
theorem lab_apart {n : Nat} {L : List (Nat × Nat)} {h : List Nat} (k : Lab n L h) {a b : Nat} (ha : a < n) (hb : b < n) : hf h a ≠ hf h b ↔ ∃ R, Cl L R ∧ R a ≠ R b := by
 constructor
 ·intro hne
  exact ⟨fun v => decide (hf h v = hf h a), fun p hp => by show decide (hf h p.1 = _) = decide (hf h p.2 = _); rw [k.one p hp], by simpa using fun e => hne e.symm⟩
 ·rintro ⟨R, h1, h2⟩ e
  exact h2 (by rw [← k.cl R h1 a ha, ← k.cl R h1 b hb, e])
end Go.Proofs.YtihonljdanjfmaaGreatDoor.Gr
namespace Go.Proofs.YtihonljdanjfmaaGreatDoor.Sw
open Go.RowKit Go Go.Shelf Go.Proofs
open Go.Proofs.YtihonljdanjfmaaGreatDoor.Gr (mergeH headsR hf)
def nC (v : Nat) : List AV := [.val (.int .i64 (v : Int))]
instance : OneF nC := ⟨fun _ => inferInstanceAs (OneL [_])⟩
instance : LenF nC 1 := ⟨fun _ => rfl⟩
instance zeroN : ZeroF Tryz.prog 3 nC 0 := zeroF (z := .int .i64 0) (n := 1) (b := 8) (zs := [.int .i64 0]) (by kernel_rfl) rfl (fun _ => ⟨rfl, trivial⟩)
def pnC (p : Nat × Nat) : List AV := [.val (.int .i64 (p.1 : Int)), .val (.int .i64 (p.2 : Int))]
instance {p : Nat × Nat} : OneL (pnC p) := inferInstanceAs (OneL [_, _])
instance : OneF pnC := ⟨fun _ => inferInstanceAs (OneL [_, _])⟩
instance : LenF pnC 2 := ⟨fun _ => rfl⟩
theorem mergeH_step {h : List Nat} {a b : Nat} {m : Nat} (hm : m < h.length) : ((h.take m).map (fun v => if v = max a b then min a b else v) ++ h.drop m).set m (if h[m] = max a b then min a b else h[m]) = (h.take (m + 1)).map (fun v => if v = max a b then min a b else v) ++ h.drop (m + 1) := by
 rw [List.set_append_right _ _ (by simp; omega), List.length_map, List.length_take, show m - min m h.length = 0 by omega, List.drop_eq_getElem_cons hm, List.set_cons_zero, List.take_succ_eq_append_getElem hm, List.map_append]
 simp
theorem mergeH_get {h : List Nat} {a b : Nat} {m : Nat} (hm : m < h.length) : ((h.take m).map (fun v => if v = max a b then min a b else v) ++ h.drop m)[m]? = some h[m] := by
 rw [List.getElem?_append_right (by simp; omega), List.length_map, List.length_take, show m - min m h.length = 0 by omega, List.getElem?_drop]
 simp [List.getElem?_eq_getElem hm]
theorem headsR_take {n : Nat} {L : List (Nat × Nat)} {k : Nat} (hk : k < L.length) : headsR n (L.take (k + 1)) = mergeH (headsR n (L.take k)) L[k] := by
 rw [List.take_succ_eq_append_getElem hk]; exact Gr.headsR_snoc _ _ _
theorem headsR_len (n : Nat) : ∀ L, (headsR n L).length = n := by
 have : ∀ (L : List (Nat × Nat)) (h : List Nat), (L.foldl mergeH h).length = h.length := by
  intro L
  induction L with
  | nil => intro h; rfl
  | cons p L ih => intro h; rw [List.foldl_cons, ih]; simp [mergeH]
 intro L
 unfold headsR
 rw [this]; simp
theorem nat_max (a b : Nat) : (max (a : Int) (b : Int)) = ((max a b : Nat) : Int) := by omega
theorem nat_min (a b : Nat) : (min (a : Int) (b : Int)) = ((min a b : Nat) : Int) := by omega
set_option maxRecDepth 20000 in
set_option maxHeartbeats 4000000 in
theorem groups_con (ph ow : Value) (f : Flo) (L : List (Nat × Nat)) (hn : f.ids.length ≤ 1000) (hl : L.length ≤ 1000) (hL : ∀ p ∈ L, p.1 < f.ids.length ∧ p.2 < f.ids.length) : Con Tryz.prog 70 [.val ph, .sl 2 pnC L] [hsB ph f ow] (TokW 3 1 nC (headsR f.ids.length L) [hsB ph f ow]) := by
 refine con_of Tryz.func70 rfl (enters_of Tryz.func70 (by kernel_rfl) rfl) rfl ?_; intro n w0 F0 G0
 (refine goSt ?_; (repeat (refine goAl ?_; intro p hp; refine goSt ?_)))
 (apply wl_make nC; exact inferInstance; exact inferInstance; exact inferInstance; exact inferInstance; exact rfl; exact rfl; exact rfl; (first | omega | (simp; omega)); exact rfl)
 intro v
 (refine goSt ?_; (repeat (refine goAl ?_; intro p hp; refine goSt ?_)))
 have hln : (List.replicate f.ids.length 0 : List Nat).length = f.ids.length := List.length_replicate
 refine W_loopJ (fun (i : Nat) => ⟨[(0, .val ph), (1, .sl 2 pnC L), (5, .val v), (20, .val (.int .i64 f.ids.length)), (21, .val (.int .i64 i))], [.row v 3 1 nC (List.range i ++ List.replicate (f.ids.length - i) 0), hsB ph f ow]⟩) (fun i => i ≤ f.ids.length) (fun i => f.ids.length - i) 0 (fun _ _ st => by rw [hln] at st; exact st_sub2 st goSubr goSubp) (Nat.zero_le _) ?_
 rintro i hi
 (refine goSt ?_; (repeat (refine goAl ?_; intro p hp; refine goSt ?_)))
 refine w_cond rfl (fun hlt => ?_) (fun hlt => ?_)
 ·have hi' : i < f.ids.length := by simpa using hlt
  have hil : i < (List.range i ++ List.replicate (f.ids.length - i) 0).length := by simp; omega
  have hst0 : (List.range i ++ List.replicate (f.ids.length - i) 0).set i i = List.range (i + 1) ++ List.replicate (f.ids.length - (i + 1)) 0 := by
   rw [List.set_append_right _ _ (by simp), List.length_range, Nat.sub_self, show f.ids.length - i = (f.ids.length - (i + 1)) + 1 by omega, List.replicate_succ, List.set_cons_zero, List.range_succ]; simp
  (refine goSt ?_; (repeat (refine goAl ?_; intro p hp; refine goSt ?_)))
  rw [hst0]
  (refine ⟨i + 1, fun _ _ st => st_sub2 st ?_ ?_, ?_, ?_⟩; exact goSubr; exact goSubp)
  ·omega
  ·omega
 ·have hii : i = f.ids.length := by simp at hlt; omega
  subst hii
  rw [Nat.sub_self, List.replicate_zero, List.append_nil]
  (refine goSt ?_; (repeat (refine goAl ?_; intro p hp; refine goSt ?_)))
  refine W_loopJ (fun (k : Nat) => ⟨[(0, .val ph), (5, .val v), (29, .sl 2 pnC L), (30, .val (.int .i64 L.length)), (31, .val (.int .i64 k))], [.row v 3 1 nC (headsR f.ids.length (L.take k)), hsB ph f ow]⟩) (fun k => k ≤ L.length) (fun k => L.length - k) 0 (fun _ _ st => st_sub2 st goSubr goSubp) (Nat.zero_le _) ?_
  rintro k hk
  (refine goSt ?_; (repeat (refine goAl ?_; intro p hp; refine goSt ?_)))
  refine w_cond rfl (fun hlt2 => ?_) (fun hlt2 => ?_)
  ·have hk' : k < L.length := by simpa using hlt2
   obtain ⟨ha, hb⟩ := hL _ (List.getElem_mem hk')
   have hhl := headsR_len f.ids.length (L.take k)
   have hmg : mergeH (headsR f.ids.length (L.take k)) L[k] = headsR f.ids.length (L.take (k + 1)) := (headsR_take hk').symm
   generalize headsR f.ids.length (L.take k) = h at hhl hmg ⊢
   have hq1 : h[L[k].1]? = some h[L[k].1] := List.getElem?_eq_getElem (by omega)
   have hq2 : h[L[k].2]? = some h[L[k].2] := List.getElem?_eq_getElem (by omega)
   have hg1 : hf h L[k].1 = h[L[k].1] := by simp [hf, List.getD_eq_getElem?_getD, hq1]
   have hg2 : hf h L[k].2 = h[L[k].2] := by simp [hf, List.getD_eq_getElem?_getD, hq2]
   have hmg2 : h.map (fun v => if v = max (hf h L[k].1) (hf h L[k].2) then min (hf h L[k].1) (hf h L[k].2) else v) = headsR f.ids.length (L.take (k + 1)) := hmg
   rw [hg1, hg2] at hmg2
   have hi1 : L[k].1 < h.length := by omega
   have hi2 : L[k].2 < h.length := by omega
   (refine goSt ?_; (repeat (refine goAl ?_; intro p hp; refine goSt ?_)))
   refine W_run 11 [35, 36, 37, 38, 39, 40, 41, 42, 43, 44, 9] [0, 1, 2, 3, 4, 5, 6, 7, 8, 9, 10] Cut.nil rfl goFlt mixedS (by kernel_rfl) rfl ?_
   refine rpv [] [] ?_
   refine rpv [] [] ?_
   refine rpv [1] [] ?_
   refine rpv [0, 2] [] ?_
   refine rpv [3] [] ?_
   refine rpv [] [] ?_
   refine rpv [] [] ?_
   refine rpv [6] [] ?_
   refine rpv [5, 7] [] ?_
   refine rpv [8] [] ?_
   refine rpv [4] [] ?_
   refine ⟨⟨by kernel_rfl, by kernel_rfl⟩, fun vs => ?_⟩
   apply WL_auto [9, 10]
   ·exact goPk
   ·exact goNrm
   ·kernel_rfl
   ·kernel_rfl
   (refine goSt ?_; (repeat (refine goAl ?_; intro p hp; refine goSt ?_)))
   generalize h[L[k].1] = a at hmg2 ⊢
   generalize h[L[k].2] = b at hmg2 ⊢
   (refine goSt ?_; (repeat (refine goAl ?_; intro p hp; refine goSt ?_)))
   refine W_loopJ (fun (m : Nat) => ⟨[(0, .val ph), (5, .val v), (29, .sl 2 pnC L), (30, .val (.int .i64 L.length)), (31, .val (.int .i64 k)), (9, .val (.int .i64 a)), (10, .val (.int .i64 b)), (46, .val (.int .i64 h.length)), (47, .val (.int .i64 m))], [.row v 3 1 nC ((h.take m).map (fun v => if v = max a b then min a b else v) ++ h.drop m), hsB ph f ow]⟩) (fun m => m ≤ h.length) (fun m => h.length - m) 0 (fun _ _ st => st_sub2 st goSubr goSubp) (Nat.zero_le _) ?_
   rintro m hm
   (refine goSt ?_; (repeat (refine goAl ?_; intro p hp; refine goSt ?_)))
   refine w_cond rfl (fun hlt3 => ?_) (fun hlt3 => ?_)
   ·have hm' : m < h.length := by simpa using hlt3
    have hcl : m < ((h.take m).map (fun v => if v = max a b then min a b else v) ++ h.drop m).length := by simp; omega
    have hce : ((h.take m).map (fun v => if v = max a b then min a b else v) ++ h.drop m)[m] = h[m] := by
     have := mergeH_get (a := a) (b := b) hm'
     rw [List.getElem?_eq_getElem hcl] at this
     exact Option.some.inj this
    have hst := mergeH_step (a := a) (b := b) hm'
    (refine goSt ?_; (repeat (refine goAl ?_; intro p hp; refine goSt ?_)))
    rw [hce, nat_max]
    refine w_cond rfl (fun he => ?_) (fun he => ?_)
    ·have he' : h[m] = max a b := by have := of_decide_eq_true he; omega
     rw [if_pos he'] at hst
     (refine goSt ?_; (repeat (refine goAl ?_; intro p hp; refine goSt ?_)))
     rw [nat_min]
     (refine goSt ?_; (repeat (refine goAl ?_; intro p hp; refine goSt ?_)))
     rw [hst]
     (refine ⟨m + 1, fun _ _ st => st_sub2 st ?_ ?_, ?_, ?_⟩; exact goSubr; exact goSubp)
     ·omega
     ·omega
    ·have he' : h[m] ≠ max a b := fun e => by rw [e] at he; simp at he
     rw [if_neg he'] at hst
     have hst2 : ((h.take m).map (fun v => if v = max a b then min a b else v) ++ h.drop m) = (h.take (m + 1)).map (fun v => if v = max a b then min a b else v) ++ h.drop (m + 1) := by
      rw [← hst, ← hce, List.set_getElem_self]
     rw [hst2]
     (refine goSt ?_; (repeat (refine goAl ?_; intro p hp; refine goSt ?_)))
     (refine ⟨m + 1, fun _ _ st => st_sub2 st ?_ ?_, ?_, ?_⟩; exact goSubr; exact goSubp)
     ·omega
     ·omega
   ·have hmm : m = h.length := by simp at hlt3; omega
    subst hmm
    rw [List.drop_length, List.append_nil, List.take_length, hmg2]
    (refine goSt ?_; (repeat (refine goAl ?_; intro p hp; refine goSt ?_)))
    (refine ⟨k + 1, fun _ _ st => st_sub2 st ?_ ?_, ?_, ?_⟩; exact goSubr; exact goSubp)
    ·omega
    ·omega
  ·have hkk : k = L.length := by simp at hlt2; omega
   subst hkk
   rw [List.take_length]
   (refine goSt ?_; (repeat (refine goAl ?_; intro p hp; refine goSt ?_)))
   (apply resK; exact rfl; exact rfl; (apply Cut.cons; exact goRm; apply Cut.cons (h := hsB ph f ow); exact goRm; exact Cut.nil); exact ⟨_, rfl, rfl⟩)
end Go.Proofs.YtihonljdanjfmaaGreatDoor.Sw
namespace Go.Proofs.YtihonljdanjfmaaGreatDoor.Sw
open Go.RowKit Go
theorem flat_cut {α : Type} {f : α → List AV} {n : Nat} {xs : List α} (h : ∀ x ∈ xs, (f x).length = n) {k : Nat} (hk : k < xs.length) : ((xs.flatMap f).drop (k * n)).take n = f xs[k] := by
 have hlen := h _ (List.getElem_mem hk)
 have hl := lenL h
 have hle : (k + 1) * n ≤ xs.length * n := Nat.mul_le_mul_right n hk
 rw [Nat.succ_mul] at hle
 apply List.ext_getElem?
 intro j
 by_cases hj : j < n
 ·rw [List.getElem?_take, if_pos hj, List.getElem?_drop]
  exact flat_get h k hk j hj
 ·rw [List.getElem?_eq_none (by rw [List.length_take]; omega), List.getElem?_eq_none (by omega)]
theorem flat_setN {α : Type} {f : α → List AV} {n : Nat} {x' : α} : ∀ {xs : List α}, (∀ x ∈ xs, (f x).length = n) → ∀ (k : Nat), k < xs.length → (f x').length = n → (xs.set k x').flatMap f = (xs.flatMap f).take (k * n) ++ f x' ++ (xs.flatMap f).drop (k * n + n)
 | x :: xs, h, 0, _, hl => by
  rw [List.set_cons_zero, List.flatMap_cons, List.flatMap_cons, Nat.zero_mul, Nat.zero_add, List.take_zero, List.nil_append, List.drop_append_of_le_length (by rw [h x (by simp)]; exact Nat.le_refl _), List.drop_of_length_le (by rw [h x (by simp)]; exact Nat.le_refl _), List.nil_append]
 | x :: xs, h, k + 1, hk, hl => by
  have hx := h x (by simp)
  have e1 : ∀ R : List AV, (f x ++ R).take (k * n + n) = f x ++ R.take (k * n) := fun R => by
   rw [List.take_append, List.take_of_length_le (by omega), hx, Nat.add_sub_cancel]
  have e2 : ∀ R : List AV, (f x ++ R).drop (k * n + n + n) = R.drop (k * n + n) := fun R => by
   rw [List.drop_append, List.drop_of_length_le (by omega), hx, Nat.add_sub_cancel, List.nil_append]
  rw [List.set_cons_succ, List.flatMap_cons, List.flatMap_cons, flat_setN (fun y hy => h y (by simp [hy])) k (by simpa using hk) hl, Nat.succ_mul, e1, e2]
  simp only [List.append_assoc]
 | [], _, _, hk, _ => absurd hk (Nat.not_lt_zero _)
theorem take_mid {α : Type} {l us : List α} {A L : Nat} (h : A + us.length ≤ L) (hL : L ≤ l.length) : (l.take A ++ us ++ l.drop (A + us.length)).take L = (l.take L).take A ++ us ++ (l.take L).drop (A + us.length) := by
 have hx : (l.take A ++ us).length = A + us.length := by rw [List.length_append, List.length_take]; omega
 rw [List.take_append, List.take_of_length_le (by omega), hx, List.take_take, Nat.min_eq_left (by omega), List.drop_take]
section
variable {P : Program} {rs : List (Nat × AV)} {hsR : List HA} {d : Option Nat} {ty : TypeId} {pos : String} {af : Array Edge} {g : Option (Nat × Bool)}
theorem lt_loadRN {α : Type} {x : Operand} {t e : TypeId} {n k : Nat} [hT : TyN P t n] {v : Value} {f : α → List AV} {xs : List α} (hx : opv rs x = some (.rat v n k 0)) (hk : k < xs.length) : LT P ⟨d, .load t x, ty, pos, af, g⟩ rs [.row v e n f xs] (Is (.agg (f xs[k])) [.row v e n f xs]) :=
 LT_read (fun _ e => by cases e) fun a w G F hR hG hrow => by
  obtain ⟨b', len, cap', ev, e1⟩ : (AV.rat v n k 0).P G (a.eval x) := opv_ok hR hx
  rcases row_val hrow with ⟨_, rfl⟩ | ⟨b, cap, cur, vs, ev', hnc, _, hb, hcs, hl, hf, htake, _⟩
  ·exact absurd hk (Nat.not_lt_zero _)
  ·rw [ev] at ev'
   simp only [Value.slice.injEq, Option.some.injEq, Addr.mk.injEq] at ev'
   obtain ⟨⟨rfl, _⟩, rfl, rfl⟩ := ev'
   have hfit := (Fits.cut n (Fits.cut (k * n) hf).1).2
   rw [flat_cut hl hk] at hfit
   refine ⟨.agg ((vs.drop (k * n)).take n).toArray, ⟨_, rfl, hfit⟩, ?_⟩
   have hlt : k * n + n ≤ xs.length * n := by
    calc k * n + n = (k + 1) * n := (Nat.succ_mul k n).symm
     _ ≤ xs.length * n := Nat.mul_le_mul_right n hk
   have hlen := hfit.length
   have hln := hl _ (List.getElem_mem hk)
   simp only [execOp, e1, Sem.run_bind]
   rw [Nat.add_zero, run_loadN (n := n) (vs := (vs.drop (k * n)).take n) (by rw [hlen, hln]) (fun j u ej => by
    rw [cell_of_row w b' _ _ _ _ hb]
    rw [List.getElem?_take] at ej
    split at ej
    ·rw [List.getElem?_drop, ← htake, List.getElem?_take, if_pos (by omega)] at ej
     simpa using ej
    ·cases ej)]
   rfl
theorem lt_storeRN {α : Type} {x y : Operand} {t e : TypeId} {n k : Nat} [hs : TySz P t n] {v : Value} {f : α → List AV} {xs : List α} {x' : α} [hO : OneF f] (hx : opv rs x = some (.rat v n k 0)) (hy : opv rs y = some (.agg (f x'))) (hk : k < xs.length) (hlx : (f x').length = n) :
  LT P ⟨d, .store t x y, ty, pos, af, g⟩ rs [.row v e n f xs] (Is (.val undef) [.row v e n f (xs.set k x')]) :=
 LT_eff (fun _ e => by cases e) fun a w G F hR hI => by
  obtain ⟨F1, F2, ep, hrow, h2⟩ := hI.hs
  have h2' : F2 = [] := h2
  subst h2'
  obtain ⟨b', len, cap', ev, e1⟩ : (AV.rat v n k 0).P G (a.eval x) := opv_ok hR hx
  rcases row_val hrow with ⟨_, rfl⟩ | ⟨b, cap, cur, vs, ev', hnc, hF1, hb, hcs, hl, hf, htake, hone, hcm⟩
  ·exact absurd hk (Nat.not_lt_zero _)
  ·rw [ev] at ev'
   simp only [Value.slice.injEq, Option.some.injEq, Addr.mk.injEq] at ev'
   obtain ⟨⟨rfl, _⟩, rfl, rfl⟩ := ev'
   subst hF1
   have hF : F = [b'] := List.perm_singleton.1 (by simpa using ep)
   subst hF
   obtain ⟨us, hue, huf⟩ : (AV.agg (f x')).P G (a.eval y) := opv_ok hR hy
   have hul : us.length = n := huf.length.trans hlx
   have huo : ∀ q ∈ us, q.oneCell' = true := fits_one (hO.out x') huf
   have hg := (hI.own b' (by simp)).2
   have hlt : k * n + n ≤ xs.length * n := by
    calc k * n + n = (k + 1) * n := (Nat.succ_mul k n).symm
     _ ≤ xs.length * n := Nat.mul_le_mul_right n hk
   have hlc : xs.length * n ≤ cap' * n := Nat.mul_le_mul_right n hnc
   have hcl : cur.toList.length = cap' * n := by simpa using hcs
   let cur' : Array Value := (cur.toList.take (k * n) ++ us ++ cur.toList.drop (k * n + us.length)).toArray
   obtain ⟨f1, f2⟩ := fr_setRow hI.gin hg cur'
   have hvl : vs.length = xs.length * n := by rw [hf.length, lenL hl]
   have hl' : ∀ y ∈ xs.set k x', (f y).length = n := fun y hy => by
    rcases List.mem_or_eq_of_mem_set hy with h | rfl
    ·exact hl y h
    ·exact hlx
   refine ⟨_, w.setRow b' cur', undef, _, _, G, [b'], ?_, .inr ⟨rfl, rfl⟩, ⟨rfl, rfl⟩, f1, ⟨f2, by simp, fun q hq => ?_, [b'], [], by simp, ⟨vs.take (k * n) ++ us ++ vs.drop (k * n + us.length), by rw [ev]; rfl, hl', ?_, ?_, ?_⟩, rfl⟩, rfl⟩
   ·have hst := run_storeCells_at P b' (k * n) e us 0 cur w hb (by rw [Nat.add_zero, hul, hcs]; omega) huo
    simp only [Nat.add_zero] at hst
    have hc : us.toArray.size = n := by simpa using hul
    simp only [execOp, e1, Instr.storeAt, Instr.sureAddr, storeVar, Sem.run_bind, Sem.run_pure, Result.andThen_ok, hue, Value.cells, hs.size w, Nat.add_zero]
    simp [hc, hst, cur']
   ·rw [List.mem_singleton] at hq; subst hq; simp only [setRow_size]; exact hI.own _ (by simp)
   ·rw [flat_setN hl k hk hlx, hul]
    exact ((hf.take (k * n)).append huf).append (hf.drop _)
   ·intro q hq
    rcases List.mem_append.1 hq with hq | hq
    ·rcases List.mem_append.1 hq with hq | hq
     ·exact hone q (List.mem_of_mem_take hq)
     ·exact huo q hq
    ·exact hone q (List.mem_of_mem_drop hq)
   ·rw [ev]
    have hsz : (vs.take (k * n) ++ us ++ vs.drop (k * n + us.length)).length = xs.length * n := by
     simp only [List.length_append, List.length_take, List.length_drop]; omega
    refine ⟨by rw [hsz, List.length_set], .inr ⟨b', cap', cur', by rw [List.length_set], Nat.zero_le _, setRow_heap w b' _ _ e _ hb, by rw [List.length_set]; exact hnc, hcm, ?_, ?_⟩⟩
    ·simp only [cur', List.size_toArray, List.length_append, List.length_take, List.length_drop]; omega
    ·rw [List.length_set]
     simp only [cur']
     rw [← htake]
     exact take_mid (by rw [hul]; omega) (by omega)
theorem lt_fieldRat {x : Operand} {t : TypeId} {fd off : Nat} [h : TyF P t fd off] {v : Value} {n k j j' : Nat} (hx : opv rs x = some (.rat v n k j)) (hj : j + off = j') : LT P ⟨d, .fieldAddr t x fd, ty, pos, af, g⟩ rs [] (Is (.rat v n k j') []) :=
 LT_val (fun _ e => by cases e) fun a w G hR hG => by
  obtain ⟨b, len, cap, ev, e1⟩ : (AV.rat v n k j).P G (a.eval x) := opv_ok hR hx
  refine ⟨.pointer (some ⟨b, k * n + j', none⟩), ⟨b, len, cap, ev, rfl⟩, ?_⟩
  simp only [execOp, e1, Sem.run_bind]
  rw [h.run, add_plain, Nat.add_assoc, hj]
  rfl
theorem ltr_loadRN {α : Type} {x : Operand} {t e : TypeId} {n kk : Nat} [TyN P t n] {v : Value} {f : α → List AV} {xs : List α} {h : HA → List HA} (hx : opv rs x = some (.rat v n kk 0)) (hat : At hsR (.row v e n f xs) h) {y : α} (hk : xs[kk]? = some y) : LTr P ⟨d, .load t x, ty, pos, af, g⟩ rs hsR [] (Is (.agg (f y)) []) := by
 obtain ⟨hl, rfl⟩ := List.getElem?_eq_some_iff.1 hk
 exact ltr_rd (lt_loadRN hx hl) hat
end
section
variable {c : Cx} {rs : List (Nat × AV)} {hs : List HA} {Q : Exit → S → Prop} {ops : Array Oper} {tl : List Oper} {d : Nat} {ty : TypeId} {pos : String} {af : Array Edge}
theorem wl_loadRN {α : Type} {x : Operand} {t e : TypeId} {n kk : Nat} [TyN c.P t n] {v : Value} {f : α → List AV} {xs : List α} {g : HA → List HA} (hx : opv rs x = some (.rat v n kk 0)) (hat : At hs (.row v e n f xs) g) (hk : kk < xs.length) (hd : Nat.blt d c.nt = true) (k : WL c ops tl ⟨(d, .agg (f xs[kk])) :: rs, hs⟩ Q) : WL c ops (⟨some d, .load t x, ty, pos, af, none⟩ :: tl) ⟨rs, hs⟩ Q := wl_rd (lt_loadRN hx hk) hat hd k
theorem wl_fieldRat {x : Operand} {t : TypeId} {fd off : Nat} [TyF c.P t fd off] {v : Value} {n kk j j' : Nat} (hx : opv rs x = some (.rat v n kk j)) (hj : j + off = j') (hd : Nat.blt d c.nt = true) (k : WL c ops tl ⟨(d, .rat v n kk j') :: rs, hs⟩ Q) : WL c ops (⟨some d, .fieldAddr t x fd, ty, pos, af, none⟩ :: tl) ⟨rs, hs⟩ Q := wl_ex (lt_fieldRat hx hj) hd k
end
end Go.Proofs.YtihonljdanjfmaaGreatDoor.Sw
namespace Go.Proofs.YtihonljdanjfmaaGreatDoor.Sw
open Go.RowKit Go
def gall (G : Nat → Option Obj) (F : List Nat) (w : World) : Nat → Option Obj := fun b => if b ∈ F then w.heap[b]? else G b
theorem gall_le {G : Nat → Option Obj} {F : List Nat} {w : World} (h : ∀ b ∈ F, G b = none) : Gle G (gall G F w) := fun b o e => by
 unfold gall
 rw [if_neg (fun hb => by rw [h b hb] at e; cases e)]; exact e
theorem gall_in {G : Nat → Option Obj} {F : List Nat} {w : World} (h : Gin G w) : Gin (gall G F w) w := fun b o e => by
 unfold gall at e
 split at e
 ·exact e
 ·exact h b o e
theorem row_view {α β : Type} {G : Nat → Option Obj} {F F1 : List Nat} {w : World} {v : Value} {e : TypeId} {n : Nat} {f : α → List AV} {f' : β → List AV} {xs : List α} {ys : List β} (h : (HA.row v e n f xs).P G F1 w) (hsub : ∀ b ∈ F1, b ∈ F) (hlen : ys.length = xs.length)
  (hv : ∀ i (h1 : i < xs.length) (h2 : i < ys.length) (j : Nat) (av' : AV), (f' ys[i])[j]? = some av' → ∃ av : AV, (f xs[i])[j]? = some av ∧ ∀ u, av.P G u → av'.P (gall G F w) u) : (AV.sl n f' ys).P (gall G F w) v := by
 rcases row_val h with ⟨rfl, rfl⟩ | ⟨b, cap, cur, vs, rfl, hnc, hF1, hb, hcs, hl, hf, htake, _⟩
 ·exact ⟨none, 0, by rw [hlen]; rfl, by rw [hlen]; exact Nat.le_refl _, fun i hi => by rw [hlen] at hi; exact absurd hi (Nat.not_lt_zero _)⟩
 ·refine ⟨some ⟨b, 0, none⟩, cap, by rw [hlen], by rw [hlen]; exact hnc, fun i hi => ⟨b, 0, rfl, fun j av' ej => ?_⟩⟩
  have hi' : i < xs.length := by omega
  obtain ⟨av, e1, e2⟩ := hv i hi' hi j av' ej
  have hjn : j < n := by
   have := (List.getElem?_eq_some_iff.1 e1).1
   rwa [hl _ (List.getElem_mem hi')] at this
  obtain ⟨u, hu, hp⟩ := hf.get (i := i * n + j) (av := av) (by rw [flat_get hl i hi' j hjn]; exact e1)
  refine ⟨u, ?_, e2 u hp⟩
  have hlt : i * n + j < xs.length * n := by
   calc i * n + j < i * n + n := by omega
    _ = (i + 1) * n := (Nat.succ_mul i n).symm
    _ ≤ xs.length * n := Nat.mul_le_mul_right n hi'
  have hbF : b ∈ F := hsub b (by rw [hF1]; simp)
  unfold cellG gall
  rw [if_pos hbF, hb]
  simp only [Nat.zero_add]
  rw [← htake, List.getElem?_take, if_pos hlt] at hu
  simpa using hu
theorem row_view1 {α : Type} {G : Nat → Option Obj} {F F1 : List Nat} {w : World} {v : Value} {e : TypeId} {n : Nat} {f : α → List AV} {xs : List α} (h : (HA.row v e n f xs).P G F1 w) (hsub : ∀ b ∈ F1, b ∈ F) (hle : Gle G (gall G F w)) : (AV.sl n f xs).P (gall G F w) v :=
 row_view h hsub rfl fun i h1 h2 j av' ej => ⟨av', ej, fun u hu => av'.mono hle hu⟩
structure Thaw (h : HA) (av av' : AV) : Prop where
 out : ∀ (G : Nat → Option Obj) (F : List Nat) (w : World), h.P G F w → Gle G (gall G F w) → ∀ v, av.P G v → av'.P (gall G F w) v
structure Pers (hs : List HA) : Prop where
 out : ∀ G F w, hsP hs G F w → F = []
theorem Pers.nil : Pers [] := ⟨fun _ _ _ h => h⟩
theorem Pers.cons {h : HA} {t : List HA} (h1 : ∀ G F w, h.P G F w → F = []) (k : Pers t) : Pers (h :: t) := ⟨fun G F w ⟨F1, F2, e, a, b⟩ => by
 have := h1 _ _ _ a; have := k.out _ _ _ b; subst_vars; simpa using e⟩
theorem Pers.glob {g : Nat} {cs : List AV} {t : List HA} (k : Pers t) : Pers (.glob g cs :: t) := .cons (fun _ _ _ h => h.1) k
theorem lt_borrow {P : Program} {o : Oper} {rs : List (Nat × AV)} {h : HA} {pers : List HA} {i : Nat} {av av' : AV} {cv : Value} (hl : look rs i = some av) (ht : Thaw h av av') (hp : Pers pers) (k : LT P o ((i, av') :: rs) pers (Is (.val cv) pers)) : LT P o rs (h :: pers) (Is (.val cv) (h :: pers)) := by
 refine ⟨?_⟩
 intro F n hF a w G Fp K Q hR hI hk
 obtain ⟨F1, F2, ep, hh, hps⟩ := hI.hs
 have h2 := hp.out _ _ _ hps
 subst h2
 rw [List.append_nil] at ep
 have hm : ∀ b, b ∈ F1 ↔ b ∈ Fp := fun b => ep.mem_iff.symm
 have hle : Gle G (gall G F1 w) := gall_le fun b hb => (hI.own b ((hm b).1 hb)).2
 have hle3 : ∀ {G2}, Gle (gall G F1 w) G2 → Gle G (fun b => if b ∈ F1 then none else G2 b) := fun {G2} h2 b o e => by
  have hb : b ∉ F1 := fun hb => by rw [(hI.own b ((hm b).1 hb)).2] at e; cases e
  show (if b ∈ F1 then none else G2 b) = some o
  rw [if_neg hb]; exact h2 b o (hle b o e)
 refine k.go F n hF a w (gall G F1 w) [] K Q (fun j u e => ?_) ⟨gall_in hI.gin, List.nodup_nil, fun _ hb => (by cases hb), hps.mono hle⟩ fun v x prod G2 F2' w' ⟨e1, e2⟩ hfr hi hv => ?_
 ·simp only [look] at e
  cases hb : Nat.beq i j with
  | true =>
   rw [hb] at e
   obtain rfl := Nat.eq_of_beq_eq_true hb
   simp only [cond_true, Option.some.injEq] at e
   subst e
   exact ht.out G F1 w hh hle _ (hR _ _ hl)
  | false => rw [hb] at e; exact AV.mono _ hle (hR j u (by simpa using e))
 ·subst e1 e2
  have hF2 := hp.out _ _ _ hi.hs
  subst hF2
  have hsame : ∀ b ∈ F1, w'.heap[b]? = w.heap[b]? := fun b hb => by
   have hlt := (hI.own b ((hm b).1 hb)).1
   have : gall G F1 w b = some w.heap[b] := by unfold gall; rw [if_pos hb, Array.getElem?_eq_getElem hlt]
   rw [hi.gin b _ (hfr.gle b _ this), Array.getElem?_eq_getElem hlt]
  refine hk v _ _ (fun b => if b ∈ F1 then none else G2 b) Fp w' ⟨rfl, rfl⟩ ⟨hfr.os, hfr.tape, hfr.output, hfr.size, fun b hb _ => hfr.same b hb (by simp), fun b hb => .inl hb, hle3 hfr.gle, fun b o e => ?_⟩ ⟨fun b o e => ?_, hI.nd, fun b hb => ⟨Nat.lt_of_lt_of_le (hI.own b hb).1 hfr.size, if_pos ((hm b).2 hb)⟩, F1, [], by rw [List.append_nil]; exact ep, HA.mono _ (hle3 hfr.gle) (HA.loc _ hsame hh), (hps.mono (hle3 hfr.gle)).loc fun b hb => (by cases hb)⟩ hv
  ·split at e
   ·cases e
   ·rename_i hb
    rcases hfr.newG b o e with h | h | h
    ·unfold gall at h; rw [if_neg hb] at h; exact .inl h
    ·cases h
    ·exact .inr (.inr h)
  ·split at e
   ·cases e
   ·exact hi.gin b o e
theorem wl_borrow {c : Cx} {rs : List (Nat × AV)} {hs pers r : List HA} {Q : Exit → S → Prop} {ops : Array Oper} {tl : List Oper} {d : Nat} {ty : TypeId} {pos : String} {af : Array Edge} {k : FuncId} {xs : List Operand} {ts : Array TypeId} {avs : List AV} {h : HA} {av av' : AV} {cv : Value} (i : Nat) (ht : Thaw h av av') (hc : Con c.P k avs pers (Is (.val cv) pers)) (hl : look rs i = some av) (hx : opvs ((i, av') :: rs) xs = some avs) (hcut : Cut hs (h :: pers) r) (hp : Pers pers) (hd : Nat.blt d c.nt = true) (kk : WL c ops tl ⟨(d, .val cv) :: rs, h :: (pers ++ r)⟩ Q) : WL c ops (⟨some d, .call { callee := .value (.func k), args := xs.toArray, argTypes := ts }, ty, pos, af, none⟩ :: tl) ⟨rs, hs⟩ Q :=
 WL_lt (cons := h :: pers) (rest := r) hd rfl (fun _ _ _ hh => hcut.sel hh) (lt_borrow hl ht hp (lt_call hx hc)) fun av pr ⟨e1, e2⟩ => by subst e1; subst e2; exact kk
def HA.fact (p : Prop) : HA := ⟨fun _ F _ => F = [] ∧ p, fun _ h => h, fun _ h => h⟩
theorem hsP.fact {p : Prop} {t : List HA} {G : Nat → Option Obj} {F : List Nat} {w : World} : hsP (.fact p :: t) G F w ↔ p ∧ hsP t G F w :=
 ⟨fun ⟨_, _, e, ⟨e1, h⟩, k⟩ => by subst e1; exact ⟨h, k.perm (by simpa using e)⟩, fun ⟨h, k⟩ => ⟨[], F, .refl _, ⟨rfl, h⟩, k⟩⟩
theorem WL_exs {c : Cx} {rs : List (Nat × AV)} {hs r : List HA} {Q : Exit → S → Prop} {ops : Array Oper} {l : List Oper} {σ : Type} {h : σ → List HA} (hr : Rm hs (.exs h) r) (k : ∀ s, WL c ops l ⟨rs, h s ++ r⟩ Q) : WL c ops l ⟨rs, hs⟩ Q := ⟨fun a w st => by
 obtain ⟨G, F, hI, rr⟩ := st
 obtain ⟨F1, F2, e, ⟨s, h1⟩, h2⟩ := hr.sel hI.hs
 exact (k s).out a w ⟨G, F, ⟨hI.gin, hI.nd, hI.own, (hsP.append h1 h2).perm e⟩, rr⟩⟩
end Go.Proofs.YtihonljdanjfmaaGreatDoor.Sw
namespace Go.Proofs.YtihonljdanjfmaaGreatDoor.Sw
open Go.RowKit Go
section
variable {P : Program} {rs : List (Nat × AV)} {d : Option Nat} {ty : TypeId} {pos : String} {af : Array Edge} {g : Option (Nat × Bool)}
theorem lt_eqlNil {α : Type} {x : Operand} {t t' e : TypeId} {n m : Nat} (hT : TyS P t e m) {f : α → List AV} {xs : List α} (hx : opv rs x = some (.sl n f xs)) : LT P ⟨d, .binOp .eql t x (.const (.slice none 0 0)) t', ty, pos, af, g⟩ rs [] (fun av y => ∃ b : Bool, av = .val (.bool b) ∧ y = [] ∧ (b = true → xs = [])) :=
 LT_eff (fun _ e => by cases e) fun a w G F hR hI => by
  obtain ⟨p, cap, e1, hc, hs⟩ : (AV.sl n f xs).P G (a.eval x) := opv_ok hR hx
  refine ⟨.value (.bool p.isNone), w, .bool p.isNone, _, [], G, F, ?_, .inl rfl, ⟨p.isNone, rfl, rfl, fun hb => ?_⟩, Fr.refl _ _ _, hI, rfl⟩
  ·simp only [execOp, e1]
   have h1 : (eqGuard .eql t x (.const (.slice none 0 0)) (.slice p xs.length cap) (a.eval (.const (.slice none 0 0)))).run P w = .ok () w := by simp [eqGuard, Act.eval, go_sem]
   have h2 : (binOp .eql t (.slice p xs.length cap) (a.eval (.const (.slice none 0 0)))).run P w = .ok (.bool p.isNone) w := run_eql_slice_nil w t e p _ _ hT.und
   simp only [Sem.run_bind, h1, h2, Result.andThen_ok]
   rfl
  ·cases xs with
   | nil => rfl
   | cons y ys =>
    obtain ⟨b, o, e2, _⟩ := hs 0 (by simp)
    rw [e2] at hb; cases hb
end
section
variable {c : Cx} {rs : List (Nat × AV)} {hs : List HA} {Q : Exit → S → Prop} {ops : Array Oper} {tl : List Oper} {d : Nat} {ty : TypeId} {pos : String} {af : Array Edge}
theorem wl_eqlNil {α : Type} {x : Operand} {t t' e : TypeId} {n m : Nat} {f : α → List AV} {xs : List α} (hx : opv rs x = some (.sl n f xs)) (hT : TyS c.P t e m) (hd : Nat.blt d c.nt = true) (k : ∀ b : Bool, (b = true → xs = []) → WL c ops tl ⟨(d, .val (.bool b)) :: rs, hs⟩ Q) : WL c ops (⟨some d, .binOp .eql t x (.const (.slice none 0 0)) t', ty, pos, af, none⟩ :: tl) ⟨rs, hs⟩ Q :=
 WL_lt (cons := []) (rest := hs) hd rfl (fun _ _ _ h => h) (lt_eqlNil hT hx) fun av pr ⟨b, e1, e2, hb⟩ => by subst e1; subst e2; exact k b hb
end
theorem HA.ext' {a b : HA} (h : a.P = b.P) : a = b := by
 cases a; cases b; cases h; rfl
theorem row_map {α β : Type} {v : Value} {e : TypeId} {n : Nat} {f : β → List AV} {g : α → β} {xs : List α} : HA.row v e n f (xs.map g) = HA.row v e n (fun x => f (g x)) xs := by
 refine HA.ext' ?_
 funext G F w
 simp only [HA.row, List.length_map, List.flatMap_map, List.forall_mem_map]
theorem resKN {P : Program} {fn : Func} {x : Tmp} {t tb : TypeId} {n : Nat} {post : AV → List HA → Prop} {rs : List (Nat × AV)} {hs kept r : List HA} {p : Value} {cs : List AV} {f : HA → List HA} (hr : fn.results = #[.cell x t]) (hx : look rs x = some (.val p)) (hat : At hs (.box p cs tb) f) (hT : TyN P t n) (hn : cs.length = n) (hp : post (.agg cs) kept) (hcut : Cut hs kept r) : Res P fn post ⟨rs, hs⟩ := by
 refine ⟨_, kept, hp, fun a w G F hR hI => ?_⟩
 obtain ⟨rest, hs'⟩ := hat.sel
 obtain ⟨F1, F2, e, ⟨b, vs, hpb, hF1, hf, hb⟩, h2⟩ := (hs' _ _ _ _).1 (by rw [hat.self]; exact hI.hs)
 obtain ⟨F3, h1, h2⟩ := inv_keep (rest := r) ⟨hI.gin, hI.nd, hI.own, hcut.sel hI.hs⟩
 refine ⟨.agg vs.toArray, G, F3, ?_, h2, h1, ⟨vs, rfl, hf⟩⟩
 have hxv : a.tmps.getD x undef = p := hR _ _ hx
 rw [Array.getD_eq_getD_getElem?] at hxv
 have h1 := run_loadN (P := P) (t := t) (n := n) (w := w) (b := b) (j := 0) (vs := vs) (by rw [hf.length, hn]) (fun k u e => by rw [cell_of_row w b _ _ _ _ hb]; simpa using e)
 simp only [Instr.loadAt, Instr.sureAddr, Sem.run_bind, Sem.run_pure, Result.andThen_ok] at h1
 simp [results, hr, hxv, hpb, asAddr, h1]
theorem resKN1 {P : Program} {fn : Func} {x u : Tmp} {t tb : TypeId} {n : Nat} {post : AV → List HA → Prop} {rs : List (Nat × AV)} {hs kept r : List HA} {p : Value} {cs : List AV} {bv : AV} {f : HA → List HA} (hr : fn.results = #[.cell x t, .tmp u]) (hx : look rs x = some (.val p)) (hat : At hs (.box p cs tb) f) (hT : TyN P t n) (hn : cs.length = n) (hl2 : look rs u = some bv) (hp : post (.tup [.agg cs, bv]) kept) (hcut : Cut hs kept r) : Res P fn post ⟨rs, hs⟩ := by
 refine ⟨_, kept, hp, fun a w G F hR hI => ?_⟩
 obtain ⟨rest, hs'⟩ := hat.sel
 obtain ⟨F1, F2, e, ⟨b, vs, hpb, hF1, hf, hb⟩, h2⟩ := (hs' _ _ _ _).1 (by rw [hat.self]; exact hI.hs)
 obtain ⟨F3, h1, h2⟩ := inv_keep (rest := r) ⟨hI.gin, hI.nd, hI.own, hcut.sel hI.hs⟩
 refine ⟨.tuple #[.agg vs.toArray, a.tmps.getD u undef], G, F3, ?_, h2, h1, ⟨[.agg vs.toArray, _], rfl, ⟨vs, rfl, hf⟩, hR _ _ hl2, trivial⟩⟩
 have hxv : a.tmps.getD x undef = p := hR _ _ hx
 rw [Array.getD_eq_getD_getElem?] at hxv
 have h1 := run_loadN (P := P) (t := t) (n := n) (w := w) (b := b) (j := 0) (vs := vs) (by rw [hf.length, hn]) (fun k u e => by rw [cell_of_row w b _ _ _ _ hb]; simpa using e)
 simp only [Instr.loadAt, Instr.sureAddr, Sem.run_bind, Sem.run_pure, Result.andThen_ok] at h1
 simp [results, hr, hxv, hpb, asAddr, h1]
theorem Res_row0 {α : Type} {P : Program} {fn : Func} {post : AV → List HA → Prop} {rs : List (Nat × AV)} {hs : List HA} (e : TypeId) (n : Nat) (f : α → List AV) (k : Res P fn post ⟨rs, .row (.slice none 0 0) e n f [] :: hs⟩) : Res P fn post ⟨rs, hs⟩ := by
 obtain ⟨av, prod, hp, h⟩ := k
 exact ⟨av, prod, hp, fun a w G F hR hI => h a w G F hR ⟨hI.gin, hI.nd, hI.own, [], F, .refl _, ⟨[], rfl, fun _ h => (by cases h), trivial, fun _ h => (by cases h), ⟨by simp, .inl ⟨rfl, rfl⟩⟩⟩, hI.hs⟩⟩
theorem st_pack0 {c : Cx} {rs : List (Nat × AV)} {hs : List HA} {a : Act} {w : World} (st : St c ⟨rs, hs⟩ a w) : St c ⟨rs, .pack [] :: hs⟩ a w := by
 obtain ⟨G, F, hI, r⟩ := st
 exact ⟨G, F, ⟨hI.gin, hI.nd, hI.own, [], F, .refl _, rfl, hI.hs⟩, r⟩
theorem st_snoc {c : Cx} {rs : List (Nat × AV)} {hs r r' l : List HA} {h : HA} {a : Act} {w : World} (hr : Rm hs (.pack l) r) (hr2 : Rm r h r') (st : St c ⟨rs, hs⟩ a w) : St c ⟨rs, .pack (l ++ [h]) :: r'⟩ a w := by
 obtain ⟨G, F, hI, rr⟩ := st
 refine ⟨G, F, ⟨hI.gin, hI.nd, hI.own, ?_⟩, rr⟩
 obtain ⟨A, B, e, hA, hB⟩ := hr.sel hI.hs
 obtain ⟨C, D, e2, hC, hD⟩ := hr2.sel hB
 exact ⟨A ++ C, D, e.trans ((e2.append_left A).trans (by rw [List.append_assoc])), hsP.append hA (show hsP [h] G C w from ⟨C, [], by simp, hC, rfl⟩), hD⟩
theorem WL_snoc {c : Cx} {rs : List (Nat × AV)} {hs r r' l : List HA} {h : HA} {Q : Exit → S → Prop} {ops : Array Oper} {tl : List Oper} (hr : Rm hs (.pack l) r) (hr2 : Rm r h r') (k : WL c ops tl ⟨rs, .pack (l ++ [h]) :: r'⟩ Q) : WL c ops tl ⟨rs, hs⟩ Q := ⟨fun a w st => k.out a w (st_snoc hr hr2 st)⟩
theorem st_exs {c : Cx} {rs : List (Nat × AV)} {hs r : List HA} {σ : Type} {h : σ → List HA} (s : σ) {a : Act} {w : World} (hc : Cut hs (h s) r) (st : St c ⟨rs, hs⟩ a w) : St c ⟨rs, .exs h :: r⟩ a w := by
 obtain ⟨G, F, hI, rr⟩ := st
 refine ⟨G, F, ⟨hI.gin, hI.nd, hI.own, ?_⟩, rr⟩
 obtain ⟨A, B, e, hA, hB⟩ := hsP.split (hc.sel hI.hs)
 exact ⟨A, B, e, ⟨s, hA⟩, hB⟩
theorem W_mkExs {c : Cx} {rs : List (Nat × AV)} {hs r : List HA} {Q : Exit → S → Prop} {x : Code} {σ : Type} {h : σ → List HA} (s : σ) (hc : Cut hs (h s) r) (k : W c x ⟨rs, .exs h :: r⟩ Q) : W c x ⟨rs, hs⟩ Q := ⟨fun a w st => k.out a w (st_exs s hc st)⟩
theorem WL_mkExs {c : Cx} {rs : List (Nat × AV)} {hs r : List HA} {Q : Exit → S → Prop} {ops : Array Oper} {tl : List Oper} {σ : Type} {h : σ → List HA} (s : σ) (hc : Cut hs (h s) r) (k : WL c ops tl ⟨rs, .exs h :: r⟩ Q) : WL c ops tl ⟨rs, hs⟩ Q := ⟨fun a w st => k.out a w (st_exs s hc st)⟩
theorem st_fact {c : Cx} {rs : List (Nat × AV)} {hs : List HA} {p : Prop} (hp : p) {a : Act} {w : World} (st : St c ⟨rs, hs⟩ a w) : St c ⟨rs, .fact p :: hs⟩ a w := by
 obtain ⟨G, F, hI, rr⟩ := st
 exact ⟨G, F, ⟨hI.gin, hI.nd, hI.own, hsP.fact.2 ⟨hp, hI.hs⟩⟩, rr⟩
theorem W_mkFact {c : Cx} {rs : List (Nat × AV)} {hs : List HA} {Q : Exit → S → Prop} {x : Code} {p : Prop} (hp : p) (k : W c x ⟨rs, .fact p :: hs⟩ Q) : W c x ⟨rs, hs⟩ Q := ⟨fun a w st => k.out a w (st_fact hp st)⟩
theorem WL_mkFact {c : Cx} {rs : List (Nat × AV)} {hs : List HA} {Q : Exit → S → Prop} {ops : Array Oper} {tl : List Oper} {p : Prop} (hp : p) (k : WL c ops tl ⟨rs, .fact p :: hs⟩ Q) : WL c ops tl ⟨rs, hs⟩ Q := ⟨fun a w st => k.out a w (st_fact hp st)⟩
theorem wl_storeRx {α : Type} {c : Cx} {rs : List (Nat × AV)} {hs : List HA} {Q : Exit → S → Prop} {ops : Array Oper} {tl : List Oper} {ty : TypeId} {pos : String} {af : Array Edge} {x y : Operand} {t e : TypeId} {n kk j : Nat} {v : Value} {f : α → List AV} {xs : List α} {av : AV} (x' : α) {g : HA → List HA} (hx : opv rs x = some (.rat v n kk j)) (hat : At hs (.row v e n f xs) g) (hy : opv rs y = some av) (hS : TySz c.P t 1) (ho : One av) (hk : kk < xs.length) (hj : j < n) (hf' : f x' = (f xs[kk]).set j av) (k : WL c ops tl ⟨rs, g (.row v e n f (xs.set kk x'))⟩ Q) : WL c ops (⟨none, .store t x y, ty, pos, af, none⟩ :: tl) ⟨rs, hs⟩ Q := wl_at0 (lt_storeR1 hx hy hk hj hf') hat k
theorem wl_storeRNx {α : Type} {c : Cx} {rs : List (Nat × AV)} {hs : List HA} {Q : Exit → S → Prop} {ops : Array Oper} {tl : List Oper} {ty : TypeId} {pos : String} {af : Array Edge} {x y : Operand} {t e : TypeId} {n kk : Nat} {v : Value} {f : α → List AV} {xs : List α} (x' : α) {g : HA → List HA} (hx : opv rs x = some (.rat v n kk 0)) (hat : At hs (.row v e n f xs) g) (hy : opv rs y = some (.agg (f x'))) (hS : TySz c.P t n) (hO : OneF f) (hk : kk < xs.length) (hl : (f x').length = n) (k : WL c ops tl ⟨rs, g (.row v e n f (xs.set kk x'))⟩ Q) : WL c ops (⟨none, .store t x y, ty, pos, af, none⟩ :: tl) ⟨rs, hs⟩ Q := wl_at0 (lt_storeRN hx hy hk hl) hat k
end Go.Proofs.YtihonljdanjfmaaGreatDoor.Sw
namespace Go.Proofs.YtihonljdanjfmaaGreatDoor.Sw
open Go.RowKit Go
def HA.cells (b : Nat) (e : TypeId) (cs : List AV) (tot : Nat) : HA :=
 ⟨fun G F w => ∃ vs rest : List Value, F = [b] ∧ Fits G cs vs ∧ (∀ u ∈ vs, u.oneCell' = true) ∧ w.heap[b]? = some (.cells (vs ++ rest).toArray e (0, 0)) ∧ (vs ++ rest).length = tot,
  fun h ⟨vs, rest, e1, e2, e3⟩ => ⟨vs, rest, e1, e2.mono h, e3⟩,
  fun h ⟨vs, rest, e1, e2, e3, e4, e5⟩ => ⟨vs, rest, e1, e2, e3, (h b (by rw [e1]; simp)).trans e4, e5⟩⟩
theorem row_open {α : Type} {v : Value} {e : TypeId} {n : Nat} {f : α → List AV} {xs : List α} (hx : xs ≠ []) {G : Nat → Option Obj} {F : List Nat} {w : World} (h : (HA.row v e n f xs).P G F w) : ∃ b cap, v = .slice (some ⟨b, 0, none⟩) xs.length cap ∧ xs.length ≤ cap ∧ cap ≤ maxLen ∧ (∀ x ∈ xs, (f x).length = n) ∧ (HA.cells b e (xs.flatMap f) (cap * n)).P G F w := by
 rcases row_val h with ⟨_, rfl⟩ | ⟨b, cap, cur, vs, rfl, hnc, hF1, hb, hcs, hl, hf, htake, hone, hcm⟩
 ·exact absurd rfl hx
 ·refine ⟨b, cap, rfl, hnc, hcm, hl, vs, cur.toList.drop (xs.length * n), hF1, hf, hone, ?_, ?_⟩
  ·rw [← htake, List.take_append_drop]; simpa using hb
  ·rw [← htake, List.take_append_drop]; simpa using hcs
theorem row_shut {α : Type} {e : TypeId} {n : Nat} {f : α → List AV} {xs : List α} {b cap : Nat} (hl : ∀ x ∈ xs, (f x).length = n) (hnc : xs.length ≤ cap) (hcm : cap ≤ maxLen) {G : Nat → Option Obj} {F : List Nat} {w : World} (h : (HA.cells b e (xs.flatMap f) (cap * n)).P G F w) : (HA.row (.slice (some ⟨b, 0, none⟩) xs.length cap) e n f xs).P G F w := by
 obtain ⟨vs, rest, hF, hf, hone, hb, hs⟩ := h
 have hvl : vs.length = xs.length * n := by rw [hf.length, lenL hl]
 exact ⟨vs, by rw [hF]; rfl, hl, hf, hone, hvl, .inr ⟨b, cap, _, rfl, Nat.zero_le _, hb, hnc, hcm, by simpa using hs, by simp [← hvl]⟩⟩
theorem WL_openRow {α : Type} {c : Cx} {rs : List (Nat × AV)} {hs r : List HA} {Q : Exit → S → Prop} {ops : Array Oper} {l : List Oper} {v : Value} {e : TypeId} {n : Nat} {f : α → List AV} {xs : List α} (hx : xs ≠ []) (hr : Rm hs (.row v e n f xs) r)
  (k : ∀ b cap, v = .slice (some ⟨b, 0, none⟩) xs.length cap → xs.length ≤ cap → cap ≤ maxLen → (∀ x ∈ xs, (f x).length = n) → WL c ops l ⟨rs, .cells b e (xs.flatMap f) (cap * n) :: r⟩ Q) : WL c ops l ⟨rs, hs⟩ Q := ⟨fun a w st => by
 obtain ⟨G, F, hI, rr⟩ := st
 obtain ⟨F1, F2, ep, h1, h2⟩ := hr.sel hI.hs
 obtain ⟨b, cap, e1, e2, e3, e4, e5⟩ := row_open hx h1
 exact (k b cap e1 e2 e3 e4).out a w ⟨G, F, ⟨hI.gin, hI.nd, hI.own, F1, F2, ep, e5, h2⟩, rr⟩⟩
theorem WL_shutRow {α : Type} {c : Cx} {rs : List (Nat × AV)} {hs r : List HA} {Q : Exit → S → Prop} {ops : Array Oper} {l : List Oper} {b cap : Nat} {e : TypeId} {n : Nat} {f : α → List AV} (xs : List α) (hl : ∀ x ∈ xs, (f x).length = n) (hnc : xs.length ≤ cap) (hcm : cap ≤ maxLen) (hr : Rm hs (.cells b e (xs.flatMap f) (cap * n)) r) (k : WL c ops l ⟨rs, .row (.slice (some ⟨b, 0, none⟩) xs.length cap) e n f xs :: r⟩ Q) : WL c ops l ⟨rs, hs⟩ Q := ⟨fun a w st => by
 obtain ⟨G, F, hI, rr⟩ := st
 obtain ⟨F1, F2, ep, h1, h2⟩ := hr.sel hI.hs
 exact k.out a w ⟨G, F, ⟨hI.gin, hI.nd, hI.own, F1, F2, ep, row_shut hl hnc hcm h1, h2⟩, rr⟩⟩
theorem run_append_row {P : Program} {w : World} (t tx ty e : TypeId) (i : TypeInfo) (ht : P.underlying t = some (.slice e)) (hi : P.info? e = some i) (b sLen sCap : Nat) (x : Value) (n : Nat) (news : List Value) (hs : Src P i.size tx x n news w)
  (hroom : sLen + n ≤ sCap) (cur : Array Value) (te : TypeId) (hb : w.heap[b]? = some (.cells cur te (0, 0))) (hsz : sLen * i.size + news.length ≤ cur.size) :
  (Builtin.append_ #[t, tx] ty #[.slice (some ⟨b, 0, none⟩) sLen sCap, x]).run P w = .ok (.slice (some ⟨b, 0, none⟩) (sLen + n) sCap) (w.setRow b (cur.toList.take (sLen * i.size) ++ news ++ cur.toList.drop (sLen * i.size + news.length)).toArray) := by
 have hst := run_storeCells_at P b (sLen * i.size) te news 0 cur w hb (by simpa using hsz) hs.one
 simp only [Nat.add_zero] at hst
 rcases hs.kind with ⟨e', hk⟩ | hk <;> simp [Builtin.append_, run_underlying ht, run_underlying hk, sizeOf, typeInfo, hi, hs.len, hroom, hs.cells, Addr.add_lit, hst]
section
variable {P : Program} {rs : List (Nat × AV)} {d : Option Nat} {ty : TypeId} {pos : String} {af : Array Edge} {g : Option (Nat × Bool)}
theorem lt_lenV {x : Operand} {t e : TypeId} {n : Nat} [hT : TyS P t e n] {a : Option Addr} {len cap : Nat} (hx : opv rs x = some (.val (.slice a len cap))) : LT P ⟨d, .call { callee := .builtin .len, args := #[x], argTypes := #[t] }, ty, pos, af, g⟩ rs [] (Is (.val (.int .i64 len)) []) :=
 LT_val (fun _ e => by cases e) fun a w G hR hG => by
  have e1 : a.eval x = _ := opv_ok hR hx
  exact ⟨_, rfl, by simp [execOp, resolve, e1, invoke, builtin, Builtin.len_, run_underlying hT.und, goInt]⟩
theorem lt_sliceV {x : Operand} {lo hi : Option Operand} {t e : TypeId} {n : Nat} (hT : TyE P t e n) {ad : Option Addr} {len cap l h : Nat} {li hi' : Int} (hx : opv rs x = some (.val (.slice ad len cap)))
  (hlo : lo.map (opv rs) = some (some (.val (.int .i64 li))) ∨ (lo = none ∧ li = 0)) (hl : li = (l : Int))
  (hhi : hi.map (opv rs) = some (some (.val (.int .i64 hi'))) ∨ (hi = none ∧ hi' = (len : Int))) (hh : hi' = (h : Int)) (h1 : l ≤ h) (h2 : h ≤ cap) (h3 : len ≤ cap) :
  LT P ⟨d, .slice t x lo hi none, ty, pos, af, g⟩ rs [] (Is (.val (.slice (if cap = l then ad else ad.map (·.add (l * n))) (h - l) (cap - l))) []) :=
 LT_val (fun _ e => by cases e) fun a w G hR hG => by
  have e1 : a.eval x = _ := opv_ok hR hx
  have hlo' : lo.map a.eval = some (.int .i64 (l : Int)) ∨ (lo.map a.eval = none ∧ l = 0) := by
   rcases hlo with h | ⟨rfl, rfl⟩
   ·cases lo with
    | none => simp at h
    | some y =>
     simp only [Option.map_some, Option.some.injEq] at h
     have : a.eval y = _ := opv_ok hR h
     left; rw [Option.map_some, this, hl]
   ·right; exact ⟨rfl, by omega⟩
  have hhi' : hi.map a.eval = some (.int .i64 (h : Int)) ∨ (hi.map a.eval = none ∧ h = len) := by
   rcases hhi with h' | ⟨rfl, h'⟩
   ·cases hi with
    | none => simp at h'
    | some y =>
     simp only [Option.map_some, Option.some.injEq] at h'
     have : a.eval y = _ := opv_ok hR h'
     left; rw [Option.map_some, this, hh]
   ·right; exact ⟨rfl, by omega⟩
  have hr := run_sliceAt (P := P) (t := t) (w := w) (ad := ad) hlo' hhi' h1 h2 h3
  refine ⟨_, rfl, ?_⟩
  simp only [execOp, e1, Option.map_none, Sem.run_bind, hr]
  rfl
theorem lt_slice3V {x lo hi mx : Operand} {t e : TypeId} {n : Nat} (hT : TyE P t e n) {ad : Option Addr} {len cap l h m : Nat} (hx : opv rs x = some (.val (.slice ad len cap)))
  (hlo : opv rs lo = some (.val (.int .i64 (l : Int)))) (hhi : opv rs hi = some (.val (.int .i64 (h : Int)))) (hmx : opv rs mx = some (.val (.int .i64 (m : Int)))) (h1 : l ≤ h) (h2 : h ≤ m) (h3 : m ≤ cap) :
  LT P ⟨d, .slice t x (some lo) (some hi) (some mx), ty, pos, af, g⟩ rs [] (Is .any []) :=
 LT_val (fun _ e => by cases e) fun a w G hR hG => by
  have e1 : a.eval x = _ := opv_ok hR hx
  have e2 : a.eval lo = _ := opv_ok hR hlo
  have e3 : a.eval hi = _ := opv_ok hR hhi
  have e4 : a.eval mx = _ := opv_ok hR hmx
  obtain ⟨i, z, hi', _, hs, _⟩ := hT.info
  have hb : ∀ (x : Nat) (y : Nat) (code : BoundsCode), x ≤ y → (Instr.sliceBound (.int .i64 (x : Int)) y code).run P w = .ok x w := fun x y code hxy => by
   have : (0 : Int) ≤ (x : Int) ∧ (x : Int) ≤ (y : Int) := by omega
   simp [Instr.sliceBound, asIntOf, this]
  refine ⟨.slice (if m = l then ad else ad.map (·.add (l * n))) (h - l) (m - l), trivial, ?_⟩
  simp [execOp, e1, e2, e3, e4, Instr.sliceAt, Instr.slice, Instr.sliceBounds, run_underlying hT.und, sizeOf, typeInfo, hi', hs, hb _ _ _ h1, hb _ _ _ h2, hb _ _ _ h3]
theorem lt_moveV {x y : Operand} {t e : TypeId} {n : Nat} (hT : TyE P t e n) {b i j m cap c : Nat} {cs : List AV} (hx : opv rs x = some (.val (.slice (some ⟨b, 0, none⟩) i cap))) (hy : opv rs y = some (.val (.slice (if cap = j then some ⟨b, 0, none⟩ else some ⟨b, j * n, none⟩) m c))) (hij : i ≤ j) (hcs : cs.length = (j + m) * n) (hcap : j + m ≤ cap) :
  LT P ⟨d, .call { callee := .builtin .append, args := #[x, y], argTypes := #[t, t] }, ty, pos, af, g⟩ rs [.cells b e cs (cap * n)] (Is (.val (.slice (some ⟨b, 0, none⟩) (i + m) cap)) [.cells b e (cs.take (i * n) ++ cs.drop (j * n)) (cap * n)]) :=
 LT_eff (fun _ e => by cases e) fun a w G F hR hI => by
  obtain ⟨F1, F2, ep, ⟨vs, rest, hF1, hf, hone, hb, htot⟩, h2⟩ := hI.hs
  have h2' : F2 = [] := h2
  subst h2' hF1
  have hF : F = [b] := List.perm_singleton.1 (by simpa using ep)
  subst hF
  obtain ⟨ti, z, hi, hz, hs, hby, hzs⟩ := hT.info
  have e1 : a.eval x = _ := opv_ok hR hx
  have e2 : a.eval y = _ := opv_ok hR hy
  have hvl : vs.length = (j + m) * n := by rw [hf.length, hcs]
  have hjm : (j + m) * n = j * n + m * n := Nat.add_mul _ _ _
  have hle : (j + m) * n ≤ cap * n := Nat.mul_le_mul_right n hcap
  have hij' : i * n ≤ j * n := Nat.mul_le_mul_right n hij
  have hcell : ∀ q u, (vs.drop (j * n))[q]? = some u → w.cell? ⟨b, j * n + q, none⟩ = some u := fun q u hu => by
   rw [cell_of_row w b _ _ _ _ hb]
   rw [List.getElem?_drop] at hu
   have hlt := (List.getElem?_eq_some_iff.1 hu).1
   simp only [List.getElem?_toArray]
   rw [List.getElem?_append_left hlt]; exact hu
  have hsrc : Src P ti.size t (.slice (if cap = j then some ⟨b, 0, none⟩ else some ⟨b, j * n, none⟩) m c) m (vs.drop (j * n)) w := by
   by_cases hcj : cap = j
   ·have hm0 : m = 0 := by omega
    subst hm0
    have hd : vs.drop (j * n) = [] := List.drop_of_length_le (by omega)
    rw [if_pos hcj, hd]
    exact Src.ofSlice w hT.und ⟨b, 0, none⟩ 0 c [] (by simp) (fun j u e => by simp at e) (fun _ h => by simp at h)
   ·rw [if_neg hcj]
    exact Src.ofSlice w hT.und ⟨b, j * n, none⟩ m c _ (by rw [List.length_drop, hs]; omega) (fun q u hu => by rw [add_plain]; exact hcell q u hu) (fun u hu => hone u (List.mem_of_mem_drop hu))
  have hdl : (vs.drop (j * n)).length = m * n := by rw [List.length_drop]; omega
  have hr := run_append_row (P := P) t t ty e ti hT.und hi b i cap _ m _ hsrc (by omega) _ e hb (by rw [hs, hdl]; simp only [List.size_toArray]; omega)
  obtain ⟨f1, f2⟩ := fr_setRow hI.gin (hI.own b (by simp)).2 ((vs ++ rest).toArray.toList.take (i * ti.size) ++ vs.drop (j * n) ++ (vs ++ rest).toArray.toList.drop (i * ti.size + (vs.drop (j * n)).length)).toArray
  refine ⟨_, _, _, _, _, G, [b], ?_, .inl rfl, ⟨rfl, rfl⟩, f1, ⟨f2, by simp, fun q hq => ?_, [b], [], by simp, ⟨vs.take (i * n) ++ vs.drop (j * n), (vs ++ rest).drop (i * n + m * n), rfl, (hf.take _).append (hf.drop _), fun u hu => ?_, ?_, ?_⟩, rfl⟩, rfl⟩
  ·simp [execOp, resolve, e1, e2, invoke, builtin, hr]
  ·rw [List.mem_singleton] at hq; subst hq; simp only [setRow_size]; exact hI.own _ (by simp)
  ·rcases List.mem_append.1 hu with h | h
   ·exact hone u (List.mem_of_mem_take h)
   ·exact hone u (List.mem_of_mem_drop h)
  ·have ht : (vs ++ rest).take (i * n) = vs.take (i * n) := List.take_append_of_le_length (by omega)
   have := setRow_heap w b (vs ++ rest).toArray ((vs ++ rest).toArray.toList.take (i * ti.size) ++ vs.drop (j * n) ++ (vs ++ rest).toArray.toList.drop (i * ti.size + (vs.drop (j * n)).length)).toArray e (0, 0) hb
   rw [this]
   simp only [hs, hdl, ht]
  ·simp only [List.length_append, List.length_take, List.length_drop] at htot ⊢
   omega
theorem lt_clearV {x : Operand} {t e : TypeId} {n : Nat} (hT : TyE P t e n) {zs : List Value} (hZ : TyZ P e zs) (hzl : zs.length = n) (hz1 : ∀ u ∈ zs, u.oneCell' = true) {b j m cap c : Nat} {cs : List AV} (hx : opv rs x = some (.val (.slice (if cap = j then some ⟨b, 0, none⟩ else some ⟨b, j * n, none⟩) m c))) (hcs : cs.length = j * n) (hcap : j + m ≤ cap) :
  LT P ⟨d, .call { callee := .builtin .clear, args := #[x], argTypes := #[t] }, ty, pos, af, g⟩ rs [.cells b e cs (cap * n)] (Is (.tup []) [.cells b e cs (cap * n)]) :=
 LT_eff (fun _ e => by cases e) fun a w G F hR hI => by
  obtain ⟨F1, F2, ep, ⟨vs, rest, hF1, hf, hone, hb, htot⟩, h2⟩ := hI.hs
  have h2' : F2 = [] := h2
  subst h2' hF1
  have hF : F = [b] := List.perm_singleton.1 (by simpa using ep)
  subst hF
  have e1 : a.eval x = _ := opv_ok hR hx
  have hvl : vs.length = j * n := by rw [hf.length, hcs]
  have hle : (j + m) * n ≤ cap * n := Nat.mul_le_mul_right n hcap
  have hjm : (j + m) * n = j * n + m * n := Nat.add_mul _ _ _
  cases m with
  | zero =>
   refine ⟨_, w, _, _, _, G, [b], ?_, .inl rfl, ⟨rfl, rfl⟩, Fr.refl _ _ _, hI, ⟨[], rfl, trivial⟩⟩
   by_cases hcj : cap = j <;> simp [execOp, resolve, e1, invoke, builtin, Builtin.clear_, run_underlying hT.und, hcj]
  | succ m =>
   have hcj : cap ≠ j := by omega
   rw [if_neg hcj] at e1
   obtain ⟨z, hz, hzc⟩ := hZ.run w
   obtain ⟨news, hnews⟩ : ∃ news, news = (Builtin.zeroCells z.cells (m + 1)).toList := ⟨_, rfl⟩
   have hnl : news.length = (m + 1) * n := by rw [hnews, hzc]; simp [Builtin.zeroCells, hzl]
   have hn1 : ∀ u ∈ news, u.oneCell' = true := fun u hu => by
    rw [hnews, hzc] at hu
    simp only [Builtin.zeroCells, Array.toList_map, List.mem_map, Array.toList_range, List.mem_range, List.size_toArray] at hu
    obtain ⟨q, _, rfl⟩ := hu
    have hlt : q % zs.length < zs.length := Nat.mod_lt _ (by have := hT.pos; omega)
    rw [getElem!_pos zs.toArray _ (by simpa using hlt)]
    exact hz1 _ (by simp)
   have hst := run_storeCells_at P b (j * n) e news 0 _ w hb (by simp only [List.size_toArray, Nat.add_zero]; omega) hn1
   simp only [Nat.add_zero] at hst
   obtain ⟨f1, f2⟩ := fr_setRow hI.gin (hI.own b (by simp)).2 ((vs ++ rest).toArray.toList.take (j * n) ++ news ++ (vs ++ rest).toArray.toList.drop (j * n + news.length)).toArray
   refine ⟨_, _, _, _, _, G, [b], ?_, .inl rfl, ⟨rfl, rfl⟩, f1, ⟨f2, by simp, fun q hq => ?_, [b], [], by simp, ⟨vs, news ++ (vs ++ rest).drop (j * n + news.length), rfl, hf, hone, ?_, ?_⟩, rfl⟩, ⟨[], rfl, trivial⟩⟩
   ·have h3 := hz
    simp [execOp, resolve, e1, invoke, builtin, Builtin.clear_, run_underlying hT.und, hz, ← hnews, hst]
   ·rw [List.mem_singleton] at hq; subst hq; simp only [setRow_size]; exact hI.own _ (by simp)
   ·have ht : (vs ++ rest).take (j * n) = vs := by rw [List.take_append_of_le_length (by omega), List.take_of_length_le (by omega)]
    have := setRow_heap w b (vs ++ rest).toArray ((vs ++ rest).toArray.toList.take (j * n) ++ news ++ (vs ++ rest).toArray.toList.drop (j * n + news.length)).toArray e (0, 0) hb
    rw [this]
    simp only [ht, List.append_assoc]
   ·simp only [List.length_append, List.length_drop] at htot ⊢
    omega
end
theorem flat_take {α : Type} {f : α → List AV} {n : Nat} : ∀ {xs : List α}, (∀ x ∈ xs, (f x).length = n) → ∀ (k : Nat), (xs.flatMap f).take (k * n) = (xs.take k).flatMap f ∧ (xs.flatMap f).drop (k * n) = (xs.drop k).flatMap f
 | [], _, k => by simp
 | x :: xs, _, 0 => by simp
 | x :: xs, h, k + 1 => by
  have hx := h x (by simp)
  obtain ⟨h1, h2⟩ := flat_take (xs := xs) (fun y hy => h y (by simp [hy])) k
  rw [List.flatMap_cons, Nat.succ_mul, show k * n + n = (f x).length + k * n by omega, List.take_append, List.drop_append, List.take_of_length_le (by omega), List.drop_of_length_le (l := f x) (by omega), Nat.add_sub_cancel_left, h1, h2]
  simp
section
variable {c : Cx} {rs : List (Nat × AV)} {hs : List HA} {Q : Exit → S → Prop} {ops : Array Oper} {tl : List Oper} {d : Nat} {ty : TypeId} {pos : String} {af : Array Edge}
theorem wl_lenV {x : Operand} {t e : TypeId} {n : Nat} [TyS c.P t e n] {a : Option Addr} {len cap : Nat} (hx : opv rs x = some (.val (.slice a len cap))) (hd : Nat.blt d c.nt = true) (k : WL c ops tl ⟨(d, .val (.int .i64 len)) :: rs, hs⟩ Q) : WL c ops (⟨some d, .call { callee := .builtin .len, args := #[x], argTypes := #[t] }, ty, pos, af, none⟩ :: tl) ⟨rs, hs⟩ Q := wl_ex (lt_lenV hx) hd k
theorem wl_slice3V {x lo hi mx : Operand} {t e : TypeId} {n : Nat} {ad : Option Addr} {len cap l h m : Nat} (hx : opv rs x = some (.val (.slice ad len cap))) (hT : TyE c.P t e n)
  (hlo : opv rs lo = some (.val (.int .i64 (l : Int)))) (hhi : opv rs hi = some (.val (.int .i64 (h : Int)))) (hmx : opv rs mx = some (.val (.int .i64 (m : Int)))) (h1 : l ≤ h) (h2 : h ≤ m) (h3 : m ≤ cap) (hd : Nat.blt d c.nt = true) (k : WL c ops tl ⟨(d, .any) :: rs, hs⟩ Q) : WL c ops (⟨some d, .slice t x (some lo) (some hi) (some mx), ty, pos, af, none⟩ :: tl) ⟨rs, hs⟩ Q := wl_ex (lt_slice3V hT hx hlo hhi hmx h1 h2 h3) hd k
theorem wl_sliceV {x : Operand} {lo hi : Option Operand} {t e : TypeId} {n : Nat} {ad : Option Addr} {len cap l h : Nat} {li hi' : Int} (hx : opv rs x = some (.val (.slice ad len cap))) (hT : TyE c.P t e n)
  (hlo : lo.map (opv rs) = some (some (.val (.int .i64 li))) ∨ (lo = none ∧ li = 0)) (hl : li = (l : Int)) (hhi : hi.map (opv rs) = some (some (.val (.int .i64 hi'))) ∨ (hi = none ∧ hi' = (len : Int))) (hh : hi' = (h : Int)) (h1 : l ≤ h) (h2 : h ≤ cap) (h3 : len ≤ cap) (hd : Nat.blt d c.nt = true)
  (k : WL c ops tl ⟨(d, .val (.slice (if cap = l then ad else ad.map (·.add (l * n))) (h - l) (cap - l))) :: rs, hs⟩ Q) : WL c ops (⟨some d, .slice t x lo hi none, ty, pos, af, none⟩ :: tl) ⟨rs, hs⟩ Q := wl_ex (lt_sliceV hT hx hlo hl hhi hh h1 h2 h3) hd k
theorem wl_moveV {x y : Operand} {t e : TypeId} {n : Nat} {b i j m cap cc : Nat} {cs : List AV} {f : HA → List HA} (hx : opv rs x = some (.val (.slice (some ⟨b, 0, none⟩) i cap))) (hy : opv rs y = some (.val (.slice (if cap = j then some ⟨b, 0, none⟩ else some ⟨b, j * n, none⟩) m cc))) (hat : At hs (.cells b e cs (cap * n)) f) (hT : TyE c.P t e n) (hij : i ≤ j) (hcs : cs.length = (j + m) * n) (hcap : j + m ≤ cap) (hd : Nat.blt d c.nt = true)
  (k : WL c ops tl ⟨(d, .val (.slice (some ⟨b, 0, none⟩) (i + m) cap)) :: rs, f (.cells b e (cs.take (i * n) ++ cs.drop (j * n)) (cap * n))⟩ Q) : WL c ops (⟨some d, .call { callee := .builtin .append, args := #[x, y], argTypes := #[t, t] }, ty, pos, af, none⟩ :: tl) ⟨rs, hs⟩ Q :=
 WL_at (o := ⟨some d, .call { callee := .builtin .append, args := #[x, y], argTypes := #[t, t] }, ty, pos, af, none⟩) hd rfl hat (lt_moveV hT hx hy hij hcs hcap) k
theorem wl_clearV {x : Operand} {t e : TypeId} {n : Nat} {zs : List Value} {b j m cap cc : Nat} {cs : List AV} {f : HA → List HA} (hx : opv rs x = some (.val (.slice (if cap = j then some ⟨b, 0, none⟩ else some ⟨b, j * n, none⟩) m cc))) (hat : At hs (.cells b e cs (cap * n)) f) (hT : TyE c.P t e n) (hZ : TyZ c.P e zs) (hzl : zs.length = n) (hz1 : ∀ u ∈ zs, u.oneCell' = true) (hcs : cs.length = j * n) (hcap : j + m ≤ cap)
  (k : WL c ops tl ⟨rs, hs⟩ Q) : WL c ops (⟨none, .call { callee := .builtin .clear, args := #[x], argTypes := #[t] }, ty, pos, af, none⟩ :: tl) ⟨rs, hs⟩ Q :=
 WL_at (o := ⟨none, .call { callee := .builtin .clear, args := #[x], argTypes := #[t] }, ty, pos, af, none⟩) rfl rfl hat (lt_clearV hT hZ hzl hz1 hx hcs hcap) (by rw [hat.self]; exact k)
end
theorem LT_is {P : Program} {o : Oper} {rs : List (Nat × AV)} {cons prod : List HA} {av : AV} (av' : AV) (h : LT P o rs cons (Is av prod)) (e : av = av') : LT P o rs cons (Is av' prod) := e ▸ h
theorem toV {b cap i n : Nat} : (AV.val (.slice (if cap = 0 then some (⟨b, 0, none⟩ : Addr) else (some (⟨b, 0, none⟩ : Addr)).map (·.add (0 * n))) (i - 0) (cap - 0))) = AV.val (.slice (some ⟨b, 0, none⟩) i cap) := by
 congr 2
 split <;> simp [add_plain]
theorem fromV {b cap j n h : Nat} : (AV.val (.slice (if cap = j then some (⟨b, 0, none⟩ : Addr) else (some (⟨b, 0, none⟩ : Addr)).map (·.add (j * n))) (h - j) (cap - j))) = AV.val (.slice (if cap = j then some ⟨b, 0, none⟩ else some ⟨b, j * n, none⟩) (h - j) (cap - j)) := by
 congr 2
 split <;> simp [add_plain]
theorem WL_fact {c : Cx} {rs : List (Nat × AV)} {hs r : List HA} {Q : Exit → S → Prop} {ops : Array Oper} {l : List Oper} {p : Prop} (hr : Rm hs (.fact p) r) (k : p → WL c ops l ⟨rs, r⟩ Q) : WL c ops l ⟨rs, hs⟩ Q := ⟨fun a w st => by
 obtain ⟨G, F, hI, rr⟩ := st
 have := hsP.fact.1 (hr.sel hI.hs)
 exact (k this.1).out a w ⟨G, F, ⟨hI.gin, hI.nd, hI.own, this.2⟩, rr⟩⟩
theorem Res_add {P : Program} {fn : Func} {post : AV → List HA → Prop} {rs : List (Nat × AV)} {hs : List HA} (h : HA) (hP : ∀ G w, h.P G [] w) (k : Res P fn post ⟨rs, h :: hs⟩) : Res P fn post ⟨rs, hs⟩ := by
 obtain ⟨av, prod, hp, k⟩ := k
 exact ⟨av, prod, hp, fun a w G F hR hI => k a w G F hR ⟨hI.gin, hI.nd, hI.own, [], F, .refl _, hP G w, hI.hs⟩⟩
theorem row_nilP {α : Type} (e : TypeId) (n : Nat) (f : α → List AV) (G : Nat → Option Obj) (w : World) : (HA.row (.slice none 0 0) e n f ([] : List α)).P G [] w :=
 ⟨[], rfl, fun _ h => (by cases h), trivial, fun _ h => (by cases h), ⟨by simp, .inl ⟨rfl, rfl⟩⟩⟩
theorem st_unpack {c : Cx} {rs : List (Nat × AV)} {hs r l l' : List HA} {h : HA} {a : Act} {w : World} (hr : Rm hs (.pack l) r) (hp : l.Perm (h :: l')) (st : St c ⟨rs, hs⟩ a w) : St c ⟨rs, h :: .pack l' :: r⟩ a w := by
 obtain ⟨G, F, hI, rr⟩ := st
 refine ⟨G, F, ⟨hI.gin, hI.nd, hI.own, ?_⟩, rr⟩
 obtain ⟨A, B, e, hA, hB⟩ := hr.sel hI.hs
 obtain ⟨C, D, e2, hC, hD⟩ := hsP.permL hp hA
 exact ⟨C, D ++ B, e.trans ((e2.append_right B).trans (by rw [List.append_assoc])), hC, D, B, .refl _, hD, hB⟩
theorem W_unpack {c : Cx} {rs : List (Nat × AV)} {hs r l l' : List HA} {h : HA} {Q : Exit → S → Prop} {x : Code} (hp : l.Perm (h :: l')) (hr : Rm hs (.pack l) r) (k : W c x ⟨rs, h :: .pack l' :: r⟩ Q) : W c x ⟨rs, hs⟩ Q := ⟨fun a w st => k.out a w (st_unpack hr hp st)⟩
theorem st_repack {c : Cx} {rs : List (Nat × AV)} {hs r r' l l' : List HA} {h : HA} {a : Act} {w : World} (hp : l.Perm (h :: l')) (hr : Rm hs h r) (hr2 : Rm r (.pack l') r') (st : St c ⟨rs, hs⟩ a w) : St c ⟨rs, .pack l :: r'⟩ a w := by
 obtain ⟨G, F, hI, rr⟩ := st
 refine ⟨G, F, ⟨hI.gin, hI.nd, hI.own, ?_⟩, rr⟩
 obtain ⟨A, B, e, hA, hB⟩ := hr.sel hI.hs
 obtain ⟨C, D, e2, hC, hD⟩ := hr2.sel hB
 exact ⟨A ++ C, D, e.trans ((e2.append_left A).trans (by rw [List.append_assoc])), hsP.permL hp.symm ⟨A, C, .refl _, hA, hC⟩, hD⟩
end Go.Proofs.YtihonljdanjfmaaGreatDoor.Sw
namespace Go.Proofs.YtihonljdanjfmaaGreatDoor.Sw
open Go.RowKit Go
open Go.WideElems (Fit)
open Go.ChangeMaps (setBlock heap_setBlock_same heap_setBlock_other)
abbrev anyM : Value → Option (DataW Nat × List MemPlace) := fun _ => some (.nil, [])
structure KeyT (P : Program) (t : TypeId) {κ : Type} (kv : κ → Value) (ok : κ → Prop) : Prop where
 keyed : Go.Maps.Keyed P t
 key : ∀ k, ok k → ∃ l, keyOf P t (kv k) = some l
 inj : ∀ k k', kv k = kv k' → k = k'
def getM {κ α : Type} [DecidableEq κ] : List (κ × α) → κ → Option α
 | [], _ => none
 | p :: t, k => if p.1 = k then some p.2 else getM t k
def delM {κ α : Type} [DecidableEq κ] (l : List (κ × α)) (k : κ) : List (κ × α) := l.filter fun p => !decide (p.1 = k)
def putM {κ α : Type} [DecidableEq κ] (l : List (κ × α)) (k : κ) (a : α) : List (κ × α) := (k, a) :: delM l k
section
variable {κ α : Type} [DecidableEq κ]
theorem getM_iff {k : κ} {a : α} : ∀ {l : List (κ × α)}, l.Pairwise (fun p q => p.1 ≠ q.1) → (getM l k = some a ↔ (k, a) ∈ l)
 | [], _ => by simp [getM]
 | p :: t, h => by
  obtain ⟨h1, h2⟩ := List.pairwise_cons.1 h
  have ih := getM_iff (k := k) (a := a) h2
  unfold getM
  split
  ·rename_i e
   subst e
   constructor
   ·intro e; cases e; simp
   ·intro e
    rcases List.mem_cons.1 e with e | e
    ·rw [← e]
    ·exact absurd rfl (h1 (p.1, a) e)
  ·rename_i e
   rw [ih]
   constructor
   ·intro e; exact List.mem_cons_of_mem _ e
   ·intro e'
    rcases List.mem_cons.1 e' with e' | e'
    ·exact absurd (by rw [← e']) e
    ·exact e'
theorem getM_none {k : κ} : ∀ {l : List (κ × α)}, getM l k = none ↔ ∀ p ∈ l, p.1 ≠ k
 | [] => by simp [getM]
 | p :: t => by
  unfold getM
  split
  ·rename_i e; simp [e]
  ·rename_i e; rw [getM_none]; simp [e]
theorem getM_del {l : List (κ × α)} {k k' : κ} : getM (delM l k) k' = if k' = k then none else getM l k' := by
 unfold delM
 induction l with
 | nil => simp [getM]
 | cons p t ih =>
  by_cases h : p.1 = k
  ·rw [List.filter_cons_of_neg (by simp [h]), ih]
   subst h
   split
   ·rfl
   ·rename_i h2; rw [getM, if_neg (fun e => h2 e.symm)]
  ·rw [List.filter_cons_of_pos (by simp [h])]
   by_cases h2 : p.1 = k'
   ·subst h2; rw [if_neg h]; simp [getM]
   ·rw [getM, if_neg h2, ih]
    split
    ·rfl
    ·rw [getM, if_neg h2]
theorem getM_put {l : List (κ × α)} {k k' : κ} {a : α} : getM (putM l k a) k' = if k' = k then some a else getM l k' := by
 unfold putM
 rw [getM]
 by_cases h : k' = k
 ·subst h; simp
 ·rw [if_neg (fun e => h e.symm), if_neg h, getM_del, if_neg h]
theorem delM_len (l : List (κ × α)) (k : κ) : (delM l k).length ≤ l.length := List.length_filter_le _ _
theorem putM_len (l : List (κ × α)) (k : κ) (a : α) : (putM l k a).length ≤ l.length + 1 := by
 have := delM_len l k
 simp only [putM, List.length_cons]; omega
end
section
variable {κ α : Type} (kv : κ → Value) (g : α → AV)
def MpL (G : Nat → Option Obj) : List (κ × α) → List MapEntry → Prop
 | [], [] => True
 | p :: l, x :: xs => (x.key = kv p.1 ∧ (g p.2).P G x.val) ∧ MpL G l xs
 | _, _ => False
variable {kv g}
theorem MpL.mono {G G' : Nat → Option Obj} (h : Gle G G') : ∀ {l : List (κ × α)} {xs : List MapEntry}, MpL kv g G l xs → MpL kv g G' l xs
 | [], [], _ => trivial
 | _ :: _, _ :: _, k => ⟨⟨k.1.1, (g _).mono h k.1.2⟩, MpL.mono h k.2⟩
 | [], _ :: _, k => k.elim
 | _ :: _, [], k => k.elim
theorem MpL.perm {G : Nat → Option Obj} {xs ys : List MapEntry} (hp : xs.Perm ys) : ∀ {l : List (κ × α)}, MpL kv g G l xs → ∃ l', l.Perm l' ∧ MpL kv g G l' ys := by
 induction hp with
 | nil => exact fun {l} h => ⟨l, .refl _, h⟩
 | cons x hp ih =>
  intro l h
  match l, h with
  | p :: l, ⟨h1, h2⟩ =>
   obtain ⟨l', e, h3⟩ := ih h2
   exact ⟨p :: l', e.cons p, h1, h3⟩
  | [], h => exact h.elim
 | swap x y t =>
  intro l h
  match l, h with
  | p :: q :: l, ⟨h1, h2, h3⟩ => exact ⟨q :: p :: l, List.Perm.swap _ _ _, h2, h1, h3⟩
  | [_], h => exact h.2.elim
  | [], h => exact h.elim
 | trans _ _ ih1 ih2 =>
  intro l h
  obtain ⟨l1, e1, h1⟩ := ih1 h
  obtain ⟨l2, e2, h2⟩ := ih2 h1
  exact ⟨l2, e1.trans e2, h2⟩
theorem MpL.keys {G : Nat → Option Obj} : ∀ {l : List (κ × α)} {xs : List MapEntry}, MpL kv g G l xs → xs.map (·.key) = l.map fun p => kv p.1
 | [], [], _ => rfl
 | _ :: _, _ :: _, k => by simp only [List.map_cons]; rw [k.1.1, MpL.keys k.2]
 | [], _ :: _, k => k.elim
 | _ :: _, [], k => k.elim
variable (kv g)
def MpP (G : Nat → Option Obj) (l : List (κ × α)) (xs : List MapEntry) : Prop := ∃ l', l.Perm l' ∧ MpL kv g G l' xs
variable {kv g}
theorem MpP.perm {G : Nat → Option Obj} {l : List (κ × α)} {xs ys : List MapEntry} (h : MpP kv g G l xs) (hp : xs.Perm ys) : MpP kv g G l ys := by
 obtain ⟨l1, e1, h1⟩ := h
 obtain ⟨l2, e2, h2⟩ := h1.perm hp
 exact ⟨l2, e1.trans e2, h2⟩
theorem MpP.permL {G : Nat → Option Obj} {l k : List (κ × α)} {xs : List MapEntry} (h : MpP kv g G l xs) (hp : k.Perm l) : MpP kv g G k xs := by
 obtain ⟨l1, e1, h1⟩ := h
 exact ⟨l1, hp.trans e1, h1⟩
theorem MpP.cons {G : Nat → Option Obj} {l : List (κ × α)} {xs : List MapEntry} (h : MpP kv g G l xs) {p : κ × α} {x : MapEntry} (h1 : x.key = kv p.1) (h2 : (g p.2).P G x.val) : MpP kv g G (p :: l) (x :: xs) := by
 obtain ⟨l1, e1, h3⟩ := h
 exact ⟨p :: l1, e1.cons p, ⟨h1, h2⟩, h3⟩
theorem MpP.uncons {G : Nat → Option Obj} {l : List (κ × α)} {x : MapEntry} {xs : List MapEntry} (h : MpP kv g G l (x :: xs)) : ∃ p l3, l.Perm (p :: l3) ∧ x.key = kv p.1 ∧ (g p.2).P G x.val ∧ MpP kv g G l3 xs := by
 obtain ⟨l1, e1, h1⟩ := h
 match l1, h1 with
 | p :: l3, ⟨⟨h2, h3⟩, h4⟩ => exact ⟨p, l3, e1, h2, h3, l3, .refl _, h4⟩
 | [], h1 => exact h1.elim
theorem MpP.len {G : Nat → Option Obj} {l : List (κ × α)} {xs : List MapEntry} (h : MpP kv g G l xs) : l.length = xs.length := by
 obtain ⟨l1, e1, h1⟩ := h
 have := congrArg List.length h1.keys
 simp only [List.length_map] at this
 rw [e1.length_eq, this]
theorem MpP.nodup {G : Nat → Option Obj} {l : List (κ × α)} {xs : List MapEntry} (h : MpP kv g G l xs) (hn : (xs.map (·.key)).Nodup) : l.Pairwise (fun p q => p.1 ≠ q.1) := by
 obtain ⟨l1, e1, h1⟩ := h
 rw [h1.keys] at hn
 have hn2 : (l.map fun p => kv p.1).Nodup := (e1.map _).nodup_iff.2 hn
 have := List.pairwise_map.1 hn2
 exact this.imp fun h e => h (by rw [e])
end
def HA.mp {κ α : Type} (P : Program) (v : Value) (t : TypeId) (kv : κ → Value) (g : α → AV) (l : List (κ × α)) : HA :=
 ⟨fun G F w => ∃ b es clock, v = .map (some b) ∧ F = [b] ∧ w.heap[b]? = some (.map es clock) ∧ Fit P t anyM es clock ∧ MpP kv g G l es.toList,
  fun h ⟨b, es, clock, e1, e2, e3, e4, l', e5, e6⟩ => ⟨b, es, clock, e1, e2, e3, e4, l', e5, e6.mono h⟩,
  fun h ⟨b, es, clock, e1, e2, e3, e4⟩ => ⟨b, es, clock, e1, e2, (h b (by rw [e2]; simp)).trans e3, e4⟩⟩
section
variable {P : Program} {κ α : Type} [DecidableEq κ] {t : TypeId} {kv : κ → Value} {ok : κ → Prop} {g : α → AV} {l : List (κ × α)} {G : Nat → Option Obj} {F : List Nat} {w : World} {v : Value}
def lkA (g : α → AV) (z : Value) : Option α → AV
 | some a => g a
 | none => .val z
theorem mp_look (K : KeyT P t kv ok) {tm e : TypeId} (ht : P.underlying tm = some (.map t e)) {z : Value} (hz : ∀ w, (zeroValue e).run P w = .ok z w) (c : Bool) {k : κ} (hk : ok k) (h : (HA.mp P v t kv g l).P G F w) :
  ∃ u, (lkA g z (getM l k)).P G u ∧ (Instr.lookup tm v (kv k) c).run P w = .ok (if c then .tuple #[u, .bool (getM l k).isSome] else u) w := by
 obtain ⟨b, es, clock, rfl, _, hb, hF, hm⟩ := h
 obtain ⟨kl, hkey⟩ := K.key k hk
 have hn := hm.nodup hF.stamped.2.2
 rcases Go.Maps.fit_look c K.keyed ht (hz w) hb hF hkey with ⟨hr, hno, _⟩ | ⟨e0, y, hm0, hk0, hr, _⟩
 ·have : getM l k = none := getM_none.2 fun p hp e => by
   obtain ⟨l', e1, h1⟩ := hm
   have h2 : kv p.1 ∈ es.toList.map (·.key) := by rw [h1.keys]; exact List.mem_map.2 ⟨p, e1.mem_iff.1 hp, rfl⟩
   obtain ⟨x, hx, ex⟩ := List.mem_map.1 h2
   exact hno x hx (by rw [ex, e])
  rw [this]
  exact ⟨z, rfl, hr⟩
 ·obtain ⟨s, r, es2⟩ := List.append_of_mem hm0
  obtain ⟨p, l3, h1, h2, h3, _⟩ := (hm.perm (by rw [es2]; exact List.perm_middle)).uncons
  have : p.1 = k := K.inj _ _ (h2.symm.trans hk0)
  have hg : getM l k = some p.2 := (getM_iff hn).2 (h1.mem_iff.2 (by rw [← this]; simp))
  rw [hg]
  exact ⟨e0.val, h3, hr⟩
theorem MpP.del {xs r : List MapEntry} {e0 : MapEntry} (hinj : ∀ k k' : κ, kv k = kv k' → k = k') (h : MpP kv g G l xs) (hn : l.Pairwise (fun p q => p.1 ≠ q.1)) (hp : xs.Perm (e0 :: r)) {k : κ} (hk : e0.key = kv k) : MpP kv g G (delM l k) r := by
 obtain ⟨p, l3, h1, h2, h3, h4⟩ := (h.perm hp).uncons
 have hpk : p.1 = k := hinj _ _ (h2.symm.trans hk)
 have hn2 : (p :: l3).Pairwise (fun p q => p.1 ≠ q.1) := h1.pairwise hn (fun h e => h e.symm)
 refine h4.permL ?_
 have h5 := h1.filter (fun q : κ × α => !decide (q.1 = k))
 rw [List.filter_cons_of_neg (by simp [hpk])] at h5
 refine h5.trans (.of_eq (List.filter_eq_self.2 fun q hq => ?_))
 have := (List.pairwise_cons.1 hn2).1 q hq
 rw [hpk] at this
 simpa using fun e : q.1 = k => this e.symm
theorem MpP.del0 {xs : List MapEntry} (h : MpP kv g G l xs) {k : κ} (hno : ∀ x ∈ xs, x.key ≠ kv k) : delM l k = l := List.filter_eq_self.2 fun q hq => by
 obtain ⟨l', e1, h1⟩ := h
 have h2 : kv q.1 ∈ xs.map (·.key) := by rw [h1.keys]; exact List.mem_map.2 ⟨q, e1.mem_iff.1 hq, rfl⟩
 obtain ⟨x, hx, ex⟩ := List.mem_map.1 h2
 simpa using fun e : q.1 = k => hno x hx (by rw [ex, e])
theorem set_permM {x : MapEntry} : ∀ {xs : List MapEntry} {j : Nat} {e0 : MapEntry}, xs[j]? = some e0 → ∃ r, xs.Perm (e0 :: r) ∧ (xs.set j x).Perm (x :: r) ∧ xs.eraseIdx j = r
 | y :: ys, 0, e0, h => by simp at h; subst h; exact ⟨ys, .refl _, .refl _, rfl⟩
 | y :: ys, j + 1, e0, h => by
  obtain ⟨r, h1, h2, h3⟩ := set_permM (x := x) (xs := ys) (j := j) (by simpa using h)
  exact ⟨y :: r, (h1.cons y).trans (List.Perm.swap _ _ _), (h2.cons y).trans (List.Perm.swap _ _ _), by simp [h3]⟩
 | [], _, _, h => by simp at h
theorem mp_store (K : KeyT P t kv ok) {tm e : TypeId} (ht : P.underlying tm = some (.map t e)) {k : κ} (hk : ok k) (hl : l.length ≤ 1000000) {a : α} {u : Value} (hu : (g a).P G u) (h : (HA.mp P v t kv g l).P G F w) :
  ∃ b o o0, v = .map (some b) ∧ F = [b] ∧ w.heap[b]? = some o0 ∧ (∃ es cl, o0 = .map es cl) ∧ (Instr.mapUpdate tm v (kv k) u).run P w = .ok () (setBlock w b o) ∧ (HA.mp P v t kv g (putM l k a)).P G F (setBlock w b o) := by
 obtain ⟨b, es, clock, rfl, rfl, hb, hF, hm⟩ := h
 obtain ⟨kl, hkey⟩ := K.key k hk
 have hn := hm.nodup hF.stamped.2.2
 have hlen := hm.len
 have hmax : maxLen = 9223372036854775807 := rfl
 have hsz : es.size < maxLen := by rw [hmax]; simp at hlen; omega
 obtain ⟨es', clock', hr, hF', _⟩ := Go.Maps.fit_store (R' := anyM) (val := u) K.keyed ht hb hF hsz (fun _ _ _ z hz => hz) hkey (yv := (.nil, [])) rfl
 refine ⟨b, .map es' clock', _, rfl, rfl, hb, ⟨_, _, rfl⟩, hr, b, es', clock', rfl, rfl, heap_setBlock_same hb _, hF', ?_⟩
 have same : ∀ {o o' : Obj}, (Result.ok () (setBlock w b o) : Result Unit) = .ok () (setBlock w b o') → o = o' := fun {o o'} e => by
  injection e with _ e
  have h1 := heap_setBlock_same hb o
  rw [e, heap_setBlock_same hb o'] at h1
  exact (Option.some.inj h1).symm
 rcases K.keyed.find w hkey es.toList hF.keys with ⟨h1, h2⟩ | ⟨j, e0, h1, h2, h3⟩
 ·have hr2 : (Instr.mapUpdate tm (.map (some b)) (kv k) u).run P w = .ok () (setBlock w b (.map (es.push ⟨kv k, u, clock⟩) (clock + 1))) := by
   simp [Instr.mapUpdate, run_underlying ht, MapKept.run_getObj_map hb, K.keyed.check w false hkey, h1, MapKept.run_setObj_map _ hb, Result.andThen, setBlock]
  have e1 := same (hr.symm.trans hr2)
  injection e1 with e1 e2
  subst e1
  unfold putM
  rw [hm.del0 h2, Array.toList_push]
  exact (hm.cons (p := (k, a)) (x := ⟨kv k, u, clock⟩) rfl hu).perm (List.perm_append_singleton _ _).symm
 ·have hj : es[j]? = some e0 := by simpa using h2
  have hr2 : (Instr.mapUpdate tm (.map (some b)) (kv k) u).run P w = .ok () (setBlock w b (.map (es.modify j (fun e' => { e' with key := kv k, val := u })) clock)) := by
   simp [Instr.mapUpdate, run_underlying ht, MapKept.run_getObj_map hb, K.keyed.check w false hkey, h1, hj, h3, K.keyed.stays w hkey, MapKept.run_setObj_map _ hb, Result.andThen, setBlock]
  have e1 := same (hr.symm.trans hr2)
  injection e1 with e1 e2
  subst e1
  rw [Array.toList_modify, Go.ChangeMaps.modify_eq_set _ _ _ _ h2]
  obtain ⟨r, p1, p2, _⟩ := set_permM (x := { e0 with key := kv k, val := u }) h2
  exact ((hm.del K.inj hn p1 h3).cons (p := (k, a)) (x := { e0 with key := kv k, val := u }) rfl hu).perm p2.symm
theorem mp_drop (K : KeyT P t kv ok) {tm e ty : TypeId} (ht : P.underlying tm = some (.map t e)) {k : κ} (hk : ok k) (h : (HA.mp P v t kv g l).P G F w) :
  ∃ b o o0, v = .map (some b) ∧ F = [b] ∧ w.heap[b]? = some o0 ∧ (∃ es cl, o0 = .map es cl) ∧ (Builtin.delete_ #[tm, t] ty #[v, kv k]).run P w = .ok (.tuple #[]) (setBlock w b o) ∧ (HA.mp P v t kv g (delM l k)).P G F (setBlock w b o) := by
 obtain ⟨b, es, clock, rfl, rfl, hb, hF, hm⟩ := h
 obtain ⟨kl, hkey⟩ := K.key k hk
 have hn := hm.nodup hF.stamped.2.2
 obtain ⟨es', hr, hF', _⟩ := Go.Maps.fit_drop (ty := ty) K.keyed ht hb hF hkey
 refine ⟨b, .map es' clock, _, rfl, rfl, hb, ⟨_, _, rfl⟩, hr, b, es', clock, rfl, rfl, heap_setBlock_same hb _, hF', ?_⟩
 have same : ∀ {o o' : Obj}, (Result.ok (Value.tuple #[]) (setBlock w b o) : Result Value) = .ok (.tuple #[]) (setBlock w b o') → o = o' := fun {o o'} e => by
  injection e with _ e
  have h1 := heap_setBlock_same hb o
  rw [e, heap_setBlock_same hb o'] at h1
  exact (Option.some.inj h1).symm
 rcases K.keyed.find w hkey es.toList hF.keys with ⟨h1, h2⟩ | ⟨j, e0, h1, h2, h3⟩
 ·have hr2 : (Builtin.delete_ #[tm, t] ty #[.map (some b), kv k]).run P w = .ok (.tuple #[]) (setBlock w b (.map es clock)) := by
   simp [Builtin.delete_, run_underlying ht, MapKept.run_getObj_map hb, K.keyed.check w _ hkey, h1, MapKept.run_setObj_map _ hb, Result.andThen, setBlock]
  have e1 := same (hr.symm.trans hr2)
  injection e1 with e1 e2
  subst e1
  rw [hm.del0 h2]
  exact hm
 ·have hjs : j < es.size := by have := (List.getElem?_eq_some_iff.1 h2).1; simpa using this
  have hr2 : (Builtin.delete_ #[tm, t] ty #[.map (some b), kv k]).run P w = .ok (.tuple #[]) (setBlock w b (.map (es.eraseIdxIfInBounds j) clock)) := by
   simp [Builtin.delete_, run_underlying ht, MapKept.run_getObj_map hb, K.keyed.check w _ hkey, h1, MapKept.run_setObj_map _ hb, Result.andThen, setBlock]
  have e1 := same (hr.symm.trans hr2)
  injection e1 with e1 e2
  subst e1
  have hsub : (es.eraseIdxIfInBounds j).toList = es.toList.eraseIdx j := by
   unfold Array.eraseIdxIfInBounds
   rw [dif_pos hjs]
   simp
  rw [hsub]
  obtain ⟨r, p1, _, p3⟩ := set_permM (x := e0) h2
  rw [p3]
  exact hm.del K.inj hn p1 h3
theorem inv_setB {b : Nat} {o o0 : Obj} {h : HA} (hI : Inv G [b] [h] w) (hb : w.heap[b]? = some o0) (ho : ∃ es cl, o0 = .map es cl) {h' : HA} (hh : h'.P G [b] (setBlock w b o)) : Fr w (setBlock w b o) [b] [b] G G ∧ Inv G [b] [h'] (setBlock w b o) := by
 have hg := (hI.own b (by simp)).2
 obtain ⟨es, cl, rfl⟩ := ho
 refine ⟨⟨rfl, rfl, rfl, by simp [setBlock], fun j _ hj => heap_setBlock_other hb _ (fun e => hj (by rw [e]; simp)), fun _ h => .inl h, Gle.refl _, fun _ _ h => .inl h⟩, ⟨fun b' o' e => ?_, by simp, fun b' hb' => ?_, [b], [], by simp, hh, rfl⟩⟩
 ·have hne : b' ≠ b := fun e' => by subst e'; rw [hg] at e; cases e
  exact (heap_setBlock_other hb _ hne).trans (hI.gin b' o' e)
 ·have := hI.own b' hb'
  exact ⟨by simpa [setBlock] using this.1, this.2⟩
variable {rs : List (Nat × AV)} {d : Option Nat} {ty : TypeId} {pos : String} {af : Array Edge} {gd : Option (Nat × Bool)}
structure KeyV (av : AV) (u : Value) : Prop where
 out : ∀ G v, av.P G v → v = u
omit [DecidableEq κ] in
theorem KeyV.val {u : Value} : KeyV (.val u) u := ⟨fun _ _ h => h⟩
omit [DecidableEq κ] in
theorem KeyV.ints {cs : List AV} {xs : List Int} (h : Ints cs xs) : KeyV (.agg cs) (.agg (xs.map (Value.int .i64)).toArray) := ⟨fun _ _ ⟨_, e, hf⟩ => by rw [e, h.fits hf]⟩
theorem lt_look1 (K : KeyT P t kv ok) {tm e : TypeId} (ht : P.underlying tm = some (.map t e)) {z : Value} (hz : ∀ w, (zeroValue e).run P w = .ok z w) {x y : Operand} {av : AV} (k : κ) (hx : opv rs x = some (.val v)) (hy : opv rs y = some av) (hv : KeyV av (kv k)) (hk : ok k) :
  LT P ⟨d, .lookup tm x y false, ty, pos, af, gd⟩ rs [.mp P v t kv g l] (Is (lkA g z (getM l k)) [.mp P v t kv g l]) :=
 LT_read (fun _ e => by cases e) fun a w G F hR _ hh => by
  have e1 : a.eval x = v := opv_ok hR hx
  have e2 := hv.out G _ (opv_ok hR hy)
  obtain ⟨u, h1, h2⟩ := mp_look K ht hz false hk hh
  rw [if_neg (by simp)] at h2
  exact ⟨u, h1, by simp [execOp, e1, e2, h2, Result.andThen]⟩
theorem lt_mput (K : KeyT P t kv ok) {tm e : TypeId} (ht : P.underlying tm = some (.map t e)) {x y z : Operand} {av : AV} (k : κ) (a : α) (hx : opv rs x = some (.val v)) (hy : opv rs y = some av) (hv : KeyV av (kv k)) (hk : ok k) (hz : opv rs z = some (g a)) (hl : l.length ≤ 1000000) :
  LT P ⟨d, .mapUpdate tm x y z, ty, pos, af, gd⟩ rs [.mp P v t kv g l] (Is (.val undef) [.mp P v t kv g (putM l k a)]) :=
 LT_eff (fun _ e => by cases e) fun ac w G F hR hI => by
  obtain ⟨F1, F2, e, hm, h2⟩ := hI.hs
  have h2' : F2 = [] := h2
  subst h2'
  have e1 : ac.eval x = v := opv_ok hR hx
  have e2 := hv.out G _ (opv_ok hR hy)
  obtain ⟨b, o, o0, hvb, hF1, hb, ho, hr, hm'⟩ := mp_store K ht hk hl (opv_ok hR hz) hm
  subst hF1
  have hF : F = [b] := List.perm_singleton.1 (by simpa using e)
  subst hF
  obtain ⟨f1, f2⟩ := inv_setB hI hb ho hm'
  exact ⟨_, setBlock w b o, undef, _, _, G, [b], by simp [execOp, e1, e2, hr, Result.andThen], .inr ⟨rfl, rfl⟩, ⟨rfl, rfl⟩, f1, f2, rfl⟩
theorem lt_mdel (K : KeyT P t kv ok) {tm e : TypeId} (ht : P.underlying tm = some (.map t e)) {x y : Operand} {av : AV} (k : κ) (hx : opv rs x = some (.val v)) (hy : opv rs y = some av) (hv : KeyV av (kv k)) (hk : ok k) :
  LT P ⟨d, .call { callee := .builtin .delete, args := #[x, y], argTypes := #[tm, t] }, ty, pos, af, gd⟩ rs [.mp P v t kv g l] (Is (.tup []) [.mp P v t kv g (delM l k)]) :=
 LT_eff (fun _ e => by cases e) fun ac w G F hR hI => by
  obtain ⟨F1, F2, e, hm, h2⟩ := hI.hs
  have h2' : F2 = [] := h2
  subst h2'
  have e1 : ac.eval x = v := opv_ok hR hx
  have e2 := hv.out G _ (opv_ok hR hy)
  obtain ⟨b, o, o0, hvb, hF1, hb, ho, hr, hm'⟩ := mp_drop (ty := ty) K ht hk hm
  subst hF1
  have hF : F = [b] := List.perm_singleton.1 (by simpa using e)
  subst hF
  obtain ⟨f1, f2⟩ := inv_setB hI hb ho hm'
  exact ⟨_, setBlock w b o, .tuple #[], _, _, G, [b], by simp [execOp, resolve, invoke, builtin, e1, e2, hr, Result.andThen], .inl rfl, ⟨rfl, rfl⟩, f1, f2, [], rfl, trivial⟩
omit [DecidableEq κ] in
theorem lt_mlen {tm e : TypeId} (ht : P.underlying tm = some (.map t e)) {x : Operand} (hx : opv rs x = some (.val v)) :
  LT P ⟨d, .call { callee := .builtin .len, args := #[x], argTypes := #[tm] }, ty, pos, af, gd⟩ rs [.mp P v t kv g l] (Is (.val (.int .i64 l.length)) [.mp P v t kv g l]) :=
 LT_read (fun _ e => by cases e) fun a w G F hR _ ⟨b, es, clock, e1, _, hb, _, hm⟩ => by
  have e2 : a.eval x = v := opv_ok hR hx
  have e3 : a.eval x = .map (some b) := e2.trans e1
  have hl := hm.len
  refine ⟨_, rfl, ?_⟩
  simp [execOp, resolve, e3, invoke, builtin, Builtin.len_, run_underlying ht, MapKept.run_getObj_map hb, goInt, Result.andThen, hl]
omit [DecidableEq κ] in
theorem lt_mmake (K : KeyT P t kv ok) {tm : TypeId} : LT P ⟨d, .makeMap tm none, ty, pos, af, gd⟩ rs [] (fun x y => ∃ u, One (.val u) ∧ x = .val u ∧ y = [.mp P u t kv g []]) :=
 LT_eff (fun _ e => by cases e) fun a w G F hR hI => by
  obtain rfl := inv_nil hI
  obtain ⟨es, clock, h1, h2, h3, _⟩ := World.ownsMap_made w P t anyM
  have hes : es.toList = [] := by cases es with | mk l => simp at h3; simpa using h3
  refine ⟨_, w.alloc (.map #[] 0), .map (some w.heap.size), _, _, G, [w.heap.size], ?_, .inl rfl, ⟨_, ⟨fun _ _ h => by subst h; rfl⟩, rfl, rfl⟩, fr_alloc _ _ _, ⟨gin_alloc hI.gin _, by simp, fun b hb => ?_, [w.heap.size], [], by simp, ⟨_, es, clock, rfl, rfl, h1, h2, [], .refl _, by rw [hes]; trivial⟩, rfl⟩, rfl⟩
  ·simp [execOp, Instr.makeMap, newObj, Result.andThen]; rfl
  ·rw [List.mem_singleton] at hb
   subst hb
   refine ⟨by simp, ?_⟩
   cases hg : G w.heap.size with
   | none => rfl
   | some o => exact absurd (hI.gin.lt hg) (Nat.lt_irrefl _)
end
section
variable {c : Cx} {rs : List (Nat × AV)} {hs : List HA} {Q : Exit → S → Prop} {ops : Array Oper} {tl : List Oper} {d : Nat} {ty : TypeId} {pos : String} {af : Array Edge} {κ α : Type} [DecidableEq κ] {t : TypeId} {kv : κ → Value} {ok : κ → Prop} {g : α → AV} {l : List (κ × α)} {v : Value}
theorem wl_look1 {tm e : TypeId} {z : Value} {x y : Operand} {av : AV} {h : HA → List HA} (K : KeyT c.P t kv ok) (k : κ) (ht : c.P.underlying tm = some (.map t e)) (hz : ∀ w, (zeroValue e).run c.P w = .ok z w) (hx : opv rs x = some (.val v)) (hat : At hs (.mp c.P v t kv g l) h) (hy : opv rs y = some av) (hv : KeyV av (kv k)) (hk : ok k) (hd : Nat.blt d c.nt = true)
  (kk : WL c ops tl ⟨(d, lkA g z (getM l k)) :: rs, hs⟩ Q) : WL c ops (⟨some d, .lookup tm x y false, ty, pos, af, none⟩ :: tl) ⟨rs, hs⟩ Q := wl_rd (lt_look1 K ht hz k hx hy hv hk) hat hd kk
omit [DecidableEq κ] in
theorem wl_mlen {tm e : TypeId} {x : Operand} {h : HA → List HA} (ht : c.P.underlying tm = some (.map t e)) (hx : opv rs x = some (.val v)) (hat : At hs (.mp c.P v t kv g l) h) (hd : Nat.blt d c.nt = true)
  (kk : WL c ops tl ⟨(d, .val (.int .i64 l.length)) :: rs, hs⟩ Q) : WL c ops (⟨some d, .call { callee := .builtin .len, args := #[x], argTypes := #[tm] }, ty, pos, af, none⟩ :: tl) ⟨rs, hs⟩ Q := wl_rd (lt_mlen ht hx) hat hd kk
theorem wl_mput {tm e : TypeId} {x y z : Operand} {av : AV} {h : HA → List HA} (K : KeyT c.P t kv ok) (k : κ) (a : α) (ht : c.P.underlying tm = some (.map t e)) (hx : opv rs x = some (.val v)) (hat : At hs (.mp c.P v t kv g l) h) (hy : opv rs y = some av) (hv : KeyV av (kv k)) (hk : ok k) (hz : opv rs z = some (g a)) (hl : l.length ≤ 1000000)
  (kk : WL c ops tl ⟨rs, h (.mp c.P v t kv g (putM l k a))⟩ Q) : WL c ops (⟨none, .mapUpdate tm x y z, ty, pos, af, none⟩ :: tl) ⟨rs, hs⟩ Q := WL_at rfl rfl hat (lt_mput K ht k a hx hy hv hk hz hl) kk
theorem wl_mdel {tm e : TypeId} {x y : Operand} {av : AV} {h : HA → List HA} {dd : Option Nat} (K : KeyT c.P t kv ok) (k : κ) (ht : c.P.underlying tm = some (.map t e)) (hx : opv rs x = some (.val v)) (hat : At hs (.mp c.P v t kv g l) h) (hy : opv rs y = some av) (hv : KeyV av (kv k)) (hk : ok k) (hd : okD dd c.nt = true)
  (kk : WL c ops tl ⟨putR dd (.tup []) rs, h (.mp c.P v t kv g (delM l k))⟩ Q) : WL c ops (⟨dd, .call { callee := .builtin .delete, args := #[x, y], argTypes := #[tm, t] }, ty, pos, af, none⟩ :: tl) ⟨rs, hs⟩ Q := WL_at hd rfl hat (lt_mdel K ht k hx hy hv hk) kk
omit [DecidableEq κ] in
theorem wl_mmake {tm : TypeId} (K : KeyT c.P t kv ok) (g : α → AV) (hd : Nat.blt d c.nt = true) (kk : ∀ v, One (.val v) → WL c ops tl ⟨(d, .val v) :: rs, .mp c.P v t kv g [] :: hs⟩ Q) : WL c ops (⟨some d, .makeMap tm none, ty, pos, af, none⟩ :: tl) ⟨rs, hs⟩ Q :=
 WL_new hd rfl (lt_mmake (g := g) K) fun av pr ⟨u, h1, e1, e2⟩ => by subst e1; subst e2; exact kk u h1
end
theorem keyT_int {P : Program} {t : TypeId} (h : P.underlying t = some (.int .i64)) : KeyT P t (fun n : Int => Value.int .i64 n) (fun n => -9223372036854775808 ≤ n ∧ n ≤ 9223372036854775807) :=
 ⟨Go.Maps.int_keyed h, fun n hn => ⟨_, Go.Maps.keyOf_int_mk h (by simp only [Lit.wf, IntKind.min, IntKind.max, IntKind.signed, IntKind.bits, Bool.and_eq_true, decide_eq_true_eq, if_true]; omega)⟩, fun a b e => by injection e⟩
end Go.Proofs.YtihonljdanjfmaaGreatDoor.Sw
