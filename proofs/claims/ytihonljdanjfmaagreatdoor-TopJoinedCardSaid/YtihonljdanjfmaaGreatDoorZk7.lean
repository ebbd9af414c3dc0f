/- Proofs for the seat's cards: FloorOb, Gr, Gr2, Gr3, Gr4, FloorTa, SwL, SwM, FloorOc, FloorTb, FloorTc, FloorTd, FloorTe, FloorTf, SwB, FloorTg, FloorTh, FloorS, FloorJudges, FloorTells, FloorLa. No condition of its own. -/
import Derived.WalkKit
import Derived.Deep.AppendSrc
import Derived.DeepKeys4
import Derived.Maps.OwnIn
import Derived.Maps.Views
import Derived.Test.YtihonljdanjfmaaGreatDoorZk6
set_option linter.unusedVariables false
set_option linter.unusedSimpArgs false
set_option maxRecDepth 40000
set_option maxHeartbeats 32000000
namespace Go.Proofs.YtihonljdanjfmaaGreatDoor.Sw
open Go.RowKit Go Go.Shelf Go.Proofs
set_option maxRecDepth 100000 in
theorem eqPair (a b c d : Int) (w : World) : (Op.equalIn 10000 122 (.agg #[.int .i64 a, .int .i64 b]) (.agg #[.int .i64 c, .int .i64 d])).run Tryz.prog w = .ok (a == c && b == d) w := by
 have u3 := Tryz.underlying3
 have a3 := Tryz.isAgg3
 have z3 := Tryz.sizeOf3
 rw [show (10000 : Nat) = 9999 + 1 from rfl, Op.equalIn]
 simp only [Sem.run_bind, run_underlying Tryz.underlying122, Result.andThen_ok]
 simp only [Std.Legacy.Range.forIn_eq_forIn_range', Std.Legacy.Range.size, Nat.sub_zero, Nat.add_sub_cancel, Nat.div_one, List.range'_succ, List.range'_zero, List.forIn_cons, List.forIn_nil]
 go_simp
 by_cases h1 : a = c <;> by_cases h2 : b = d <;> simp [h1, h2]
instance tyqPair : TyQ Tryz.prog 122 2 := ⟨fun x y xs ys w h1 h2 => by
 match xs, ys, h1, h2 with
 | [x0, x1], [y0, y1], _, _ =>
  refine ⟨?_, ?_, ?_, ?_⟩
  ·simp [go_sem]
  ·simp [go_sem]
  ·simp [go_sem]; rw [eqPair]; simp [Result.andThen]; rfl
  ·simp [go_sem]; rw [eqPair]; simp [Result.andThen]; rfl⟩
theorem quEq (x y : Qu) : decide ([x.a, x.b] = [y.a, y.b]) = decide (x = y) := by
 refine decide_eq_decide.2 ?_
 cases x; cases y; simp
def ixQ (l : List Qu) (x : Qu) : Int := fiX (fun y => decide (x = y)) l
theorem indexQ_con (xs : List Qu) (x : Qu) (hl : xs.length ≤ 1000000) : Con Tryz.prog 93 [.sl 2 quC xs, .agg (quC x)] [] (Is (.val (.int .i64 (ixQ xs x))) []) := by
 refine con_of Tryz.func93 rfl (enters_of Tryz.func93 (by kernel_rfl) rfl) rfl ?_; intro n w0 F0 G0
 refine zS ?_;repeat(refine yA ?_;intro p hp;refine zS ?_)
 refine W_loopJ (fun (k : Nat) => ⟨[(0, .sl 2 quC xs), (3, .val p), (7, .val (.int .i64 xs.length)), (8, .val (.int .i64 k))], [.box p (quC x) 87]⟩) (fun k => k ≤ xs.length ∧ (xs.take k).any (fun y => decide (x = y)) = false) (fun k => xs.length - k) 0 (fun _ _ st => st_sub2 st zR zP) ?hj0 ?round
 case hj0 => simp
 case round =>
  rintro k ⟨hk, hno⟩
  refine zS ?_
  refine w_cond rfl (fun hlt => ?_) (fun hlt => ?_)
  ·have hlt' : k < xs.length := by simpa using hlt
   have hq1 : xs[k]? = some xs[k] := List.getElem?_eq_getElem hlt'
   refine zS ?_
   refine W_run 5 [11, 12, 13, 14, 15] [0, 1, 2, 3, 4] Cut.nil rfl goFlt mixedS (by kernel_rfl) rfl ?_
   refine rpv [] [] ?_
   refine rpv [] [] ?_
   refine rpv [] [] ?_
   refine rpv [1, 2] [] ?_
   refine rpv [3] [] ?_
   refine ⟨⟨by kernel_rfl, by kernel_rfl⟩, fun vs => ?_⟩
   apply WL_auto [0, 4]
   ·exact goPk
   ·exact goNrm
   ·kernel_rfl
   ·kernel_rfl
   refine zS ?_
   rw [quEq]
   refine w_cond rfl (fun he => ?_) (fun he => ?_)
   ·refine zS ?_
    (apply res1; exact rfl; exact rfl; exact ⟨(congrArg (fun b => AV.val (Value.int .i64 b)) (fiX_at (p := fun y => decide (x = y)) hlt' hno he).symm), rfl⟩)
   ·refine zS ?_
    (refine ⟨k + 1, fun _ _ st => st_sub2 st ?_ ?_, ?_, ?_⟩; exact zR; exact zP)
    ·refine ⟨by omega, ?_⟩
     rw [List.take_succ_eq_append_getElem hlt', List.any_append, hno]
     simpa using he
    ·omega
  ·refine zS ?_
   have hkk : k = xs.length := by simp at hlt; omega
   subst hkk
   rw [List.take_length] at hno
   (apply res1; exact rfl; exact rfl; exact ⟨(congrArg (fun b => AV.val (Value.int .i64 b)) (fiX_none hno).symm), rfl⟩)
theorem containsQ_con (xs : List Qu) (x : Qu) (hl : xs.length ≤ 1000000) : Con Tryz.prog 134 [.sl 2 quC xs, .agg (quC x)] [] (Is (.val (.bool (xs.any fun y => decide (x = y)))) []) := by
 refine con_of Tryz.func134 rfl (enters_of Tryz.func134 (by kernel_rfl) rfl) rfl ?_; intro n w0 F0 G0
 refine zS ?_;repeat(refine yA ?_;intro p hp;refine zS ?_)
 (first | (apply wl_call (indexQ_con xs x hl); exact rfl; exact rfl) | (apply wl_callR (indexQ_con xs x hl); exact rfl; exact zM; exact rfl))
 refine zS ?_
 (apply res1; exact rfl; exact rfl; exact ⟨(congrArg (fun b => AV.val (Value.bool b)) fiX_ge), rfl⟩)
theorem rises_sorted : ∀ {l : List Int} {last : Int}, rises last l = true → ∀ i j (hi : i < l.length) (hj : j < l.length), i < j → l[i] < l[j]
 | [], _, _, i, j, hi, _, _ => by simp at hi
 | x :: t, last, h, i, j, hi, hj, hij => by
  have h2 := rises_all (l := t) (last := x) (by simp only [rises, Bool.and_eq_true] at h; exact h.2)
  cases j with
  | zero => omega
  | succ j =>
   cases i with
   | zero =>
    simp only [List.getElem_cons_zero, List.getElem_cons_succ]
    have := h2 _ (List.getElem_mem (by simpa using hj)); omega
   | succ i =>
    simp only [List.getElem_cons_succ]
    exact rises_sorted (l := t) (last := x) (by simp only [rises, Bool.and_eq_true] at h; exact h.2) i j _ _ (by omega)
def prC (i k : Int) : List AV := [.val (.int .i64 i), .val (.int .i64 k)]
theorem speakR_same (qs : List Qu) (a : Int) : speakR qs a a = false := by simp [speakR]
theorem speak_con (ph ow : Value) (f : Flo) (i k : Nat) (hi : i < f.ids.length) (hk : k < f.ids.length) (hr : rises 0 f.ids = true) (hl : f.ids.length ≤ 1000) (hql : f.qs.length ≤ 1000) : Con Tryz.prog 89 [.val ph, .agg (prC i k)] [hsB ph f ow] (Is (.val (.bool (speakR f.qs f.ids[i] f.ids[k]))) [hsB ph f ow]) := by
 refine con_of Tryz.func89 rfl (enters_of Tryz.func89 (by kernel_rfl) rfl) rfl ?_; intro n w0 F0 G0
 refine zS ?_;repeat(refine yA ?_;intro p hp;refine zS ?_)
 by_cases hik : i = k
 ·subst hik
  rw [speakR_same]
  refine W_run 41 [5, 6, 7, 8, 9, 10, 11, 12, 13, 14, 15, 16, 17, 18, 19, 20, 21, 22, 23, 24, 25, 26, 27, 28, 29, 30, 31, 32, 33, 34, 35, 36, 37, 38, 39, 40, 41, 42, 43, 44, 45] [0, 1, 2, 3, 4, 5, 6, 7, 8, 9, 10, 11, 12, 13, 14, 15, 16, 17, 18, 19, 20, 21, 22, 23, 24, 25, 26, 27, 28, 29, 30, 31, 32, 33, 34, 35, 36, 37, 38, 39, 40] Cut.nil rfl goFlt mixedS (by kernel_rfl) rfl ?_
  refine rpv [] [] ?_
  refine rpv [] [] ?_
  refine rpv [1] [] ?_
  refine rpv [] [] ?_
  refine rpv [3] [] ?_
  refine rpv [2, 4] [] ?_
  refine Run.pv [0, 5] [] rfl (fun vs => by apply ltr_pk; exact goPk; (refine ltr ?_; apply LT_bool false; apply lt_neqN; exact rfl; exact rfl; (repeat (first | exact Ints.nil | apply Ints.cons)); (repeat (first | exact Ints.nil | apply Ints.cons)); exact rfl; exact rfl; simp)) goApp ?_
  refine rpv [6] [] ?_
  refine rno [7] ?_
  refine rno [7, 8] ?_
  refine rno [7, 9] ?_
  refine rno [7, 10] ?_
  refine rno [7, 11] ?_
  refine rno [7] ?_
  refine rno [7, 13] ?_
  refine rno [7, 14] ?_
  refine rno [7, 15] ?_
  refine rno [7, 16] ?_
  refine rno [7] ?_
  refine rno [7, 18] ?_
  refine rno [7] ?_
  refine rno [7, 20] ?_
  refine rno [7, 19, 21] ?_
  refine rno [7, 17, 22] ?_
  refine rno [7, 23] ?_
  refine rno [7] ?_
  refine rno [7, 25] ?_
  refine rno [7, 26] ?_
  refine rno [7, 27] ?_
  refine rno [7, 28] ?_
  refine rno [7] ?_
  refine rno [7, 30] ?_
  refine rno [7] ?_
  refine rno [7, 32] ?_
  refine rno [7, 31, 33] ?_
  refine rno [7, 29, 34] ?_
  refine rno [7, 35] ?_
  refine rno [7, 24, 36] ?_
  refine rno [7, 12, 37] ?_
  refine rno [7, 38] ?_
  refine rpv [7, 39] [] ?_
  refine ⟨⟨by kernel_rfl, by kernel_rfl⟩, fun vs => ?_⟩
  apply WL_auto [40]
  ·exact goPk
  ·exact goNrm
  ·kernel_rfl
  ·kernel_rfl
  refine zS ?_
  (apply resK1; exact rfl; exact rfl; exact ⟨rfl, rfl⟩; exact yC)
 ·have hm : f.ids[min i k]? = some (min f.ids[i] f.ids[k]) ∧ f.ids[max i k]? = some (max f.ids[i] f.ids[k]) ∧ f.ids[i] ≠ f.ids[k] := by
   rcases Nat.lt_or_gt_of_ne hik with h | h
   ·have := rises_sorted hr i k hi hk h
    rw [Nat.min_eq_left (by omega), Nat.max_eq_right (by omega), Int.min_eq_left (by omega), Int.max_eq_right (by omega), List.getElem?_eq_getElem hi, List.getElem?_eq_getElem hk]
    exact ⟨rfl, rfl, by omega⟩
   ·have := rises_sorted hr k i hk hi h
    rw [Nat.min_eq_right (by omega), Nat.max_eq_left (by omega), Int.min_eq_right (by omega), Int.max_eq_left (by omega), List.getElem?_eq_getElem hi, List.getElem?_eq_getElem hk]
    exact ⟨rfl, rfl, by omega⟩
  obtain ⟨hm1, hm2, hm3⟩ := hm
  have hsp : speakR f.qs f.ids[i] f.ids[k] = !(f.qs.any fun y => decide ((⟨min f.ids[i] f.ids[k], max f.ids[i] f.ids[k]⟩ : Qu) = y)) := by
   unfold speakR
   rw [decide_eq_true hm3, Bool.and_true]
   congr 2
   funext q
   cases q
   simp only [hits, Qu.mk.injEq]
   rw [← Bool.decide_and]
   exact decide_eq_decide.2 (by constructor <;> rintro ⟨h1, h2⟩ <;> exact ⟨h1.symm, h2.symm⟩)
  rw [hsp]
  refine W_run 41 [5, 6, 7, 8, 9, 10, 11, 12, 13, 14, 15, 16, 17, 18, 19, 20, 21, 22, 23, 24, 25, 26, 27, 28, 29, 30, 31, 32, 33, 34, 35, 36, 37, 38, 39, 40, 41, 42, 43, 44, 45] [0, 1, 2, 3, 4, 5, 6, 7, 8, 9, 10, 11, 12, 13, 14, 15, 16, 17, 18, 19, 20, 21, 22, 23, 24, 25, 26, 27, 28, 29, 30, 31, 32, 33, 34, 35, 36, 37, 38, 39, 40] Cut.nil rfl goFlt mixedS (by kernel_rfl) rfl ?_
  refine rpv [] [] ?_
  refine rpv [] [] ?_
  refine rpv [1] [] ?_
  refine rpv [] [] ?_
  refine rpv [3] [] ?_
  refine rpv [2, 4] [] ?_
  refine Run.pv [0, 5] [] rfl (fun vs => by apply ltr_pk; exact goPk; (refine ltr ?_; apply LT_bool true; apply lt_neqN; exact rfl; exact rfl; (repeat (first | exact Ints.nil | apply Ints.cons)); (repeat (first | exact Ints.nil | apply Ints.cons)); exact rfl; exact rfl; (simp; omega))) goApp ?_
  refine rpv [6] [] ?_
  refine ryv [7] ?_
  refine ryv [7, 8] ?_
  refine ryv [7, 9] ?_
  refine ryv [7, 10] ?_
  refine ryv [7, 11] ?_
  refine ryv [7] ?_
  refine ryv [7, 13] ?_
  refine ryv [7, 14] ?_
  refine ryv [7, 15] ?_
  refine ryv [7, 16] ?_
  refine ryv [7] ?_
  refine ryv [7, 18] ?_
  refine ryv [7] ?_
  refine ryv [7, 20] ?_
  refine ryx [7, 19, 21] (fun vs => by apply ltr_pk; exact goPk; (refine ltr ?_; apply LT_int ((min i k : Nat) : Int); apply lt_min2; exact rfl; exact rfl; omega)) ?_
  refine ryv [7, 17, 22] ?_
  refine ryv [7, 23] ?_
  refine ryv [7] ?_
  refine ryv [7, 25] ?_
  refine ryv [7, 26] ?_
  refine ryv [7, 27] ?_
  refine ryv [7, 28] ?_
  refine ryv [7] ?_
  refine ryv [7, 30] ?_
  refine ryv [7] ?_
  refine ryv [7, 32] ?_
  refine ryx [7, 31, 33] (fun vs => by apply ltr_pk; exact goPk; (refine ltr ?_; apply LT_int ((max i k : Nat) : Int); apply lt_max2; exact rfl; exact rfl; omega)) ?_
  refine ryv [7, 29, 34] ?_
  refine ryv [7, 35] ?_
  refine ryv [7, 24, 36] ?_
  refine ryx [7, 12, 37] (fun vs => by apply ltr_pk; exact goPk; (refine ltr ?_; refine lt_call ?_ ((containsQ_con f.qs ⟨min f.ids[i] f.ids[k], max f.ids[i] f.ids[k]⟩ (by omega))); exact rfl)) ?_
  refine ryv [7, 38] ?_
  refine rpv [7, 39] [] ?_
  refine ⟨⟨by kernel_rfl, by kernel_rfl⟩, fun vs => ?_⟩
  apply WL_auto [40]
  ·exact goPk
  ·exact goNrm
  ·kernel_rfl
  ·kernel_rfl
  refine zS ?_
  (apply resK1; exact rfl; exact rfl; exact ⟨rfl, rfl⟩; exact yC)
end Go.Proofs.YtihonljdanjfmaaGreatDoor.Sw
namespace Go.Proofs.YtihonljdanjfmaaGreatDoor.Gr
def Cl (L : List (Nat × Nat)) (P : Nat → Bool) : Prop := ∀ p ∈ L, P p.1 = P p.2
def sumP : Nat → (Nat → Int) → (Nat → Bool) → Int
 | 0, _, _ => 0
 | n + 1, x, P => sumP n x P + (if P n then x n else 0)
def cnt : Nat → (Nat → Bool) → Nat
 | 0, _ => 0
 | n + 1, P => cnt n P + (if P n then 1 else 0)
def Zr (n : Nat) (L : List (Nat × Nat)) (x : Nat → Int) : Prop := ∀ P, Cl L P → sumP n x P = 0
def upd (x : Nat → Int) (i : Nat) (c : Int) : Nat → Int := fun v => if v = i then c else x v
def flip (P : Nat → Bool) (i : Nat) (c : Bool) : Nat → Bool := fun v => if v = i then c else P v
theorem sumP_congr {x y : Nat → Int} {P Q : Nat → Bool} : ∀ {n : Nat}, (∀ v, v < n → x v = y v) → (∀ v, v < n → P v = Q v) → sumP n x P = sumP n y Q
 | 0, _, _ => rfl
 | n + 1, h1, h2 => by
  unfold sumP
  rw [sumP_congr (fun v hv => h1 v (by omega)) (fun v hv => h2 v (by omega)), h1 n (by omega), h2 n (by omega)]
theorem sumP_upd {x : Nat → Int} {P : Nat → Bool} {i : Nat} {c : Int} : ∀ {n : Nat}, i < n → sumP n (upd x i c) P = sumP n x P + (if P i then c - x i else 0)
 | n + 1, h => by
  unfold sumP
  by_cases e : i = n
  ·subst e
   rw [sumP_congr (y := x) (Q := P) (fun v hv => by unfold upd; rw [if_neg (by omega)]) (fun _ _ => rfl)]
   simp only [upd, if_true]
   split <;> omega
  ·rw [sumP_upd (by omega)]
   have : upd x i c n = x n := by unfold upd; rw [if_neg (fun e' => e e'.symm)]
   rw [this]
   omega
theorem sumP_flip {x : Nat → Int} {P : Nat → Bool} {i : Nat} {c : Bool} : ∀ {n : Nat}, i < n → sumP n x (flip P i c) = sumP n x P + ((if c then x i else 0) - (if P i then x i else 0))
 | n + 1, h => by
  unfold sumP
  by_cases e : i = n
  ·subst e
   rw [sumP_congr (y := x) (Q := P) (fun _ _ => rfl) (fun v hv => by unfold flip; rw [if_neg (by omega)])]
   simp only [flip, if_true]
   omega
  ·rw [sumP_flip (by omega)]
   have : flip P i c n = P n := by unfold flip; rw [if_neg (fun e' => e e'.symm)]
   rw [this]
   omega
def mv (x : Nat → Int) (i o : Nat) : Nat → Int := upd (upd x o (x o + x i)) i 0
theorem sumP_mv {n : Nat} {x : Nat → Int} {P : Nat → Bool} {i o : Nat} (hi : i < n) (ho : o < n) (hne : i ≠ o) (h : P i = P o) : sumP n (mv x i o) P = sumP n x P := by
 unfold mv
 rw [sumP_upd hi, sumP_upd ho, h]
 have : upd x o (x o + x i) i = x i := by unfold upd; rw [if_neg hne]
 rw [this]
 split <;> omega
theorem mv_i {x : Nat → Int} {i o : Nat} : mv x i o i = 0 := by unfold mv upd; simp
theorem cnt_lt {P Q : Nat → Bool} {t : Nat} (hs : ∀ v, Q v = true → P v = true) (h1 : P t = true) (h2 : Q t = false) : ∀ {n : Nat}, t < n → cnt n Q < cnt n P := by
 have le : ∀ n, cnt n Q ≤ cnt n P := by
  intro n
  induction n with
  | zero => exact Nat.le_refl _
  | succ n ih =>
   unfold cnt
   by_cases h : Q n = true
   ·rw [if_pos h, if_pos (hs n h)]; omega
   ·rw [if_neg h]; omega
 intro n
 induction n with
 | zero => intro h; omega
 | succ n ih =>
  intro h
  unfold cnt
  by_cases e : t = n
  ·subst e
   rw [h1, h2]
   have := le t
   simp; omega
  ·have := ih (by omega)
   by_cases h : Q n = true
   ·rw [if_pos h, if_pos (hs n h)]; omega
   ·rw [if_neg h]; omega
def inc (i : Nat) (p : Nat × Nat) : Bool := decide (p.1 = i) || decide (p.2 = i)
structure Ok (n : Nat) (L : List (Nat × Nat)) : Prop where
 nd : L.Nodup
 lt : ∀ p ∈ L, p.1 < n ∧ p.2 < n ∧ p.1 ≠ p.2
theorem Ok.erase {n : Nat} {L : List (Nat × Nat)} (h : Ok n L) (e : Nat × Nat) : Ok n (L.erase e) := ⟨h.nd.erase e, fun p hp => h.lt p (List.mem_of_mem_erase hp)⟩
def Leaf (L : List (Nat × Nat)) (i : Nat) (e : Nat × Nat) : Prop := e ∈ L ∧ inc i e = true ∧ ∀ p ∈ L, inc i p = true → p = e
def oth (e : Nat × Nat) (i : Nat) : Nat := e.1 + e.2 - i
theorem inc_iff {i : Nat} {e : Nat × Nat} : inc i e = true ↔ e.1 = i ∨ e.2 = i := by simp [inc]
theorem cl_inc {L : List (Nat × Nat)} {P : Nat → Bool} {e : Nat × Nat} {i : Nat} (hi : inc i e = true) (h : P e.1 = P e.2) : P i = P (oth e i) := by
 unfold oth
 rcases inc_iff.1 hi with h1 | h1
 ·subst h1; rw [h]; congr 1; omega
 ·subst h1; rw [← h]; congr 1; omega
theorem leaf_of_bridges {n : Nat} {L : List (Nat × Nat)} (hok : Ok n L) (hb : ∀ e ∈ L, ∃ P, Cl (L.erase e) P ∧ P e.1 ≠ P e.2) : ∀ (m : Nat) (e : Nat × Nat) (P : Nat → Bool), e ∈ L → Cl (L.erase e) P → P e.1 ≠ P e.2 → cnt n P = m → ∃ i e, i < n ∧ Leaf L i e := by
 intro m
 induction m using Nat.strongRecOn with
 | _ m ih =>
  intro e P he hcl hne hm
  obtain ⟨h1, h2, h3⟩ := hok.lt e he
  -- the end within the set
  obtain ⟨s, t, hs, ht, htn, hit, hends⟩ : ∃ s t, P s = false ∧ P t = true ∧ t < n ∧ inc t e = true ∧ ((e.1 = s ∧ e.2 = t) ∨ (e.1 = t ∧ e.2 = s)) := by
   cases ha : P e.1 with
   | true => exact ⟨e.2, e.1, by rw [ha] at hne; simpa using hne.symm, ha, h1, by simp [inc], .inr ⟨rfl, rfl⟩⟩
   | false => exact ⟨e.1, e.2, ha, by rw [ha] at hne; simpa using hne.symm, h2, by simp [inc], .inl ⟨rfl, rfl⟩⟩
  by_cases hl : ∀ p ∈ L, inc t p = true → p = e
  ·exact ⟨t, e, htn, he, hit, hl⟩
  ·obtain ⟨e', hl⟩ := Classical.not_forall.1 hl
   have hl' : e' ∈ L ∧ inc t e' = true ∧ e' ≠ e := by
    by_cases a : e' ∈ L
    ·by_cases b : inc t e' = true
     ·exact ⟨a, b, fun c => hl fun _ _ => c⟩
     ·exact absurd (fun _ h => absurd h b) hl
    ·exact absurd (fun h => absurd h a) hl
   obtain ⟨he', hi', hne'⟩ := hl'
   have hcl' : P e'.1 = P e'.2 := hcl e' ((hok.nd.mem_erase_iff).2 ⟨hne', he'⟩)
   obtain ⟨Q0, hQ, hQne⟩ := hb e' he'
   -- the side of the other end
   obtain ⟨c, hce, hct⟩ : ∃ c, ((e'.1 = t ∧ e'.2 = c) ∨ (e'.1 = c ∧ e'.2 = t)) ∧ P c = true := by
    rcases inc_iff.1 hi' with h | h
    ·exact ⟨e'.2, .inl ⟨h, rfl⟩, by rw [← hcl', h]; exact ht⟩
    ·exact ⟨e'.1, .inr ⟨rfl, h⟩, by rw [hcl', h]; exact ht⟩
   obtain ⟨Q, hQ, hQc, hQt⟩ : ∃ Q, Cl (L.erase e') Q ∧ Q c = true ∧ Q t = false := by
    have hd : Q0 c ≠ Q0 t := by
     rcases hce with ⟨a, b⟩ | ⟨a, b⟩
     ·rw [a, b] at hQne; exact hQne.symm
     ·rw [a, b] at hQne; exact hQne
    cases hc : Q0 c with
    | true => exact ⟨Q0, hQ, hc, by rw [hc] at hd; simpa using hd.symm⟩
    | false => exact ⟨fun v => !Q0 v, fun p hp => by simp [hQ p hp], by simp [hc], by rw [hc] at hd; simpa using hd.symm⟩
   refine ih (cnt n fun v => P v && Q v) (hm ▸ cnt_lt (t := t) (fun v h => by simp at h; exact h.1) ht (by simp [hQt]) htn) e' (fun v => P v && Q v) he' (fun p hp => ?_) ?_ rfl
   ·have hp' := (hok.nd.mem_erase_iff).1 hp
    by_cases hpe : p = e
    ·subst hpe
     rcases hends with ⟨a, b⟩ | ⟨a, b⟩
     ·simp [a, b, hs, hQt]
     ·simp [a, b, hs, hQt]
    ·show (P p.1 && Q p.1) = (P p.2 && Q p.2)
     rw [hcl p ((hok.nd.mem_erase_iff).2 ⟨hpe, hp'.2⟩), hQ p hp]
   ·rcases hce with ⟨a, b⟩ | ⟨a, b⟩
    ·simp [a, b, hQt, hQc, hct]
    ·simp [a, b, hQt, hQc, hct]
def Min (n : Nat) (L : List (Nat × Nat)) (x : Nat → Int) : Prop := ∀ e ∈ L, ¬ Zr n (L.erase e) x
theorem Min.bridges {n : Nat} {L : List (Nat × Nat)} {x : Nat → Int} (hok : Ok n L) (hz : Zr n L x) (hm : Min n L x) : ∀ e ∈ L, ∃ P, Cl (L.erase e) P ∧ P e.1 ≠ P e.2 := fun e he => by
 have h := hm e he
 unfold Zr at h
 obtain ⟨P, h⟩ := Classical.not_forall.1 h
 have h1 : Cl (L.erase e) P := Classical.not_not.1 fun h1 => h fun h2 => absurd h2 h1
 have h2 : sumP n x P ≠ 0 := fun h2 => h fun _ => h2
 refine ⟨P, h1, fun heq => h2 (hz P fun p hp => ?_)⟩
 by_cases hpe : p = e
 ·subst hpe; exact heq
 ·exact h1 p ((hok.nd.mem_erase_iff).2 ⟨hpe, hp⟩)
theorem Min.leaf {n : Nat} {L : List (Nat × Nat)} {x : Nat → Int} (hok : Ok n L) (hz : Zr n L x) (hm : Min n L x) (hne : L ≠ []) : ∃ i e, i < n ∧ Leaf L i e := by
 obtain ⟨e, he⟩ := List.exists_mem_of_ne_nil L hne
 have hb := hm.bridges hok hz
 obtain ⟨P, h1, h2⟩ := hb e he
 exact leaf_of_bridges hok hb _ e P he h1 h2 rfl
theorem oth_spec {n : Nat} {L : List (Nat × Nat)} (hok : Ok n L) {i : Nat} {e : Nat × Nat} (he : e ∈ L) (hi : inc i e = true) : oth e i < n ∧ i ≠ oth e i ∧ i < n ∧ inc (oth e i) e = true := by
 obtain ⟨h1, h2, h3⟩ := hok.lt e he
 unfold oth
 rcases inc_iff.1 hi with h | h
 ·subst h
  have : e.1 + e.2 - e.1 = e.2 := by omega
  rw [this]; exact ⟨h2, h3, h1, by simp [inc]⟩
 ·subst h
  have : e.1 + e.2 - e.2 = e.1 := by omega
  rw [this]; exact ⟨h1, fun e' => h3 e'.symm, h2, by simp [inc]⟩
theorem cl_flip {n : Nat} {L : List (Nat × Nat)} (hok : Ok n L) {i : Nat} {e : Nat × Nat} (hl : Leaf L i e) {P : Nat → Bool} (h : Cl (L.erase e) P) : Cl L (flip P i (P (oth e i))) := fun p hp => by
 obtain ⟨he, hi, ho⟩ := hl
 obtain ⟨_, hne, _, _⟩ := oth_spec hok he hi
 have hself : flip P i (P (oth e i)) i = P (oth e i) := by simp [flip]
 have hoth : flip P i (P (oth e i)) (oth e i) = P (oth e i) := by unfold flip; rw [if_neg (fun e' => hne e'.symm)]
 by_cases hpe : p = e
 ·subst hpe
  rcases inc_iff.1 hi with h1 | h1
  ·have : p.2 = oth p i := by unfold oth; omega
   rw [h1, this, hself, hoth]
  ·have : p.1 = oth p i := by unfold oth; omega
   rw [h1, this, hself, hoth]
 ·have hn : inc i p ≠ true := fun h1 => hpe (ho p hp h1)
  have h1 : p.1 ≠ i := fun h1 => hn (by simp [inc, h1])
  have h2 : p.2 ≠ i := fun h2 => hn (by simp [inc, h2])
  unfold flip
  rw [if_neg h1, if_neg h2]
  exact h p ((hok.nd.mem_erase_iff).2 ⟨hpe, hp⟩)
theorem Min.left {n : Nat} {L : List (Nat × Nat)} {x : Nat → Int} (hok : Ok n L) (hz : Zr n L x) (hm : Min n L x) {i : Nat} {e : Nat × Nat} (hl : Leaf L i e) : x i ≠ 0 := fun h0 => by
 obtain ⟨_, _, hin, _⟩ := oth_spec hok hl.1 hl.2.1
 refine hm e hl.1 fun P h => ?_
 have := hz _ (cl_flip hok hl h)
 rw [sumP_flip hin, h0] at this
 simpa using this
theorem step_zr {n : Nat} {L : List (Nat × Nat)} {x : Nat → Int} (hok : Ok n L) (hz : Zr n L x) {i : Nat} {e : Nat × Nat} (hl : Leaf L i e) : Zr n (L.erase e) (mv x i (oth e i)) := fun P h => by
 obtain ⟨hon, hne, hin, _⟩ := oth_spec hok hl.1 hl.2.1
 have h1 := hz _ (cl_flip hok hl h)
 have h2 : sumP n (mv x i (oth e i)) (flip P i (P (oth e i))) = sumP n x (flip P i (P (oth e i))) := sumP_mv hin hon hne (by unfold flip; rw [if_pos rfl, if_neg (fun e' => hne e'.symm)])
 rw [sumP_flip hin, mv_i, h1] at h2
 simpa using h2
theorem step_zr_back {n : Nat} {L : List (Nat × Nat)} {x : Nat → Int} (hok : Ok n L) {i : Nat} {e : Nat × Nat} (he : e ∈ L) (hi : inc i e = true) (hz : Zr n (L.erase e) (mv x i (oth e i))) : Zr n L x := fun P h => by
 obtain ⟨hon, hne, hin, _⟩ := oth_spec hok he hi
 rw [← sumP_mv (x := x) hin hon hne (cl_inc (L := L) hi (h e he))]
 exact hz P fun p hp => h p (List.mem_of_mem_erase hp)
theorem erase_erase {L : List (Nat × Nat)} {e e' : Nat × Nat} : (L.erase e).erase e' = (L.erase e').erase e := List.erase_comm ..
theorem step_min {n : Nat} {L : List (Nat × Nat)} {x : Nat → Int} (hok : Ok n L) (hm : Min n L x) {i : Nat} {e : Nat × Nat} (hl : Leaf L i e) : Min n (L.erase e) (mv x i (oth e i)) := fun e' he' hz => by
 have h1 := (hok.nd.mem_erase_iff).1 he'
 refine hm e' h1.2 (step_zr_back (hok.erase e') ((hok.nd.mem_erase_iff).2 ⟨fun h => h1.1 h.symm, hl.1⟩) hl.2.1 ?_)
 rw [erase_erase]
 exact hz
theorem exists_min {n : Nat} {x : Nat → Int} : ∀ (m : Nat) {L : List (Nat × Nat)}, L.length = m → Ok n L → Zr n L x → ∃ S, List.Sublist S L ∧ Ok n S ∧ Zr n S x ∧ Min n S x := by
 intro m
 induction m with
 | zero =>
  intro L hl hok hz
  have : L = [] := List.eq_nil_of_length_eq_zero hl
  subst this
  exact ⟨[], List.Sublist.refl _, hok, hz, fun _ h => by cases h⟩
 | succ m ih =>
  intro L hl hok hz
  by_cases h : Min n L x
  ·exact ⟨L, List.Sublist.refl _, hok, hz, h⟩
  ·unfold Min at h
   obtain ⟨e, h⟩ := Classical.not_forall.1 h
   have he : e ∈ L := Classical.not_not.1 fun h1 => h fun h2 => absurd h2 h1
   have hze : Zr n (L.erase e) x := Classical.not_not.1 fun h1 => h fun _ => h1
   obtain ⟨S, h1, h2⟩ := ih (by rw [List.length_erase_of_mem he]; omega) (hok.erase e) hze
   exact ⟨S, h1.trans List.erase_sublist, h2⟩
def deg (L : List (Nat × Nat)) (v : Nat) : Bool := L.any (inc v)
theorem cnt_le (P : Nat → Bool) : ∀ n, cnt n P ≤ n
 | 0 => Nat.le_refl _
 | n + 1 => by unfold cnt; have := cnt_le P n; split <;> omega
theorem cnt_two {P : Nat → Bool} {a b : Nat} (h1 : P a = true) (h2 : P b = true) (hne : a ≠ b) : ∀ {n : Nat}, a < n → b < n → 2 ≤ cnt n P := by
 have one : ∀ {c n}, P c = true → c < n → 1 ≤ cnt n P := by
  intro c n h
  induction n with
  | zero => intro h; omega
  | succ n ih =>
   intro hc
   unfold cnt
   by_cases e : c = n
   ·subst e; rw [if_pos h]; omega
   ·have := ih (by omega); omega
 intro n
 induction n with
 | zero => intro h; omega
 | succ n ih =>
  intro ha hb
  unfold cnt
  by_cases e : a = n
  ·subst e; rw [if_pos h1]; have := one (n := a) h2 (by omega); omega
  ·by_cases e' : b = n
   ·subst e'; rw [if_pos h2]; have := one (n := b) h1 (by omega); omega
   ·have := ih (by omega) (by omega); omega
theorem deg_step {n : Nat} {L : List (Nat × Nat)} (hok : Ok n L) {i : Nat} {e : Nat × Nat} (hl : Leaf L i e) : cnt n (deg (L.erase e)) < cnt n (deg L) := by
 obtain ⟨_, _, hin, _⟩ := oth_spec hok hl.1 hl.2.1
 refine cnt_lt (t := i) (fun v h => ?_) ?_ ?_ hin
 ·obtain ⟨p, hp, h⟩ := List.any_eq_true.1 h
  exact List.any_eq_true.2 ⟨p, List.mem_of_mem_erase hp, h⟩
 ·exact List.any_eq_true.2 ⟨e, hl.1, hl.2.1⟩
 ·refine Bool.eq_false_iff.2 fun h => ?_
  obtain ⟨p, hp, h⟩ := List.any_eq_true.1 h
  have h1 := (hok.nd.mem_erase_iff).1 hp
  exact h1.1 (hl.2.2 p h1.2 h)
theorem Min.size {n : Nat} : ∀ (m : Nat) {L : List (Nat × Nat)} {x : Nat → Int}, L.length = m → Ok n L → Zr n L x → Min n L x → L ≠ [] → L.length + 1 ≤ cnt n (deg L) := by
 intro m
 induction m with
 | zero => intro L x hl _ _ _ hne; exact absurd (List.eq_nil_of_length_eq_zero hl) hne
 | succ m ih =>
  intro L x hl hok hz hm hne
  obtain ⟨i, e, hin, hle⟩ := hm.leaf hok hz hne
  have hd := deg_step hok hle
  have hlen := List.length_erase_of_mem hle.1
  by_cases h0 : L.erase e = []
  ·rw [h0] at hlen
   obtain ⟨hon, hne', _, hio⟩ := oth_spec hok hle.1 hle.2.1
   have := cnt_two (P := deg L) (n := n) (List.any_eq_true.2 ⟨e, hle.1, hle.2.1⟩) (List.any_eq_true.2 ⟨e, hle.1, hio⟩) hne' hin hon
   simp at hlen
   omega
  ·have := ih (x := mv x i (oth e i)) (by omega) (hok.erase e) (step_zr hok hz hle) (step_min hok hm hle) h0
   omega
theorem Min.small {n : Nat} {L : List (Nat × Nat)} {x : Nat → Int} (hok : Ok n L) (hz : Zr n L x) (hm : Min n L x) : L.length = 0 ∨ L.length + 1 ≤ n := by
 by_cases h : L = []
 ·left; rw [h]; rfl
 ·right; exact Nat.le_trans (hm.size _ rfl hok hz h) (cnt_le _ _)
theorem zr_nil {n : Nat} {x : Nat → Int} (h : Zr n [] x) : ∀ v, v < n → x v = 0 := fun v hv => by
 have h1 := h (flip (fun _ => false) v true) (fun _ h => by cases h)
 rw [sumP_flip hv] at h1
 have : ∀ n, sumP n x (fun _ => false) = 0 := by
  intro n
  induction n with
  | zero => rfl
  | succ n ih => unfold sumP; rw [ih]; rfl
 rw [this] at h1
 simpa using h1
theorem zr_zero {n : Nat} {L : List (Nat × Nat)} {x : Nat → Int} (h : ∀ v, v < n → x v = 0) : Zr n L x := fun P _ => by
 have : ∀ m, m ≤ n → sumP m x P = 0 := by
  intro m
  induction m with
  | zero => intro _; rfl
  | succ m ih => intro hm; unfold sumP; rw [ih (by omega), h m (by omega)]; simp
 exact this n (Nat.le_refl _)
end Go.Proofs.YtihonljdanjfmaaGreatDoor.Gr
namespace Go.Proofs.YtihonljdanjfmaaGreatDoor.Gr
open Go.Proofs.YtihonljdanjfmaaGreatDoor.Sw (Pay)
def payLt (a b : Pay) : Bool := if a.a ≠ b.a then decide (a.a < b.a) else if a.b ≠ b.b then decide (a.b < b.b) else decide (a.p < b.p)
def atP (l : List Pay) (x : Pay) : Nat := (l.takeWhile fun y => payLt y x).length
def addP (l : List Pay) (x : Pay) : List Pay := l.take (atP l x) ++ [x] ++ l.drop (atP l x)
def payX (ids : List Int) (i o : Nat) (c : Int) : Pay := if 0 < c then ⟨ids.getD o 0, ids.getD i 0, c⟩ else ⟨ids.getD i 0, ids.getD o 0, -c⟩
def mvL (l : List Int) (i o : Nat) : List Int := (l.set o (l.getD o 0 + l.getD i 0)).set i 0
def lf (l : List Int) : Nat → Int := fun v => l.getD v 0
def leafAt (L : List (Nat × Nat)) (i : Nat) : Option (Nat × (Nat × Nat)) := match L.filter (inc i) with | [e] => some (i, e) | _ => none
def findLeaf (n : Nat) (L : List (Nat × Nat)) : Option (Nat × (Nat × Nat)) := (List.range n).findSome? (leafAt L)
def treeGo (ids : List Int) : Nat → List (Nat × Nat) → List Int → List Pay → Option (List Int × List Pay)
 | 0, _, left, out => some (left, out)
 | m + 1, L, left, out => match findLeaf ids.length L with
  | none => none
  | some (i, e) => if left.getD i 0 = 0 then none else treeGo ids m (L.erase e) (mvL left i (oth e i)) (addP out (payX ids i (oth e i) (left.getD i 0)))
def treeR (ids : List Int) (L : List (Nat × Nat)) (owed : List Int) : Option (List Pay) := match treeGo ids L.length L owed [] with
 | some r => if r.1.all (fun n => decide (n = 0)) = true then some r.2 else none
 | none => none
theorem lf_mvL {l : List Int} {i o : Nat} (hi : i < l.length) (ho : o < l.length) : lf (mvL l i o) = mv (lf l) i o := by
 funext v
 simp only [lf, mvL, mv, upd]
 simp only [List.getD_eq_getElem?_getD, List.getElem?_set, List.length_set]
 by_cases h1 : v = i
 ·subst h1; simp [hi]
 ·rw [if_neg (fun e => h1 e.symm), if_neg h1]
  by_cases h2 : v = o
  ·subst h2; simp [ho]
  ·rw [if_neg (fun e => h2 e.symm), if_neg h2]
theorem mvL_len (l : List Int) (i o : Nat) : (mvL l i o).length = l.length := by simp [mvL]
theorem leafAt_some {L : List (Nat × Nat)} {i j : Nat} {e : Nat × Nat} (h : leafAt L i = some (j, e)) : j = i ∧ Leaf L i e := by
 unfold leafAt at h
 split at h
 ·rename_i e' he
  simp only [Option.some.injEq, Prod.mk.injEq] at h
  obtain ⟨rfl, rfl⟩ := h
  have h1 : e' ∈ L.filter (inc i) := by rw [he]; simp
  have h2 := List.mem_filter.1 h1
  refine ⟨rfl, h2.1, h2.2, fun p hp hi => ?_⟩
  have : p ∈ L.filter (inc i) := List.mem_filter.2 ⟨hp, hi⟩
  rw [he] at this
  simpa using this
 ·cases h
theorem leafAt_of {L : List (Nat × Nat)} (hn : L.Nodup) {i : Nat} {e : Nat × Nat} (h : Leaf L i e) : leafAt L i = some (i, e) := by
 have : L.filter (inc i) = [e] := by
  have hnd := hn.filter (inc i)
  have hm : e ∈ L.filter (inc i) := List.mem_filter.2 ⟨h.1, h.2.1⟩
  have ha : ∀ p ∈ L.filter (inc i), p = e := fun p hp => h.2.2 p (List.mem_filter.1 hp).1 (List.mem_filter.1 hp).2
  match hq : L.filter (inc i), hnd, hm, ha with
  | [], _, hm, _ => cases hm
  | [x], _, _, ha => rw [ha x (by simp)]
  | x :: y :: t, hnd, _, ha =>
   have h1 := ha x (by simp)
   have h2 := ha y (by simp)
   exact absurd (h1.trans h2.symm) (by intro hxy; subst hxy; simp at hnd)
 unfold leafAt
 rw [this]
theorem findLeaf_some {n : Nat} {L : List (Nat × Nat)} {i : Nat} {e : Nat × Nat} (h : findLeaf n L = some (i, e)) : i < n ∧ Leaf L i e := by
 obtain ⟨j, hj, h1⟩ := List.exists_of_findSome?_eq_some h
 obtain ⟨rfl, h2⟩ := leafAt_some h1
 exact ⟨List.mem_range.1 hj, h2⟩
theorem findLeaf_of {n : Nat} {L : List (Nat × Nat)} (hn : L.Nodup) {i : Nat} {e : Nat × Nat} (hi : i < n) (h : Leaf L i e) : ∃ r, findLeaf n L = some r := by
 cases hf : findLeaf n L with
 | some r => exact ⟨r, rfl⟩
 | none =>
  have := List.findSome?_eq_none_iff.1 hf i (List.mem_range.2 hi)
  rw [leafAt_of hn h] at this
  cases this
theorem treeGo_len {ids : List Int} : ∀ {m : Nat} {L : List (Nat × Nat)} {left : List Int} {out : List Pay} {r : List Int × List Pay}, treeGo ids m L left out = some r → r.1.length = left.length
 | 0, _, _, _, _, h => by simp [treeGo] at h; rw [← h]
 | m + 1, L, left, out, r, h => by
  unfold treeGo at h
  split at h
  ·cases h
  ·split at h
   ·cases h
   ·rw [treeGo_len h, mvL_len]
theorem treeGo_zr {ids : List Int} : ∀ {m : Nat} {L : List (Nat × Nat)} {left : List Int} {out : List Pay} {r : List Int × List Pay}, L.length = m → Ok ids.length L → left.length = ids.length → treeGo ids m L left out = some r → (∀ v, v < ids.length → lf r.1 v = 0) → Zr ids.length L (lf left)
 | 0, L, left, out, r, hl, hok, hlen, h, hz => by
  simp [treeGo] at h
  rw [← h] at hz
  exact zr_zero hz
 | m + 1, L, left, out, r, hl, hok, hlen, h, hz => by
  unfold treeGo at h
  split at h
  ·cases h
  ·rename_i i e hf
   split at h
   ·cases h
   ·obtain ⟨hi, hle⟩ := findLeaf_some hf
    obtain ⟨hon, hne, _, _⟩ := oth_spec hok hle.1 hle.2.1
    have h1 := treeGo_zr (by rw [List.length_erase_of_mem hle.1]; omega) (hok.erase e) (by rw [mvL_len, hlen]) h hz
    rw [lf_mvL (by omega) (by omega)] at h1
    exact step_zr_back hok hle.1 hle.2.1 h1
theorem all_zero {l : List Int} : l.all (fun n => decide (n = 0)) = true ↔ ∀ v, v < l.length → lf l v = 0 := by
 rw [List.all_eq_true]
 constructor
 ·intro h v hv
  have := h l[v] (List.getElem_mem hv)
  simpa [lf, List.getD_eq_getElem?_getD, List.getElem?_eq_getElem hv] using this
 ·intro h x hx
  obtain ⟨v, hv, rfl⟩ := List.getElem_of_mem hx
  have := h v hv
  simpa [lf, List.getD_eq_getElem?_getD, List.getElem?_eq_getElem hv] using this
theorem treeR_zr {ids : List Int} {L : List (Nat × Nat)} {owed : List Int} {out : List Pay} (hok : Ok ids.length L) (hlen : owed.length = ids.length) (h : treeR ids L owed = some out) : Zr ids.length L (lf owed) := by
 unfold treeR at h
 split at h
 ·rename_i r hr
  split at h
  ·rename_i ha
   have hl := treeGo_len hr
   exact treeGo_zr rfl hok hlen hr (by have := all_zero.1 ha; rw [hl, hlen] at this; exact this)
  ·cases h
 ·cases h
def pick {α : Type} : List α → Nat → List α
 | [], _ => []
 | p :: l, s => if s % 2 = 1 then p :: pick l (s / 2) else pick l (s / 2)
theorem pick_sub {α : Type} : ∀ (l : List α) (s : Nat), List.Sublist (pick l s) l
 | [], _ => List.Sublist.refl _
 | p :: l, s => by
  unfold pick
  split
  ·exact (pick_sub l _).cons_cons p
  ·exact (pick_sub l _).cons p
theorem sub_pick {α : Type} {S l : List α} (h : List.Sublist S l) : ∃ s, s < 2 ^ l.length ∧ pick l s = S := by
 induction h with
 | slnil => exact ⟨0, by simp, rfl⟩
 | cons a _ ih =>
  obtain ⟨s, h1, h2⟩ := ih
  refine ⟨2 * s, by simp [Nat.pow_succ]; omega, ?_⟩
  unfold pick
  rw [if_neg (by omega), show 2 * s / 2 = s by omega, h2]
 | cons_cons a _ ih =>
  obtain ⟨s, h1, h2⟩ := ih
  refine ⟨2 * s + 1, by simp [Nat.pow_succ]; omega, ?_⟩
  unfold pick
  rw [if_pos (by omega), show (2 * s + 1) / 2 = s by omega, h2]
theorem Ok.sub {n : Nat} {L S : List (Nat × Nat)} (h : Ok n L) (hs : List.Sublist S L) : Ok n S := ⟨h.nd.sublist hs, fun p hp => h.lt p (hs.subset hp)⟩
def mergeH (h : List Nat) (p : Nat × Nat) : List Nat := h.map fun v => if v = max (h.getD p.1 0) (h.getD p.2 0) then min (h.getD p.1 0) (h.getD p.2 0) else v
def headsR (n : Nat) (L : List (Nat × Nat)) : List Nat := L.foldl mergeH (List.range n)
def hf (h : List Nat) : Nat → Nat := fun v => h.getD v 0
theorem headsR_snoc (n : Nat) (L : List (Nat × Nat)) (p : Nat × Nat) : headsR n (L ++ [p]) = mergeH (headsR n L) p := by simp [headsR]
theorem hf_merge {h : List Nat} {p : Nat × Nat} {v : Nat} (hv : v < h.length) : hf (mergeH h p) v = if hf h v = max (hf h p.1) (hf h p.2) then min (hf h p.1) (hf h p.2) else hf h v := by
 simp only [hf, mergeH, List.getD_eq_getElem?_getD, List.getElem?_map, List.getElem?_eq_getElem hv, Option.map_some, Option.getD_some]
structure Lab (n : Nat) (L : List (Nat × Nat)) (h : List Nat) : Prop where
 len : h.length = n
 lt : ∀ v, v < n → hf h v < n
 one : ∀ p ∈ L, hf h p.1 = hf h p.2
 cl : ∀ P, Cl L P → ∀ v, v < n → P (hf h v) = P v
theorem lab_nil (n : Nat) : Lab n [] (List.range n) := by
 have : ∀ v, v < n → hf (List.range n) v = v := fun v hv => by simp [hf, List.getD_eq_getElem?_getD, hv]
 exact ⟨by simp, fun v hv => by rw [this v hv]; exact hv, fun _ h => (by cases h), fun P _ v hv => by rw [this v hv]⟩
theorem Lab.snoc {n : Nat} {L : List (Nat × Nat)} {h : List Nat} {p : Nat × Nat} (k : Lab n L h) (hL : ∀ q ∈ L, q.1 < n ∧ q.2 < n) (h1 : p.1 < n) (h2 : p.2 < n) : Lab n (L ++ [p]) (mergeH h p) := by
 have l1 := k.lt _ h1
 have l2 := k.lt _ h2
 refine ⟨by simp [mergeH, k.len], fun v hv => ?_, fun q hq => ?_, fun P hP v hv => ?_⟩
 ·rw [hf_merge (by rw [k.len]; exact hv)]
  split
  ·omega
  ·exact k.lt v hv
 ·rcases List.mem_append.1 hq with hq | hq
  ·have b := hL q hq
   rw [hf_merge (by rw [k.len]; exact b.1), hf_merge (by rw [k.len]; exact b.2), k.one q hq]
  ·obtain rfl : q = p := by simpa using hq
   rw [hf_merge (by rw [k.len]; exact h1), hf_merge (by rw [k.len]; exact h2)]
   split <;> split <;> omega
 ·have hcl : Cl L P := fun q hq => hP q (List.mem_append.2 (.inl hq))
  have e0 := k.cl P hcl v hv
  have e1 := k.cl P hcl _ h1
  have e2 := k.cl P hcl _ h2
  have e3 : P p.1 = P p.2 := hP p (by simp)
  rw [hf_merge (by rw [k.len]; exact hv)]
  split
  ·rename_i e'
   rw [← e0, e']
   rcases Nat.le_total (hf h p.1) (hf h p.2) with hle | hle
   ·rw [Nat.min_eq_left hle, Nat.max_eq_right hle, e1, e2, e3]
   ·rw [Nat.min_eq_right hle, Nat.max_eq_left hle, e1, e2, e3]
  ·exact e0
theorem lab_heads {n : Nat} {L : List (Nat × Nat)} (h : ∀ p ∈ L, p.1 < n ∧ p.2 < n) : ∀ k, k ≤ L.length → Lab n (L.take k) (headsR n (L.take k)) := by
 intro k
 induction k with
 | zero => intro _; exact lab_nil n
 | succ k ih =>
  intro hk
  have h1 := h L[k] (List.getElem_mem (by omega))
  rw [List.take_succ_eq_append_getElem (by omega), headsR_snoc]
  exact (ih (by omega)).snoc (fun q hq => h q (List.mem_of_mem_take hq)) h1.1 h1.2
theorem lab_all {n : Nat} {L : List (Nat × Nat)} (h : ∀ p ∈ L, p.1 < n ∧ p.2 < n) : Lab n L (headsR n L) := by
 have := lab_heads h L.length (Nat.le_refl _)
 rwa [List.take_length] at this
def sumN : Nat → (Nat → Int) → Int
 | 0, _ => 0
 | n + 1, g => sumN n g + g n
theorem sumN_succ (n : Nat) (g : Nat → Int) : sumN (n + 1) g = sumN n g + g n := rfl
theorem sumN_add (f : Nat → Int) (j : Nat) (c : Int) : ∀ {m : Nat}, j < m → sumN m (fun k => f k + if j = k then c else 0) = sumN m f + c
 | m + 1, h => by
  rw [sumN_succ, sumN_succ]
  by_cases e : j = m
  ·subst e
   have : ∀ m, m ≤ j → sumN m (fun k => f k + if j = k then c else 0) = sumN m f := by
    intro m
    induction m with
    | zero => intro _; rfl
    | succ m ih => intro hm; rw [sumN_succ, sumN_succ, ih (by omega), if_neg (by omega)]; omega
   rw [this j (Nat.le_refl _), if_pos rfl]; omega
  ·rw [sumN_add f j c (by omega), if_neg e]; omega
theorem sumN_zero (m : Nat) : sumN m (fun _ => 0) = 0 := by
 induction m with
 | zero => rfl
 | succ m ih => unfold sumN; rw [ih]; rfl
theorem sumN_congr {f g : Nat → Int} (h : ∀ k, f k = g k) (m : Nat) : sumN m f = sumN m g := by rw [funext h]
theorem sum_by {x : Nat → Int} {P : Nat → Bool} {h : Nat → Nat} {m : Nat} : ∀ {n : Nat}, (∀ v, v < n → h v < m) → (∀ v, v < n → P (h v) = P v) → sumP n x P = sumN m fun k => if P k then sumP n x (fun v => decide (h v = k)) else 0
 | 0, _, _ => by
  rw [sumN_congr (g := fun _ => 0) (fun k => by split <;> rfl), sumN_zero]; rfl
 | n + 1, h1, h2 => by
  have ih := sum_by (x := x) (P := P) (h := h) (m := m) (n := n) (fun v hv => h1 v (by omega)) (fun v hv => h2 v (by omega))
  rw [sumN_congr (g := fun k => (if P k then sumP n x (fun v => decide (h v = k)) else 0) + if h n = k then (if P n then x n else 0) else 0) (fun k => ?_), sumN_add _ _ _ (h1 n (by omega)), ← ih]
  ·rfl
  ·have hs : sumP (n + 1) x (fun v => decide (h v = k)) = sumP n x (fun v => decide (h v = k)) + (if decide (h n = k) = true then x n else 0) := rfl
   rw [hs]
   by_cases e : h n = k
   ·subst e
    rw [if_pos rfl, h2 n (by omega)]
    cases P n <;> simp
   ·rw [if_neg e]
    have : decide (h n = k) = false := decide_eq_false e
    rw [this]
    cases P k <;> simp
theorem even_iff {n : Nat} {L : List (Nat × Nat)} {h : List Nat} {x : Nat → Int} (k : Lab n L h) : (∀ j, sumP n x (fun v => decide (hf h v = j)) = 0) ↔ Zr n L x := by
 constructor
 ·intro h0 P hP
  rw [sum_by (m := n) k.lt (k.cl P hP), sumN_congr (g := fun _ => 0) (fun j => by rw [h0 j]; split <;> rfl), sumN_zero]
 ·intro hz j
  exact hz _ fun p hp => by rw [k.one p hp]
def Forest (L : List (Nat × Nat)) : Prop := ∀ e ∈ L, ∃ P, Cl (L.erase e) P ∧ P e.1 ≠ P e.2
structure Side (L : List (Nat × Nat)) (e : Nat × Nat) (i o : Nat) (Q : Nat → Bool) : Prop where
 cl : Cl (L.erase e) Q
 inn : Q i = true
 out : Q o = false
theorem sumP_split (n : Nat) (x : Nat → Int) (P Q : Nat → Bool) : sumP n x P = sumP n x (fun v => P v && Q v) + sumP n x (fun v => P v && !Q v) := by
 induction n with
 | zero => rfl
 | succ n ih =>
  unfold sumP
  rw [ih]
  dsimp only
  by_cases hP : P n = true <;> by_cases hQ : Q n = true <;> simp [hP, hQ] <;> omega
theorem sumP_or (n : Nat) (x : Nat → Int) (P Q : Nat → Bool) : sumP n x (fun v => P v || Q v) = sumP n x P + sumP n x Q - sumP n x (fun v => P v && Q v) := by
 induction n with
 | zero => rfl
 | succ n ih =>
  unfold sumP
  rw [ih]
  dsimp only
  by_cases hP : P n = true <;> by_cases hQ : Q n = true <;> simp [hP, hQ] <;> omega
theorem sumP_not (n : Nat) (x : Nat → Int) (P : Nat → Bool) : sumP n x (fun v => !P v) = sumP n x (fun _ => true) - sumP n x P := by
 induction n with
 | zero => rfl
 | succ n ih =>
  unfold sumP
  rw [ih]
  dsimp only
  by_cases hP : P n = true <;> simp [hP] <;> omega
theorem cl_of_erase {L : List (Nat × Nat)} {e : Nat × Nat} {Q : Nat → Bool} (hn : L.Nodup) (h : Cl (L.erase e) Q) (he : e ∈ L → Q e.1 = Q e.2) : Cl L Q := fun p hp => by
 by_cases hpe : p = e
 ·subst hpe; exact he hp
 ·exact h p ((hn.mem_erase_iff).2 ⟨hpe, hp⟩)
def Ends (e : Nat × Nat) (i o : Nat) : Prop := (e.1 = i ∧ e.2 = o) ∨ (e.1 = o ∧ e.2 = i)
theorem Ends.swap {e : Nat × Nat} {i o : Nat} (h : Ends e i o) : Ends e o i := h.elim (fun h => .inr h) (fun h => .inl h)
theorem side_sum {n : Nat} {L : List (Nat × Nat)} {x : Nat → Int} (hn : L.Nodup) (hz : Zr n L x) {e : Nat × Nat} {i o : Nat} (he : Ends e i o) {Q R : Nat → Bool} (h : Side L e i o Q) (k : Side L e i o R) : sumP n x Q = sumP n x R := by
 have z1 : sumP n x (fun v => Q v && !R v) = 0 := hz _ (cl_of_erase (e := e) hn (fun p hp => by show (Q p.1 && !R p.1) = _; rw [h.cl p hp, k.cl p hp]) fun _ => by
  rcases he with ⟨a, b⟩ | ⟨a, b⟩ <;> simp [a, b, h.inn, h.out, k.inn, k.out])
 have z2 : sumP n x (fun v => R v && !Q v) = 0 := hz _ (cl_of_erase (e := e) hn (fun p hp => by show (R p.1 && !Q p.1) = _; rw [h.cl p hp, k.cl p hp]) fun _ => by
  rcases he with ⟨a, b⟩ | ⟨a, b⟩ <;> simp [a, b, h.inn, h.out, k.inn, k.out])
 have s1 := sumP_split n x Q R
 have s2 := sumP_split n x R Q
 have e3 : sumP n x (fun v => Q v && R v) = sumP n x (fun v => R v && Q v) := sumP_congr (fun _ _ => rfl) (fun v _ => Bool.and_comm _ _)
 omega
theorem Side.swap {L : List (Nat × Nat)} {e : Nat × Nat} {i o : Nat} {Q : Nat → Bool} (h : Side L e i o Q) : Side L e o i (fun v => !Q v) := ⟨fun p hp => by show (!Q p.1) = _; rw [h.cl p hp], by simp [h.out], by simp [h.inn]⟩
theorem side_of {L : List (Nat × Nat)} (hf : Forest L) {e : Nat × Nat} (he : e ∈ L) {i o : Nat} (hio : Ends e i o) : ∃ Q, Side L e i o Q := by
 obtain ⟨P, h1, h2⟩ := hf e he
 have hne : P i ≠ P o := by rcases hio with ⟨a, b⟩ | ⟨a, b⟩ <;> rw [a, b] at h2 <;> first | exact h2 | exact h2.symm
 cases hi : P i with
 | true => exact ⟨P, h1, hi, by rw [hi] at hne; simpa using hne.symm⟩
 | false => exact ⟨fun v => !P v, fun p hp => by show (!P p.1) = _; rw [h1 p hp], by simp [hi], by rw [hi] at hne; simpa using hne.symm⟩
noncomputable def amt (n : Nat) (x : Nat → Int) (L : List (Nat × Nat)) (e : Nat × Nat) : Int := @dite _ (∃ Q, Side L e e.2 e.1 Q) (Classical.propDecidable _) (fun h => sumP n x h.choose) fun _ => 0
theorem amt_side {n : Nat} {L : List (Nat × Nat)} {x : Nat → Int} (hn : L.Nodup) (hz : Zr n L x) {e : Nat × Nat} {Q : Nat → Bool} (h : Side L e e.2 e.1 Q) : amt n x L e = sumP n x Q := by
 have hex : ∃ Q, Side L e e.2 e.1 Q := ⟨Q, h⟩
 unfold amt
 rw [dif_pos hex]
 exact side_sum hn hz (.inr ⟨rfl, rfl⟩) hex.choose_spec h
theorem amt_swap {n : Nat} {L : List (Nat × Nat)} {x : Nat → Int} (hn : L.Nodup) (hz : Zr n L x) {e : Nat × Nat} {Q : Nat → Bool} (h : Side L e e.1 e.2 Q) : amt n x L e = - sumP n x Q := by
 rw [amt_side hn hz h.swap, sumP_not, hz (fun _ => true) (fun _ _ => rfl)]; omega
noncomputable def payE (ids : List Int) (x : Nat → Int) (L : List (Nat × Nat)) (e : Nat × Nat) : Pay :=
 if amt ids.length x L e < 0 then ⟨ids.getD e.2 0, ids.getD e.1 0, - amt ids.length x L e⟩ else ⟨ids.getD e.1 0, ids.getD e.2 0, amt ids.length x L e⟩
theorem payE_side {ids : List Int} {L : List (Nat × Nat)} {x : Nat → Int} (hn : L.Nodup) (hz : Zr ids.length L x) {e : Nat × Nat} {i : Nat} (hi : inc i e = true) {Q : Nat → Bool} (h : Side L e i (oth e i) Q) (h0 : sumP ids.length x Q ≠ 0) : payE ids x L e = payX ids i (oth e i) (sumP ids.length x Q) := by
 unfold payE payX
 rcases inc_iff.1 hi with h1 | h1
 ·have h2 : oth e i = e.2 := by unfold oth; omega
  rw [h2] at h ⊢
  subst h1
  rw [amt_swap hn hz h]
  by_cases hc : 0 < sumP ids.length x Q
  ·rw [if_pos hc, if_pos (by omega), Int.neg_neg]
  ·rw [if_neg hc, if_neg (by omega)]
 ·have h2 : oth e i = e.1 := by unfold oth; omega
  rw [h2] at h ⊢
  subst h1
  rw [amt_side hn hz h]
  by_cases hc : 0 < sumP ids.length x Q
  ·rw [if_pos hc, if_neg (by omega)]
  ·rw [if_neg hc, if_pos (by omega)]
def behS (at_ fr : Nat) (b : Nat → Int) (n : Int) (p : Nat × Nat) : Int :=
 (fun n1 : Int => if p.2 = at_ ∧ p.1 ≠ fr then n1 + b p.1 else n1) (if p.1 = at_ ∧ p.2 ≠ fr then n + b p.2 else n)
def behR (x : Nat → Int) (L : List (Nat × Nat)) : Nat → Nat → Nat → Int
 | 0, _, _ => 0
 | m + 1, a, fr => L.foldl (behS a fr fun b => behR x L m b a) (x a)
structure Good (n : Nat) (L : List (Nat × Nat)) (m a fr : Nat) : Prop where
 go : ∃ e ∈ L, Ends e a fr ∧ ∃ P, Side L e a fr P ∧ cnt n P ≤ m
def Ord (L : List (Nat × Nat)) : Prop := ∀ p ∈ L, p.1 < p.2
theorem ends_uniq {L : List (Nat × Nat)} (ho : Ord L) {p e : Nat × Nat} (hp : p ∈ L) (he : e ∈ L) {a b : Nat} (h1 : Ends p a b) (h2 : Ends e a b) : p = e := by
 have := ho p hp
 have := ho e he
 obtain ⟨p1, p2⟩ := p
 obtain ⟨e1, e2⟩ := e
 unfold Ends at h1 h2
 simp only [Prod.mk.injEq] at *
 rcases h1 with ⟨r1, r2⟩ | ⟨r1, r2⟩ <;> rcases h2 with ⟨r3, r4⟩ | ⟨r3, r4⟩ <;> omega
theorem cnt_pos {P : Nat → Bool} {t : Nat} (h : P t = true) : ∀ {n : Nat}, t < n → 0 < cnt n P
 | n + 1, ht => by
  unfold cnt
  by_cases e : t = n
  ·subst e; rw [if_pos h]; omega
  ·have := cnt_pos h (n := n) (by omega); omega
theorem good_pos {n : Nat} {L : List (Nat × Nat)} (hok : Ok n L) {m a fr : Nat} (h : Good n L m a fr) : 0 < m ∧ a < n ∧ fr < n := by
 obtain ⟨e, he, hio, P, hs, hc⟩ := h.go
 obtain ⟨h1, h2, _⟩ := hok.lt e he
 have ha : a < n ∧ fr < n := by rcases hio with ⟨r1, r2⟩ | ⟨r1, r2⟩ <;> omega
 have := cnt_pos hs.inn ha.1
 exact ⟨by omega, ha⟩
theorem good_step {n : Nat} {L : List (Nat × Nat)} (hok : Ok n L) (ho : Ord L) (hf : Forest L) {m a fr : Nat} (h : Good n L (m + 1) a fr) {p : Nat × Nat} (hp : p ∈ L) {b : Nat} (hpb : Ends p a b) (hb : b ≠ fr) : Good n L m b a := by
 have h0 := good_pos hok h
 obtain ⟨e, he, hio, P, hs, hc⟩ := h.go
 have hpe : p ≠ e := fun heq => by
  subst heq
  have := ho p hp
  rcases hpb with ⟨r1, r2⟩ | ⟨r1, r2⟩ <;> rcases hio with ⟨r3, r4⟩ | ⟨r3, r4⟩ <;> omega
 obtain ⟨Q, hQ⟩ := side_of hf hp hpb.swap
 have hPp : P p.1 = P p.2 := hs.cl p ((hok.nd.mem_erase_iff).2 ⟨hpe, hp⟩)
 have hPb : P b = true := by rcases hpb with ⟨r1, r2⟩ | ⟨r1, r2⟩ <;> rw [r1, r2] at hPp <;> (rw [← hs.inn]; first | exact hPp | exact hPp.symm)
 have hQe : Q e.1 = Q e.2 := hQ.cl e ((hok.nd.mem_erase_iff).2 ⟨fun h => hpe h.symm, he⟩)
 have hQfr : Q fr = false := by rcases hio with ⟨r1, r2⟩ | ⟨r1, r2⟩ <;> rw [r1, r2] at hQe <;> (rw [← hQ.out]; first | exact hQe | exact hQe.symm)
 refine ⟨p, hp, hpb.swap, fun v => P v && Q v, ⟨fun q hq => ?_, by simp [hPb, hQ.inn], by simp [hQ.out]⟩, ?_⟩
 ·have hq' := (hok.nd.mem_erase_iff).1 hq
  show (P q.1 && Q q.1) = (P q.2 && Q q.2)
  by_cases hqe : q = e
  ·subst hqe
   rcases hio with ⟨r1, r2⟩ | ⟨r1, r2⟩ <;> simp [r1, r2, hs.out, hQ.out, hQfr]
  ·rw [hQ.cl q hq, hs.cl q ((hok.nd.mem_erase_iff).2 ⟨hqe, hq'.2⟩)]
 ·have := cnt_lt (P := P) (Q := fun v => P v && Q v) (t := a) (fun v h => by simp at h; exact h.1) hs.inn (by simp [hQ.out]) (n := n) h0.2.1
  omega
theorem sumP_none (n : Nat) (x : Nat → Int) : sumP n x (fun _ => false) = 0 := by
 induction n with
 | zero => rfl
 | succ n ih => unfold sumP; rw [ih]; rfl
theorem beh_sum {n : Nat} {x : Nat → Int} {L : List (Nat × Nat)} (hok : Ok n L) (ho : Ord L) (hf : Forest L) (hz : Zr n L x) : ∀ (m a fr : Nat) (e : Nat × Nat), e ∈ L → Ends e a fr → Good n L m a fr → ∃ Q, Side L e a fr Q ∧ behR x L m a fr = sumP n x Q := by
 intro m
 induction m with
 | zero => intro a fr e _ _ hg; exact absurd (good_pos hok hg).1 (Nat.lt_irrefl _)
 | succ m ih =>
  intro a fr e he hio hg
  obtain ⟨_, han, hfn⟩ := good_pos hok hg
  have haf : a ≠ fr := by
   have := (hok.lt e he).2.2
   rcases hio with ⟨r1, r2⟩ | ⟨r1, r2⟩ <;> omega
  have key : ∀ (L2 L1 : List (Nat × Nat)) (U : Nat → Bool), L = L1 ++ L2 → U a = true → U fr = false → (∀ p ∈ L, inc a p = false → U p.1 = U p.2) → (∀ p ∈ L1, p ≠ e → inc a p = true → U p.1 = U p.2) → (∀ p ∈ L2, p ≠ e → ∀ c, Ends p a c → U c = false) →
    ∃ Q, Side L e a fr Q ∧ L2.foldl (behS a fr fun b => behR x L m b a) (sumP n x U) = sumP n x Q := by
   intro L2
   induction L2 with
   | nil =>
    intro L1 U hL ha hfr hB hC _
    rw [List.append_nil] at hL
    subst hL
    refine ⟨U, ⟨fun p hp => ?_, ha, hfr⟩, rfl⟩
    have hp' := (hok.nd.mem_erase_iff).1 hp
    cases hi : inc a p with
    | true => exact hC p hp'.2 hp'.1 hi
    | false => exact hB p hp'.2 hi
   | cons p L2 ih2 =>
    intro L1 U hL ha hfr hB hC hD
    have hpL : p ∈ L := by rw [hL]; simp
    have hL' : L = (L1 ++ [p]) ++ L2 := by rw [hL]; simp
    rw [List.foldl_cons]
    have hsub2 : ∀ q ∈ L2, q ∈ L ∧ q ≠ p := fun q hq => ⟨by rw [hL]; simp [hq], fun h => by
     have := hok.nd
     rw [hL, List.nodup_append] at this
     have h2 := this.2.1
     rw [List.nodup_cons] at h2
     exact h2.1 (h ▸ hq)⟩
    -- a step by an edge from a to b
    have go : ∀ b, Ends p a b → b ≠ fr → ∃ Q, Side L e a fr Q ∧ L2.foldl (behS a fr fun b => behR x L m b a) (sumP n x U + behR x L m b a) = sumP n x Q := by
     intro b hpb hb
     have hpe : p ≠ e := fun heq => by
      subst heq
      rcases hpb with ⟨r1, r2⟩ | ⟨r1, r2⟩ <;> rcases hio with ⟨r3, r4⟩ | ⟨r3, r4⟩ <;> omega
     obtain ⟨Q, hQ, hbq⟩ := ih b a p hpL hpb.swap (good_step hok ho hf hg hpL hpb hb)
     have hQc : ∀ q ∈ L, q ≠ p → ∀ c, Ends q a c → Q c = false := fun q hq hne c hc => by
      have := hQ.cl q ((hok.nd.mem_erase_iff).2 ⟨hne, hq⟩)
      rcases hc with ⟨r1, r2⟩ | ⟨r1, r2⟩ <;> rw [r1, r2] at this <;> (rw [← hQ.out]; first | exact this | exact this.symm)
     have hUb : U b = false := hD p (by simp) hpe b hpb
     have hR : sumP n x (fun v => U v && Q v) = 0 := hz _ fun q hq => by
      show (U q.1 && Q q.1) = (U q.2 && Q q.2)
      cases hi : inc a q with
      | false =>
       have hqp : q ≠ p := fun h => by subst h; rcases hpb with ⟨r1, r2⟩ | ⟨r1, r2⟩ <;> simp [inc, r1, r2] at hi
       rw [hB q hq hi, hQ.cl q ((hok.nd.mem_erase_iff).2 ⟨hqp, hq⟩)]
      | true =>
       by_cases hqp : q = p
       ·subst hqp
        rcases hpb with ⟨r1, r2⟩ | ⟨r1, r2⟩ <;> simp [r1, r2, hUb, hQ.out]
       ·rcases inc_iff.1 hi with r | r
        ·have := hQc q hq hqp q.2 (.inl ⟨r, rfl⟩)
         simp [r, this, hQ.out]
        ·have := hQc q hq hqp q.1 (.inr ⟨rfl, r⟩)
         simp [r, this, hQ.out]
     have hs : sumP n x U + behR x L m b a = sumP n x (fun v => U v || Q v) := by rw [sumP_or, hR, hbq]; omega
     rw [hs]
     refine ih2 (L1 ++ [p]) _ hL' (by simp [ha]) (by simp [hfr, hQc e he (fun h => hpe h.symm) fr hio]) (fun q hq hi => ?_) (fun q hq hne hi => ?_) (fun q hq hne c hc => ?_)
     ·show (U q.1 || Q q.1) = (U q.2 || Q q.2)
      have hqp : q ≠ p := fun h => by subst h; rcases hpb with ⟨r1, r2⟩ | ⟨r1, r2⟩ <;> simp [inc, r1, r2] at hi
      rw [hB q hq hi, hQ.cl q ((hok.nd.mem_erase_iff).2 ⟨hqp, hq⟩)]
     ·show (U q.1 || Q q.1) = (U q.2 || Q q.2)
      rcases List.mem_append.1 hq with hq | hq
      ·have := hC q hq hne hi
       rcases inc_iff.1 hi with r | r
       ·rw [r, ha] at this; simp [r, ha, ← this]
       ·rw [r, ha] at this; simp [r, ha, this]
      ·have : q = p := by simpa using hq
       subst this
       rcases hpb with ⟨r1, r2⟩ | ⟨r1, r2⟩ <;> simp [r1, r2, ha, hQ.inn]
     ·simp [hD q (by simp [hq]) hne c hc, hQc q (hsub2 q hq).1 (hsub2 q hq).2 c hc]
    have stay : (∀ b, Ends p a b → b = fr) → ∃ Q, Side L e a fr Q ∧ L2.foldl (behS a fr fun b => behR x L m b a) (sumP n x U) = sumP n x Q := by
     intro hall
     refine ih2 (L1 ++ [p]) U hL' ha hfr hB (fun q hq hne hi => ?_) (fun q hq hne c hc => hD q (by simp [hq]) hne c hc)
     rcases List.mem_append.1 hq with hq | hq
     ·exact hC q hq hne hi
     ·have : q = p := by simpa using hq
      subst this
      exfalso
      rcases inc_iff.1 hi with r | r
      ·have h1 := hall q.2 (.inl ⟨r, rfl⟩)
       exact hne (ends_uniq ho hpL he (.inl ⟨r, h1⟩) hio)
      ·have h1 := hall q.1 (.inr ⟨rfl, r⟩)
       exact hne (ends_uniq ho hpL he (.inr ⟨h1, r⟩) hio)
    have hlt := (hok.lt p hpL).2.2
    unfold behS
    by_cases c1 : p.1 = a ∧ p.2 ≠ fr
    ·rw [if_pos c1]
     dsimp only
     rw [if_neg (fun h => hlt (c1.1.trans h.1.symm))]
     exact go p.2 (.inl ⟨c1.1, rfl⟩) c1.2
    ·rw [if_neg c1]
     dsimp only
     by_cases c2 : p.2 = a ∧ p.1 ≠ fr
     ·rw [if_pos c2]
      exact go p.1 (.inr ⟨rfl, c2.1⟩) c2.2
     ·rw [if_neg c2]
      refine stay fun b hb => ?_
      rcases hb with ⟨r1, r2⟩ | ⟨r1, r2⟩
      ·exact Classical.not_not.1 fun h => c1 ⟨r1, by rw [r2]; exact h⟩
      ·exact Classical.not_not.1 fun h => c2 ⟨r2, by rw [r1]; exact h⟩
  have hU := key L [] (flip (fun _ => false) a true) rfl (by simp [flip]) (by unfold flip; rw [if_neg (fun h => haf h.symm)]) (fun p hp hi => by
   have h1 : p.1 ≠ a := fun h => by simp [inc, h] at hi
   have h2 : p.2 ≠ a := fun h => by simp [inc, h] at hi
   unfold flip; rw [if_neg h1, if_neg h2]) (fun p hp => by cases hp) (fun p hp hne c hc => by
   have := (hok.lt p hp).2.2
   unfold flip
   rw [if_neg]
   rcases hc with ⟨r1, r2⟩ | ⟨r1, r2⟩ <;> omega)
  rw [sumP_flip han, sumP_none] at hU
  simpa [behR] using hU
theorem beh_amt {n : Nat} {x : Nat → Int} {L : List (Nat × Nat)} (hok : Ok n L) (ho : Ord L) (hf : Forest L) (hz : Zr n L x) {e : Nat × Nat} (he : e ∈ L) : behR x L n e.2 e.1 = amt n x L e := by
 have hE : Ends e e.2 e.1 := .inr ⟨rfl, rfl⟩
 obtain ⟨P, hP⟩ := side_of hf he hE
 obtain ⟨Q, h1, h2⟩ := beh_sum hok ho hf hz n e.2 e.1 e he hE ⟨e, he, hE, P, hP, cnt_le _ _⟩
 rw [h2, amt_side hok.nd hz h1]
def SortedP (l : List Pay) : Prop := l.Pairwise fun a b => payLt b a = false
theorem payLt_iff {a b : Pay} : payLt a b = true ↔ a.a < b.a ∨ (a.a = b.a ∧ (a.b < b.b ∨ (a.b = b.b ∧ a.p < b.p))) := by
 unfold payLt
 by_cases h1 : a.a = b.a
 ·by_cases h2 : a.b = b.b
  ·simp [h1, h2]
  ·simp [h1, h2]
 ·simp [h1]
theorem payLt_no {a b : Pay} : payLt a b = false ↔ b.a < a.a ∨ (a.a = b.a ∧ (b.b < a.b ∨ (a.b = b.b ∧ b.p ≤ a.p))) := by
 rw [← Bool.not_eq_true, payLt_iff]
 omega
theorem payLt_anti {a b : Pay} (h : payLt a b = false) (k : payLt b a = false) : a = b := by
 rw [payLt_no] at h k
 obtain ⟨a1, a2, a3⟩ := a
 obtain ⟨b1, b2, b3⟩ := b
 simp only [Pay.mk.injEq] at *
 omega
theorem sorted_uniq : ∀ {l l' : List Pay}, SortedP l → SortedP l' → l.Perm l' → l = l'
 | [], l', _, _, p => p.nil_eq
 | a :: t, l', h, h', p => by
  obtain ⟨h1, h2⟩ := List.pairwise_cons.1 h
  match l', p with
  | [], p => exact absurd p.length_eq (by simp)
  | b :: t', p =>
   obtain ⟨h3, h4⟩ := List.pairwise_cons.1 h'
   have hab : a = b := by
    have ha : a ∈ b :: t' := p.mem_iff.1 (by simp)
    have hb : b ∈ a :: t := p.mem_iff.2 (by simp)
    rcases List.mem_cons.1 ha with e | ha
    ·exact e
    ·rcases List.mem_cons.1 hb with e | hb
     ·exact e.symm
     ·exact payLt_anti (h3 a ha |> fun q => by simpa using q) (by simpa using h1 b hb) |>.symm ▸ rfl
   subst hab
   rw [sorted_uniq h2 h4 ((List.perm_cons a).1 p)]
theorem addP_perm (l : List Pay) (x : Pay) : (addP l x).Perm (x :: l) := by
 unfold addP
 rw [List.append_assoc]
 refine (List.perm_append_comm_assoc _ _ _).trans ?_
 simp
theorem takeWhile_split (q : Pay → Bool) : ∀ l : List Pay, l.take (l.takeWhile q).length = l.takeWhile q ∧ l.drop (l.takeWhile q).length = l.dropWhile q
 | [] => ⟨rfl, rfl⟩
 | a :: t => by
  have ih := takeWhile_split q t
  cases h : q a with
  | true => simp [h, ih.1, ih.2]
  | false => simp [h]
theorem dropWhile_head {q : Pay → Bool} : ∀ {l : List Pay} {b : Pay} {t : List Pay}, l.dropWhile q = b :: t → q b = false
 | [], _, _, h => by cases h
 | a :: l, b, t, h => by
  cases ha : q a with
  | true => rw [List.dropWhile_cons_of_pos ha] at h; exact dropWhile_head h
  | false => rw [List.dropWhile_cons_of_neg (by simp [ha])] at h; injection h with h1 h2; rw [← h1]; exact ha
theorem addP_sorted {l : List Pay} {x : Pay} (h : SortedP l) : SortedP (addP l x) := by
 unfold addP atP
 obtain ⟨e1, e2⟩ := takeWhile_split (fun y => payLt y x) l
 rw [e1, e2, List.append_assoc]
 have hl : l = l.takeWhile (fun y => payLt y x) ++ l.dropWhile (fun y => payLt y x) := (List.takeWhile_append_dropWhile).symm
 have h' : SortedP (l.takeWhile (fun y => payLt y x) ++ l.dropWhile (fun y => payLt y x)) := by rw [← hl]; exact h
 obtain ⟨k1, k2, k3⟩ := List.pairwise_append.1 h'
 have hx : ∀ b ∈ l.dropWhile (fun y => payLt y x), payLt b x = false := fun b hb => by
  cases hd : l.dropWhile (fun y => payLt y x) with
  | nil => rw [hd] at hb; cases hb
  | cons c t =>
   have hc := dropWhile_head hd
   rw [hd] at hb k2
   rcases List.mem_cons.1 hb with rfl | hb
   ·exact hc
   ·have := (List.pairwise_cons.1 k2).1 b hb
    rw [payLt_no] at hc this ⊢
    omega
 refine List.pairwise_append.2 ⟨k1, List.pairwise_cons.2 ⟨hx, k2⟩, fun a ha b hb => ?_⟩
 have ha' : payLt a x = true := by
  have := List.all_takeWhile (p := fun y => payLt y x) (l := l)
  exact List.all_eq_true.1 this a ha
 rcases List.mem_cons.1 hb with rfl | hb
 ·rw [payLt_iff] at ha'
  rw [payLt_no]; omega
 ·exact k3 a ha b hb
theorem Forest.sub {L S : List (Nat × Nat)} (h : Forest L) (hL : L.Nodup) (hn : S.Nodup) (hs : ∀ p ∈ S, p ∈ L) : Forest S := fun e he => by
 obtain ⟨P, h1, h2⟩ := h e (hs e he)
 exact ⟨P, fun p hp => h1 p (by
  have := (hn.mem_erase_iff).1 hp
  exact (hL.mem_erase_iff).2 ⟨this.1, hs p this.2⟩), h2⟩
theorem forest_back {n : Nat} {L : List (Nat × Nat)} (hok : Ok n L) {i : Nat} {e : Nat × Nat} (hl : Leaf L i e) (h : Forest (L.erase e)) : Forest L := fun e' he' => by
 obtain ⟨he, hi, hu⟩ := hl
 obtain ⟨_, hne, hin, _⟩ := oth_spec hok he hi
 have noi : ∀ p ∈ L, p ≠ e → p.1 ≠ i ∧ p.2 ≠ i := fun p hp hpe => by
  have : inc i p ≠ true := fun h => hpe (hu p hp h)
  exact ⟨fun h => this (by simp [inc, h]), fun h => this (by simp [inc, h])⟩
 by_cases hee : e' = e
 ·subst hee
  refine ⟨flip (fun _ => false) i true, fun p hp => ?_, ?_⟩
  ·have hp' := (hok.nd.mem_erase_iff).1 hp
   obtain ⟨a, b⟩ := noi p hp'.2 hp'.1
   unfold flip; rw [if_neg a, if_neg b]
  ·have := (hok.lt e' he).2.2
   rcases inc_iff.1 hi with r | r
   ·unfold flip; rw [if_pos r, if_neg (fun h => this (r.trans h.symm))]; simp
   ·unfold flip; rw [if_pos r, if_neg (fun h => this (h.trans r.symm))]; simp
 ·obtain ⟨P, h1, h2⟩ := h e' ((hok.nd.mem_erase_iff).2 ⟨hee, he'⟩)
  have hl' : Leaf (L.erase e') i e := ⟨(hok.nd.mem_erase_iff).2 ⟨fun h => hee h.symm, he⟩, hi, fun p hp h => hu p (List.mem_of_mem_erase hp) h⟩
  refine ⟨_, cl_flip (hok.erase e') hl' (P := P) (by rw [erase_erase]; exact h1), ?_⟩
  obtain ⟨a, b⟩ := noi e' he' hee
  unfold flip; rw [if_neg a, if_neg b]; exact h2
theorem Forest.leaf {n : Nat} {L : List (Nat × Nat)} (hok : Ok n L) (hf : Forest L) (hne : L ≠ []) : ∃ i e, i < n ∧ Leaf L i e := by
 obtain ⟨e, he⟩ := List.exists_mem_of_ne_nil L hne
 obtain ⟨P, h1, h2⟩ := hf e he
 exact leaf_of_bridges hok hf _ e P he h1 h2 rfl
theorem treeGo_forest {ids : List Int} : ∀ {m : Nat} {L : List (Nat × Nat)} {left : List Int} {out : List Pay} {r : List Int × List Pay}, L.length = m → Ok ids.length L → treeGo ids m L left out = some r → Forest L
 | 0, L, _, _, _, hl, _, _ => fun e he => by rw [List.eq_nil_of_length_eq_zero hl] at he; cases he
 | m + 1, L, left, out, r, hl, hok, h => by
  unfold treeGo at h
  split at h
  ·cases h
  ·rename_i i e hf
   split at h
   ·cases h
   ·obtain ⟨hi, hle⟩ := findLeaf_some hf
    exact forest_back hok hle (treeGo_forest (by rw [List.length_erase_of_mem hle.1]; omega) (hok.erase e) h)
structure TI (ids : List Int) (x : Nat → Int) (L0 L : List (Nat × Nat)) (left : List Int) : Prop where
 ok : Ok ids.length L
 sub : ∀ p ∈ L, p ∈ L0
 len : left.length = ids.length
 zr : Zr ids.length L (lf left)
 inv : ∀ e ∈ L, ∀ Q, Cl (L0.erase e) Q → sumP ids.length (lf left) Q = sumP ids.length x Q
theorem TI.step {ids : List Int} {x : Nat → Int} {L0 L : List (Nat × Nat)} {left : List Int} (hn : L0.Nodup) (h : TI ids x L0 L left) {i : Nat} {e : Nat × Nat} (hl : Leaf L i e) : TI ids x L0 (L.erase e) (mvL left i (oth e i)) := by
 obtain ⟨hon, hne, hin, _⟩ := oth_spec h.ok hl.1 hl.2.1
 have hz := step_zr h.ok h.zr hl
 refine ⟨h.ok.erase e, fun p hp => h.sub p (List.mem_of_mem_erase hp), by rw [mvL_len, h.len], by rw [lf_mvL (by rw [h.len]; exact hin) (by rw [h.len]; exact hon)]; exact hz, fun e' he' Q hQ => ?_⟩
 have he2 := (h.ok.nd.mem_erase_iff).1 he'
 have hQe : Q i = Q (oth e i) := cl_inc (L := L) hl.2.1 (hQ e ((hn.mem_erase_iff).2 ⟨fun h => he2.1 h.symm, h.sub e hl.1⟩))
 rw [lf_mvL (by rw [h.len]; exact hin) (by rw [h.len]; exact hon), sumP_mv hin hon hne hQe]
 exact h.inv e' he2.2 Q hQ
theorem TI.left {ids : List Int} {x : Nat → Int} {L0 L : List (Nat × Nat)} {left : List Int} (hn : L0.Nodup) (h : TI ids x L0 L left) {i : Nat} {e : Nat × Nat} (hl : Leaf L i e) {Q : Nat → Bool} (hQ : Side L0 e i (oth e i) Q) : left.getD i 0 = sumP ids.length x Q := by
 obtain ⟨hon, hne, hin, _⟩ := oth_spec h.ok hl.1 hl.2.1
 have h1 := h.zr (flip Q i false) fun p hp => by
  by_cases hpe : p = e
  ·subst hpe
   rcases inc_iff.1 hl.2.1 with r | r
   ·have : p.2 = oth p i := by unfold oth; omega
    unfold flip; rw [if_pos r, this, if_neg (fun h => hne h.symm), hQ.out]
   ·have : p.1 = oth p i := by unfold oth; omega
    unfold flip; rw [if_pos r, this, if_neg (fun h => hne h.symm), hQ.out]
  ·have : inc i p ≠ true := fun h => hpe (hl.2.2 p hp h)
   unfold flip
   rw [if_neg (fun h => this (by simp [inc, h])), if_neg (fun h => this (by simp [inc, h]))]
   exact hQ.cl p ((hn.mem_erase_iff).2 ⟨hpe, h.sub p hp⟩)
 rw [sumP_flip hin, h.inv e hl.1 Q hQ.cl] at h1
 simp [hQ.inn, lf] at h1 ⊢
 omega
theorem inc_ends {e : Nat × Nat} {i : Nat} (h : inc i e = true) : Ends e i (oth e i) := by
 rcases inc_iff.1 h with r | r
 ·exact .inl ⟨r, by unfold oth; omega⟩
 ·exact .inr ⟨by unfold oth; omega, r⟩
theorem amt_zero {n : Nat} {L : List (Nat × Nat)} {x : Nat → Int} (hn : L.Nodup) (hz : Zr n L x) {e : Nat × Nat} {i : Nat} (hi : inc i e = true) {Q : Nat → Bool} (h : Side L e i (oth e i) Q) : amt n x L e = 0 ↔ sumP n x Q = 0 := by
 rcases inc_iff.1 hi with h1 | h1
 ·have h2 : oth e i = e.2 := by unfold oth; omega
  rw [h2] at h; subst h1
  rw [amt_swap hn hz h]; omega
 ·have h2 : oth e i = e.1 := by unfold oth; omega
  rw [h2] at h; subst h1
  rw [amt_side hn hz h]
theorem treeGo_out {ids : List Int} {x : Nat → Int} {L0 : List (Nat × Nat)} (hn : L0.Nodup) (hf : Forest L0) (hz : Zr ids.length L0 x) : ∀ {m : Nat} {L : List (Nat × Nat)} {left : List Int} {out : List Pay} {r : List Int × List Pay}, L.length = m → TI ids x L0 L left → SortedP out → treeGo ids m L left out = some r →
  (∀ e ∈ L, amt ids.length x L0 e ≠ 0) ∧ SortedP r.2 ∧ r.2.Perm (out ++ L.map (payE ids x L0))
 | 0, L, left, out, r, hl, h, hs, hr => by
  have : L = [] := List.eq_nil_of_length_eq_zero hl
  subst this
  simp [treeGo] at hr
  subst hr
  exact ⟨fun _ h => (by cases h), hs, by simp⟩
 | m + 1, L, left, out, r, hl, h, hs, hr => by
  unfold treeGo at hr
  split at hr
  ·cases hr
  ·rename_i i e hfl
   split at hr
   ·cases hr
   ·rename_i hne
    obtain ⟨hi, hle⟩ := findLeaf_some hfl
    obtain ⟨Q, hQ⟩ := side_of hf (h.sub e hle.1) (inc_ends hle.2.1)
    have hlv := h.left hn hle hQ
    obtain ⟨k1, k2, k3⟩ := treeGo_out hn hf hz (by rw [List.length_erase_of_mem hle.1]; omega) (h.step hn hle) (addP_sorted hs) hr
    have hx : sumP ids.length x Q ≠ 0 := by rw [← hlv]; exact hne
    have hpe := payE_side hn hz hle.2.1 hQ hx
    refine ⟨fun e' he' => ?_, k2, ?_⟩
    ·by_cases hee : e' = e
     ·subst hee; exact fun h => hx ((amt_zero hn hz hle.2.1 hQ).1 h)
     ·exact k1 e' ((h.ok.nd.mem_erase_iff).2 ⟨hee, he'⟩)
    ·refine k3.trans ?_
     rw [hlv, ← hpe]
     refine ((addP_perm out _).append_right _).trans ?_
     have h1 : (L.map (payE ids x L0)).Perm (payE ids x L0 e :: (L.erase e).map (payE ids x L0)) := (List.perm_cons_erase hle.1).map _
     refine List.Perm.trans ?_ (h1.symm.append_left out)
     rw [List.cons_append]
     exact List.perm_middle.symm
theorem treeGo_some {ids : List Int} {x : Nat → Int} {L0 : List (Nat × Nat)} (hn : L0.Nodup) (hf : Forest L0) (hz : Zr ids.length L0 x) : ∀ {m : Nat} {L : List (Nat × Nat)} {left : List Int} {out : List Pay}, L.length = m → TI ids x L0 L left → (∀ e ∈ L, amt ids.length x L0 e ≠ 0) → ∃ r, treeGo ids m L left out = some r ∧ ∀ v, v < ids.length → lf r.1 v = 0
 | 0, L, left, out, hl, h, _ => by
  have : L = [] := List.eq_nil_of_length_eq_zero hl
  subst this
  exact ⟨(left, out), rfl, zr_nil h.zr⟩
 | m + 1, L, left, out, hl, h, hm => by
  obtain ⟨i0, e0, hi0, hl0⟩ := (hf.sub hn h.ok.nd h.sub).leaf h.ok (by intro h; rw [h] at hl; simp at hl)
  obtain ⟨⟨i, e⟩, hfl⟩ := findLeaf_of h.ok.nd hi0 hl0
  obtain ⟨hi, hle⟩ := findLeaf_some hfl
  obtain ⟨Q, hQ⟩ := side_of hf (h.sub e hle.1) (inc_ends hle.2.1)
  have hlv := h.left hn hle hQ
  have hx : left.getD i 0 ≠ 0 := by rw [hlv]; exact fun h => hm e hle.1 ((amt_zero hn hz hle.2.1 hQ).2 h)
  unfold treeGo
  rw [hfl]
  dsimp only
  rw [if_neg hx]
  exact treeGo_some hn hf hz (by rw [List.length_erase_of_mem hle.1]; omega) (h.step hn hle) fun e' he' => hm e' (List.mem_of_mem_erase he')
theorem treeR_iff {ids : List Int} {L : List (Nat × Nat)} {owed : List Int} {out : List Pay} (hok : Ok ids.length L) (hlen : owed.length = ids.length) :
  treeR ids L owed = some out ↔ Forest L ∧ Zr ids.length L (lf owed) ∧ (∀ e ∈ L, amt ids.length (lf owed) L e ≠ 0) ∧ SortedP out ∧ out.Perm (L.map (payE ids (lf owed) L)) := by
 have ti : Zr ids.length L (lf owed) → TI ids (lf owed) L L owed := fun hz => ⟨hok, fun _ h => h, hlen, hz, fun _ _ _ _ => rfl⟩
 constructor
 ·intro h
  have hz := treeR_zr hok hlen h
  unfold treeR at h
  split at h
  ·rename_i r hr
   split at h
   ·have hf := treeGo_forest rfl hok hr
    obtain ⟨k1, k2, k3⟩ := treeGo_out hok.nd hf hz rfl (ti hz) List.Pairwise.nil hr
    injection h with h
    subst h
    exact ⟨hf, hz, k1, k2, by simpa using k3⟩
   ·cases h
  ·cases h
 ·rintro ⟨hf, hz, hm, hs, hp⟩
  obtain ⟨r, hr, h0⟩ := treeGo_some (out := []) hok.nd hf hz rfl (ti hz) hm
  obtain ⟨_, k2, k3⟩ := treeGo_out hok.nd hf hz rfl (ti hz) List.Pairwise.nil hr
  unfold treeR
  rw [hr]
  dsimp only
  rw [if_pos (all_zero.2 (by rw [treeGo_len hr, hlen]; exact h0))]
  exact congrArg some (sorted_uniq k2 hs ((by simpa using k3 : r.2.Perm _).trans hp.symm))
theorem forest_snoc {L : List (Nat × Nat)} {p : Nat × Nat} (hn : (L ++ [p]).Nodup) : Forest (L ++ [p]) ↔ Forest L ∧ ∃ R, Cl L R ∧ R p.1 ≠ R p.2 := by
 have hnL : L.Nodup := (List.nodup_append.1 hn).1
 have hpL : p ∉ L := fun h => (List.nodup_append.1 hn).2.2 p h p (by simp) rfl
 have her : (L ++ [p]).erase p = L := by rw [List.erase_append_right _ hpL]; simp
 constructor
 ·intro h
  refine ⟨h.sub hn hnL fun q hq => by simp [hq], ?_⟩
  obtain ⟨P, h1, h2⟩ := h p (by simp)
  rw [her] at h1
  exact ⟨P, h1, h2⟩
 ·rintro ⟨h, R, hR1, hR2⟩ e he
  rcases List.mem_append.1 he with he | he
  ·obtain ⟨P, h1, h2⟩ := h e he
   have hpe : p ≠ e := fun h => hpL (h ▸ he)
   have her2 : ∀ q ∈ (L ++ [p]).erase e, q ∈ L.erase e ∨ q = p := fun q hq => by
    have := (hn.mem_erase_iff).1 hq
    rcases List.mem_append.1 this.2 with h | h
    ·exact .inl ((hnL.mem_erase_iff).2 ⟨this.1, h⟩)
    ·exact .inr (by simpa using h)
   by_cases hPp : P p.1 = P p.2
   ·refine ⟨P, fun q hq => ?_, h2⟩
    rcases her2 q hq with h | rfl
    ·exact h1 q h
    ·exact hPp
   ·refine ⟨fun v => P v ^^ R v, fun q hq => ?_, ?_⟩
    ·rcases her2 q hq with h | rfl
     ·show (P q.1 ^^ R q.1) = (P q.2 ^^ R q.2)
      rw [h1 q h, hR1 q (List.mem_of_mem_erase h)]
     ·show (P q.1 ^^ R q.1) = (P q.2 ^^ R q.2)
      revert hPp hR2
      cases P q.1 <;> cases P q.2 <;> cases R q.1 <;> cases R q.2 <;> simp
    ·show (P e.1 ^^ R e.1) ≠ (P e.2 ^^ R e.2)
     rw [hR1 e he]
     revert h2
     cases P e.1 <;> cases P e.2 <;> cases R e.2 <;> simp
  ·have : e = p := by simpa using he
   subst this
   rw [her]
   exact ⟨R, hR1, hR2⟩
theorem lab_apart {n : Nat} {L : List (Nat × Nat)} {h : List Nat} (k : Lab n L h) {a b : Nat} (ha : a < n) (hb : b < n) : hf h a ≠ hf h b ↔ ∃ R, Cl L R ∧ R a ≠ R b := by
 constructor
 ·intro hne
  exact ⟨fun v => decide (hf h v = hf h a), fun p hp => by show decide (hf h p.1 = _) = decide (hf h p.2 = _); rw [k.one p hp], by simpa using fun e => hne e.symm⟩
 ·rintro ⟨R, h1, h2⟩ e
  exact h2 (by rw [← k.cl R h1 a ha, ← k.cl R h1 b hb, e])
end Go.Proofs.YtihonljdanjfmaaGreatDoor.Gr
namespace Go.Proofs.YtihonljdanjfmaaGreatDoor.Sw
open Go.RowKit Go Go.Shelf Go.Proofs
open Go.Proofs.YtihonljdanjfmaaGreatDoor.Gr (mergeH headsR hf)
def nC (v : Nat) : List AV := [.val (.int .i64 (v : Int))]
instance : OneF nC := ⟨fun _ => inferInstanceAs (OneL [_])⟩
instance : LenF nC 1 := ⟨fun _ => rfl⟩
instance zeroN : ZeroF Tryz.prog 3 nC 0 := zeroF (z := .int .i64 0) (n := 1) (b := 8) (zs := [.int .i64 0]) (by kernel_rfl) rfl (fun _ => ⟨rfl, trivial⟩)
def pnC (p : Nat × Nat) : List AV := [.val (.int .i64 (p.1 : Int)), .val (.int .i64 (p.2 : Int))]
instance {p : Nat × Nat} : OneL (pnC p) := inferInstanceAs (OneL [_, _])
instance : OneF pnC := ⟨fun _ => inferInstanceAs (OneL [_, _])⟩
instance : LenF pnC 2 := ⟨fun _ => rfl⟩
theorem mergeH_step {h : List Nat} {a b : Nat} {m : Nat} (hm : m < h.length) : ((h.take m).map (fun v => if v = max a b then min a b else v) ++ h.drop m).set m (if h[m] = max a b then min a b else h[m]) = (h.take (m + 1)).map (fun v => if v = max a b then min a b else v) ++ h.drop (m + 1) := by
 rw [List.set_append_right _ _ (by simp; omega), List.length_map, List.length_take, show m - min m h.length = 0 by omega, List.drop_eq_getElem_cons hm, List.set_cons_zero, List.take_succ_eq_append_getElem hm, List.map_append]
 simp
theorem mergeH_get {h : List Nat} {a b : Nat} {m : Nat} (hm : m < h.length) : ((h.take m).map (fun v => if v = max a b then min a b else v) ++ h.drop m)[m]? = some h[m] := by
 rw [List.getElem?_append_right (by simp; omega), List.length_map, List.length_take, show m - min m h.length = 0 by omega, List.getElem?_drop]
 simp [List.getElem?_eq_getElem hm]
theorem headsR_take {n : Nat} {L : List (Nat × Nat)} {k : Nat} (hk : k < L.length) : headsR n (L.take (k + 1)) = mergeH (headsR n (L.take k)) L[k] := by
 rw [List.take_succ_eq_append_getElem hk]; exact Gr.headsR_snoc _ _ _
theorem headsR_len (n : Nat) : ∀ L, (headsR n L).length = n := by
 have : ∀ (L : List (Nat × Nat)) (h : List Nat), (L.foldl mergeH h).length = h.length := by
  intro L
  induction L with
  | nil => intro h; rfl
  | cons p L ih => intro h; rw [List.foldl_cons, ih]; simp [mergeH]
 intro L
 unfold headsR
 rw [this]; simp
theorem nat_max (a b : Nat) : (max (a : Int) (b : Int)) = ((max a b : Nat) : Int) := by omega
theorem nat_min (a b : Nat) : (min (a : Int) (b : Int)) = ((min a b : Nat) : Int) := by omega
theorem groups_con (ph ow : Value) (f : Flo) (L : List (Nat × Nat)) (hn : f.ids.length ≤ 1000) (hl : L.length ≤ 1000) (hL : ∀ p ∈ L, p.1 < f.ids.length ∧ p.2 < f.ids.length) : Con Tryz.prog 70 [.val ph, .sl 2 pnC L] [hsB ph f ow] (TokW 3 1 nC (headsR f.ids.length L) [hsB ph f ow]) := by
 refine con_of Tryz.func70 rfl (enters_of Tryz.func70 (by kernel_rfl) rfl) rfl ?_; intro n w0 F0 G0
 refine zS ?_;repeat(refine yA ?_;intro p hp;refine zS ?_)
 (apply wl_make nC; exact inferInstance; exact inferInstance; exact inferInstance; exact inferInstance; exact rfl; exact rfl; exact rfl; (first | omega | (simp; omega)); exact rfl)
 intro v
 refine zS ?_;repeat(refine yA ?_;intro p hp;refine zS ?_)
 have hln : (List.replicate f.ids.length 0 : List Nat).length = f.ids.length := List.length_replicate
 refine W_loopJ (fun (i : Nat) => ⟨[(0, .val ph), (1, .sl 2 pnC L), (5, .val v), (20, .val (.int .i64 f.ids.length)), (21, .val (.int .i64 i))], [.row v 3 1 nC (List.range i ++ List.replicate (f.ids.length - i) 0), hsB ph f ow]⟩) (fun i => i ≤ f.ids.length) (fun i => f.ids.length - i) 0 (fun _ _ st => by rw [hln] at st; exact st_sub2 st zR zP) (Nat.zero_le _) ?_
 rintro i hi
 refine zS ?_;repeat(refine yA ?_;intro p hp;refine zS ?_)
 refine w_cond rfl (fun hlt => ?_) (fun hlt => ?_)
 ·have hi' : i < f.ids.length := by simpa using hlt
  have hil : i < (List.range i ++ List.replicate (f.ids.length - i) 0).length := by simp; omega
  have hst0 : (List.range i ++ List.replicate (f.ids.length - i) 0).set i i = List.range (i + 1) ++ List.replicate (f.ids.length - (i + 1)) 0 := by
   rw [List.set_append_right _ _ (by simp), List.length_range, Nat.sub_self, show f.ids.length - i = (f.ids.length - (i + 1)) + 1 by omega, List.replicate_succ, List.set_cons_zero, List.range_succ]; simp
  refine zS ?_;repeat(refine yA ?_;intro p hp;refine zS ?_)
  rw [hst0]
  (refine ⟨i + 1, fun _ _ st => st_sub2 st ?_ ?_, ?_, ?_⟩; exact zR; exact zP)
  ·omega
  ·omega
 ·have hii : i = f.ids.length := by simp at hlt; omega
  subst hii
  rw [Nat.sub_self, List.replicate_zero, List.append_nil]
  refine zS ?_;repeat(refine yA ?_;intro p hp;refine zS ?_)
  refine W_loopJ (fun (k : Nat) => ⟨[(0, .val ph), (5, .val v), (29, .sl 2 pnC L), (30, .val (.int .i64 L.length)), (31, .val (.int .i64 k))], [.row v 3 1 nC (headsR f.ids.length (L.take k)), hsB ph f ow]⟩) (fun k => k ≤ L.length) (fun k => L.length - k) 0 (fun _ _ st => st_sub2 st zR zP) (Nat.zero_le _) ?_
  rintro k hk
  refine zS ?_;repeat(refine yA ?_;intro p hp;refine zS ?_)
  refine w_cond rfl (fun hlt2 => ?_) (fun hlt2 => ?_)
  ·have hk' : k < L.length := by simpa using hlt2
   obtain ⟨ha, hb⟩ := hL _ (List.getElem_mem hk')
   have hhl := headsR_len f.ids.length (L.take k)
   have hmg : mergeH (headsR f.ids.length (L.take k)) L[k] = headsR f.ids.length (L.take (k + 1)) := (headsR_take hk').symm
   generalize headsR f.ids.length (L.take k) = h at hhl hmg ⊢
   have hq1 : h[L[k].1]? = some h[L[k].1] := List.getElem?_eq_getElem (by omega)
   have hq2 : h[L[k].2]? = some h[L[k].2] := List.getElem?_eq_getElem (by omega)
   have hg1 : hf h L[k].1 = h[L[k].1] := by simp [hf, List.getD_eq_getElem?_getD, hq1]
   have hg2 : hf h L[k].2 = h[L[k].2] := by simp [hf, List.getD_eq_getElem?_getD, hq2]
   have hmg2 : h.map (fun v => if v = max (hf h L[k].1) (hf h L[k].2) then min (hf h L[k].1) (hf h L[k].2) else v) = headsR f.ids.length (L.take (k + 1)) := hmg
   rw [hg1, hg2] at hmg2
   have hi1 : L[k].1 < h.length := by omega
   have hi2 : L[k].2 < h.length := by omega
   refine zS ?_;repeat(refine yA ?_;intro p hp;refine zS ?_)
   refine W_run 11 [35, 36, 37, 38, 39, 40, 41, 42, 43, 44, 9] [0, 1, 2, 3, 4, 5, 6, 7, 8, 9, 10] Cut.nil rfl goFlt mixedS (by kernel_rfl) rfl ?_
   refine rpv [] [] ?_
   refine rpv [] [] ?_
   refine rpv [1] [] ?_
   refine rpv [0, 2] [] ?_
   refine rpv [3] [] ?_
   refine rpv [] [] ?_
   refine rpv [] [] ?_
   refine rpv [6] [] ?_
   refine rpv [5, 7] [] ?_
   refine rpv [8] [] ?_
   refine rpv [4] [] ?_
   refine ⟨⟨by kernel_rfl, by kernel_rfl⟩, fun vs => ?_⟩
   apply WL_auto [9, 10]
   ·exact goPk
   ·exact goNrm
   ·kernel_rfl
   ·kernel_rfl
   refine zS ?_;repeat(refine yA ?_;intro p hp;refine zS ?_)
   generalize h[L[k].1] = a at hmg2 ⊢
   generalize h[L[k].2] = b at hmg2 ⊢
   refine zS ?_;repeat(refine yA ?_;intro p hp;refine zS ?_)
   refine W_loopJ (fun (m : Nat) => ⟨[(0, .val ph), (5, .val v), (29, .sl 2 pnC L), (30, .val (.int .i64 L.length)), (31, .val (.int .i64 k)), (9, .val (.int .i64 a)), (10, .val (.int .i64 b)), (46, .val (.int .i64 h.length)), (47, .val (.int .i64 m))], [.row v 3 1 nC ((h.take m).map (fun v => if v = max a b then min a b else v) ++ h.drop m), hsB ph f ow]⟩) (fun m => m ≤ h.length) (fun m => h.length - m) 0 (fun _ _ st => st_sub2 st zR zP) (Nat.zero_le _) ?_
   rintro m hm
   refine zS ?_;repeat(refine yA ?_;intro p hp;refine zS ?_)
   refine w_cond rfl (fun hlt3 => ?_) (fun hlt3 => ?_)
   ·have hm' : m < h.length := by simpa using hlt3
    have hcl : m < ((h.take m).map (fun v => if v = max a b then min a b else v) ++ h.drop m).length := by simp; omega
    have hce : ((h.take m).map (fun v => if v = max a b then min a b else v) ++ h.drop m)[m] = h[m] := by
     have := mergeH_get (a := a) (b := b) hm'
     rw [List.getElem?_eq_getElem hcl] at this
     exact Option.some.inj this
    have hst := mergeH_step (a := a) (b := b) hm'
    refine zS ?_;repeat(refine yA ?_;intro p hp;refine zS ?_)
    rw [hce, nat_max]
    refine w_cond rfl (fun he => ?_) (fun he => ?_)
    ·have he' : h[m] = max a b := by have := of_decide_eq_true he; omega
     rw [if_pos he'] at hst
     refine zS ?_;repeat(refine yA ?_;intro p hp;refine zS ?_)
     rw [nat_min]
     refine zS ?_;repeat(refine yA ?_;intro p hp;refine zS ?_)
     rw [hst]
     (refine ⟨m + 1, fun _ _ st => st_sub2 st ?_ ?_, ?_, ?_⟩; exact zR; exact zP)
     ·omega
     ·omega
    ·have he' : h[m] ≠ max a b := fun e => by rw [e] at he; simp at he
     rw [if_neg he'] at hst
     have hst2 : ((h.take m).map (fun v => if v = max a b then min a b else v) ++ h.drop m) = (h.take (m + 1)).map (fun v => if v = max a b then min a b else v) ++ h.drop (m + 1) := by
      rw [← hst, ← hce, List.set_getElem_self]
     rw [hst2]
     refine zS ?_;repeat(refine yA ?_;intro p hp;refine zS ?_)
     (refine ⟨m + 1, fun _ _ st => st_sub2 st ?_ ?_, ?_, ?_⟩; exact zR; exact zP)
     ·omega
     ·omega
   ·have hmm : m = h.length := by simp at hlt3; omega
    subst hmm
    rw [List.drop_length, List.append_nil, List.take_length, hmg2]
    refine zS ?_;repeat(refine yA ?_;intro p hp;refine zS ?_)
    (refine ⟨k + 1, fun _ _ st => st_sub2 st ?_ ?_, ?_, ?_⟩; exact zR; exact zP)
    ·omega
    ·omega
  ·have hkk : k = L.length := by simp at hlt2; omega
   subst hkk
   rw [List.take_length]
   refine zS ?_;repeat(refine yA ?_;intro p hp;refine zS ?_)
   (apply resK; exact rfl; exact rfl; (apply Cut.cons; exact zN; apply Cut.cons (h := hsB ph f ow); exact zN; exact Cut.nil); exact ⟨_, rfl, rfl⟩)
end Go.Proofs.YtihonljdanjfmaaGreatDoor.Sw
namespace Go.Proofs.YtihonljdanjfmaaGreatDoor.Sw
open Go.RowKit Go
def HA.cells (b : Nat) (e : TypeId) (cs : List AV) (tot : Nat) : HA :=
 ⟨fun G F w => ∃ vs rest : List Value, F = [b] ∧ Fits G cs vs ∧ (∀ u ∈ vs, u.oneCell' = true) ∧ w.heap[b]? = some (.cells (vs ++ rest).toArray e (0, 0)) ∧ (vs ++ rest).length = tot,
  fun h ⟨vs, rest, e1, e2, e3⟩ => ⟨vs, rest, e1, e2.mono h, e3⟩,
  fun h ⟨vs, rest, e1, e2, e3, e4, e5⟩ => ⟨vs, rest, e1, e2, e3, (h b (by rw [e1]; simp)).trans e4, e5⟩⟩
section
variable {P : Program} {rs : List (Nat × AV)} {d : Option Nat} {ty : TypeId} {pos : String} {af : Array Edge} {g : Option (Nat × Bool)}
end
section
variable {c : Cx} {rs : List (Nat × AV)} {hs : List HA} {Q : Exit → S → Prop} {ops : Array Oper} {tl : List Oper} {d : Nat} {ty : TypeId} {pos : String} {af : Array Edge}
end
theorem WL_fact {c : Cx} {rs : List (Nat × AV)} {hs r : List HA} {Q : Exit → S → Prop} {ops : Array Oper} {l : List Oper} {p : Prop} (hr : Rm hs (.fact p) r) (k : p → WL c ops l ⟨rs, r⟩ Q) : WL c ops l ⟨rs, hs⟩ Q := ⟨fun a w st => by
 obtain ⟨G, F, hI, rr⟩ := st
 have := hsP.fact.1 (hr.sel hI.hs)
 exact (k this.1).out a w ⟨G, F, ⟨hI.gin, hI.nd, hI.own, this.2⟩, rr⟩⟩
theorem Res_add {P : Program} {fn : Func} {post : AV → List HA → Prop} {rs : List (Nat × AV)} {hs : List HA} (h : HA) (hP : ∀ G w, h.P G [] w) (k : Res P fn post ⟨rs, h :: hs⟩) : Res P fn post ⟨rs, hs⟩ := by
 obtain ⟨av, prod, hp, k⟩ := k
 exact ⟨av, prod, hp, fun a w G F hR hI => k a w G F hR ⟨hI.gin, hI.nd, hI.own, [], F, .refl _, hP G w, hI.hs⟩⟩
theorem row_nilP {α : Type} (e : TypeId) (n : Nat) (f : α → List AV) (G : Nat → Option Obj) (w : World) : (HA.row (.slice none 0 0) e n f ([] : List α)).P G [] w :=
 ⟨[], rfl, fun _ h => (by cases h), trivial, fun _ h => (by cases h), ⟨by simp, .inl ⟨rfl, rfl⟩⟩⟩
end Go.Proofs.YtihonljdanjfmaaGreatDoor.Sw
namespace Go.Proofs.YtihonljdanjfmaaGreatDoor.Sw
open Go.RowKit Go
open Go.WideElems (Fit)
open Go.ChangeMaps (setBlock heap_setBlock_same heap_setBlock_other)
abbrev anyM : Value → Option (DataW Nat × List MemPlace) := fun _ => some (.nil, [])
structure KeyT (P : Program) (t : TypeId) {κ : Type} (kv : κ → Value) (ok : κ → Prop) : Prop where
 keyed : Go.Maps.Keyed P t
 key : ∀ k, ok k → ∃ l, keyOf P t (kv k) = some l
 inj : ∀ k k', kv k = kv k' → k = k'
def getM {κ α : Type} [DecidableEq κ] : List (κ × α) → κ → Option α
 | [], _ => none
 | p :: t, k => if p.1 = k then some p.2 else getM t k
def delM {κ α : Type} [DecidableEq κ] (l : List (κ × α)) (k : κ) : List (κ × α) := l.filter fun p => !decide (p.1 = k)
def putM {κ α : Type} [DecidableEq κ] (l : List (κ × α)) (k : κ) (a : α) : List (κ × α) := (k, a) :: delM l k
section
variable {κ α : Type} [DecidableEq κ]
theorem getM_iff {k : κ} {a : α} : ∀ {l : List (κ × α)}, l.Pairwise (fun p q => p.1 ≠ q.1) → (getM l k = some a ↔ (k, a) ∈ l)
 | [], _ => by simp [getM]
 | p :: t, h => by
  obtain ⟨h1, h2⟩ := List.pairwise_cons.1 h
  have ih := getM_iff (k := k) (a := a) h2
  unfold getM
  split
  ·rename_i e
   subst e
   constructor
   ·intro e; cases e; simp
   ·intro e
    rcases List.mem_cons.1 e with e | e
    ·rw [← e]
    ·exact absurd rfl (h1 (p.1, a) e)
  ·rename_i e
   rw [ih]
   constructor
   ·intro e; exact List.mem_cons_of_mem _ e
   ·intro e'
    rcases List.mem_cons.1 e' with e' | e'
    ·exact absurd (by rw [← e']) e
    ·exact e'
theorem getM_none {k : κ} : ∀ {l : List (κ × α)}, getM l k = none ↔ ∀ p ∈ l, p.1 ≠ k
 | [] => by simp [getM]
 | p :: t => by
  unfold getM
  split
  ·rename_i e; simp [e]
  ·rename_i e; rw [getM_none]; simp [e]
theorem getM_del {l : List (κ × α)} {k k' : κ} : getM (delM l k) k' = if k' = k then none else getM l k' := by
 unfold delM
 induction l with
 | nil => simp [getM]
 | cons p t ih =>
  by_cases h : p.1 = k
  ·rw [List.filter_cons_of_neg (by simp [h]), ih]
   subst h
   split
   ·rfl
   ·rename_i h2; rw [getM, if_neg (fun e => h2 e.symm)]
  ·rw [List.filter_cons_of_pos (by simp [h])]
   by_cases h2 : p.1 = k'
   ·subst h2; rw [if_neg h]; simp [getM]
   ·rw [getM, if_neg h2, ih]
    split
    ·rfl
    ·rw [getM, if_neg h2]
theorem getM_put {l : List (κ × α)} {k k' : κ} {a : α} : getM (putM l k a) k' = if k' = k then some a else getM l k' := by
 unfold putM
 rw [getM]
 by_cases h : k' = k
 ·subst h; simp
 ·rw [if_neg (fun e => h e.symm), if_neg h, getM_del, if_neg h]
theorem delM_len (l : List (κ × α)) (k : κ) : (delM l k).length ≤ l.length := List.length_filter_le _ _
theorem putM_len (l : List (κ × α)) (k : κ) (a : α) : (putM l k a).length ≤ l.length + 1 := by
 have := delM_len l k
 simp only [putM, List.length_cons]; omega
end
section
variable {κ α : Type} (kv : κ → Value) (g : α → AV)
def MpL (G : Nat → Option Obj) : List (κ × α) → List MapEntry → Prop
 | [], [] => True
 | p :: l, x :: xs => (x.key = kv p.1 ∧ (g p.2).P G x.val) ∧ MpL G l xs
 | _, _ => False
variable {kv g}
theorem MpL.mono {G G' : Nat → Option Obj} (h : Gle G G') : ∀ {l : List (κ × α)} {xs : List MapEntry}, MpL kv g G l xs → MpL kv g G' l xs
 | [], [], _ => trivial
 | _ :: _, _ :: _, k => ⟨⟨k.1.1, (g _).mono h k.1.2⟩, MpL.mono h k.2⟩
 | [], _ :: _, k => k.elim
 | _ :: _, [], k => k.elim
theorem MpL.perm {G : Nat → Option Obj} {xs ys : List MapEntry} (hp : xs.Perm ys) : ∀ {l : List (κ × α)}, MpL kv g G l xs → ∃ l', l.Perm l' ∧ MpL kv g G l' ys := by
 induction hp with
 | nil => exact fun {l} h => ⟨l, .refl _, h⟩
 | cons x hp ih =>
  intro l h
  match l, h with
  | p :: l, ⟨h1, h2⟩ =>
   obtain ⟨l', e, h3⟩ := ih h2
   exact ⟨p :: l', e.cons p, h1, h3⟩
  | [], h => exact h.elim
 | swap x y t =>
  intro l h
  match l, h with
  | p :: q :: l, ⟨h1, h2, h3⟩ => exact ⟨q :: p :: l, List.Perm.swap _ _ _, h2, h1, h3⟩
  | [_], h => exact h.2.elim
  | [], h => exact h.elim
 | trans _ _ ih1 ih2 =>
  intro l h
  obtain ⟨l1, e1, h1⟩ := ih1 h
  obtain ⟨l2, e2, h2⟩ := ih2 h1
  exact ⟨l2, e1.trans e2, h2⟩
theorem MpL.keys {G : Nat → Option Obj} : ∀ {l : List (κ × α)} {xs : List MapEntry}, MpL kv g G l xs → xs.map (·.key) = l.map fun p => kv p.1
 | [], [], _ => rfl
 | _ :: _, _ :: _, k => by simp only [List.map_cons]; rw [k.1.1, MpL.keys k.2]
 | [], _ :: _, k => k.elim
 | _ :: _, [], k => k.elim
variable (kv g)
def MpP (G : Nat → Option Obj) (l : List (κ × α)) (xs : List MapEntry) : Prop := ∃ l', l.Perm l' ∧ MpL kv g G l' xs
variable {kv g}
theorem MpP.perm {G : Nat → Option Obj} {l : List (κ × α)} {xs ys : List MapEntry} (h : MpP kv g G l xs) (hp : xs.Perm ys) : MpP kv g G l ys := by
 obtain ⟨l1, e1, h1⟩ := h
 obtain ⟨l2, e2, h2⟩ := h1.perm hp
 exact ⟨l2, e1.trans e2, h2⟩
theorem MpP.permL {G : Nat → Option Obj} {l k : List (κ × α)} {xs : List MapEntry} (h : MpP kv g G l xs) (hp : k.Perm l) : MpP kv g G k xs := by
 obtain ⟨l1, e1, h1⟩ := h
 exact ⟨l1, hp.trans e1, h1⟩
theorem MpP.cons {G : Nat → Option Obj} {l : List (κ × α)} {xs : List MapEntry} (h : MpP kv g G l xs) {p : κ × α} {x : MapEntry} (h1 : x.key = kv p.1) (h2 : (g p.2).P G x.val) : MpP kv g G (p :: l) (x :: xs) := by
 obtain ⟨l1, e1, h3⟩ := h
 exact ⟨p :: l1, e1.cons p, ⟨h1, h2⟩, h3⟩
theorem MpP.uncons {G : Nat → Option Obj} {l : List (κ × α)} {x : MapEntry} {xs : List MapEntry} (h : MpP kv g G l (x :: xs)) : ∃ p l3, l.Perm (p :: l3) ∧ x.key = kv p.1 ∧ (g p.2).P G x.val ∧ MpP kv g G l3 xs := by
 obtain ⟨l1, e1, h1⟩ := h
 match l1, h1 with
 | p :: l3, ⟨⟨h2, h3⟩, h4⟩ => exact ⟨p, l3, e1, h2, h3, l3, .refl _, h4⟩
 | [], h1 => exact h1.elim
theorem MpP.len {G : Nat → Option Obj} {l : List (κ × α)} {xs : List MapEntry} (h : MpP kv g G l xs) : l.length = xs.length := by
 obtain ⟨l1, e1, h1⟩ := h
 have := congrArg List.length h1.keys
 simp only [List.length_map] at this
 rw [e1.length_eq, this]
theorem MpP.nodup {G : Nat → Option Obj} {l : List (κ × α)} {xs : List MapEntry} (h : MpP kv g G l xs) (hn : (xs.map (·.key)).Nodup) : l.Pairwise (fun p q => p.1 ≠ q.1) := by
 obtain ⟨l1, e1, h1⟩ := h
 rw [h1.keys] at hn
 have hn2 : (l.map fun p => kv p.1).Nodup := (e1.map _).nodup_iff.2 hn
 have := List.pairwise_map.1 hn2
 exact this.imp fun h e => h (by rw [e])
end
def HA.mp {κ α : Type} (P : Program) (v : Value) (t : TypeId) (kv : κ → Value) (g : α → AV) (l : List (κ × α)) : HA :=
 ⟨fun G F w => ∃ b es clock, v = .map (some b) ∧ F = [b] ∧ w.heap[b]? = some (.map es clock) ∧ Fit P t anyM es clock ∧ MpP kv g G l es.toList,
  fun h ⟨b, es, clock, e1, e2, e3, e4, l', e5, e6⟩ => ⟨b, es, clock, e1, e2, e3, e4, l', e5, e6.mono h⟩,
  fun h ⟨b, es, clock, e1, e2, e3, e4⟩ => ⟨b, es, clock, e1, e2, (h b (by rw [e2]; simp)).trans e3, e4⟩⟩
section
variable {P : Program} {κ α : Type} [DecidableEq κ] {t : TypeId} {kv : κ → Value} {ok : κ → Prop} {g : α → AV} {l : List (κ × α)} {G : Nat → Option Obj} {F : List Nat} {w : World} {v : Value}
def lkA (g : α → AV) (z : Value) : Option α → AV
 | some a => g a
 | none => .val z
theorem mp_look (K : KeyT P t kv ok) {tm e : TypeId} (ht : P.underlying tm = some (.map t e)) {z : Value} (hz : ∀ w, (zeroValue e).run P w = .ok z w) (c : Bool) {k : κ} (hk : ok k) (h : (HA.mp P v t kv g l).P G F w) :
  ∃ u, (lkA g z (getM l k)).P G u ∧ (Instr.lookup tm v (kv k) c).run P w = .ok (if c then .tuple #[u, .bool (getM l k).isSome] else u) w := by
 obtain ⟨b, es, clock, rfl, _, hb, hF, hm⟩ := h
 obtain ⟨kl, hkey⟩ := K.key k hk
 have hn := hm.nodup hF.stamped.2.2
 rcases Go.Maps.fit_look c K.keyed ht (hz w) hb hF hkey with ⟨hr, hno, _⟩ | ⟨e0, y, hm0, hk0, hr, _⟩
 ·have : getM l k = none := getM_none.2 fun p hp e => by
   obtain ⟨l', e1, h1⟩ := hm
   have h2 : kv p.1 ∈ es.toList.map (·.key) := by rw [h1.keys]; exact List.mem_map.2 ⟨p, e1.mem_iff.1 hp, rfl⟩
   obtain ⟨x, hx, ex⟩ := List.mem_map.1 h2
   exact hno x hx (by rw [ex, e])
  rw [this]
  exact ⟨z, rfl, hr⟩
 ·obtain ⟨s, r, es2⟩ := List.append_of_mem hm0
  obtain ⟨p, l3, h1, h2, h3, _⟩ := (hm.perm (by rw [es2]; exact List.perm_middle)).uncons
  have : p.1 = k := K.inj _ _ (h2.symm.trans hk0)
  have hg : getM l k = some p.2 := (getM_iff hn).2 (h1.mem_iff.2 (by rw [← this]; simp))
  rw [hg]
  exact ⟨e0.val, h3, hr⟩
theorem MpP.del {xs r : List MapEntry} {e0 : MapEntry} (hinj : ∀ k k' : κ, kv k = kv k' → k = k') (h : MpP kv g G l xs) (hn : l.Pairwise (fun p q => p.1 ≠ q.1)) (hp : xs.Perm (e0 :: r)) {k : κ} (hk : e0.key = kv k) : MpP kv g G (delM l k) r := by
 obtain ⟨p, l3, h1, h2, h3, h4⟩ := (h.perm hp).uncons
 have hpk : p.1 = k := hinj _ _ (h2.symm.trans hk)
 have hn2 : (p :: l3).Pairwise (fun p q => p.1 ≠ q.1) := h1.pairwise hn (fun h e => h e.symm)
 refine h4.permL ?_
 have h5 := h1.filter (fun q : κ × α => !decide (q.1 = k))
 rw [List.filter_cons_of_neg (by simp [hpk])] at h5
 refine h5.trans (.of_eq (List.filter_eq_self.2 fun q hq => ?_))
 have := (List.pairwise_cons.1 hn2).1 q hq
 rw [hpk] at this
 simpa using fun e : q.1 = k => this e.symm
theorem MpP.del0 {xs : List MapEntry} (h : MpP kv g G l xs) {k : κ} (hno : ∀ x ∈ xs, x.key ≠ kv k) : delM l k = l := List.filter_eq_self.2 fun q hq => by
 obtain ⟨l', e1, h1⟩ := h
 have h2 : kv q.1 ∈ xs.map (·.key) := by rw [h1.keys]; exact List.mem_map.2 ⟨q, e1.mem_iff.1 hq, rfl⟩
 obtain ⟨x, hx, ex⟩ := List.mem_map.1 h2
 simpa using fun e : q.1 = k => hno x hx (by rw [ex, e])
theorem set_permM {x : MapEntry} : ∀ {xs : List MapEntry} {j : Nat} {e0 : MapEntry}, xs[j]? = some e0 → ∃ r, xs.Perm (e0 :: r) ∧ (xs.set j x).Perm (x :: r) ∧ xs.eraseIdx j = r
 | y :: ys, 0, e0, h => by simp at h; subst h; exact ⟨ys, .refl _, .refl _, rfl⟩
 | y :: ys, j + 1, e0, h => by
  obtain ⟨r, h1, h2, h3⟩ := set_permM (x := x) (xs := ys) (j := j) (by simpa using h)
  exact ⟨y :: r, (h1.cons y).trans (List.Perm.swap _ _ _), (h2.cons y).trans (List.Perm.swap _ _ _), by simp [h3]⟩
 | [], _, _, h => by simp at h
theorem mp_store (K : KeyT P t kv ok) {tm e : TypeId} (ht : P.underlying tm = some (.map t e)) {k : κ} (hk : ok k) (hl : l.length ≤ 1000000) {a : α} {u : Value} (hu : (g a).P G u) (h : (HA.mp P v t kv g l).P G F w) :
  ∃ b o o0, v = .map (some b) ∧ F = [b] ∧ w.heap[b]? = some o0 ∧ (∃ es cl, o0 = .map es cl) ∧ (Instr.mapUpdate tm v (kv k) u).run P w = .ok () (setBlock w b o) ∧ (HA.mp P v t kv g (putM l k a)).P G F (setBlock w b o) := by
 obtain ⟨b, es, clock, rfl, rfl, hb, hF, hm⟩ := h
 obtain ⟨kl, hkey⟩ := K.key k hk
 have hn := hm.nodup hF.stamped.2.2
 have hlen := hm.len
 have hmax : maxLen = 9223372036854775807 := rfl
 have hsz : es.size < maxLen := by rw [hmax]; simp at hlen; omega
 obtain ⟨es', clock', hr, hF', _⟩ := Go.Maps.fit_store (R' := anyM) (val := u) K.keyed ht hb hF hsz (fun _ _ _ z hz => hz) hkey (yv := (.nil, [])) rfl
 refine ⟨b, .map es' clock', _, rfl, rfl, hb, ⟨_, _, rfl⟩, hr, b, es', clock', rfl, rfl, heap_setBlock_same hb _, hF', ?_⟩
 have same : ∀ {o o' : Obj}, (Result.ok () (setBlock w b o) : Result Unit) = .ok () (setBlock w b o') → o = o' := fun {o o'} e => by
  injection e with _ e
  have h1 := heap_setBlock_same hb o
  rw [e, heap_setBlock_same hb o'] at h1
  exact (Option.some.inj h1).symm
 rcases K.keyed.find w hkey es.toList hF.keys with ⟨h1, h2⟩ | ⟨j, e0, h1, h2, h3⟩
 ·have hr2 : (Instr.mapUpdate tm (.map (some b)) (kv k) u).run P w = .ok () (setBlock w b (.map (es.push ⟨kv k, u, clock⟩) (clock + 1))) := by
   simp [Instr.mapUpdate, run_underlying ht, MapKept.run_getObj_map hb, K.keyed.check w false hkey, h1, MapKept.run_setObj_map _ hb, Result.andThen, setBlock]
  have e1 := same (hr.symm.trans hr2)
  injection e1 with e1 e2
  subst e1
  unfold putM
  rw [hm.del0 h2, Array.toList_push]
  exact (hm.cons (p := (k, a)) (x := ⟨kv k, u, clock⟩) rfl hu).perm (List.perm_append_singleton _ _).symm
 ·have hj : es[j]? = some e0 := by simpa using h2
  have hr2 : (Instr.mapUpdate tm (.map (some b)) (kv k) u).run P w = .ok () (setBlock w b (.map (es.modify j (fun e' => { e' with key := kv k, val := u })) clock)) := by
   simp [Instr.mapUpdate, run_underlying ht, MapKept.run_getObj_map hb, K.keyed.check w false hkey, h1, hj, h3, K.keyed.stays w hkey, MapKept.run_setObj_map _ hb, Result.andThen, setBlock]
  have e1 := same (hr.symm.trans hr2)
  injection e1 with e1 e2
  subst e1
  rw [Array.toList_modify, Go.ChangeMaps.modify_eq_set _ _ _ _ h2]
  obtain ⟨r, p1, p2, _⟩ := set_permM (x := { e0 with key := kv k, val := u }) h2
  exact ((hm.del K.inj hn p1 h3).cons (p := (k, a)) (x := { e0 with key := kv k, val := u }) rfl hu).perm p2.symm
theorem mp_drop (K : KeyT P t kv ok) {tm e ty : TypeId} (ht : P.underlying tm = some (.map t e)) {k : κ} (hk : ok k) (h : (HA.mp P v t kv g l).P G F w) :
  ∃ b o o0, v = .map (some b) ∧ F = [b] ∧ w.heap[b]? = some o0 ∧ (∃ es cl, o0 = .map es cl) ∧ (Builtin.delete_ #[tm, t] ty #[v, kv k]).run P w = .ok (.tuple #[]) (setBlock w b o) ∧ (HA.mp P v t kv g (delM l k)).P G F (setBlock w b o) := by
 obtain ⟨b, es, clock, rfl, rfl, hb, hF, hm⟩ := h
 obtain ⟨kl, hkey⟩ := K.key k hk
 have hn := hm.nodup hF.stamped.2.2
 obtain ⟨es', hr, hF', _⟩ := Go.Maps.fit_drop (ty := ty) K.keyed ht hb hF hkey
 refine ⟨b, .map es' clock, _, rfl, rfl, hb, ⟨_, _, rfl⟩, hr, b, es', clock, rfl, rfl, heap_setBlock_same hb _, hF', ?_⟩
 have same : ∀ {o o' : Obj}, (Result.ok (Value.tuple #[]) (setBlock w b o) : Result Value) = .ok (.tuple #[]) (setBlock w b o') → o = o' := fun {o o'} e => by
  injection e with _ e
  have h1 := heap_setBlock_same hb o
  rw [e, heap_setBlock_same hb o'] at h1
  exact (Option.some.inj h1).symm
 rcases K.keyed.find w hkey es.toList hF.keys with ⟨h1, h2⟩ | ⟨j, e0, h1, h2, h3⟩
 ·have hr2 : (Builtin.delete_ #[tm, t] ty #[.map (some b), kv k]).run P w = .ok (.tuple #[]) (setBlock w b (.map es clock)) := by
   simp [Builtin.delete_, run_underlying ht, MapKept.run_getObj_map hb, K.keyed.check w _ hkey, h1, MapKept.run_setObj_map _ hb, Result.andThen, setBlock]
  have e1 := same (hr.symm.trans hr2)
  injection e1 with e1 e2
  subst e1
  rw [hm.del0 h2]
  exact hm
 ·have hjs : j < es.size := by have := (List.getElem?_eq_some_iff.1 h2).1; simpa using this
  have hr2 : (Builtin.delete_ #[tm, t] ty #[.map (some b), kv k]).run P w = .ok (.tuple #[]) (setBlock w b (.map (es.eraseIdxIfInBounds j) clock)) := by
   simp [Builtin.delete_, run_underlying ht, MapKept.run_getObj_map hb, K.keyed.check w _ hkey, h1, MapKept.run_setObj_map _ hb, Result.andThen, setBlock]
  have e1 := same (hr.symm.trans hr2)
  injection e1 with e1 e2
  subst e1
  have hsub : (es.eraseIdxIfInBounds j).toList = es.toList.eraseIdx j := by
   unfold Array.eraseIdxIfInBounds
   rw [dif_pos hjs]
   simp
  rw [hsub]
  obtain ⟨r, p1, _, p3⟩ := set_permM (x := e0) h2
  rw [p3]
  exact hm.del K.inj hn p1 h3
theorem inv_setB {b : Nat} {o o0 : Obj} {h : HA} (hI : Inv G [b] [h] w) (hb : w.heap[b]? = some o0) (ho : ∃ es cl, o0 = .map es cl) {h' : HA} (hh : h'.P G [b] (setBlock w b o)) : Fr w (setBlock w b o) [b] [b] G G ∧ Inv G [b] [h'] (setBlock w b o) := by
 have hg := (hI.own b (by simp)).2
 obtain ⟨es, cl, rfl⟩ := ho
 refine ⟨⟨rfl, rfl, rfl, by simp [setBlock], fun j _ hj => heap_setBlock_other hb _ (fun e => hj (by rw [e]; simp)), fun _ h => .inl h, Gle.refl _, fun _ _ h => .inl h⟩, ⟨fun b' o' e => ?_, by simp, fun b' hb' => ?_, [b], [], by simp, hh, rfl⟩⟩
 ·have hne : b' ≠ b := fun e' => by subst e'; rw [hg] at e; cases e
  exact (heap_setBlock_other hb _ hne).trans (hI.gin b' o' e)
 ·have := hI.own b' hb'
  exact ⟨by simpa [setBlock] using this.1, this.2⟩
variable {rs : List (Nat × AV)} {d : Option Nat} {ty : TypeId} {pos : String} {af : Array Edge} {gd : Option (Nat × Bool)}
structure KeyV (av : AV) (u : Value) : Prop where
 out : ∀ G v, av.P G v → v = u
omit [DecidableEq κ] in
theorem KeyV.val {u : Value} : KeyV (.val u) u := ⟨fun _ _ h => h⟩
theorem lt_look1 (K : KeyT P t kv ok) {tm e : TypeId} (ht : P.underlying tm = some (.map t e)) {z : Value} (hz : ∀ w, (zeroValue e).run P w = .ok z w) {x y : Operand} {av : AV} (k : κ) (hx : opv rs x = some (.val v)) (hy : opv rs y = some av) (hv : KeyV av (kv k)) (hk : ok k) :
  LT P ⟨d, .lookup tm x y false, ty, pos, af, gd⟩ rs [.mp P v t kv g l] (Is (lkA g z (getM l k)) [.mp P v t kv g l]) :=
 LT_read (fun _ e => by cases e) fun a w G F hR _ hh => by
  have e1 : a.eval x = v := opv_ok hR hx
  have e2 := hv.out G _ (opv_ok hR hy)
  obtain ⟨u, h1, h2⟩ := mp_look K ht hz false hk hh
  rw [if_neg (by simp)] at h2
  exact ⟨u, h1, by simp [execOp, e1, e2, h2, Result.andThen]⟩
theorem lt_mput (K : KeyT P t kv ok) {tm e : TypeId} (ht : P.underlying tm = some (.map t e)) {x y z : Operand} {av : AV} (k : κ) (a : α) (hx : opv rs x = some (.val v)) (hy : opv rs y = some av) (hv : KeyV av (kv k)) (hk : ok k) (hz : opv rs z = some (g a)) (hl : l.length ≤ 1000000) :
  LT P ⟨d, .mapUpdate tm x y z, ty, pos, af, gd⟩ rs [.mp P v t kv g l] (Is (.val undef) [.mp P v t kv g (putM l k a)]) :=
 LT_eff (fun _ e => by cases e) fun ac w G F hR hI => by
  obtain ⟨F1, F2, e, hm, h2⟩ := hI.hs
  have h2' : F2 = [] := h2
  subst h2'
  have e1 : ac.eval x = v := opv_ok hR hx
  have e2 := hv.out G _ (opv_ok hR hy)
  obtain ⟨b, o, o0, hvb, hF1, hb, ho, hr, hm'⟩ := mp_store K ht hk hl (opv_ok hR hz) hm
  subst hF1
  have hF : F = [b] := List.perm_singleton.1 (by simpa using e)
  subst hF
  obtain ⟨f1, f2⟩ := inv_setB hI hb ho hm'
  exact ⟨_, setBlock w b o, undef, _, _, G, [b], by simp [execOp, e1, e2, hr, Result.andThen], .inr ⟨rfl, rfl⟩, ⟨rfl, rfl⟩, f1, f2, rfl⟩
theorem lt_mdel (K : KeyT P t kv ok) {tm e : TypeId} (ht : P.underlying tm = some (.map t e)) {x y : Operand} {av : AV} (k : κ) (hx : opv rs x = some (.val v)) (hy : opv rs y = some av) (hv : KeyV av (kv k)) (hk : ok k) :
  LT P ⟨d, .call { callee := .builtin .delete, args := #[x, y], argTypes := #[tm, t] }, ty, pos, af, gd⟩ rs [.mp P v t kv g l] (Is (.tup []) [.mp P v t kv g (delM l k)]) :=
 LT_eff (fun _ e => by cases e) fun ac w G F hR hI => by
  obtain ⟨F1, F2, e, hm, h2⟩ := hI.hs
  have h2' : F2 = [] := h2
  subst h2'
  have e1 : ac.eval x = v := opv_ok hR hx
  have e2 := hv.out G _ (opv_ok hR hy)
  obtain ⟨b, o, o0, hvb, hF1, hb, ho, hr, hm'⟩ := mp_drop (ty := ty) K ht hk hm
  subst hF1
  have hF : F = [b] := List.perm_singleton.1 (by simpa using e)
  subst hF
  obtain ⟨f1, f2⟩ := inv_setB hI hb ho hm'
  exact ⟨_, setBlock w b o, .tuple #[], _, _, G, [b], by simp [execOp, resolve, invoke, builtin, e1, e2, hr, Result.andThen], .inl rfl, ⟨rfl, rfl⟩, f1, f2, [], rfl, trivial⟩
omit [DecidableEq κ] in
theorem lt_mlen {tm e : TypeId} (ht : P.underlying tm = some (.map t e)) {x : Operand} (hx : opv rs x = some (.val v)) :
  LT P ⟨d, .call { callee := .builtin .len, args := #[x], argTypes := #[tm] }, ty, pos, af, gd⟩ rs [.mp P v t kv g l] (Is (.val (.int .i64 l.length)) [.mp P v t kv g l]) :=
 LT_read (fun _ e => by cases e) fun a w G F hR _ ⟨b, es, clock, e1, _, hb, _, hm⟩ => by
  have e2 : a.eval x = v := opv_ok hR hx
  have e3 : a.eval x = .map (some b) := e2.trans e1
  have hl := hm.len
  refine ⟨_, rfl, ?_⟩
  simp [execOp, resolve, e3, invoke, builtin, Builtin.len_, run_underlying ht, MapKept.run_getObj_map hb, goInt, Result.andThen, hl]
omit [DecidableEq κ] in
theorem lt_mmake (K : KeyT P t kv ok) {tm : TypeId} : LT P ⟨d, .makeMap tm none, ty, pos, af, gd⟩ rs [] (fun x y => ∃ u, One (.val u) ∧ x = .val u ∧ y = [.mp P u t kv g []]) :=
 LT_eff (fun _ e => by cases e) fun a w G F hR hI => by
  obtain rfl := inv_nil hI
  obtain ⟨es, clock, h1, h2, h3, _⟩ := World.ownsMap_made w P t anyM
  have hes : es.toList = [] := by cases es with | mk l => simp at h3; simpa using h3
  refine ⟨_, w.alloc (.map #[] 0), .map (some w.heap.size), _, _, G, [w.heap.size], ?_, .inl rfl, ⟨_, ⟨fun _ _ h => by subst h; rfl⟩, rfl, rfl⟩, fr_alloc _ _ _, ⟨gin_alloc hI.gin _, by simp, fun b hb => ?_, [w.heap.size], [], by simp, ⟨_, es, clock, rfl, rfl, h1, h2, [], .refl _, by rw [hes]; trivial⟩, rfl⟩, rfl⟩
  ·simp [execOp, Instr.makeMap, newObj, Result.andThen]; rfl
  ·rw [List.mem_singleton] at hb
   subst hb
   refine ⟨by simp, ?_⟩
   cases hg : G w.heap.size with
   | none => rfl
   | some o => exact absurd (hI.gin.lt hg) (Nat.lt_irrefl _)
end
section
variable {c : Cx} {rs : List (Nat × AV)} {hs : List HA} {Q : Exit → S → Prop} {ops : Array Oper} {tl : List Oper} {d : Nat} {ty : TypeId} {pos : String} {af : Array Edge} {κ α : Type} [DecidableEq κ] {t : TypeId} {kv : κ → Value} {ok : κ → Prop} {g : α → AV} {l : List (κ × α)} {v : Value}
theorem wl_look1 {tm e : TypeId} {z : Value} {x y : Operand} {av : AV} {h : HA → List HA} (K : KeyT c.P t kv ok) (k : κ) (ht : c.P.underlying tm = some (.map t e)) (hz : ∀ w, (zeroValue e).run c.P w = .ok z w) (hx : opv rs x = some (.val v)) (hat : At hs (.mp c.P v t kv g l) h) (hy : opv rs y = some av) (hv : KeyV av (kv k)) (hk : ok k) (hd : Nat.blt d c.nt = true)
  (kk : WL c ops tl ⟨(d, lkA g z (getM l k)) :: rs, hs⟩ Q) : WL c ops (⟨some d, .lookup tm x y false, ty, pos, af, none⟩ :: tl) ⟨rs, hs⟩ Q := wl_rd (lt_look1 K ht hz k hx hy hv hk) hat hd kk
omit [DecidableEq κ] in
theorem wl_mlen {tm e : TypeId} {x : Operand} {h : HA → List HA} (ht : c.P.underlying tm = some (.map t e)) (hx : opv rs x = some (.val v)) (hat : At hs (.mp c.P v t kv g l) h) (hd : Nat.blt d c.nt = true)
  (kk : WL c ops tl ⟨(d, .val (.int .i64 l.length)) :: rs, hs⟩ Q) : WL c ops (⟨some d, .call { callee := .builtin .len, args := #[x], argTypes := #[tm] }, ty, pos, af, none⟩ :: tl) ⟨rs, hs⟩ Q := wl_rd (lt_mlen ht hx) hat hd kk
theorem wl_mput {tm e : TypeId} {x y z : Operand} {av : AV} {h : HA → List HA} (K : KeyT c.P t kv ok) (k : κ) (a : α) (ht : c.P.underlying tm = some (.map t e)) (hx : opv rs x = some (.val v)) (hat : At hs (.mp c.P v t kv g l) h) (hy : opv rs y = some av) (hv : KeyV av (kv k)) (hk : ok k) (hz : opv rs z = some (g a)) (hl : l.length ≤ 1000000)
  (kk : WL c ops tl ⟨rs, h (.mp c.P v t kv g (putM l k a))⟩ Q) : WL c ops (⟨none, .mapUpdate tm x y z, ty, pos, af, none⟩ :: tl) ⟨rs, hs⟩ Q := WL_at rfl rfl hat (lt_mput K ht k a hx hy hv hk hz hl) kk
theorem wl_mdel {tm e : TypeId} {x y : Operand} {av : AV} {h : HA → List HA} {dd : Option Nat} (K : KeyT c.P t kv ok) (k : κ) (ht : c.P.underlying tm = some (.map t e)) (hx : opv rs x = some (.val v)) (hat : At hs (.mp c.P v t kv g l) h) (hy : opv rs y = some av) (hv : KeyV av (kv k)) (hk : ok k) (hd : okD dd c.nt = true)
  (kk : WL c ops tl ⟨putR dd (.tup []) rs, h (.mp c.P v t kv g (delM l k))⟩ Q) : WL c ops (⟨dd, .call { callee := .builtin .delete, args := #[x, y], argTypes := #[tm, t] }, ty, pos, af, none⟩ :: tl) ⟨rs, hs⟩ Q := WL_at hd rfl hat (lt_mdel K ht k hx hy hv hk) kk
omit [DecidableEq κ] in
theorem wl_mmake {tm : TypeId} (K : KeyT c.P t kv ok) (g : α → AV) (hd : Nat.blt d c.nt = true) (kk : ∀ v, One (.val v) → WL c ops tl ⟨(d, .val v) :: rs, .mp c.P v t kv g [] :: hs⟩ Q) : WL c ops (⟨some d, .makeMap tm none, ty, pos, af, none⟩ :: tl) ⟨rs, hs⟩ Q :=
 WL_new hd rfl (lt_mmake (g := g) K) fun av pr ⟨u, h1, e1, e2⟩ => by subst e1; subst e2; exact kk u h1
end
theorem keyT_int {P : Program} {t : TypeId} (h : P.underlying t = some (.int .i64)) : KeyT P t (fun n : Int => Value.int .i64 n) (fun n => -9223372036854775808 ≤ n ∧ n ≤ 9223372036854775807) :=
 ⟨Go.Maps.int_keyed h, fun n hn => ⟨_, Go.Maps.keyOf_int_mk h (by simp only [Lit.wf, IntKind.min, IntKind.max, IntKind.signed, IntKind.bits, Bool.and_eq_true, decide_eq_true_eq, if_true]; omega)⟩, fun a b e => by injection e⟩
end Go.Proofs.YtihonljdanjfmaaGreatDoor.Sw
namespace Go.Proofs.YtihonljdanjfmaaGreatDoor.Sw
open Go.RowKit Go Go.Shelf Go.Proofs
theorem rises_of_ok {f : Flo} (h : floOk f = true) : rises 0 f.ids = true := by
 simp only [floOk, Bool.and_eq_true] at h
 exact h.1.1.1.2
end Go.Proofs.YtihonljdanjfmaaGreatDoor.Sw
namespace Go.Proofs.YtihonljdanjfmaaGreatDoor.Sw
open Go.RowKit Go Go.Shelf Go.Proofs
open Go.Proofs.YtihonljdanjfmaaGreatDoor.Gr (headsR hf sumP Zr lf Lab)
def evS (x : Nat → Int) (h : Nat → Nat) (m : List (Nat × Int)) (i : Nat) : List (Nat × Int) :=
 if (getM m (h i)).getD 0 + x i = 0 then delM (putM m (h i) ((getM m (h i)).getD 0 + x i)) (h i) else putM m (h i) ((getM m (h i)).getD 0 + x i)
def evM (x : Nat → Int) (h : Nat → Nat) : Nat → List (Nat × Int)
 | 0 => []
 | k + 1 => evS x h (evM x h k) k
theorem evM_get {x : Nat → Int} {h : Nat → Nat} : ∀ {k j : Nat}, getM (evM x h k) j = if sumP k x (fun v => decide (h v = j)) = 0 then none else some (sumP k x fun v => decide (h v = j))
 | 0, j => rfl
 | k + 1, j => by
  have hs : sumP (k + 1) x (fun v => decide (h v = j)) = sumP k x (fun v => decide (h v = j)) + (if decide (h k = j) = true then x k else 0) := rfl
  have hd : ∀ j, (getM (evM x h k) j).getD 0 = sumP k x (fun v => decide (h v = j)) := fun j => by
   rw [evM_get]; split
   ·rename_i e; rw [e]; rfl
   ·rfl
  show getM (evS x h (evM x h k) k) j = _
  unfold evS
  rw [hd, hs]
  by_cases hj : h k = j
  ·subst hj
   simp only [decide_true, if_true]
   split
   ·rw [getM_del, if_pos rfl]
   ·rw [getM_put, if_pos rfl]
  ·rw [decide_eq_false hj]
   simp only [Bool.false_eq_true, if_false, Int.add_zero]
   rw [← evM_get]
   split
   ·rw [getM_del, if_neg (fun e => hj e.symm), getM_put, if_neg (fun e => hj e.symm)]
   ·rw [getM_put, if_neg (fun e => hj e.symm)]
theorem evM_len {x : Nat → Int} {h : Nat → Nat} : ∀ k, (evM x h k).length ≤ k
 | 0 => Nat.le_refl _
 | k + 1 => by
  show (evS x h (evM x h k) k).length ≤ k + 1
  unfold evS
  have h1 := putM_len (evM x h k) (h k) ((getM (evM x h k) (h k)).getD 0 + x k)
  have h2 := evM_len (x := x) (h := h) k
  split
  ·exact Nat.le_trans (delM_len _ _) (by omega)
  ·omega
theorem evM_nil {x : Nat → Int} {h : Nat → Nat} {k : Nat} : evM x h k = [] ↔ ∀ j, sumP k x (fun v => decide (h v = j)) = 0 := by
 constructor
 ·intro e j
  have := evM_get (x := x) (h := h) (k := k) (j := j)
  rw [e] at this
  split at this
  ·assumption
  ·cases this
 ·intro h0
  cases hm : evM x h k with
  | nil => rfl
  | cons p t =>
   have := evM_get (x := x) (h := h) (k := k) (j := p.1)
   rw [hm, if_pos (h0 _), getM, if_pos rfl] at this
   cases this
def evB (n : Nat) (L : List (Nat × Nat)) (cu : List Int) : Bool := decide (evM (lf cu) (hf (headsR n L)) n = [])
theorem evB_iff {n : Nat} {L : List (Nat × Nat)} {cu : List Int} (h : ∀ p ∈ L, p.1 < n ∧ p.2 < n) : evB n L cu = true ↔ Zr n L (lf cu) := by
 unfold evB
 rw [decide_eq_true_iff, evM_nil]
 exact Gr.even_iff (Gr.lab_all h)
theorem sumP_bound {x : Nat → Int} {c : Int} (hc : 0 ≤ c) : ∀ {k : Nat}, (∀ v, v < k → -c ≤ x v ∧ x v ≤ c) → ∀ P, -(k * c) ≤ sumP k x P ∧ sumP k x P ≤ k * c
 | 0, _, P => by simp [sumP]
 | k + 1, h, P => by
  have ih := sumP_bound hc (k := k) (fun v hv => h v (by omega)) P
  have h1 := h k (by omega)
  have hk : ((k + 1 : Nat) : Int) * c = k * c + c := by rw [Int.natCast_add, Int.add_mul]; simp
  rw [hk]
  unfold sumP
  split <;> omega
def nk (n : Nat) : Value := .int .i64 (n : Int)
def iG (n : Int) : AV := .val (.int .i64 n)
theorem keyN : KeyT Tryz.prog 3 nk (fun n => n ≤ 1000000) :=
 ⟨(keyT_int Tryz.underlying3).keyed, fun n hn => (keyT_int Tryz.underlying3).key n (by omega), fun a b e => by unfold nk at e; injection e with _ e; omega⟩
theorem lkA_int (o : Option Int) : lkA iG (.int .i64 0) o = .val (.int .i64 (o.getD 0)) := by cases o <;> rfl
theorem LT_av {P : Program} {o : Oper} {rs : List (Nat × AV)} {cons prod : List HA} {av av' : AV} (k : LT P o rs cons (Is av prod)) (h : av = av') : LT P o rs cons (Is av' prod) := h ▸ k
abbrev mpI (v : Value) (l : List (Nat × Int)) : HA := .mp Tryz.prog v 3 nk iG l
theorem lf_at {cu : List Int} {i : Nat} (h : i < cu.length) : lf cu i = cu[i] := by simp [lf, List.getD_eq_getElem?_getD, List.getElem?_eq_getElem h]
theorem hf_at {h : List Nat} {i : Nat} (hi : i < h.length) : hf h i = h[i] := by simp [hf, List.getD_eq_getElem?_getD, List.getElem?_eq_getElem hi]
theorem even_con (ph ow : Value) (f : Flo) (cu : List Int) (L : List (Nat × Nat)) (hn : f.ids.length ≤ 1000) (hl : L.length ≤ 1000) (hL : ∀ p ∈ L, p.1 < f.ids.length ∧ p.2 < f.ids.length) (hcl : cu.length = f.ids.length) (hbt : Btw (-1000000000) 1000000000 cu) : Con Tryz.prog 107 [.val ph, .sl 2 pnC L] [hsB ph f ow, .row ow 3 1 iC cu] (Is (.val (.bool (evB f.ids.length L cu))) [hsB ph f ow, .row ow 3 1 iC cu]) := by
 have hhl := headsR_len f.ids.length L
 have hlab := (Gr.lab_all hL).lt
 refine con_of Tryz.func107 rfl (enters_of Tryz.func107 (by kernel_rfl) rfl) rfl ?_; intro n w0 F0 G0
 refine zS ?_
 (apply wl_mmake keyN iG; exact rfl; intro v hv)
 refine zS ?_
 (apply wl_callP (groups_con ph ow f L hn hl hL); exact rfl; exact yC; exact rfl)
 rintro _ _ ⟨u, rfl, rfl⟩
 unfold evB
 generalize headsR f.ids.length L = h at hhl hlab ⊢
 refine zS ?_
 refine W_loopJ (fun (i : Nat) => ⟨[(0, .val ph), (5, .val v), (11, .val u), (12, .val (.int .i64 h.length)), (13, .val (.int .i64 i))], [mpI v (evM (lf cu) (hf h) i), .row u 3 1 nC h, hsB ph f ow, .row ow 3 1 iC cu]⟩) (fun i => i ≤ h.length) (fun i => h.length - i) 0 (fun _ _ st => st_sub2 st zR zP) (Nat.zero_le _) ?_
 rintro i hi
 refine zS ?_
 refine w_cond rfl (fun hlt => ?_) (fun hlt => ?_)
 ·have hi' : i < h.length := by simpa using hlt
  have hic : i < cu.length := by omega
  have hq1 : cu[i]? = some cu[i] := List.getElem?_eq_getElem hic
  have hb := hbt.at hic
  have hhi : h[i] ≤ 1000000 := by have := hlab i (by omega); rw [hf_at hi'] at this; omega
  have hml := evM_len (x := lf cu) (h := hf h) i
  have hg := evM_get (x := lf cu) (h := hf h) (k := i) (j := h[i])
  have hbb : ∀ q, q < i → -1000000000 ≤ lf cu q ∧ lf cu q ≤ 1000000000 := fun q hq => by
   have hqc : q < cu.length := by omega
   rw [lf_at hqc]; exact hbt.at hqc
  have hsb := sumP_bound (x := lf cu) (c := 1000000000) (by omega) (k := i) hbb (fun v => decide (hf h v = h[i]))
  have hgb : -1000000000000 ≤ (getM (evM (lf cu) (hf h) i) h[i]).getD 0 ∧ (getM (evM (lf cu) (hf h) i) h[i]).getD 0 ≤ 1000000000000 := by
   rw [hg]; split <;> simp <;> omega
  have hstep : evM (lf cu) (hf h) (i + 1) = evS (lf cu) (hf h) (evM (lf cu) (hf h) i) i := rfl
  unfold evS at hstep
  rw [hf_at hi', lf_at hic] at hstep
  generalize evM (lf cu) (hf h) i = m at hml hgb hstep ⊢
  clear hg hsb hbb
  refine zS ?_
  refine W_run 10 [18, 19, 20, 21, 22, 23, 24, 25, 26, 27] [0, 1, 2, 3, 4, 5, 6, 7, 8, 9] Cut.nil rfl goFlt mixedS (by kernel_rfl) rfl ?_
  refine rpv [] [] ?_
  refine rpv [] [] ?_
  refine Run.pv [0, 1] [] rfl (fun vs => by apply ltr_pk; exact goPk; exact ltr_rd (h := mpI v m) (LT_av (lt_look1 keyN Tryz.underlying123 (fun w => by kernel_rfl) h[i] rfl rfl KeyV.val hhi) (lkA_int _)) zM) goApp ?_
  refine rpv [] [] ?_
  refine rpv [3] [] ?_
  refine rpv [4] [] ?_
  refine rpv [5] [] ?_
  refine rpv [] [] ?_
  refine rpv [6, 7] [] ?_
  refine rpv [8] [] ?_
  refine ⟨⟨by kernel_rfl, by kernel_rfl⟩, fun vs => ?_⟩
  apply WL_auto [0, 1, 2, 9]
  ·exact goPk
  ·exact goNrm
  ·kernel_rfl
  ·kernel_rfl
  refine zS ?_
  (apply wl_mput keyN h[i] ((getM m h[i]).getD 0 + cu[i]) Tryz.underlying123; exact rfl; exact zM; exact rfl; exact KeyV.val; exact hhi; exact rfl; omega)
  refine zS ?_
  (apply wl_look1 keyN h[i] Tryz.underlying123 (fun w => by kernel_rfl); exact rfl; exact zM; exact rfl; exact KeyV.val; exact hhi; exact rfl)
  rw [lkA_int, getM_put, if_pos rfl, Option.getD_some]
  refine zS ?_
  refine w_cond rfl (fun he => ?_) (fun he => ?_)
  ·rw [if_pos (of_decide_eq_true he)] at hstep
   refine zS ?_
   (apply wl_mdel keyN h[i] Tryz.underlying123; exact rfl; exact zM; exact rfl; exact KeyV.val; exact hhi; exact rfl)
   rw [← hstep]
   refine zS ?_
   (refine ⟨i + 1, fun _ _ st => st_sub2 st ?_ ?_, ?_, ?_⟩; exact zR; exact zP)
   ·omega
   ·omega
  ·rw [if_neg (of_decide_eq_false he)] at hstep
   rw [← hstep]
   refine zS ?_
   (refine ⟨i + 1, fun _ _ st => st_sub2 st ?_ ?_, ?_, ?_⟩; exact zR; exact zP)
   ·omega
   ·omega
 ·have hii : i = h.length := by simp at hlt; omega
  subst hii
  rw [hhl]
  refine zS ?_
  (apply wl_mlen; exact Tryz.underlying123; exact rfl; exact zM; exact rfl)
  refine zS ?_
  have he : decide (((evM (lf cu) (hf h) f.ids.length).length : Int) = 0) = decide (evM (lf cu) (hf h) f.ids.length = []) := by
   refine decide_eq_decide.2 ?_
   rw [← List.length_eq_zero_iff]; omega
  rw [he]
  (apply resK1; exact rfl; exact rfl; exact ⟨rfl, rfl⟩; exact yC)
def prI (sp : Nat → Nat → Bool) (i k : Nat) : List (Nat × Nat) := ((List.range k).filter fun k => sp k i).map fun k => (k, i)
def prP (sp : Nat → Nat → Bool) (n : Nat) : List (Nat × Nat) := (List.range n).flatMap fun i => prI sp i i
theorem prI_succ (sp : Nat → Nat → Bool) (i k : Nat) : prI sp i (k + 1) = if sp k i = true then prI sp i k ++ [(k, i)] else prI sp i k := by
 unfold prI
 rw [List.range_succ, List.filter_append]
 split
 ·rename_i h; simp [h]
 ·rename_i h; simp [h]
theorem prP_succ (sp : Nat → Nat → Bool) (n : Nat) : prP sp (n + 1) = prP sp n ++ prI sp n n := by
 unfold prP
 rw [List.range_succ, List.flatMap_append]; simp
theorem prI_mem {sp : Nat → Nat → Bool} {i k : Nat} {p : Nat × Nat} : p ∈ prI sp i k ↔ p.1 < k ∧ p.2 = i ∧ sp p.1 i = true := by
 unfold prI
 rw [List.mem_map]
 constructor
 ·rintro ⟨a, ha, rfl⟩
  have := List.mem_filter.1 ha
  exact ⟨List.mem_range.1 this.1, rfl, this.2⟩
 ·rintro ⟨h1, h2, h3⟩
  exact ⟨p.1, List.mem_filter.2 ⟨List.mem_range.2 h1, h3⟩, by rw [← h2]⟩
theorem prP_mem {sp : Nat → Nat → Bool} {n : Nat} {p : Nat × Nat} : p ∈ prP sp n ↔ p.1 < p.2 ∧ p.2 < n ∧ sp p.1 p.2 = true := by
 unfold prP
 rw [List.mem_flatMap]
 constructor
 ·rintro ⟨i, hi, hp⟩
  obtain ⟨h1, h2, h3⟩ := prI_mem.1 hp
  have := List.mem_range.1 hi
  exact ⟨by omega, by omega, by rw [h2]; exact h3⟩
 ·rintro ⟨h1, h2, h3⟩
  exact ⟨p.2, List.mem_range.2 h2, prI_mem.2 ⟨h1, rfl, h3⟩⟩
theorem prI_len (sp : Nat → Nat → Bool) (i k : Nat) : (prI sp i k).length ≤ k := by
 unfold prI
 rw [List.length_map]
 exact Nat.le_trans (List.length_filter_le _ _) (by simp)
def spk (f : Flo) (a b : Nat) : Bool := speakR f.qs (f.ids.getD a 0) (f.ids.getD b 0)
def canB (f : Flo) (cu : List Int) : Bool := evB f.ids.length (prP (spk f) f.ids.length) cu
def netR (f : Flo) : List Int × Int := if floOk f = true then (owed8 f, 0) else ([], 80)
theorem Net_con (f : Flo) (hS : Sml f) : Con Tryz.prog 16 [.agg (flC f)] [tab8] (Is (.tup [.sl 1 iC (netR f).1, .val (.int .i64 (netR f).2)]) [tab8]) := by
 cases hok : floOk f with
 | false =>
  have C := openedNo_con f hS hok
  unfold netR
  rw [if_neg (by rw [hok]; simp)]
  refine con_of Tryz.func16 rfl (enters_of Tryz.func16 (by kernel_rfl) rfl) rfl ?_; intro n w0 F0 G0
  refine zS ?_;repeat(refine yA ?_;intro p hp;refine zS ?_)
  (first | (apply wl_call (C); exact rfl; exact rfl) | (apply wl_callR (C); exact rfl; exact zM; exact rfl))
  refine zS ?_
  refine Res_nil 2 1 iC rfl ?_
  (apply resK2; exact rfl; exact rfl; exact rfl; exact ⟨rfl, rfl⟩; exact yC)
 | true =>
  have C := opened_con f hS hok
  unfold netR
  rw [if_pos hok]
  refine con_of Tryz.func16 rfl (enters_of Tryz.func16 (by kernel_rfl) rfl) rfl ?_; intro n w0 F0 G0
  refine zS ?_;repeat(refine yA ?_;intro p hp;refine zS ?_)
  (apply wl_callP (C); exact rfl; exact yC; exact rfl)
  rintro _ _ ⟨ph, ow, rfl, rfl⟩
  refine zS ?_
  (apply Res_frz 2; exact rfl; exact zN)
  (apply resK2; exact rfl; exact rfl; exact rfl; exact ⟨rfl, rfl⟩; exact yC)
end Go.Proofs.YtihonljdanjfmaaGreatDoor.Sw
namespace Go.Proofs.YtihonljdanjfmaaGreatDoor.Sw
open Go.RowKit Go Go.Shelf Go.Proofs
def shaR (f : Flo) (m : Int) : List Int × Int :=
 if floOk f = true then (match f.bs.find? fun x => decide (x.no = m) with | some x => (sharesR f.ids x, 0) | none => ([], 6)) else ([], 80)
end Go.Proofs.YtihonljdanjfmaaGreatDoor.Sw
namespace Go.Proofs.YtihonljdanjfmaaGreatDoor.Sw
open Go.RowKit Go Go.Shelf Go.Proofs
open Go.Proofs.YtihonljdanjfmaaGreatDoor.Gr (payLt atP addP)
def prJ (sp : Nat → Nat → Bool) (i k m : Nat) : List (Nat × Nat) := ((List.range' k m).filter fun k => sp i k).map fun k => (i, k)
def prR (sp : Nat → Nat → Bool) (n : Nat) : Nat → List (Nat × Nat)
 | 0 => []
 | i + 1 => prR sp n i ++ prJ sp i (i + 1) (n - (i + 1))
theorem prJ_mem {sp : Nat → Nat → Bool} {i k m : Nat} {p : Nat × Nat} : p ∈ prJ sp i k m ↔ p.1 = i ∧ k ≤ p.2 ∧ p.2 < k + m ∧ sp i p.2 = true := by
 unfold prJ
 rw [List.mem_map]
 constructor
 ·rintro ⟨a, ha, rfl⟩
  have := List.mem_filter.1 ha
  have h2 := List.mem_range'_1.1 this.1
  exact ⟨rfl, h2.1, h2.2, this.2⟩
 ·rintro ⟨h1, h2, h3, h4⟩
  exact ⟨p.2, List.mem_filter.2 ⟨List.mem_range'_1.2 ⟨h2, h3⟩, h4⟩, by rw [← h1]⟩
theorem prR_mem {sp : Nat → Nat → Bool} {n : Nat} {p : Nat × Nat} : ∀ {i}, i ≤ n → (p ∈ prR sp n i ↔ p.1 < i ∧ p.1 < p.2 ∧ p.2 < n ∧ sp p.1 p.2 = true)
 | 0, _ => by simp [prR]
 | i + 1, hi => by
  rw [prR, List.mem_append, prR_mem (by omega), prJ_mem]
  constructor
  ·rintro (⟨h1, h2⟩ | ⟨h1, h2, h3, h4⟩)
   ·exact ⟨by omega, h2⟩
   ·exact ⟨by omega, by omega, by omega, by rw [h1]; exact h4⟩
  ·rintro ⟨h1, h2, h3, h4⟩
   by_cases he : p.1 = i
   ·exact .inr ⟨he, by omega, by omega, by rw [← he]; exact h4⟩
   ·exact .inl ⟨by omega, h2, h3, h4⟩
def sumPay (l : List Pay) : Int := (l.map Pay.p).sum
theorem sumPay_cons (x : Pay) (l : List Pay) : sumPay (x :: l) = x.p + sumPay l := by simp [sumPay]
theorem sumPay_snoc (l : List Pay) (x : Pay) : sumPay (l ++ [x]) = sumPay l + x.p := by simp [sumPay]
theorem sumPay_bound {c : Int} (hc : 0 ≤ c) : ∀ {l : List Pay}, (∀ x ∈ l, -c ≤ x.p ∧ x.p ≤ c) → -(l.length * c) ≤ sumPay l ∧ sumPay l ≤ l.length * c
 | [], _ => by simp [sumPay]
 | x :: t, h => by
  have h1 := h x (by simp)
  have h2 := sumPay_bound hc (l := t) fun y hy => h y (by simp [hy])
  rw [sumPay_cons, List.length_cons]
  have hk : ((t.length + 1 : Nat) : Int) * c = t.length * c + c := by rw [Int.natCast_add, Int.add_mul]; simp
  rw [hk]; omega
end Go.Proofs.YtihonljdanjfmaaGreatDoor.Sw
namespace Go.Proofs.YtihonljdanjfmaaGreatDoor.Sw
open Go.RowKit Go Go.Shelf Go.Proofs
open Go.Proofs.YtihonljdanjfmaaGreatDoor.Gr (payLt atP addP treeR treeGo leafAt findLeaf inc oth mvL payX)
def bC (b : Bool) : List AV := [.val (.bool b)]
def nd : List (Nat × Nat) → List Bool → List (Nat × Nat)
 | p :: L, d :: ds => if d = true then nd L ds else p :: nd L ds
 | _, _ => []
def treeA (o : Option (List Pay)) : AV := match o with | some l => .tup [.sl 3 payC l, .val (.bool true)] | none => .tup [.sl 3 payC [], .val (.bool false)]
theorem W_meet {c : Cx} {s : S} {x y : Code} {Q Q' : Exit → S → Prop} (s1 : S) (h : W c x s (fun e s' => e = .normal ∧ ∀ a w, St c s' a w → St c s1 a w)) (k : W c y s1 Q') : W c x s (thenQ (fun s' => W c y s' Q') Q) :=
 W_mono h fun e s' ⟨he, hs⟩ => by subst he; exact W_weak s1 hs k
end Go.Proofs.YtihonljdanjfmaaGreatDoor.Sw
namespace Go.Proofs.YtihonljdanjfmaaGreatDoor.Sw
open Go.RowKit Go
section
variable {P : Program} {rs : List (Nat × AV)} {d : Option Nat} {ty : TypeId} {pos : String} {af : Array Edge} {g : Option (Nat × Bool)}
end
section
variable {c : Cx} {rs : List (Nat × AV)} {hs : List HA} {Q : Exit → S → Prop} {ops : Array Oper} {tl : List Oper} {d : Nat} {ty : TypeId} {pos : String} {af : Array Edge}
end
theorem st_frzX {α : Type} {c : Cx} {rs : List (Nat × AV)} {hs r : List HA} {e t : TypeId} {n j : Nat} {f : α → List AV} {xs : List α} {p v : Value} {cs : List AV} {g : HA → List HA} {a : Act} {w : World} (hr : Rm hs (.row v e n f xs) r) (hat : At r (.box p cs t) g) (hj : cs[j]? = some (.val v)) (st : St c ⟨rs, hs⟩ a w) : St c ⟨rs, g (.box p (cs.set j (.sl n f xs)) t)⟩ a w := by
 obtain ⟨G, F, hI, hF, hR, rr⟩ := st
 obtain ⟨G', F', h1, h2, h3⟩ := row_freeze (rest := r) ⟨hI.gin, hI.nd, hI.own, hr.sel hI.hs⟩
 obtain ⟨rest, hsel⟩ := hat.sel
 obtain ⟨F1, F2, ep, ⟨b, vs, e1, e2, e3, e4⟩, k2⟩ := (hsel _ _ _ _).1 (by rw [hat.self]; exact h1.hs)
 refine ⟨G', F', ⟨h1.gin, h1.nd, h1.own, (hsel _ _ _ _).2 ⟨F1, F2, ep, ⟨b, vs, e1, e2, ?_, e4⟩, k2⟩⟩, hF.trans h2, hR.mono h2.gle, rr.1, rr.2.step h2⟩
 obtain ⟨u, hu, hu2⟩ := e3.get hj
 have hu3 : u = v := hu2
 subst hu3
 have := e3.set j h3
 rwa [show vs.set j u = vs from by
  obtain ⟨hlt, rfl⟩ := List.getElem?_eq_some_iff.1 hu
  exact List.set_getElem_self hlt] at this
theorem W_frzX {α : Type} {c : Cx} {rs : List (Nat × AV)} {hs r : List HA} {Q : Exit → S → Prop} {x : Code} {e t : TypeId} {n : Nat} {f : α → List AV} {xs : List α} {p v : Value} {cs : List AV} {g : HA → List HA} (p0 : Value) (j : Nat) (hr : Rm hs (.row v e n f xs) r) (hp : p = p0) (hat : At r (.box p cs t) g) (hj : cs[j]? = some (.val v)) (k : W c x ⟨rs, g (.box p (cs.set j (.sl n f xs)) t)⟩ Q) : W c x ⟨rs, hs⟩ Q := ⟨fun a w st => k.out a w (st_frzX hr hat hj st)⟩
end Go.Proofs.YtihonljdanjfmaaGreatDoor.Sw
namespace Go.Proofs.YtihonljdanjfmaaGreatDoor.Sw
open Go.RowKit Go Go.Shelf Go.Proofs
open Go.Proofs.YtihonljdanjfmaaGreatDoor.Gr (treeR pick Ok)
def plC (l : List Pay) : List AV := [.sl 3 payC l]
instance {l : List Pay} : OneL (plC l) := inferInstanceAs (OneL [_])
instance : OneF plC := ⟨fun _ => inferInstance⟩
instance : LenF plC 1 := ⟨fun _ => rfl⟩
theorem prJ_nodup (sp : Nat → Nat → Bool) (i k m : Nat) : (prJ sp i k m).Nodup := by
 unfold prJ
 rw [List.Nodup, List.pairwise_map]
 exact ((List.nodup_range' (s := k) (n := m)).filter _).imp fun h e => h (by injection e)
theorem prR_nodup (sp : Nat → Nat → Bool) (n : Nat) : ∀ i, i ≤ n → (prR sp n i).Nodup
 | 0, _ => List.nodup_nil
 | i + 1, hi => by
  rw [prR]
  refine List.nodup_append.2 ⟨prR_nodup sp n i (by omega), prJ_nodup sp _ _ _, fun a ha b hb e => ?_⟩
  subst e
  have h1 := (prR_mem (by omega)).1 ha
  have h2 := prJ_mem.1 hb
  omega
theorem prR_ok (sp : Nat → Nat → Bool) (n : Nat) : Ok n (prR sp n n) := ⟨prR_nodup sp n n (Nat.le_refl _), fun p hp => by
 have := (prR_mem (Nat.le_refl _)).1 hp
 exact ⟨by omega, by omega, by omega⟩⟩
theorem pow15 {k : Nat} (hk : k ≤ 15) : 2 ^ k ≤ 32768 := Nat.pow_le_pow_right (n := 2) (by omega) hk
def allTo (ids : List Int) (l : List (Nat × Nat)) (owed : List Int) (S k : Nat) : List (List Pay) := (List.range S).filterMap fun s => if (pick l s).length = k then treeR ids (pick l s) owed else none
def allR (f : Flo) (k : Nat) : List (List Pay) := allTo f.ids (prR (spk f) f.ids.length f.ids.length) (owed8 f) (2 ^ (prR (spk f) f.ids.length f.ids.length).length) k
end Go.Proofs.YtihonljdanjfmaaGreatDoor.Sw
namespace Go.Proofs.YtihonljdanjfmaaGreatDoor.Sw
open Go.RowKit Go Go.Shelf Go.Proofs
open Go.Proofs.YtihonljdanjfmaaGreatDoor.Gr (treeR pick Ok treeR_iff payE amt lf Zr)
theorem tree_pays {ids : List Int} {L : List (Nat × Nat)} {owed : List Int} {out : List Pay} {c : Int} (hok : Ok ids.length L) (hlen : owed.length = ids.length) (hc : 0 ≤ c) (hb : Btw (-c) c owed) (h : treeR ids L owed = some out) : out.length = L.length ∧ ∀ x ∈ out, 1 ≤ x.p ∧ x.p ≤ ids.length * c := by
 obtain ⟨hf, hz, hm, _, hp⟩ := (treeR_iff hok hlen).1 h
 refine ⟨by rw [hp.length_eq, List.length_map], fun x hx => ?_⟩
 obtain ⟨e, he, rfl⟩ := List.mem_map.1 (hp.mem_iff.1 hx)
 have h0 := hm e he
 have hbb : ∀ v, v < ids.length → -c ≤ lf owed v ∧ lf owed v ≤ c := fun v hv => by
  have hv' : v < owed.length := by omega
  rw [lf_at hv']; exact hb.at hv'
 obtain ⟨Q, hQ⟩ := Gr.side_of hf he (.inr ⟨rfl, rfl⟩ : Gr.Ends e e.2 e.1)
 have ha := Gr.amt_side hok.nd hz hQ
 have hs := sumP_bound hc hbb Q
 rw [← ha] at hs
 unfold payE
 split
 ·dsimp only; omega
 ·dsimp only; omega
theorem allTo_pays {ids : List Int} {l : List (Nat × Nat)} {owed : List Int} {c : Int} (hok : Ok ids.length l) (hlen : owed.length = ids.length) (hc : 0 ≤ c) (hb : Btw (-c) c owed) {S k : Nat} {out : List Pay} (h : out ∈ allTo ids l owed S k) : out.length = k ∧ ∀ x ∈ out, 1 ≤ x.p ∧ x.p ≤ ids.length * c := by
 unfold allTo at h
 obtain ⟨s, _, hs⟩ := List.mem_filterMap.1 h
 split at hs
 ·rename_i hk
  have := tree_pays (hok.sub (Gr.pick_sub l s)) hlen hc hb hs
  rw [hk] at this
  exact this
 ·cases hs
def fewTo {α : Type} (g : Nat → List α) : Nat → List α
 | 0 => []
 | i + 1 => if (fewTo g i).isEmpty = true then g i else fewTo g i
def chS (c : Int) (l : List Pay) : Int := if c < 0 ∨ sumPay l < c then sumPay l else c
def chTo (g : Nat → List (List Pay)) : Nat → Int
 | 0 => -1
 | i + 1 => (g i).foldl chS (chTo g i)
def askR (f : Flo) : List (List Pay) × Int × Int :=
 if floOk f = true then (if (fewTo (allR f) 6).isEmpty = true then ([], 0, 8) else (fewTo (allR f) 6, chTo (allR f) 6, 0)) else ([], 0, 80)
end Go.Proofs.YtihonljdanjfmaaGreatDoor.Sw
namespace Go.Proofs.YtihonljdanjfmaaGreatDoor.Sw
open Go.RowKit Go Go.Shelf Go.Proofs
def greatF (f : Flo) : Bool := decide ((10 : Int) < f.ids.length) || decide ((20 : Int) < f.qs.length) || decide ((16 : Int) < f.bs.length) || decide ((20 : Int) < f.ps.length) || f.bs.any fun b => decide ((10 : Int) < b.st.length)
theorem sml_of {f : Flo} (h : greatF f = false) : f.ids.length ≤ 10 ∧ f.qs.length ≤ 20 ∧ f.bs.length ≤ 16 ∧ f.ps.length ≤ 20 ∧ ∀ b ∈ f.bs, b.st.length ≤ 10 := by
 simp [greatF] at h
 exact ⟨by omega, by omega, by omega, by omega, fun b hb => by have := h.2 b hb; omega⟩
theorem great8_con (f : Flo) : Con Tryz.prog 53 [.agg (flC f)] [] (Is (.val (.bool (greatF f))) []) := by
 refine con_of Tryz.func53 rfl (enters_of Tryz.func53 (by kernel_rfl) rfl) rfl ?_; intro n w0 F0 G0
 refine zS ?_;repeat(refine yA ?_;intro p hp;refine zS ?_)
 refine wl_part rfl rfl (fun g1 => ?_) (fun g1 => ?_)
 ·refine zS ?_;repeat(refine yA ?_;intro p hp;refine zS ?_)
  (apply res1; exact rfl; exact rfl; exact ⟨(congrArg (fun b => AV.val (Value.bool b)) (by simp at g1; simp [greatF, g1])), rfl⟩)
 ·refine zS ?_;repeat(refine yA ?_;intro p hp;refine zS ?_)
  refine wl_part rfl rfl (fun g2 => ?_) (fun g2 => ?_)
  ·refine zS ?_;repeat(refine yA ?_;intro p hp;refine zS ?_)
   (apply res1; exact rfl; exact rfl; exact ⟨(congrArg (fun b => AV.val (Value.bool b)) (by simp at g2; simp [greatF, g2])), rfl⟩)
  ·refine zS ?_;repeat(refine yA ?_;intro p hp;refine zS ?_)
   refine wl_part rfl rfl (fun g3 => ?_) (fun g3 => ?_)
   ·refine zS ?_;repeat(refine yA ?_;intro p hp;refine zS ?_)
    (apply res1; exact rfl; exact rfl; exact ⟨(congrArg (fun b => AV.val (Value.bool b)) (by simp at g3; simp [greatF, g3])), rfl⟩)
   ·refine zS ?_;repeat(refine yA ?_;intro p hp;refine zS ?_)
    refine w_cond rfl (fun g4 => ?_) (fun g4 => ?_)
    ·refine zS ?_;repeat(refine yA ?_;intro p hp;refine zS ?_)
     (apply res1; exact rfl; exact rfl; exact ⟨(congrArg (fun b => AV.val (Value.bool b)) (by simp at g4; simp [greatF, g4])), rfl⟩)
    ·have hW : greatF f = f.bs.any fun b => decide ((10 : Int) < b.st.length) := by unfold greatF; rw [g1, g2, g3, g4]; simp
     have hbl : f.bs.length ≤ 16 := by simp at g3; omega
     rw [hW]
     refine zS ?_;repeat(refine yA ?_;intro p hp;refine zS ?_)
     refine W_loopJ (fun (k : Nat) => ⟨[(28, .sl 4 biC f.bs), (29, .val (.int .i64 f.bs.length)), (30, .val (.int .i64 k))], []⟩) (fun k => k ≤ f.bs.length ∧ (f.bs.take k).any (fun b => decide ((10 : Int) < b.st.length)) = false) (fun k => f.bs.length - k) 0 (fun _ _ st => st_sub2 st zR zP) ?hj0 ?round
     case hj0 => simp
     case round =>
      rintro k ⟨hk, hno⟩
      refine zS ?_;repeat(refine yA ?_;intro p hp;refine zS ?_)
      refine w_cond rfl (fun hlt => ?_) (fun hlt => ?_)
      ·have hlt' : k < f.bs.length := by simpa using hlt
       have htk : f.bs.take (k + 1) = f.bs.take k ++ [f.bs[k]] := List.take_succ_eq_append_getElem hlt'
       refine zS ?_;repeat(refine yA ?_;intro p hp;refine zS ?_)
       refine w_cond rfl (fun hg => ?_) (fun hg => ?_)
       ·refine zS ?_;repeat(refine yA ?_;intro p hp;refine zS ?_)
        have : f.bs.any (fun b => decide ((10 : Int) < b.st.length)) = true := List.any_eq_true.2 ⟨_, List.getElem_mem hlt', hg⟩
        (apply res1; exact rfl; exact rfl; exact ⟨(congrArg (fun b => AV.val (Value.bool b)) (by rw [this])), rfl⟩)
       ·refine zS ?_;repeat(refine yA ?_;intro p hp;refine zS ?_)
        (refine ⟨k + 1, fun _ _ st => st_sub2 st ?_ ?_, ?_, ?_⟩; exact zR; exact zP)
        ·exact ⟨by omega, by rw [htk, List.any_append, hno]; simpa using hg⟩
        ·omega
      ·refine zS ?_;repeat(refine yA ?_;intro p hp;refine zS ?_)
       have hkk : k = f.bs.length := by simp at hlt; omega
       subst hkk
       rw [List.take_length] at hno
       (apply res1; exact rfl; exact rfl; exact ⟨(congrArg (fun b => AV.val (Value.bool b)) hno.symm), rfl⟩)
theorem sameInts_con (xs ys : List Int) (hl : xs.length ≤ 1000000) (hl2 : ys.length ≤ 1000000) : Con Tryz.prog 113 [.sl 1 iC xs, .sl 1 iC ys] [] (Is (.val (.bool (decide (xs = ys)))) []) := by
 refine con_of Tryz.func113 rfl (enters_of Tryz.func113 (by kernel_rfl) rfl) rfl ?_; intro n w0 F0 G0
 refine zS ?_
 refine w_cond rfl (fun hne => ?_) (fun hne => ?_)
 ·have hne' : xs ≠ ys := by intro e; rw [e] at hne; simp at hne
  refine zS ?_
  (apply res1; exact rfl; exact rfl; exact ⟨(congrArg (fun b => AV.val (Value.bool b)) (by simp [hne'])), rfl⟩)
 ·have hlen : xs.length = ys.length := by simp at hne; omega
  refine zS ?_
  refine W_loopJ (fun (k : Nat) => ⟨[(0, .sl 1 iC xs), (1, .sl 1 iC ys), (5, .val (.int .i64 k))], []⟩) (fun k => k ≤ xs.length ∧ xs.take k = ys.take k) (fun k => xs.length - k) 0 (fun _ _ st => st_sub2 st zR zP) ?hj0 ?round
  case hj0 => simp
  case round =>
   rintro k ⟨hk, hall⟩
   refine zS ?_
   refine w_cond rfl (fun hlt => ?_) (fun hlt => ?_)
   ·have hlt' : k < xs.length := by simpa using hlt
    have hlt2 : k < ys.length := by omega
    have hq1 : xs[k]? = some xs[k] := List.getElem?_eq_getElem hlt'
    have hq2 : ys[k]? = some ys[k] := List.getElem?_eq_getElem hlt2
    refine zS ?_
    refine W_run 8 [17, 18, 19, 20, 21, 22, 23, 24] [0, 1, 2, 3, 4, 5, 6, 7] Cut.nil rfl goFlt mixedS (by kernel_rfl) rfl ?_
    refine rpv [] [] ?_
    refine rpv [] [] ?_
    refine rpv [0, 1] [] ?_
    refine rpv [2] [] ?_
    refine rpv [] [] ?_
    refine rpv [] [] ?_
    refine rpv [4, 5] [] ?_
    refine rpv [6] [] ?_
    refine ⟨⟨by kernel_rfl, by kernel_rfl⟩, fun vs => ?_⟩
    apply WL_auto [3, 7]
    ·exact goPk
    ·exact goNrm
    ·kernel_rfl
    ·kernel_rfl
    refine zS ?_
    refine w_cond rfl (fun hg => ?_) (fun hg => ?_)
    ·have hne' : xs ≠ ys := by intro e; subst e; simp at hg
     refine zS ?_
     (apply res1; exact rfl; exact rfl; exact ⟨(congrArg (fun b => AV.val (Value.bool b)) (by simp [hne'])), rfl⟩)
    ·refine zS ?_
     (refine ⟨k + 1, fun _ _ st => st_sub2 st ?_ ?_, ?_, ?_⟩; exact zR; exact zP)
     ·refine ⟨by omega, ?_⟩
      rw [List.take_succ_eq_append_getElem hlt', List.take_succ_eq_append_getElem hlt2, hall]
      simp at hg; rw [hg]
     ·omega
   ·refine zS ?_
    have hkk : k = xs.length := by simp at hlt; omega
    have he : xs = ys := by
     rw [List.take_of_length_le (by omega), List.take_of_length_le (by omega)] at hall; exact hall
    (apply res1; exact rfl; exact rfl; exact ⟨(congrArg (fun b => AV.val (Value.bool b)) (by simp [he])), rfl⟩)
theorem sameInts7_con (xs ys : List Int) (hl : xs.length ≤ 1000000) (hl2 : ys.length ≤ 1000000) : Con Tryz.prog 68 [.sl 1 iC xs, .sl 1 iC ys] [] (Is (.val (.bool (decide (xs = ys)))) []) := by
 refine con_of Tryz.func68 rfl (enters_of Tryz.func68 (by kernel_rfl) rfl) rfl ?_; intro n w0 F0 G0
 refine zS ?_
 (first | (apply wl_call (sameInts_con _ _ hl hl2); exact rfl; exact rfl) | (apply wl_callR (sameInts_con _ _ hl hl2); exact rfl; exact zM; exact rfl))
 refine zS ?_
 (apply res1; exact rfl; exact rfl; exact ⟨rfl, rfl⟩)
theorem sameInts8_con (xs ys : List Int) (hl : xs.length ≤ 1000000) (hl2 : ys.length ≤ 1000000) : Con Tryz.prog 25 [.sl 1 iC xs, .sl 1 iC ys] [] (Is (.val (.bool (decide (xs = ys)))) []) := by
 refine con_of Tryz.func25 rfl (enters_of Tryz.func25 (by kernel_rfl) rfl) rfl ?_; intro n w0 F0 G0
 refine zS ?_
 (first | (apply wl_call (sameInts7_con _ _ hl hl2); exact rfl; exact rfl) | (apply wl_callR (sameInts7_con _ _ hl hl2); exact rfl; exact zM; exact rfl))
 refine zS ?_
 (apply res1; exact rfl; exact rfl; exact ⟨rfl, rfl⟩)
theorem payNe (x y : Pay) : (!decide ([x.a, x.b, x.p] = [y.a, y.b, y.p])) = !decide (x = y) := by
 congr 1
 refine decide_eq_decide.2 ?_
 cases x; cases y; simp
theorem samePays_con (xs ys : List Pay) (hl : xs.length ≤ 1000000) (hl2 : ys.length ≤ 1000000) : Con Tryz.prog 33 [.sl 3 payC xs, .sl 3 payC ys] [] (Is (.val (.bool (decide (xs = ys)))) []) := by
 refine con_of Tryz.func33 rfl (enters_of Tryz.func33 (by kernel_rfl) rfl) rfl ?_; intro n w0 F0 G0
 refine zS ?_
 refine w_cond rfl (fun hne => ?_) (fun hne => ?_)
 ·have hne' : xs ≠ ys := by intro e; rw [e] at hne; simp at hne
  refine zS ?_
  (apply res1; exact rfl; exact rfl; exact ⟨(congrArg (fun b => AV.val (Value.bool b)) (by simp [hne'])), rfl⟩)
 ·have hlen : xs.length = ys.length := by simp at hne; omega
  refine zS ?_
  refine W_loopJ (fun (k : Nat) => ⟨[(0, .sl 3 payC xs), (1, .sl 3 payC ys), (5, .val (.int .i64 k))], []⟩) (fun k => k ≤ xs.length ∧ xs.take k = ys.take k) (fun k => xs.length - k) 0 (fun _ _ st => st_sub2 st zR zP) ?hj0 ?round
  case hj0 => simp
  case round =>
   rintro k ⟨hk, hall⟩
   refine zS ?_
   refine w_cond rfl (fun hlt => ?_) (fun hlt => ?_)
   ·have hlt' : k < xs.length := by simpa using hlt
    have hlt2 : k < ys.length := by omega
    have hq1 : xs[k]? = some xs[k] := List.getElem?_eq_getElem hlt'
    have hq2 : ys[k]? = some ys[k] := List.getElem?_eq_getElem hlt2
    refine zS ?_
    refine W_run 8 [17, 18, 19, 20, 21, 22, 23, 24] [0, 1, 2, 3, 4, 5, 6, 7] Cut.nil rfl goFlt mixedS (by kernel_rfl) rfl ?_
    refine rpv [] [] ?_
    refine rpv [] [] ?_
    refine rpv [0, 1] [] ?_
    refine rpv [2] [] ?_
    refine rpv [] [] ?_
    refine rpv [] [] ?_
    refine rpv [4, 5] [] ?_
    refine rpv [6] [] ?_
    refine ⟨⟨by kernel_rfl, by kernel_rfl⟩, fun vs => ?_⟩
    apply WL_auto [3, 7]
    ·exact goPk
    ·exact goNrm
    ·kernel_rfl
    ·kernel_rfl
    refine zS ?_
    rw [payNe]
    refine w_cond rfl (fun hg => ?_) (fun hg => ?_)
    ·have hne' : xs ≠ ys := by intro e; subst e; simp at hg
     refine zS ?_
     (apply res1; exact rfl; exact rfl; exact ⟨(congrArg (fun b => AV.val (Value.bool b)) (by simp [hne'])), rfl⟩)
    ·refine zS ?_
     (refine ⟨k + 1, fun _ _ st => st_sub2 st ?_ ?_, ?_, ?_⟩; exact zR; exact zP)
     ·refine ⟨by omega, ?_⟩
      rw [List.take_succ_eq_append_getElem hlt', List.take_succ_eq_append_getElem hlt2, hall]
      simp at hg; rw [hg]
     ·omega
   ·refine zS ?_
    have hkk : k = xs.length := by simp at hlt; omega
    have he : xs = ys := by
     rw [List.take_of_length_le (by omega), List.take_of_length_le (by omega)] at hall; exact hall
    (apply res1; exact rfl; exact rfl; exact ⟨(congrArg (fun b => AV.val (Value.bool b)) (by simp [he])), rfl⟩)
theorem sml_small {f : Flo} (h : greatF f = false) : Sml f := by
 obtain ⟨h1, h2, h3, h4, h5⟩ := sml_of h
 exact ⟨by omega, by omega, by omega, by omega, fun b hb => by have := h5 b hb; omega⟩
end Go.Proofs.YtihonljdanjfmaaGreatDoor.Sw
namespace Go.Proofs.YtihonljdanjfmaaGreatDoor.Sw
open Go.RowKit Go Go.Shelf Go.Proofs
open Go.Proofs.YtihonljdanjfmaaGreatDoor.Gr (treeR pick Zr lf)
theorem cl_same {L M : List (Nat × Nat)} (h : ∀ p, p ∈ M → p ∈ L) {P : Nat → Bool} (k : Gr.Cl L P) : Gr.Cl M P := fun p hp => k p (h p hp)
theorem zr_same {n : Nat} {L M : List (Nat × Nat)} {x : Nat → Int} (h : ∀ p, p ∈ L ↔ p ∈ M) : Zr n L x ↔ Zr n M x :=
 ⟨fun k P hP => k P (cl_same (fun p hp => (h p).1 hp) hP), fun k P hP => k P (cl_same (fun p hp => (h p).2 hp) hP)⟩
theorem fewTo_nil {α : Type} {g : Nat → List α} : ∀ {m : Nat}, fewTo g m = [] ↔ ∀ k, k < m → g k = []
 | 0 => by simp [fewTo]
 | m + 1 => by
  have ih := fewTo_nil (g := g) (m := m)
  rw [fewTo]
  cases h : fewTo g m with
  | nil =>
   rw [if_pos (by rfl)]
   constructor
   ·intro e k hk
    by_cases hkm : k = m
    ·rw [hkm]; exact e
    ·exact ih.1 h k (by omega)
   ·intro h2; exact h2 m (by omega)
  | cons x t =>
   rw [if_neg (by simp)]
   constructor
   ·intro e; cases e
   ·intro h2
    have := ih.2 fun k hk => h2 k (by omega)
    rw [h] at this; exact this
end Go.Proofs.YtihonljdanjfmaaGreatDoor.Sw
namespace Go.Proofs.YtihonljdanjfmaaGreatDoor.Sw
open Go.RowKit Go Go.Shelf Go.Proofs
open Go.Proofs.YtihonljdanjfmaaGreatDoor.Gr (behR behS Ok Ord Forest Zr lf Ends amt payE)
theorem beh_bound {n : Nat} {x : Nat → Int} {L : List (Nat × Nat)} (hn : n ≤ 10) (hok : Ok n L) (ho : Ord L) (hf : Forest L) (hz : Zr n L x) (hb : ∀ v, v < n → -1000000000 ≤ x v ∧ x v ≤ 1000000000) {m a fr : Nat} (hg : Gr.Good n L m a fr) : -10000000000 ≤ behR x L m a fr ∧ behR x L m a fr ≤ 10000000000 := by
 obtain ⟨e, he, hio, _⟩ := hg.go
 obtain ⟨Q, _, h2⟩ := Gr.beh_sum hok ho hf hz m a fr e he hio hg
 have := sumP_bound (by omega) hb Q
 rw [h2]
 omega
theorem behR_succ (x : Nat → Int) (L : List (Nat × Nat)) (m a fr : Nat) : behR x L (m + 1) a fr = L.foldl (behS a fr fun b => behR x L m b a) (x a) := rfl
theorem behind_con (ph ow : Value) (f : Flo) (cu : List Int) (L : List (Nat × Nat)) (hn : f.ids.length ≤ 10) (hl : L.length ≤ 10) (hcl : cu.length = f.ids.length) (hbt : Btw (-1000000000) 1000000000 cu)
  (hok : Ok f.ids.length L) (ho : Ord L) (hf : Forest L) (hz : Zr f.ids.length L (lf cu)) : ∀ (m a fr : Nat), Gr.Good f.ids.length L m a fr → Con Tryz.prog 140 [.val ph, .sl 2 pnC L, .val (.int .i64 a), .val (.int .i64 fr)] [hsB ph f ow, .row ow 3 1 iC cu] (Is (.val (.int .i64 (behR (lf cu) L m a fr))) [hsB ph f ow, .row ow 3 1 iC cu]) := by
 have hbb : ∀ v, v < f.ids.length → -1000000000 ≤ lf cu v ∧ lf cu v ≤ 1000000000 := fun v hv => by
  have hv' : v < cu.length := by omega
  rw [lf_at hv']; exact hbt.at hv'
 intro m
 induction m with
 | zero => intro a fr hg; exact absurd (Gr.good_pos hok hg).1 (Nat.lt_irrefl _)
 | succ m ih =>
  intro a fr hg
  obtain ⟨_, han, hfn⟩ := Gr.good_pos hok hg
  have hac : a < cu.length := by omega
  have hxa := hbt.at hac
  rw [behR_succ, lf_at hac]
  refine con_of Tryz.func140 rfl (enters_of Tryz.func140 (by kernel_rfl) rfl) rfl ?_; intro n w0 F0 G0
  refine zS ?_;repeat(refine yA ?_;intro p hp;refine zS ?_)
  refine W_loopJ (fun (b : Nat × Int) => ⟨[(0, .val ph), (1, .sl 2 pnC L), (2, .val (.int .i64 a)), (3, .val (.int .i64 fr)), (22, .sl 2 pnC L), (23, .val (.int .i64 L.length)), (24, .val (.int .i64 b.1)), (9, .val (.int .i64 b.2))], [hsB ph f ow, .row ow 3 1 iC cu]⟩) (fun b => b.1 ≤ L.length ∧ b.2 = (L.take b.1).foldl (behS a fr fun b => behR (lf cu) L m b a) cu[a] ∧ -(1000000000 + 20000000000 * b.1) ≤ b.2 ∧ b.2 ≤ 1000000000 + 20000000000 * b.1) (fun b => L.length - b.1) (0, cu[a]) (fun _ _ st => st_sub2 st zR zP) ⟨Nat.zero_le _, rfl, by dsimp only; omega, by dsimp only; omega⟩ ?_
  rintro ⟨j, acc⟩ ⟨hj, hacc, hlo, hhi⟩
  dsimp only at hj hacc hlo hhi ⊢
  refine zS ?_;repeat(refine yA ?_;intro p hp;refine zS ?_)
  refine w_cond rfl (fun hlt => ?_) (fun hlt => ?_)
  ·have hj' : j < L.length := by simpa using hlt
   have hpL := List.getElem_mem hj'
   have hst : (L.take (j + 1)).foldl (behS a fr fun b => behR (lf cu) L m b a) cu[a] = behS a fr (fun b => behR (lf cu) L m b a) acc L[j] := by rw [List.take_succ_eq_append_getElem hj', List.foldl_append, ← hacc]; rfl
   have hp := hok.lt _ hpL
   have g1 : L[j].1 = a → L[j].2 ≠ fr → Gr.Good f.ids.length L m L[j].2 a := fun h1 h2 => Gr.good_step hok ho hf hg hpL (.inl ⟨h1, rfl⟩) h2
   have g2 : L[j].2 = a → L[j].1 ≠ fr → Gr.Good f.ids.length L m L[j].1 a := fun h1 h2 => Gr.good_step hok ho hf hg hpL (.inr ⟨rfl, h1⟩) h2
   have fin : ∀ acc', (L.take (j + 1)).foldl (behS a fr fun b => behR (lf cu) L m b a) cu[a] = acc' → -20000000000 ≤ acc' - acc → acc' - acc ≤ 20000000000 → j + 1 ≤ L.length ∧ acc' = (L.take (j + 1)).foldl (behS a fr fun b => behR (lf cu) L m b a) cu[a] ∧ -(1000000000 + 20000000000 * ((j + 1 : Nat) : Int)) ≤ acc' ∧ acc' ≤ 1000000000 + 20000000000 * ((j + 1 : Nat) : Int) := fun acc' h1 h2 h3 => ⟨hj', h1.symm, by omega, by omega⟩
   have hst : (L.take (j + 1)).foldl (behS a fr fun b => behR (lf cu) L m b a) cu[a] = if L[j].2 = a ∧ L[j].1 ≠ fr then (if L[j].1 = a ∧ L[j].2 ≠ fr then acc + behR (lf cu) L m L[j].2 a else acc) + behR (lf cu) L m L[j].1 a else (if L[j].1 = a ∧ L[j].2 ≠ fr then acc + behR (lf cu) L m L[j].2 a else acc) := hst
   refine zS ?_;repeat(refine yA ?_;intro p hp;refine zS ?_)
   generalize L[j] = e at *
   refine W_rounds 3 ?_
   refine WR_step ?_
   refine zS ?_;repeat(refine yA ?_;intro p hp;refine zS ?_)
   (apply wl_indexV1 (e := 3); exact Tryz.underlying122; exact rfl; exact rfl; exact (rfl : (0 : Int) = ((0 : Nat) : Int)); decide; exact rfl; exact rfl)
   refine zS ?_;repeat(refine yA ?_;intro p hp;refine zS ?_)
   refine wl_part rfl rfl (fun c1 => ?_) (fun c1 => ?_)
   ·have c1' : e.1 = a := by simp at c1; omega
    have c3n : ¬ (e.2 = a ∧ e.1 ≠ fr) := fun h => by omega
    refine zS ?_;repeat(refine yA ?_;intro p hp;refine zS ?_)
    refine w_cond rfl (fun c2 => ?_) (fun c2 => ?_)
    ·have c2' : e.2 ≠ fr := by simp at c2; omega
     rw [if_pos (show e.1 = a ∧ e.2 ≠ fr from ⟨c1', c2'⟩), if_neg c3n] at hst
     have hbd := beh_bound hn hok ho hf hz hbb (g1 c1' c2')
     refine zS ?_;repeat(refine yA ?_;intro p hp;refine zS ?_)
     (apply wl_callP (ih e.2 a (g1 c1' c2')); exact rfl; exact yC; exact rfl)
     rintro _ _ ⟨rfl, rfl⟩
     refine zS ?_;repeat(refine yA ?_;intro p hp;refine zS ?_)
     (apply wl_indexV1 (e := 3); exact Tryz.underlying122; exact rfl; exact rfl; exact (rfl : (0 + 1 : Int) = ((1 : Nat) : Int)); decide; exact rfl; exact rfl)
     refine zS ?_;repeat(refine yA ?_;intro p hp;refine zS ?_)
     refine wl_part rfl rfl (fun c3 => ?_) (fun c3 => ?_)
     ·exfalso; simp at c3; omega
     ·refine zS ?_;repeat(refine yA ?_;intro p hp;refine zS ?_)
      (refine ⟨(j + 1, acc + behR (lf cu) L m e.2 a), fun _ _ st => st_sub2 st ?_ ?_, ?_, ?_⟩; exact zR; exact zP)
      ·exact fin _ hst (by omega) (by omega)
      ·dsimp only; omega
    ·have c2' : ¬ (e.1 = a ∧ e.2 ≠ fr) := fun h => by simp at c2; omega
     rw [if_neg c2', if_neg c3n] at hst
     refine zS ?_;repeat(refine yA ?_;intro p hp;refine zS ?_)
     (apply wl_indexV1 (e := 3); exact Tryz.underlying122; exact rfl; exact rfl; exact (rfl : (0 + 1 : Int) = ((1 : Nat) : Int)); decide; exact rfl; exact rfl)
     refine zS ?_;repeat(refine yA ?_;intro p hp;refine zS ?_)
     refine wl_part rfl rfl (fun c3 => ?_) (fun c3 => ?_)
     ·exfalso; simp at c3; omega
     ·refine zS ?_;repeat(refine yA ?_;intro p hp;refine zS ?_)
      (refine ⟨(j + 1, acc), fun _ _ st => st_sub2 st ?_ ?_, ?_, ?_⟩; exact zR; exact zP)
      ·exact fin _ hst (by omega) (by omega)
      ·dsimp only; omega
   ·have c1' : ¬ (e.1 = a ∧ e.2 ≠ fr) := fun h => by simp at c1; omega
    rw [if_neg c1'] at hst
    refine zS ?_;repeat(refine yA ?_;intro p hp;refine zS ?_)
    (apply wl_indexV1 (e := 3); exact Tryz.underlying122; exact rfl; exact rfl; exact (rfl : (0 + 1 : Int) = ((1 : Nat) : Int)); decide; exact rfl; exact rfl)
    refine zS ?_;repeat(refine yA ?_;intro p hp;refine zS ?_)
    refine wl_part rfl rfl (fun c3 => ?_) (fun c3 => ?_)
    ·have c3' : e.2 = a := by simp at c3; omega
     refine zS ?_;repeat(refine yA ?_;intro p hp;refine zS ?_)
     refine w_cond rfl (fun c4 => ?_) (fun c4 => ?_)
     ·have c4' : e.1 ≠ fr := by simp at c4; omega
      rw [if_pos (show e.2 = a ∧ e.1 ≠ fr from ⟨c3', c4'⟩)] at hst
      have hbd := beh_bound hn hok ho hf hz hbb (g2 c3' c4')
      refine zS ?_;repeat(refine yA ?_;intro p hp;refine zS ?_)
      (apply wl_callP (ih e.1 a (g2 c3' c4')); exact rfl; exact yC; exact rfl)
      rintro _ _ ⟨rfl, rfl⟩
      refine zS ?_;repeat(refine yA ?_;intro p hp;refine zS ?_)
      (refine ⟨(j + 1, acc + behR (lf cu) L m e.1 a), fun _ _ st => st_sub2 st ?_ ?_, ?_, ?_⟩; exact zR; exact zP)
      ·exact fin _ hst (by omega) (by omega)
      ·dsimp only; omega
     ·have c4' : ¬ (e.2 = a ∧ e.1 ≠ fr) := fun h => by simp at c4; omega
      rw [if_neg c4'] at hst
      refine zS ?_;repeat(refine yA ?_;intro p hp;refine zS ?_)
      (refine ⟨(j + 1, acc), fun _ _ st => st_sub2 st ?_ ?_, ?_, ?_⟩; exact zR; exact zP)
      ·exact fin _ hst (by omega) (by omega)
      ·dsimp only; omega
    ·have c3' : ¬ (e.2 = a ∧ e.1 ≠ fr) := fun h => by simp at c3; omega
     rw [if_neg c3'] at hst
     refine zS ?_;repeat(refine yA ?_;intro p hp;refine zS ?_)
     (refine ⟨(j + 1, acc), fun _ _ st => st_sub2 st ?_ ?_, ?_, ?_⟩; exact zR; exact zP)
     ·exact fin _ hst (by omega) (by omega)
     ·dsimp only; omega
  ·have hjj : j = L.length := by simp at hlt; omega
   subst hjj
   rw [List.take_length] at hacc
   rw [← hacc]
   refine zS ?_;repeat(refine yA ?_;intro p hp;refine zS ?_)
   (apply resK1; exact rfl; exact rfl; exact ⟨rfl, rfl⟩; exact yC)
end Go.Proofs.YtihonljdanjfmaaGreatDoor.Sw
