/- Proofs for one card: FloorC, FloorJ, FloorK, FloorL, Door8, FloorV, FloorW, FloorX, FloorY, FloorM. No condition of its own. -/
import Derived.ChangeSame
import Derived.Deep.Strs
import Derived.Test.YtihonljdanjfmaaDoorZp3
/- The program's 'in', 'rising', 'of', and what of Go's slices they lean on. -/
namespace Go.Proofs.YtihonljdanjfmaaDoor.Sw
open Go.RowKit Go Go.Shelf Go.Proofs
set_option maxRecDepth 20000 in
theorem indexI_con (xs : List Int) (x : Int) (hl : xs.length ≤ 1000000) : Con Tryd.prog 111 [.sl 1 iC xs, .val (.int .i64 x)] [] (Is (.val (.int .i64 (ixOf xs x))) []) := by
  refine con_of Tryd.func111 rfl (enters_of Tryd.func111 (by kernel_rfl) rfl) rfl ?_; intro n w0 F0 G0
  (refine goSt ?_; (repeat (refine goAl ?_; intro p hp; refine goSt ?_)))
  refine W_loopJ (fun (k : Nat) => ⟨[(0, .sl 1 iC xs), (1, .val (.int .i64 x)), (7, .val (.int .i64 xs.length)), (8, .val (.int .i64 k))], []⟩) (fun k => k ≤ xs.length ∧ x ∉ xs.take k) (fun k => xs.length - k) 0 (fun _ _ st => st_sub2 st goSubr goSubp) ?hj0 ?round
  case hj0 => simp
  case round =>
    rintro k ⟨hk, hno⟩
    (refine goSt ?_; (repeat (refine goAl ?_; intro p hp; refine goSt ?_)))
    refine w_cond rfl (fun hlt => ?_) (fun hlt => ?_)
    · have hlt' : k < xs.length := by simpa using hlt
      (refine goSt ?_; (repeat (refine goAl ?_; intro p hp; refine goSt ?_)))
      refine w_cond rfl (fun he => ?_) (fun he => ?_)
      · (refine goSt ?_; (repeat (refine goAl ?_; intro p hp; refine goSt ?_)))
        (apply res1; exact rfl; exact rfl; exact ⟨(congrArg (fun b => AV.val (Value.int .i64 b)) (ixOf_at hlt' hno (by simp at he; exact he.symm)).symm), rfl⟩)
      · (refine goSt ?_; (repeat (refine goAl ?_; intro p hp; refine goSt ?_)))
        (refine ⟨k + 1, fun _ _ st => st_sub2 st ?_ ?_, ?_, ?_⟩; exact goSubr; exact goSubp)
        · refine ⟨by omega, ?_⟩
          rw [List.take_succ_eq_append_getElem hlt', List.mem_append, not_or]
          exact ⟨hno, by simp at he; simpa using he⟩
        · omega
    · (refine goSt ?_; (repeat (refine goAl ?_; intro p hp; refine goSt ?_)))
      have hkk : k = xs.length := by simp at hlt; omega
      subst hkk
      rw [List.take_length] at hno
      (apply res1; exact rfl; exact rfl; exact ⟨(congrArg (fun b => AV.val (Value.int .i64 b)) (ixOf_none hno).symm), rfl⟩)
set_option maxRecDepth 20000 in
theorem containsI_con (xs : List Int) (x : Int) (hl : xs.length ≤ 1000000) : Con Tryd.prog 109 [.sl 1 iC xs, .val (.int .i64 x)] [] (Is (.val (.bool (decide (x ∈ xs)))) []) := by
  refine con_of Tryd.func109 rfl (enters_of Tryd.func109 (by kernel_rfl) rfl) rfl ?_; intro n w0 F0 G0
  (refine goSt ?_; (repeat (refine goAl ?_; intro p hp; refine goSt ?_)))
  (first | (apply wl_call (indexI_con xs x hl); exact rfl; exact rfl) | (apply wl_callR (indexI_con xs x hl); exact rfl; exact goAtm; exact rfl))
  (refine goSt ?_; (repeat (refine goAl ?_; intro p hp; refine goSt ?_)))
  (apply res1; exact rfl; exact rfl; exact ⟨(congrArg (fun b => AV.val (Value.bool b)) ixOf_ge), rfl⟩)
/-- The index of the first that is so; -1 if there is none. -/
def fiX {α : Type} (p : α → Bool) (xs : List α) : Int := if xs.any p = true then (xs.findIdx p : Int) else -1
theorem fiX_none {α : Type} {p : α → Bool} {xs : List α} (h : xs.any p = false) : fiX p xs = -1 := by unfold fiX; rw [if_neg (by rw [h]; simp)]
theorem fiX_at {α : Type} {p : α → Bool} {xs : List α} {k : Nat} (hk : k < xs.length) (h1 : (xs.take k).any p = false) (h2 : p xs[k] = true) : fiX p xs = k := by
  unfold fiX
  rw [if_pos (List.any_eq_true.2 ⟨_, List.getElem_mem hk, h2⟩)]
  congr 1
  rw [List.findIdx_eq hk]
  refine ⟨h2, fun j hj => ?_⟩
  have := List.any_eq_false.1 h1 xs[j] (by
    rw [List.mem_iff_getElem]
    exact ⟨j, by rw [List.length_take]; omega, by rw [List.getElem_take]⟩)
  simpa using this
theorem fiX_ge {α : Type} {p : α → Bool} {xs : List α} : decide (0 ≤ fiX p xs) = xs.any p := by
  unfold fiX
  cases h : xs.any p
  · simp
  · simp
set_option maxRecDepth 20000 in
theorem indexFuncI_con (xs : List Int) (k : FuncId) (caps : List AV) (p : Int → Bool) (hl : xs.length ≤ 1000000) (hc : ∀ x ∈ xs, Con Tryd.prog k ([.val (.int .i64 x)] ++ caps) [] (Is (.val (.bool (p x))) [])) : Con Tryd.prog 152 [.sl 1 iC xs, .clo k caps] [] (Is (.val (.int .i64 (fiX p xs))) []) := by
  refine con_of Tryd.func152 rfl (enters_of Tryd.func152 (by kernel_rfl) rfl) rfl ?_; intro n w0 F0 G0
  (refine goSt ?_; (repeat (refine goAl ?_; intro p hp; refine goSt ?_)))
  refine W_loopJ (fun (m : Nat) => ⟨[(0, .sl 1 iC xs), (1, .clo k caps), (7, .val (.int .i64 xs.length)), (8, .val (.int .i64 m))], []⟩) (fun m => m ≤ xs.length ∧ (xs.take m).any p = false) (fun m => xs.length - m) 0 (fun _ _ st => st_sub2 st goSubr goSubp) ?hj0 ?round
  case hj0 => simp
  case round =>
    rintro m ⟨hk, hno⟩
    (refine goSt ?_; (repeat (refine goAl ?_; intro p hp; refine goSt ?_)))
    refine w_cond rfl (fun hlt => ?_) (fun hlt => ?_)
    · have hlt' : m < xs.length := by simpa using hlt
      (refine goSt ?_; (repeat (refine goAl ?_; intro p hp; refine goSt ?_)))
      (apply wl_callV (hc xs[m] (List.getElem_mem hlt')); exact rfl; exact rfl; exact rfl)
      (refine goSt ?_; (repeat (refine goAl ?_; intro p hp; refine goSt ?_)))
      refine w_cond rfl (fun he => ?_) (fun he => ?_)
      · (refine goSt ?_; (repeat (refine goAl ?_; intro p hp; refine goSt ?_)))
        (apply res1; exact rfl; exact rfl; exact ⟨(congrArg (fun b => AV.val (Value.int .i64 b)) (fiX_at hlt' hno he).symm), rfl⟩)
      · (refine goSt ?_; (repeat (refine goAl ?_; intro p hp; refine goSt ?_)))
        (refine ⟨m + 1, fun _ _ st => st_sub2 st ?_ ?_, ?_, ?_⟩; exact goSubr; exact goSubp)
        · refine ⟨by omega, ?_⟩
          rw [List.take_succ_eq_append_getElem hlt', List.any_append, hno]
          simpa using he
        · omega
    · (refine goSt ?_; (repeat (refine goAl ?_; intro p hp; refine goSt ?_)))
      have hkk : m = xs.length := by simp at hlt; omega
      subst hkk
      rw [List.take_length] at hno
      (apply res1; exact rfl; exact rfl; exact ⟨(congrArg (fun b => AV.val (Value.int .i64 b)) (fiX_none hno).symm), rfl⟩)
set_option maxRecDepth 20000 in
theorem containsFuncI_con (xs : List Int) (k : FuncId) (caps : List AV) (p : Int → Bool) (hl : xs.length ≤ 1000000) (hc : ∀ x ∈ xs, Con Tryd.prog k ([.val (.int .i64 x)] ++ caps) [] (Is (.val (.bool (p x))) [])) : Con Tryd.prog 125 [.sl 1 iC xs, .clo k caps] [] (Is (.val (.bool (xs.any p))) []) := by
  refine con_of Tryd.func125 rfl (enters_of Tryd.func125 (by kernel_rfl) rfl) rfl ?_; intro n w0 F0 G0
  (refine goSt ?_; (repeat (refine goAl ?_; intro p hp; refine goSt ?_)))
  (first | (apply wl_call (indexFuncI_con xs k caps p hl hc); exact rfl; exact rfl) | (apply wl_callR (indexFuncI_con xs k caps p hl hc); exact rfl; exact goAtm; exact rfl))
  (refine goSt ?_; (repeat (refine goAl ?_; intro p hp; refine goSt ?_)))
  (apply res1; exact rfl; exact rfl; exact ⟨(congrArg (fun b => AV.val (Value.bool b)) fiX_ge), rfl⟩)
set_option maxRecDepth 20000 in
theorem in1_con (n lo hi : Int) : Con Tryd.prog 126 [.val (.int .i64 n), .fp 1 [.val (.int .i64 lo)], .fp 1 [.val (.int .i64 hi)]] [] (Is (.val (.bool (decide (n < lo) || decide (hi < n)))) []) := by
  refine con_of Tryd.func126 rfl (enters_of Tryd.func126 (by kernel_rfl) rfl) rfl ?_; intro n w0 F0 G0
  (refine goSt ?_; (repeat (refine goAl ?_; intro p hp; refine goSt ?_)))
  refine wl_part rfl rfl (fun h => ?_) (fun h => ?_)
  · (refine goSt ?_; (repeat (refine goAl ?_; intro p hp; refine goSt ?_)))
    (apply res1; exact rfl; exact rfl; exact ⟨(congrArg (fun b => AV.val (Value.bool b)) (by simp [h])), rfl⟩)
  · (refine goSt ?_; (repeat (refine goAl ?_; intro p hp; refine goSt ?_)))
    (apply res1; exact rfl; exact rfl; exact ⟨(congrArg (fun b => AV.val (Value.bool b)) (by simp [h])), rfl⟩)
set_option maxRecDepth 20000 in
theorem in_con (lo hi : Int) (xs : List Int) (hl : xs.length ≤ 1000000) : Con Tryd.prog 83 [.val (.int .i64 lo), .val (.int .i64 hi), .sl 1 iC xs] [] (Is (.val (.bool (!xs.any fun n => decide (n < lo) || decide (hi < n)))) []) := by
  refine con_of Tryd.func83 rfl (enters_of Tryd.func83 (by kernel_rfl) rfl) rfl ?_; intro n w0 F0 G0
  (refine goSt ?_; (repeat (refine goAl ?_; intro p hp; refine goSt ?_)))
  (apply WL_frzC 8 0 1; exact rfl; exact rfl; exact goRm)
  (apply WL_frzC 8 1 1; exact rfl; exact rfl; exact goRm)
  (first | (apply wl_call (containsFuncI_con xs _ _ _ hl (fun x _ => in1_con x lo hi)); exact rfl; exact rfl) | (apply wl_callR (containsFuncI_con xs _ _ _ hl (fun x _ => in1_con x lo hi)); exact rfl; exact goAtm; exact rfl))
  (refine goSt ?_; (repeat (refine goAl ?_; intro p hp; refine goSt ?_)))
  (apply res1; exact rfl; exact rfl; exact ⟨rfl, rfl⟩)
end Go.Proofs.YtihonljdanjfmaaDoor.Sw
/- The program's 'rising' and 'of'. -/
namespace Go.Proofs.YtihonljdanjfmaaDoor.Sw
open Go.RowKit Go Go.Shelf Go.Proofs
theorem in_one (lo hi n : Int) : (!([n].any fun n => decide (n < lo) || decide (hi < n))) = (decide (lo ≤ n) && decide (n ≤ hi)) := by
  simp only [List.any_cons, List.any_nil, Bool.or_false, Bool.not_or, ← decide_not, Int.not_lt]
theorem inOne_con (lo hi n : Int) : Con Tryd.prog 83 [.val (.int .i64 lo), .val (.int .i64 hi), .sl 1 iC [n]] [] (Is (.val (.bool (decide (lo ≤ n) && decide (n ≤ hi)))) []) := by
  have := in_con lo hi [n] (by simp)
  rwa [in_one] at this
set_option maxRecDepth 20000 in
theorem rising_con (xs : List Int) (hl : xs.length ≤ 1000000) : Con Tryd.prog 130 [.sl 1 iC xs] [] (Is (.val (.bool (rises 0 xs))) []) := by
  refine con_of Tryd.func130 rfl (enters_of Tryd.func130 (by kernel_rfl) rfl) rfl ?_; intro n w0 F0 G0
  (refine goSt ?_; (repeat (refine goAl ?_; intro p hp; refine goSt ?_)))
  refine W_loopJ (fun (b : Nat × Int) => ⟨[(6, .sl 1 iC xs), (7, .val (.int .i64 xs.length)), (8, .val (.int .i64 b.1)), (3, .val (.int .i64 b.2))], []⟩) (fun b => b.1 ≤ xs.length ∧ rises b.2 (xs.drop b.1) = rises 0 xs ∧ 0 ≤ b.2 ∧ b.2 ≤ 9999) (fun b => xs.length - b.1) (0, 0) (fun _ _ st => st_sub2 st goSubr goSubp) ?hj0 ?round
  case hj0 => simp
  case round =>
    rintro ⟨k, last⟩ ⟨hk, hno, hl0, hl1⟩
    dsimp only at hk hno hl0 hl1 ⊢
    (refine goSt ?_; (repeat (refine goAl ?_; intro p hp; refine goSt ?_)))
    refine w_cond rfl (fun hlt => ?_) (fun hlt => ?_)
    · have hlt' : k < xs.length := by simpa using hlt
      rw [drop_step hlt', rises] at hno
      (refine goSt ?_; (repeat (refine goAl ?_; intro p hp; refine goSt ?_)))
      (apply wl_litF iC; exact inferInstance; exact inferInstance; exact inferInstance; (repeat (first | exact Elems.nil | (apply Elems.cons; exact rfl; exact inferInstance; exact rfl))); exact rfl; (first | exact (of_decide_eq_true rfl) | decide | (simp; done) | (simp; omega)); exact rfl)
      (refine goSt ?_; (repeat (refine goAl ?_; intro p hp; refine goSt ?_)))
      (first | (apply wl_call (inOne_con _ _ _); exact rfl; exact rfl) | (apply wl_callR (inOne_con _ _ _); exact rfl; exact goAtm; exact rfl))
      (refine goSt ?_; (repeat (refine goAl ?_; intro p hp; refine goSt ?_)))
      refine w_cond rfl (fun g3 => ?_) (fun g3 => ?_)
      · (refine goSt ?_; (repeat (refine goAl ?_; intro p hp; refine goSt ?_)))
        (apply res1; exact rfl; exact rfl; exact ⟨(congrArg (fun b => AV.val (Value.bool b)) (by rw [← hno]; simp only [Bool.not_eq_true'] at g3; simp [g3])), rfl⟩)
      · have g3' : (decide (last + 1 ≤ xs[k]) && decide (xs[k] ≤ 9999)) = true := by simpa using g3
        rw [g3', Bool.true_and] at hno
        simp only [Bool.and_eq_true, decide_eq_true_eq] at g3'
        (refine goSt ?_; (repeat (refine goAl ?_; intro p hp; refine goSt ?_)))
        (refine ⟨(k + 1, xs[k]), fun _ _ st => st_sub2 st ?_ ?_, ?_, ?_⟩; exact goSubr; exact goSubp)
        · exact ⟨hlt', hno, by dsimp only; omega, by dsimp only; omega⟩
        · dsimp only; omega
    · (refine goSt ?_; (repeat (refine goAl ?_; intro p hp; refine goSt ?_)))
      have hkk : k = xs.length := by simp at hlt; omega
      subst hkk
      rw [List.drop_length, rises] at hno
      (apply res1; exact rfl; exact rfl; exact ⟨(congrArg (fun b => AV.val (Value.bool b)) hno), rfl⟩)
set_option maxRecDepth 20000 in
theorem of1_con (x : Int) (all : List Int) (hl : all.length ≤ 1000000) : Con Tryd.prog 131 [.val (.int .i64 x), .fp 1 [.sl 1 iC all]] [] (Is (.val (.bool (!decide (x ∈ all)))) []) := by
  refine con_of Tryd.func131 rfl (enters_of Tryd.func131 (by kernel_rfl) rfl) rfl ?_; intro n w0 F0 G0
  (refine goSt ?_; (repeat (refine goAl ?_; intro p hp; refine goSt ?_)))
  (first | (apply wl_call (containsI_con all x hl); exact rfl; exact rfl) | (apply wl_callR (containsI_con all x hl); exact rfl; exact goAtm; exact rfl))
  (refine goSt ?_; (repeat (refine goAl ?_; intro p hp; refine goSt ?_)))
  (apply res1; exact rfl; exact rfl; exact ⟨rfl, rfl⟩)
set_option maxRecDepth 20000 in
theorem of_con (xs all : List Int) (hl : xs.length ≤ 1000000) (hl2 : all.length ≤ 1000000) : Con Tryd.prog 91 [.sl 1 iC xs, .sl 1 iC all] [] (Is (.val (.bool (rises 0 xs && !xs.any fun n => !decide (n ∈ all)))) []) := by
  refine con_of Tryd.func91 rfl (enters_of Tryd.func91 (by kernel_rfl) rfl) rfl ?_; intro n w0 F0 G0
  (refine goSt ?_; (repeat (refine goAl ?_; intro p hp; refine goSt ?_)))
  (first | (apply wl_call (rising_con xs hl); exact rfl; exact rfl) | (apply wl_callR (rising_con xs hl); exact rfl; exact goAtm; exact rfl))
  (refine goSt ?_; (repeat (refine goAl ?_; intro p hp; refine goSt ?_)))
  refine wl_part rfl rfl (fun g => ?_) (fun g => ?_)
  · (refine goSt ?_; (repeat (refine goAl ?_; intro p hp; refine goSt ?_)))
    (apply WL_frzC 9 0 1; exact rfl; exact rfl; exact goRm)
    (first | (apply wl_call (containsFuncI_con xs _ _ _ hl (fun x _ => of1_con x all hl2)); exact rfl; exact rfl) | (apply wl_callR (containsFuncI_con xs _ _ _ hl (fun x _ => of1_con x all hl2)); exact rfl; exact goAtm; exact rfl))
    (refine goSt ?_; (repeat (refine goAl ?_; intro p hp; refine goSt ?_)))
    (apply res1; exact rfl; exact rfl; exact ⟨(congrArg (fun b => AV.val (Value.bool b)) (by rw [g, Bool.true_and])), rfl⟩)
  · (refine goSt ?_; (repeat (refine goAl ?_; intro p hp; refine goSt ?_)))
    (apply res1; exact rfl; exact rfl; exact ⟨(congrArg (fun b => AV.val (Value.bool b)) (by rw [g]; rfl)), rfl⟩)
end Go.Proofs.YtihonljdanjfmaaDoor.Sw
/- The program's orders, and 'made'. -/
namespace Go.Proofs.YtihonljdanjfmaaDoor.Sw
open Go.RowKit Go Go.Shelf Go.Proofs
def cmpR (x y : Int) : Int := if x < y then -1 else if y < x then 1 else 0
def firstNZ : List Int → Int
  | [] => 0
  | v :: t => if v = 0 then firstNZ t else v
set_option maxRecDepth 20000 in
theorem isNaN_con (x : Int) : Con Tryd.prog 123 [.val (.int .i64 x)] [] (Is (.val (.bool false)) []) := by
  refine con_of Tryd.func123 rfl (enters_of Tryd.func123 (by kernel_rfl) rfl) rfl ?_; intro n w0 F0 G0
  (refine goSt ?_; (repeat (refine goAl ?_; intro p hp; refine goSt ?_)))
  (apply res1; exact rfl; exact rfl; exact ⟨(congrArg (fun b => AV.val (Value.bool b)) (by simp)), rfl⟩)
set_option maxRecDepth 20000 in
theorem compare_con (x y : Int) : Con Tryd.prog 81 [.val (.int .i64 x), .val (.int .i64 y)] [] (Is (.val (.int .i64 (cmpR x y))) []) := by
  refine con_of Tryd.func81 rfl (enters_of Tryd.func81 (by kernel_rfl) rfl) rfl ?_; intro n w0 F0 G0
  (refine goSt ?_; (repeat (refine goAl ?_; intro p hp; refine goSt ?_)))
  (first | (apply wl_call (isNaN_con x); exact rfl; exact rfl) | (apply wl_callR (isNaN_con x); exact rfl; exact goAtm; exact rfl))
  (refine goSt ?_; (repeat (refine goAl ?_; intro p hp; refine goSt ?_)))
  (first | (apply wl_call (isNaN_con y); exact rfl; exact rfl) | (apply wl_callR (isNaN_con y); exact rfl; exact goAtm; exact rfl))
  (refine goSt ?_; (repeat (refine goAl ?_; intro p hp; refine goSt ?_)))
  refine w_cond rfl (fun h1 => ?_) (fun h1 => ?_)
  · have : cmpR x y = -1 := if_pos (by simpa using h1)
    (refine goSt ?_; (repeat (refine goAl ?_; intro p hp; refine goSt ?_)))
    (apply res1; exact rfl; exact rfl; exact ⟨(congrArg (fun b => AV.val (Value.int .i64 b)) this.symm), rfl⟩)
  · (refine goSt ?_; (repeat (refine goAl ?_; intro p hp; refine goSt ?_)))
    refine w_cond rfl (fun h2 => ?_) (fun h2 => ?_)
    · have : cmpR x y = 1 := by unfold cmpR; rw [if_neg (by simpa using h1), if_pos (by simpa using h2)]
      (refine goSt ?_; (repeat (refine goAl ?_; intro p hp; refine goSt ?_)))
      (apply res1; exact rfl; exact rfl; exact ⟨(congrArg (fun b => AV.val (Value.int .i64 b)) this.symm), rfl⟩)
    · have : cmpR x y = 0 := by unfold cmpR; rw [if_neg (by simpa using h1), if_neg (by simpa using h2)]
      (refine goSt ?_; (repeat (refine goAl ?_; intro p hp; refine goSt ?_)))
      (apply res1; exact rfl; exact rfl; exact ⟨(congrArg (fun b => AV.val (Value.int .i64 b)) this.symm), rfl⟩)
set_option maxRecDepth 20000 in
theorem or_con (xs : List Int) (hl : xs.length ≤ 1000000) : Con Tryd.prog 121 [.sl 1 iC xs] [] (Is (.val (.int .i64 (firstNZ xs))) []) := by
  refine con_of Tryd.func121 rfl (enters_of Tryd.func121 (by kernel_rfl) rfl) rfl ?_; intro n w0 F0 G0
  (refine goSt ?_; (repeat (refine goAl ?_; intro p hp; refine goSt ?_)))
  refine W_loopJ (fun (k : Nat) => ⟨[(3, .val (.int .i64 0)), (6, .sl 1 iC xs), (7, .val (.int .i64 xs.length)), (8, .val (.int .i64 k))], []⟩) (fun k => k ≤ xs.length ∧ firstNZ (xs.drop k) = firstNZ xs) (fun k => xs.length - k) 0 (fun _ _ st => st_sub2 st goSubr goSubp) ?hj0 ?round
  case hj0 => simp
  case round =>
    rintro k ⟨hk, hno⟩
    (refine goSt ?_; (repeat (refine goAl ?_; intro p hp; refine goSt ?_)))
    refine w_cond rfl (fun hlt => ?_) (fun hlt => ?_)
    · have hlt' : k < xs.length := by simpa using hlt
      rw [drop_step hlt', firstNZ] at hno
      (refine goSt ?_; (repeat (refine goAl ?_; intro p hp; refine goSt ?_)))
      refine w_cond rfl (fun he => ?_) (fun he => ?_)
      · rw [if_neg (by simpa using he)] at hno
        (refine goSt ?_; (repeat (refine goAl ?_; intro p hp; refine goSt ?_)))
        (apply res1; exact rfl; exact rfl; exact ⟨(congrArg (fun b => AV.val (Value.int .i64 b)) hno), rfl⟩)
      · rw [if_pos (by simpa using he)] at hno
        (refine goSt ?_; (repeat (refine goAl ?_; intro p hp; refine goSt ?_)))
        (refine ⟨k + 1, fun _ _ st => st_sub2 st ?_ ?_, ?_, ?_⟩; exact goSubr; exact goSubp)
        · exact ⟨hlt', hno⟩
        · omega
    · (refine goSt ?_; (repeat (refine goAl ?_; intro p hp; refine goSt ?_)))
      have hkk : k = xs.length := by simp at hlt; omega
      subst hkk
      rw [List.drop_length, firstNZ] at hno
      (apply res1; exact rfl; exact rfl; exact ⟨(congrArg (fun b => AV.val (Value.int .i64 b)) hno), rfl⟩)
set_option maxRecDepth 20000 in
theorem made_con (f : Flo) (x : Pay) (hl : f.ids.length ≤ 1000000) : Con Tryd.prog 56 [.agg (flC f), .agg (payC x)] [] (Is (.val (.bool (payOk f.ids x))) []) := by
  refine con_of Tryd.func56 rfl (enters_of Tryd.func56 (by kernel_rfl) rfl) rfl ?_; intro n w0 F0 G0
  (refine goSt ?_; (repeat (refine goAl ?_; intro p hp; refine goSt ?_)))
  (first | (apply wl_call (containsI_con f.ids x.a hl); exact rfl; exact rfl) | (apply wl_callR (containsI_con f.ids x.a hl); exact rfl; exact goAtm; exact rfl))
  (refine goSt ?_; (repeat (refine goAl ?_; intro p hp; refine goSt ?_)))
  refine wl_part rfl rfl (fun h1 => ?_) (fun h1 => ?_)
  rotate_left
  · (refine goSt ?_; (repeat (refine goAl ?_; intro p hp; refine goSt ?_)))
    (apply res1; exact rfl; exact rfl; exact ⟨(congrArg (fun b => AV.val (Value.bool b)) (by simp [payOk, h1])), rfl⟩)
  · (refine goSt ?_; (repeat (refine goAl ?_; intro p hp; refine goSt ?_)))
    (first | (apply wl_call (containsI_con f.ids x.b hl); exact rfl; exact rfl) | (apply wl_callR (containsI_con f.ids x.b hl); exact rfl; exact goAtm; exact rfl))
    (refine goSt ?_; (repeat (refine goAl ?_; intro p hp; refine goSt ?_)))
    refine wl_part rfl rfl (fun h2 => ?_) (fun h2 => ?_)
    rotate_left
    · (refine goSt ?_; (repeat (refine goAl ?_; intro p hp; refine goSt ?_)))
      (apply res1; exact rfl; exact rfl; exact ⟨(congrArg (fun b => AV.val (Value.bool b)) (by simp [payOk, h2])), rfl⟩)
    · (refine goSt ?_; (repeat (refine goAl ?_; intro p hp; refine goSt ?_)))
      refine wl_part rfl rfl (fun h3 => ?_) (fun h3 => ?_)
      rotate_left
      · (refine goSt ?_; (repeat (refine goAl ?_; intro p hp; refine goSt ?_)))
        (apply res1; exact rfl; exact rfl; exact ⟨(congrArg (fun b => AV.val (Value.bool b)) (by simp at h3; simp [payOk, h3])), rfl⟩)
      · (refine goSt ?_; (repeat (refine goAl ?_; intro p hp; refine goSt ?_)))
        (apply wl_litF iC; exact inferInstance; exact inferInstance; exact inferInstance; (repeat (first | exact Elems.nil | (apply Elems.cons; exact rfl; exact inferInstance; exact rfl))); exact rfl; (first | exact (of_decide_eq_true rfl) | decide | (simp; done) | (simp; omega)); exact rfl)
        (refine goSt ?_; (repeat (refine goAl ?_; intro p hp; refine goSt ?_)))
        (first | (apply wl_call (inOne_con _ _ _); exact rfl; exact rfl) | (apply wl_callR (inOne_con _ _ _); exact rfl; exact goAtm; exact rfl))
        (refine goSt ?_; (repeat (refine goAl ?_; intro p hp; refine goSt ?_)))
        (apply res1; exact rfl; exact rfl; exact ⟨(congrArg (fun b => AV.val (Value.bool b)) (by simp at h1 h2 h3; simp [payOk, h1, h2, h3])), rfl⟩)
end Go.Proofs.YtihonljdanjfmaaDoor.Sw
/- The program's order of quarrels. -/
namespace Go.Proofs.YtihonljdanjfmaaDoor.Sw
open Go.RowKit Go Go.Shelf Go.Proofs
def quCmp (x y : Qu) : Int := firstNZ [cmpR x.a y.a, cmpR x.b y.b]
theorem quCmp_ge (x y : Qu) : decide (0 ≤ quCmp x y) = !qLt x y := by
  unfold quCmp firstNZ firstNZ firstNZ cmpR qLt
  by_cases h1 : x.a < y.a
  · simp [h1]
  · by_cases h2 : y.a < x.a
    · have : ¬ x.a = y.a := by omega
      simp [h1, h2, this]
    · have e : x.a = y.a := by omega
      by_cases h3 : x.b < y.b
      · simp [e, h3]
      · by_cases h4 : y.b < x.b
        · simp [e, h3, h4]
        · simp [e, h3, h4]
set_option maxRecDepth 20000 in
theorem quarrels_con (x y : Qu) : Con Tryd.prog 74 [.agg (quC x), .agg (quC y)] [] (Is (.val (.int .i64 (quCmp x y))) []) := by
  refine con_of Tryd.func74 rfl (enters_of Tryd.func74 (by kernel_rfl) rfl) rfl ?_; intro n w0 F0 G0
  (refine goSt ?_; (repeat (refine goAl ?_; intro p hp; refine goSt ?_)))
  rename_i pf hpf
  refine W_run 9 [5, 6, 7, 8, 9, 10, 11, 12, 13] [0, 1, 2, 3, 4, 5, 6, 7, 8] Cut.nil rfl goFlt mixedS (by kernel_rfl) rfl ?_
  refine rpv [] [] ?_
  refine rpv [0] [] ?_
  refine rpv [] [] ?_
  refine rpv [2] [] ?_
  refine Run.pv [1, 3] [] rfl (fun vs => by apply ltr_pk; exact goPk; (refine ltr ?_; refine lt_call ?_ ((compare_con x.a y.a)); exact rfl)) goApp ?_
  refine rpv [] [] ?_
  refine rpv [5] [] ?_
  refine rpv [] [] ?_
  refine rpv [7] [] ?_
  refine ⟨⟨by kernel_rfl, by kernel_rfl⟩, fun vs => ?_⟩
  refine WL_to [(9, .val (.int .i64 (cmpR x.a y.a))), (11, .val (.int .i64 x.b)), (13, .val (.int .i64 y.b))] [.box p (quC y) 55, .box pf (quC x) 55] (by kernel_rfl) (by kernel_rfl) ?_
  (refine goSt ?_; (repeat (refine goAl ?_; intro p hp; refine goSt ?_)))
  (first | (apply wl_call (compare_con x.b y.b); exact rfl; exact rfl) | (apply wl_callR (compare_con x.b y.b); exact rfl; exact goAtm; exact rfl))
  (refine goSt ?_; (repeat (refine goAl ?_; intro p hp; refine goSt ?_)))
  (apply wl_litF iC; exact inferInstance; exact inferInstance; exact inferInstance; (repeat (first | exact Elems.nil | (apply Elems.cons; exact rfl; exact inferInstance; exact rfl))); exact rfl; (first | exact (of_decide_eq_true rfl) | decide | (simp; done) | (simp; omega)); exact rfl)
  (refine goSt ?_; (repeat (refine goAl ?_; intro p hp; refine goSt ?_)))
  (first | (apply wl_call (or_con [cmpR x.a y.a, cmpR x.b y.b] (by simp)); exact rfl; exact rfl) | (apply wl_callR (or_con [cmpR x.a y.a, cmpR x.b y.b] (by simp)); exact rfl; exact goAtm; exact rfl))
  (refine goSt ?_; (repeat (refine goAl ?_; intro p hp; refine goSt ?_)))
  (apply res1; exact rfl; exact rfl; exact ⟨rfl, rfl⟩)
end Go.Proofs.YtihonljdanjfmaaDoor.Sw
/- The program's checks of floors: lengths and rising numbers; payments. -/
namespace Go.Proofs.YtihonljdanjfmaaDoor.Sw
open Go.RowKit Go Go.Shelf Go.Proofs
set_option maxRecDepth 20000 in
theorem check1_con (f : Flo) (hS : Sml f) : Con Tryd.prog 215 [.agg (flC f)] [] (Is (.val (.bool (decide (f.ids.length ≤ 6) && decide (f.bs.length ≤ 10) && decide (f.ps.length ≤ 12) && rises 0 f.ids))) []) := by
  have hidsl := hS.ids
  refine con_of Tryd.func215 rfl (enters_of Tryd.func215 (by kernel_rfl) rfl) rfl ?_; intro n w0 F0 G0
  (refine goSt ?_; (repeat (refine goAl ?_; intro p hp; refine goSt ?_)))
  refine wl_part rfl rfl (fun h1 => ?_) (fun h1 => ?_)
  rotate_left
  · (refine goSt ?_; (repeat (refine goAl ?_; intro p hp; refine goSt ?_)))
    (apply res1; exact rfl; exact rfl; exact ⟨(congrArg (fun b => AV.val (Value.bool b)) (by simp at h1; rw [show decide (f.ids.length ≤ 6) = false from by simp; omega]; rfl)), rfl⟩)
  · have h1' : decide (f.ids.length ≤ 6) = true := by simp at h1 ⊢; omega
    (refine goSt ?_; (repeat (refine goAl ?_; intro p hp; refine goSt ?_)))
    refine wl_part rfl rfl (fun h2 => ?_) (fun h2 => ?_)
    rotate_left
    · (refine goSt ?_; (repeat (refine goAl ?_; intro p hp; refine goSt ?_)))
      (apply res1; exact rfl; exact rfl; exact ⟨(congrArg (fun b => AV.val (Value.bool b)) (by simp at h2; rw [h1', show decide (f.bs.length ≤ 10) = false from by simp; omega]; rfl)), rfl⟩)
    · have h2' : decide (f.bs.length ≤ 10) = true := by simp at h2 ⊢; omega
      (refine goSt ?_; (repeat (refine goAl ?_; intro p hp; refine goSt ?_)))
      refine wl_part rfl rfl (fun h3 => ?_) (fun h3 => ?_)
      rotate_left
      · (refine goSt ?_; (repeat (refine goAl ?_; intro p hp; refine goSt ?_)))
        (apply res1; exact rfl; exact rfl; exact ⟨(congrArg (fun b => AV.val (Value.bool b)) (by simp at h3; rw [h1', h2', show decide (f.ps.length ≤ 12) = false from by simp; omega]; rfl)), rfl⟩)
      · have h3' : decide (f.ps.length ≤ 12) = true := by simp at h3 ⊢; omega
        (refine goSt ?_; (repeat (refine goAl ?_; intro p hp; refine goSt ?_)))
        (first | (apply wl_call (rising_con f.ids (by omega)); exact rfl; exact rfl) | (apply wl_callR (rising_con f.ids (by omega)); exact rfl; exact goAtm; exact rfl))
        (refine goSt ?_; (repeat (refine goAl ?_; intro p hp; refine goSt ?_)))
        (apply res1; exact rfl; exact rfl; exact ⟨(congrArg (fun b => AV.val (Value.bool b)) (by rw [h1', h2', h3']; rfl)), rfl⟩)
end Go.Proofs.YtihonljdanjfmaaDoor.Sw
/- Payments and stakes: the checks that lean on closures. -/
namespace Go.Proofs.YtihonljdanjfmaaDoor.Sw
open Go.RowKit Go Go.Shelf Go.Proofs
set_option maxRecDepth 20000 in
theorem chk41_con (f : Flo) (x : Pay) (hl : f.ids.length ≤ 1000000) : Con Tryd.prog 223 [.agg (payC x), .fp 4 (flC f)] [] (Is (.val (.bool (!payOk f.ids x))) []) := by
  refine con_of Tryd.func223 rfl (enters_of Tryd.func223 (by kernel_rfl) rfl) rfl ?_; intro n w0 F0 G0
  (refine goSt ?_; (repeat (refine goAl ?_; intro p hp; refine goSt ?_)))
  (first | (apply wl_call (made_con f x hl); exact rfl; exact rfl) | (apply wl_callR (made_con f x hl); exact rfl; exact goAtm; exact rfl))
  (refine goSt ?_; (repeat (refine goAl ?_; intro p hp; refine goSt ?_)))
  (apply res1; exact rfl; exact rfl; exact ⟨rfl, rfl⟩)
set_option maxRecDepth 20000 in
theorem chk31_con (s : Stk) : Con Tryd.prog 220 [.agg (stC s)] [] (Is (.val (.bool (!(decide (1 ≤ s.pt) && decide (s.pt ≤ 9))))) []) := by
  refine con_of Tryd.func220 rfl (enters_of Tryd.func220 (by kernel_rfl) rfl) rfl ?_; intro n w0 F0 G0
  (refine goSt ?_; (repeat (refine goAl ?_; intro p hp; refine goSt ?_)))
  (apply wl_litF iC; exact inferInstance; exact inferInstance; exact inferInstance; (repeat (first | exact Elems.nil | (apply Elems.cons; exact rfl; exact inferInstance; exact rfl))); exact rfl; (first | exact (of_decide_eq_true rfl) | decide | (simp; done) | (simp; omega)); exact rfl)
  (refine goSt ?_; (repeat (refine goAl ?_; intro p hp; refine goSt ?_)))
  (first | (apply wl_call (inOne_con _ _ _); exact rfl; exact rfl) | (apply wl_callR (inOne_con _ _ _); exact rfl; exact goAtm; exact rfl))
  (refine goSt ?_; (repeat (refine goAl ?_; intro p hp; refine goSt ?_)))
  (apply res1; exact rfl; exact rfl; exact ⟨rfl, rfl⟩)
set_option maxRecDepth 20000 in
theorem indexFuncS_con (xs : List Stk) (k : FuncId) (caps : List AV) (p : Stk → Bool) (hl : xs.length ≤ 1000000) (hc : ∀ x ∈ xs, Con Tryd.prog k ([.agg (stC x)] ++ caps) [] (Is (.val (.bool (p x))) [])) : Con Tryd.prog 224 [.sl 2 stC xs, .clo k caps] [] (Is (.val (.int .i64 (fiX p xs))) []) := by
  refine con_of Tryd.func224 rfl (enters_of Tryd.func224 (by kernel_rfl) rfl) rfl ?_; intro n w0 F0 G0
  (refine goSt ?_; (repeat (refine goAl ?_; intro p hp; refine goSt ?_)))
  refine W_loopJ (fun (m : Nat) => ⟨[(0, .sl 2 stC xs), (1, .clo k caps), (7, .val (.int .i64 xs.length)), (8, .val (.int .i64 m))], []⟩) (fun m => m ≤ xs.length ∧ (xs.take m).any p = false) (fun m => xs.length - m) 0 (fun _ _ st => st_sub2 st goSubr goSubp) ?hj0 ?round
  case hj0 => simp
  case round =>
    rintro m ⟨hk, hno⟩
    (refine goSt ?_; (repeat (refine goAl ?_; intro p hp; refine goSt ?_)))
    refine w_cond rfl (fun hlt => ?_) (fun hlt => ?_)
    · have hlt' : m < xs.length := by simpa using hlt
      (refine goSt ?_; (repeat (refine goAl ?_; intro p hp; refine goSt ?_)))
      (apply wl_callV (hc xs[m] (List.getElem_mem hlt')); exact rfl; exact rfl; exact rfl)
      (refine goSt ?_; (repeat (refine goAl ?_; intro p hp; refine goSt ?_)))
      refine w_cond rfl (fun he => ?_) (fun he => ?_)
      · (refine goSt ?_; (repeat (refine goAl ?_; intro p hp; refine goSt ?_)))
        (apply res1; exact rfl; exact rfl; exact ⟨(congrArg (fun b => AV.val (Value.int .i64 b)) (fiX_at hlt' hno he).symm), rfl⟩)
      · (refine goSt ?_; (repeat (refine goAl ?_; intro p hp; refine goSt ?_)))
        (refine ⟨m + 1, fun _ _ st => st_sub2 st ?_ ?_, ?_, ?_⟩; exact goSubr; exact goSubp)
        · refine ⟨by omega, ?_⟩
          rw [List.take_succ_eq_append_getElem hlt', List.any_append, hno]
          simpa using he
        · omega
    · (refine goSt ?_; (repeat (refine goAl ?_; intro p hp; refine goSt ?_)))
      have hkk : m = xs.length := by simp at hlt; omega
      subst hkk
      rw [List.take_length] at hno
      (apply res1; exact rfl; exact rfl; exact ⟨(congrArg (fun b => AV.val (Value.int .i64 b)) (fiX_none hno).symm), rfl⟩)
set_option maxRecDepth 20000 in
theorem containsFuncS_con (xs : List Stk) (k : FuncId) (caps : List AV) (p : Stk → Bool) (hl : xs.length ≤ 1000000) (hc : ∀ x ∈ xs, Con Tryd.prog k ([.agg (stC x)] ++ caps) [] (Is (.val (.bool (p x))) [])) : Con Tryd.prog 219 [.sl 2 stC xs, .clo k caps] [] (Is (.val (.bool (xs.any p))) []) := by
  refine con_of Tryd.func219 rfl (enters_of Tryd.func219 (by kernel_rfl) rfl) rfl ?_; intro n w0 F0 G0
  (refine goSt ?_; (repeat (refine goAl ?_; intro p hp; refine goSt ?_)))
  (first | (apply wl_call (indexFuncS_con xs k caps p hl hc); exact rfl; exact rfl) | (apply wl_callR (indexFuncS_con xs k caps p hl hc); exact rfl; exact goAtm; exact rfl))
  (refine goSt ?_; (repeat (refine goAl ?_; intro p hp; refine goSt ?_)))
  (apply res1; exact rfl; exact rfl; exact ⟨(congrArg (fun b => AV.val (Value.bool b)) fiX_ge), rfl⟩)
set_option maxRecDepth 20000 in
theorem indexFuncP_con (xs : List Pay) (k : FuncId) (caps : List AV) (p : Pay → Bool) (hl : xs.length ≤ 1000000) (hc : ∀ x ∈ xs, Con Tryd.prog k ([.agg (payC x)] ++ caps) [] (Is (.val (.bool (p x))) [])) : Con Tryd.prog 225 [.sl 3 payC xs, .clo k caps] [] (Is (.val (.int .i64 (fiX p xs))) []) := by
  refine con_of Tryd.func225 rfl (enters_of Tryd.func225 (by kernel_rfl) rfl) rfl ?_; intro n w0 F0 G0
  (refine goSt ?_; (repeat (refine goAl ?_; intro p hp; refine goSt ?_)))
  refine W_loopJ (fun (m : Nat) => ⟨[(0, .sl 3 payC xs), (1, .clo k caps), (7, .val (.int .i64 xs.length)), (8, .val (.int .i64 m))], []⟩) (fun m => m ≤ xs.length ∧ (xs.take m).any p = false) (fun m => xs.length - m) 0 (fun _ _ st => st_sub2 st goSubr goSubp) ?hj0 ?round
  case hj0 => simp
  case round =>
    rintro m ⟨hk, hno⟩
    (refine goSt ?_; (repeat (refine goAl ?_; intro p hp; refine goSt ?_)))
    refine w_cond rfl (fun hlt => ?_) (fun hlt => ?_)
    · have hlt' : m < xs.length := by simpa using hlt
      (refine goSt ?_; (repeat (refine goAl ?_; intro p hp; refine goSt ?_)))
      (apply wl_callV (hc xs[m] (List.getElem_mem hlt')); exact rfl; exact rfl; exact rfl)
      (refine goSt ?_; (repeat (refine goAl ?_; intro p hp; refine goSt ?_)))
      refine w_cond rfl (fun he => ?_) (fun he => ?_)
      · (refine goSt ?_; (repeat (refine goAl ?_; intro p hp; refine goSt ?_)))
        (apply res1; exact rfl; exact rfl; exact ⟨(congrArg (fun b => AV.val (Value.int .i64 b)) (fiX_at hlt' hno he).symm), rfl⟩)
      · (refine goSt ?_; (repeat (refine goAl ?_; intro p hp; refine goSt ?_)))
        (refine ⟨m + 1, fun _ _ st => st_sub2 st ?_ ?_, ?_, ?_⟩; exact goSubr; exact goSubp)
        · refine ⟨by omega, ?_⟩
          rw [List.take_succ_eq_append_getElem hlt', List.any_append, hno]
          simpa using he
        · omega
    · (refine goSt ?_; (repeat (refine goAl ?_; intro p hp; refine goSt ?_)))
      have hkk : m = xs.length := by simp at hlt; omega
      subst hkk
      rw [List.take_length] at hno
      (apply res1; exact rfl; exact rfl; exact ⟨(congrArg (fun b => AV.val (Value.int .i64 b)) (fiX_none hno).symm), rfl⟩)
set_option maxRecDepth 20000 in
theorem containsFuncP_con (xs : List Pay) (k : FuncId) (caps : List AV) (p : Pay → Bool) (hl : xs.length ≤ 1000000) (hc : ∀ x ∈ xs, Con Tryd.prog k ([.agg (payC x)] ++ caps) [] (Is (.val (.bool (p x))) [])) : Con Tryd.prog 222 [.sl 3 payC xs, .clo k caps] [] (Is (.val (.bool (xs.any p))) []) := by
  refine con_of Tryd.func222 rfl (enters_of Tryd.func222 (by kernel_rfl) rfl) rfl ?_; intro n w0 F0 G0
  (refine goSt ?_; (repeat (refine goAl ?_; intro p hp; refine goSt ?_)))
  (first | (apply wl_call (indexFuncP_con xs k caps p hl hc); exact rfl; exact rfl) | (apply wl_callR (indexFuncP_con xs k caps p hl hc); exact rfl; exact goAtm; exact rfl))
  (refine goSt ?_; (repeat (refine goAl ?_; intro p hp; refine goSt ?_)))
  (apply res1; exact rfl; exact rfl; exact ⟨(congrArg (fun b => AV.val (Value.bool b)) fiX_ge), rfl⟩)
end Go.Proofs.YtihonljdanjfmaaDoor.Sw
/- The program's check of payments. -/
namespace Go.Proofs.YtihonljdanjfmaaDoor.Sw
open Go.RowKit Go Go.Shelf Go.Proofs
theorem paysOk_any (ids : List Int) : ∀ (l : List Pay), (!l.any fun x => !payOk ids x) = paysOk ids l
  | [] => rfl
  | x :: t => by
    rw [paysOk, ← paysOk_any ids t, List.any_cons]
    cases payOk ids x <;> simp
set_option maxRecDepth 20000 in
theorem check4_con (f : Flo) (hS : Sml f) : Con Tryd.prog 221 [.agg (flC f)] [] (Is (.val (.bool (paysOk f.ids f.ps))) []) := by
  have hidsl := hS.ids
  have hpsl := hS.ps
  refine con_of Tryd.func221 rfl (enters_of Tryd.func221 (by kernel_rfl) rfl) rfl ?_; intro n w0 F0 G0
  (refine goSt ?_; (repeat (refine goAl ?_; intro p hp; refine goSt ?_)))
  (apply WL_frzC 5 0 4; exact rfl; exact rfl; exact goRm)
  (first | (apply wl_call (containsFuncP_con f.ps _ _ _ (by omega) (fun x _ => chk41_con f x (by omega))); exact rfl; exact rfl) | (apply wl_callR (containsFuncP_con f.ps _ _ _ (by omega) (fun x _ => chk41_con f x (by omega))); exact rfl; exact goAtm; exact rfl))
  (refine goSt ?_; (repeat (refine goAl ?_; intro p hp; refine goSt ?_)))
  (apply res1; exact rfl; exact rfl; exact ⟨(congrArg (fun b => AV.val (Value.bool b)) (paysOk_any _ _)), rfl⟩)
end Go.Proofs.YtihonljdanjfmaaDoor.Sw
/- The floors of stakes. -/
namespace Go.Proofs.YtihonljdanjfmaaDoor.Sw
open Go.RowKit Go Go.Shelf Go.Proofs
set_option maxRecDepth 20000 in
theorem floorsOf_con (l : List Stk) (hl : l.length ≤ 100000) : Con Tryd.prog 218 [.sl 2 stC l] [] (Is (.sl 1 iC (l.map Stk.fl)) []) := by
  refine con_of Tryd.func218 rfl (enters_of Tryd.func218 (by kernel_rfl) rfl) rfl ?_; intro n w0 F0 G0
  (refine goSt ?_; (repeat (refine goAl ?_; intro p hp; refine goSt ?_)))
  refine W_loopJ (fun (b : Nat × Value) => ⟨[(3, .val b.2), (6, .sl 2 stC l), (7, .val (.int .i64 l.length)), (8, .val (.int .i64 b.1))], [.row b.2 3 1 iC ((l.map Stk.fl).take b.1)]⟩) (fun b => b.1 ≤ l.length) (fun b => l.length - b.1) (0, .slice none 0 0) (fun _ _ st => st_sub2 (st_nil 3 1 iC st) (by exact goSubr) (by exact goSubp)) (Nat.zero_le _) ?_
  rintro ⟨k, v⟩ hk
  dsimp only at hk ⊢
  have hll : ((l.map Stk.fl).take k).length ≤ 100000 := by rw [List.length_take, List.length_map]; omega
  (refine goSt ?_; (repeat (refine goAl ?_; intro p hp; refine goSt ?_)))
  refine w_cond rfl (fun hlt => ?_) (fun hlt => ?_)
  · have hlt' : k < l.length := by simpa using hlt
    have htk : (l.map Stk.fl).take (k + 1) = (l.map Stk.fl).take k ++ [l[k].fl] := by rw [List.take_succ_eq_append_getElem (by simpa using hlt'), List.getElem_map]
    (refine goSt ?_; (repeat (refine goAl ?_; intro p hp; refine goSt ?_)))
    (apply wl_litF iC; exact inferInstance; exact inferInstance; exact inferInstance; (repeat (first | exact Elems.nil | (apply Elems.cons; exact rfl; exact inferInstance; exact rfl))); exact rfl; (first | exact (of_decide_eq_true rfl) | decide | (simp; done) | (simp; omega)); exact rfl)
    (first | (apply wl_append; exact rfl; exact rfl; exact goRm; exact inferInstance; exact inferInstance; (first | omega | (simp; omega)); exact rfl) | (apply wl_appendN; exact rfl; exact rfl; exact inferInstance; exact inferInstance; (first | omega | (simp; omega)); exact rfl))
    intro v'
    rw [← htk]
    (refine goSt ?_; (repeat (refine goAl ?_; intro p hp; refine goSt ?_)))
    (refine ⟨(k + 1, v'), fun _ _ st => st_sub2 st ?_ ?_, ?_, ?_⟩; exact goSubr; exact goSubp)
    · dsimp only; omega
    · dsimp only; omega
  · have hkk : k = l.length := by simp at hlt; omega
    subst hkk
    rw [List.take_of_length_le (by simp)]
    (apply W_frz 3; exact rfl; exact goRm)
    (refine goSt ?_; (repeat (refine goAl ?_; intro p hp; refine goSt ?_)))
    (apply res1; exact rfl; exact rfl; exact ⟨rfl, rfl⟩)
end Go.Proofs.YtihonljdanjfmaaDoor.Sw
/- Plain: the program's checks tell what the reference's 'Floors' tells. -/
namespace Go.Proofs.YtihonljdanjfmaaDoor.Sw
open Go.RowKit Go Go.Shelf Go.Proofs
def ofB (xs all : List Int) : Bool := rises 0 xs && !xs.any fun n => !decide (n ∈ all)
theorem rises_all : ∀ {l : List Int} {last : Int}, rises last l = true → ∀ x ∈ l, last + 1 ≤ x ∧ x ≤ 9999
  | [], _, _, x, hx => by cases hx
  | y :: t, last, h, x, hx => by
    simp only [rises, Bool.and_eq_true, decide_eq_true_eq] at h
    rcases List.mem_cons.1 hx with rfl | hx
    · exact h.1
    · have := rises_all h.2 x hx; omega
theorem ofB_two {ids : List Int} (h : rises 0 ids = true) (a b : Int) : ofB [a, b] ids = (decide (a ∈ ids) && decide (b ∈ ids) && decide (a < b)) := by
  unfold ofB
  by_cases h1 : a ∈ ids
  · by_cases h2 : b ∈ ids
    · have k1 := rises_all h a h1
      have k2 := rises_all h b h2
      by_cases h3 : a < b
      · simp [rises, h1, h2, h3]; omega
      · simp [rises, h1, h2, h3]; omega
    · simp [h2]
  · simp [h1]
end Go.Proofs.YtihonljdanjfmaaDoor.Sw
namespace Go.Proofs.YtihonljdanjfmaaDoor.Sw
open Go.RowKit Go Go.Shelf Go.Proofs
theorem ofTwo_con {ids : List Int} (h : rises 0 ids = true) (hl : ids.length ≤ 1000000) (a b : Int) : Con Tryd.prog 91 [.sl 1 iC [a, b], .sl 1 iC ids] [] (Is (.val (.bool (decide (a ∈ ids) && decide (b ∈ ids) && decide (a < b)))) []) := by
  have := of_con [a, b] ids (by simp) hl
  rwa [show (rises 0 [a, b] && ![a, b].any fun n => !decide (n ∈ ids)) = _ from ofB_two h a b] at this
set_option maxRecDepth 20000 in
set_option maxHeartbeats 4000000 in
theorem check2_con (f : Flo) (hS : Sml f) (hr : rises 0 f.ids = true) : Con Tryd.prog 216 [.agg (flC f)] [] (Is (.val (.bool (qusOk f.ids none f.qs))) []) := by
  have hidsl := hS.ids
  have hqsl := hS.qs
  refine con_of Tryd.func216 rfl (enters_of Tryd.func216 (by kernel_rfl) rfl) rfl ?_; intro n w0 F0 G0
  (refine goSt ?_; (repeat (refine goAl ?_; intro p hp; refine goSt ?_)))
  refine W_loopJ (fun (k : Nat) => ⟨[(1, .val p), (6, .sl 2 quC f.qs), (7, .val (.int .i64 f.qs.length)), (8, .val (.int .i64 k))], [.box p (flC f) 27]⟩) (fun k => k ≤ f.qs.length ∧ qusOk f.ids (prevQ f.qs k) (f.qs.drop k) = qusOk f.ids none f.qs) (fun k => f.qs.length - k) 0 (fun _ _ st => st_sub2 st goSubr goSubp) ?hj0 ?round
  case hj0 => simp [prevQ]
  case round =>
    rintro k ⟨hk, hno⟩
    (refine goSt ?_; (repeat (refine goAl ?_; intro p hp; refine goSt ?_)))
    refine w_cond rfl (fun hlt => ?_) (fun hlt => ?_)
    · have hlt' : k < f.qs.length := by simpa using hlt
      rw [drop_step hlt', qusOk_cons] at hno
      have C := ofTwo_con hr (by omega) f.qs[k].a f.qs[k].b
      (refine goSt ?_; (repeat (refine goAl ?_; intro p hp; refine goSt ?_)))
      rename_i pf hpf
      cases hof : decide (f.qs[k].a ∈ f.ids) && decide (f.qs[k].b ∈ f.ids) && decide (f.qs[k].a < f.qs[k].b) with
      | false =>
        rw [hof] at C hno
        rw [Bool.false_and] at hno
        refine W_run 20 [13, 14, 15, 16, 17, 18, 19, 20, 21, 22, 23, 24, 25, 26, 27, 28, 29, 30, 31, 32] [0, 1, 2, 3, 4, 5, 6, 7, 8, 9, 10, 11, 12, 13, 14, 15, 16, 17, 18, 19] Cut.nil rfl goFlt mixedS (by kernel_rfl) rfl ?_
        refine rpv [] [] ?_
        refine rpv [0] [] ?_
        refine rpv [] [] ?_
        refine rpv [2] [] ?_
        refine Run.pv [1, 3] [] rfl (fun vs => by apply ltr_pk; exact goPk; (refine ltr ?_; apply LT_frz; apply lt_lit (f := iC); (repeat (first | exact Elems.nil | (apply Elems.cons; exact rfl; exact inferInstance; exact rfl))); exact rfl; (first | exact (of_decide_eq_true rfl) | decide | (simp; done) | (simp; omega)))) goApp ?_
        refine rpv [] [] ?_
        refine rpv [5] [] ?_
        refine Run.pv [4, 6] [] rfl (fun vs => by apply ltr_pk; exact goPk; (refine ltr ?_; refine lt_call ?_ (C); exact rfl)) goApp ?_
        refine rpv [7] [] ?_
        refine rpv [8] [] ?_
        refine Run.no [9] [] rfl rfl (fun vs => by apply look_pk; exact goPk; exact rfl) (by exact rfl) goApp ?_
        refine Run.no [9, 10] [] rfl rfl (fun vs => by apply look_pk; exact goPk; exact rfl) (by exact rfl) goApp ?_
        refine Run.no [9, 11] [] rfl rfl (fun vs => by apply look_pk; exact goPk; exact rfl) (by exact rfl) goApp ?_
        refine Run.noU [12] [] rfl rfl (fun vs => by apply look_pk; exact goPk; exact rfl) goApp ?_
        refine Run.noU [12, 13] [] rfl rfl (fun vs => by apply look_pk; exact goPk; exact rfl) goApp ?_
        refine Run.noU [12] [] rfl rfl (fun vs => by apply look_pk; exact goPk; exact rfl) goApp ?_
        refine Run.noU [12, 15] [] rfl rfl (fun vs => by apply look_pk; exact goPk; exact rfl) goApp ?_
        refine Run.noU [12, 14, 16] [] rfl rfl (fun vs => by apply look_pk; exact goPk; exact rfl) goApp ?_
        refine Run.noU [12, 17] [] rfl rfl (fun vs => by apply look_pk; exact goPk; exact rfl) goApp ?_
        refine Run.noU [12] [] rfl rfl (fun vs => by apply look_pk; exact goPk; exact rfl) goApp ?_
        refine ⟨⟨by kernel_rfl, by kernel_rfl⟩, fun vs => ?_⟩
        apply WL_auto [9, 12, 18, 19]
        · exact goPk
        · exact goNrm
        · kernel_rfl
        · kernel_rfl
        (refine goSt ?_; (repeat (refine goAl ?_; intro p hp; refine goSt ?_)))
        (apply res1; exact rfl; exact rfl; exact ⟨(congrArg (fun b => AV.val (Value.bool b)) hno), rfl⟩)
      | true =>
        rw [hof] at C hno
        rw [Bool.true_and] at hno
        cases k with
        | zero =>
          rw [show okPrev (prevQ f.qs 0) f.qs[0] = true from rfl, Bool.true_and] at hno
          refine W_run 20 [13, 14, 15, 16, 17, 18, 19, 20, 21, 22, 23, 24, 25, 26, 27, 28, 29, 30, 31, 32] [0, 1, 2, 3, 4, 5, 6, 7, 8, 9, 10, 11, 12, 13, 14, 15, 16, 17, 18, 19] Cut.nil rfl goFlt mixedS (by kernel_rfl) rfl ?_
          refine rpv [] [] ?_
          refine rpv [0] [] ?_
          refine rpv [] [] ?_
          refine rpv [2] [] ?_
          refine Run.pv [1, 3] [] rfl (fun vs => by apply ltr_pk; exact goPk; (refine ltr ?_; apply LT_frz; apply lt_lit (f := iC); (repeat (first | exact Elems.nil | (apply Elems.cons; exact rfl; exact inferInstance; exact rfl))); exact rfl; (first | exact (of_decide_eq_true rfl) | decide | (simp; done) | (simp; omega)))) goApp ?_
          refine rpv [] [] ?_
          refine rpv [5] [] ?_
          refine Run.pv [4, 6] [] rfl (fun vs => by apply ltr_pk; exact goPk; (refine ltr ?_; refine lt_call ?_ (C); exact rfl)) goApp ?_
          refine rpv [7] [] ?_
          refine rpv [8] [] ?_
          refine Run.yes [9] [] rfl rfl (fun vs => by apply look_pk; exact goPk; exact rfl) (fun vs => by apply ltr_pk; exact goPk; exact goLtr) goApp ?_
          refine Run.yes [9, 10] [] rfl rfl (fun vs => by apply look_pk; exact goPk; exact rfl) (fun vs => by apply ltr_pk; exact goPk; (refine ltr ?_; apply LT_bool false; apply lt_gtr; exact rfl; exact rfl; simp)) goApp ?_
          refine Run.yes [9, 11] [] rfl rfl (fun vs => by apply look_pk; exact goPk; exact rfl) (fun vs => by apply ltr_pk; exact goPk; exact goLtr) goApp ?_
          refine Run.no [12] [] rfl rfl (fun vs => by apply look_pk; exact goPk; exact rfl) (by exact rfl) goApp ?_
          refine Run.no [12, 13] [] rfl rfl (fun vs => by apply look_pk; exact goPk; exact rfl) (by exact rfl) goApp ?_
          refine Run.no [12] [] rfl rfl (fun vs => by apply look_pk; exact goPk; exact rfl) (by exact rfl) goApp ?_
          refine Run.no [12, 15] [] rfl rfl (fun vs => by apply look_pk; exact goPk; exact rfl) (by exact rfl) goApp ?_
          refine Run.no [12, 14, 16] [] rfl rfl (fun vs => by apply look_pk; exact goPk; exact rfl) (by exact rfl) goApp ?_
          refine Run.no [12, 17] [] rfl rfl (fun vs => by apply look_pk; exact goPk; exact rfl) (by exact rfl) goApp ?_
          refine Run.no [12] [] rfl rfl (fun vs => by apply look_pk; exact goPk; exact rfl) (by exact rfl) goApp ?_
          refine ⟨⟨by kernel_rfl, by kernel_rfl⟩, fun vs => ?_⟩
          apply WL_auto [9, 12, 18, 19]
          · exact goPk
          · exact goNrm
          · kernel_rfl
          · kernel_rfl
          (refine goSt ?_; (repeat (refine goAl ?_; intro p hp; refine goSt ?_)))
          (refine ⟨0 + 1, fun _ _ st => st_sub2 st ?_ ?_, ?_, ?_⟩; exact goSubr; exact goSubp)
          · exact ⟨hlt', by rw [show prevQ f.qs (0 + 1) = some f.qs[0] from List.getElem?_eq_getElem (by omega)]; exact hno⟩
          · omega
        | succ k =>
          have hq : f.qs[k]? = some f.qs[k] := List.getElem?_eq_getElem (by omega)
          rw [show prevQ f.qs (k + 1) = some f.qs[k] from hq, show okPrev (some f.qs[k]) f.qs[k + 1] = qLt f.qs[k] f.qs[k + 1] from rfl] at hno
          have D := quarrels_con f.qs[k] f.qs[k + 1]
          refine W_run 20 [13, 14, 15, 16, 17, 18, 19, 20, 21, 22, 23, 24, 25, 26, 27, 28, 29, 30, 31, 32] [0, 1, 2, 3, 4, 5, 6, 7, 8, 9, 10, 11, 12, 13, 14, 15, 16, 17, 18, 19] Cut.nil rfl goFlt mixedS (by kernel_rfl) rfl ?_
          refine rpv [] [] ?_
          refine rpv [0] [] ?_
          refine rpv [] [] ?_
          refine rpv [2] [] ?_
          refine Run.pv [1, 3] [] rfl (fun vs => by apply ltr_pk; exact goPk; (refine ltr ?_; apply LT_frz; apply lt_lit (f := iC); (repeat (first | exact Elems.nil | (apply Elems.cons; exact rfl; exact inferInstance; exact rfl))); exact rfl; (first | exact (of_decide_eq_true rfl) | decide | (simp; done) | (simp; omega)))) goApp ?_
          refine rpv [] [] ?_
          refine rpv [5] [] ?_
          refine Run.pv [4, 6] [] rfl (fun vs => by apply ltr_pk; exact goPk; (refine ltr ?_; refine lt_call ?_ (C); exact rfl)) goApp ?_
          refine rpv [7] [] ?_
          refine rpv [8] [] ?_
          refine Run.yes [9] [] rfl rfl (fun vs => by apply look_pk; exact goPk; exact rfl) (fun vs => by apply ltr_pk; exact goPk; exact goLtr) goApp ?_
          refine Run.yes [9, 10] [] rfl rfl (fun vs => by apply look_pk; exact goPk; exact rfl) (fun vs => by apply ltr_pk; exact goPk; (refine ltr ?_; apply LT_bool true; apply lt_gtr; exact rfl; exact rfl; (first | (simp; done) | (simp; omega)))) goApp ?_
          refine Run.yes [9, 11] [] rfl rfl (fun vs => by apply look_pk; exact goPk; exact rfl) (fun vs => by apply ltr_pk; exact goPk; exact goLtr) goApp ?_
          refine Run.yes [12] [] rfl rfl (fun vs => by apply look_pk; exact goPk; exact rfl) (fun vs => by apply ltr_pk; exact goPk; exact goLtr) goApp ?_
          refine Run.yes [12, 13] [] rfl rfl (fun vs => by apply look_pk; exact goPk; exact rfl) (fun vs => by apply ltr_pk; exact goPk; exact goLtr) goApp ?_
          refine Run.yes [12] [] rfl rfl (fun vs => by apply look_pk; exact goPk; exact rfl) (fun vs => by apply ltr_pk; exact goPk; exact goLtr) goApp ?_
          refine Run.yes [12, 15] [] rfl rfl (fun vs => by apply look_pk; exact goPk; exact rfl) (fun vs => by apply ltr_pk; exact goPk; (refine ltr ?_; apply LT_int (k : Int); apply lt_sub; exact rfl; exact rfl; omega; omega; omega)) goApp ?_
          refine Run.yes [12, 14, 16] [] rfl rfl (fun vs => by apply look_pk; exact goPk; exact rfl) (fun vs => by apply ltr_pk; exact goPk; exact goLtr) goApp ?_
          refine Run.yes [12, 17] [] rfl rfl (fun vs => by apply look_pk; exact goPk; exact rfl) (fun vs => by apply ltr_pk; exact goPk; exact goLtr) goApp ?_
          refine Run.yes [12] [] rfl rfl (fun vs => by apply look_pk; exact goPk; exact rfl) (fun vs => by apply ltr_pk; exact goPk; exact goLtr) goApp ?_
          refine ⟨⟨by kernel_rfl, by kernel_rfl⟩, fun vs => ?_⟩
          apply WL_auto [9, 12, 18, 19]
          · exact goPk
          · exact goNrm
          · kernel_rfl
          · kernel_rfl
          (refine goSt ?_; (repeat (refine goAl ?_; intro p hp; refine goSt ?_)))
          (first | (apply wl_call (D); exact rfl; exact rfl) | (apply wl_callR (D); exact rfl; exact goAtm; exact rfl))
          (refine goSt ?_; (repeat (refine goAl ?_; intro p hp; refine goSt ?_)))
          rw [quCmp_ge]
          refine w_cond rfl (fun g => ?_) (fun g => ?_)
          · have g' : qLt f.qs[k] f.qs[k + 1] = false := by simpa using g
            rw [g', Bool.false_and] at hno
            (refine goSt ?_; (repeat (refine goAl ?_; intro p hp; refine goSt ?_)))
            (apply res1; exact rfl; exact rfl; exact ⟨(congrArg (fun b => AV.val (Value.bool b)) hno), rfl⟩)
          · have g' : qLt f.qs[k] f.qs[k + 1] = true := by simpa using g
            rw [g', Bool.true_and] at hno
            (refine goSt ?_; (repeat (refine goAl ?_; intro p hp; refine goSt ?_)))
            (refine ⟨k + 1 + 1, fun _ _ st => st_sub2 st ?_ ?_, ?_, ?_⟩; exact goSubr; exact goSubp)
            · exact ⟨hlt', by rw [show prevQ f.qs (k + 1 + 1) = some f.qs[k + 1] from List.getElem?_eq_getElem (by omega)]; exact hno⟩
            · omega
    · (refine goSt ?_; (repeat (refine goAl ?_; intro p hp; refine goSt ?_)))
      have hkk : k = f.qs.length := by simp at hlt; omega
      subst hkk
      rw [List.drop_length, qusOk] at hno
      (apply res1; exact rfl; exact rfl; exact ⟨(congrArg (fun b => AV.val (Value.bool b)) hno), rfl⟩)
end Go.Proofs.YtihonljdanjfmaaDoor.Sw
namespace Go.Proofs.YtihonljdanjfmaaDoor.Sw
open Go.RowKit Go Go.Shelf Go.Proofs
theorem stks_of {ids : List Int} (h : rises 0 ids = true) : ∀ (t : List Stk) (last : Int), stksOk ids last t = (rises last (t.map Stk.fl) && !((t.map Stk.fl).any fun n => !decide (n ∈ ids)) && !(t.any fun s => !(decide (1 ≤ s.pt) && decide (s.pt ≤ 9))))
  | [], _ => rfl
  | s :: t, last => by
    rw [stksOk, stks_of h t, List.map_cons, rises, List.any_cons, List.any_cons]
    by_cases h1 : s.fl ∈ ids
    · have := rises_all h s.fl h1
      have e : decide (last < s.fl) = (decide (last + 1 ≤ s.fl) && decide (s.fl ≤ 9999)) := by
        rw [show decide (s.fl ≤ 9999) = true by simpa using this.2, Bool.and_true]; exact decide_eq_decide.2 (by omega)
      rw [e]
      simp only [h1, decide_true, Bool.not_true, Bool.false_or, Bool.and_true]
      generalize (decide (last + 1 ≤ s.fl) && decide (s.fl ≤ 9999)) = a
      generalize (decide (1 ≤ s.pt) && decide (s.pt ≤ 9)) = b
      cases a <;> cases b <;> simp
    · simp [h1]
def bilA (ids : List Int) (x : Bil) : Bool := decide (x.py ∈ ids) && (decide (1 ≤ x.pe) && decide (x.pe ≤ 1000000)) && decide (x.st ≠ [])
theorem bilOk_of {ids : List Int} (h : rises 0 ids = true) (x : Bil) : bilOk ids x = (bilA ids x && ofB (x.st.map Stk.fl) ids && !(x.st.any fun s => !(decide (1 ≤ s.pt) && decide (s.pt ≤ 9)))) := by
  unfold bilOk bilA ofB
  rw [stks_of h]
  simp only [Bool.and_assoc]
theorem bils_of (ids : List Int) : ∀ (t : List Bil) (last : Int), bilsOk ids last t = (t.all (bilOk ids) && rises last (t.map Bil.no))
  | [], _ => rfl
  | x :: t, last => by
    rw [bilsOk, bils_of ids t, List.all_cons, List.map_cons, rises]
    generalize (decide (last + 1 ≤ x.no) && decide (x.no ≤ 9999)) = a
    generalize bilOk ids x = b
    cases a <;> cases b <;> simp
theorem ofFloors_con {ids : List Int} (hl : ids.length ≤ 1000000) (l : List Stk) (hl2 : l.length ≤ 100000) : Con Tryd.prog 91 [.sl 1 iC (l.map Stk.fl), .sl 1 iC ids] [] (Is (.val (.bool (ofB (l.map Stk.fl) ids))) []) := of_con _ ids (by simp; omega) hl
set_option maxRecDepth 20000 in
set_option maxHeartbeats 4000000 in
theorem check3_con (f : Flo) (hS : Sml f) (hr : rises 0 f.ids = true) : Con Tryd.prog 217 [.agg (flC f)] [] (Is (.val (.bool (bilsOk f.ids 0 f.bs))) []) := by
  have hidsl := hS.ids
  have hbsl := hS.bs
  rw [bils_of]
  refine con_of Tryd.func217 rfl (enters_of Tryd.func217 (by kernel_rfl) rfl) rfl ?_; intro n w0 F0 G0
  (refine goSt ?_; (repeat (refine goAl ?_; intro p hp; refine goSt ?_)))
  refine W_loopJ (fun (b : Nat × Value) => ⟨[(1, .val p), (3, .val b.2), (7, .sl 4 biC f.bs), (8, .val (.int .i64 f.bs.length)), (9, .val (.int .i64 b.1))], [.row b.2 3 1 iC ((f.bs.map Bil.no).take b.1), .box p (flC f) 27]⟩) (fun b => b.1 ≤ f.bs.length ∧ (f.bs.take b.1).all (bilOk f.ids) = true) (fun b => f.bs.length - b.1) (0, .slice none 0 0) (fun _ _ st => st_sub2 (st_nil 3 1 iC st) (by exact goSubr) (by exact goSubp)) ⟨Nat.zero_le _, rfl⟩ ?_
  rintro ⟨k, v⟩ ⟨hk, hal⟩
  dsimp only at hk hal ⊢
  have hll : ((f.bs.map Bil.no).take k).length ≤ 100000 := by rw [List.length_take, List.length_map]; omega
  (refine goSt ?_; (repeat (refine goAl ?_; intro p hp; refine goSt ?_)))
  refine w_cond rfl (fun hlt => ?_) (fun hlt => ?_)
  · have hlt' : k < f.bs.length := by simpa using hlt
    have htk : (f.bs.map Bil.no).take (k + 1) = (f.bs.map Bil.no).take k ++ [f.bs[k].no] := by rw [List.take_succ_eq_append_getElem (by simpa using hlt'), List.getElem_map]
    have hbo := bilOk_of hr f.bs[k]
    have hno : bilOk f.ids f.bs[k] = false → (f.bs.all (bilOk f.ids) && rises 0 (f.bs.map Bil.no)) = false := fun h => by
      have : f.bs.all (bilOk f.ids) = false := by
        rw [← Bool.not_eq_true, List.all_eq_true]
        intro ha
        rw [ha _ (List.getElem_mem hlt')] at h; cases h
      rw [this]; rfl
    have hyes : bilOk f.ids f.bs[k] = true → (f.bs.take (k + 1)).all (bilOk f.ids) = true := fun h => by
      rw [List.take_succ_eq_append_getElem hlt', List.all_append, hal]; simpa using h
    have hstl := hS.st _ (List.getElem_mem hlt')
    have hM := ofFloors_con (ids := f.ids) (by omega) f.bs[k].st (by omega)
    have C1 := containsI_con f.ids f.bs[k].py (by omega)
    have C2 := inOne_con 1 1000000 f.bs[k].pe
    have C3 := floorsOf_con f.bs[k].st (by omega)
    (refine goSt ?_; (repeat (refine goAl ?_; intro p hp; refine goSt ?_)))
    (apply wl_litF iC; exact inferInstance; exact inferInstance; exact inferInstance; (repeat (first | exact Elems.nil | (apply Elems.cons; exact rfl; exact inferInstance; exact rfl))); exact rfl; (first | exact (of_decide_eq_true rfl) | decide | (simp; done) | (simp; omega)); exact rfl)
    (first | (apply wl_append; exact rfl; exact rfl; exact goRm; exact inferInstance; exact inferInstance; (first | omega | (simp; omega)); exact rfl) | (apply wl_appendN; exact rfl; exact rfl; exact inferInstance; exact inferInstance; (first | omega | (simp; omega)); exact rfl))
    intro v'
    rw [← htk]
    (refine goSt ?_; (repeat (refine goAl ?_; intro p hp; refine goSt ?_)))
    cases h1 : decide (f.bs[k].py ∈ f.ids) with
    | false =>
      rw [h1] at C1
      have hf := hno (by rw [hbo]; unfold bilA; rw [h1]; rfl)
      rw [hf]
      refine W_run 25 [18, 19, 20, 21, 22, 23, 24, 25, 26, 27, 28, 29, 30, 31, 32, 33, 34, 35, 36, 37, 38, 39, 40, 41, 42] [0, 1, 2, 3, 4, 5, 6, 7, 8, 9, 10, 11, 12, 13, 14, 15, 16, 17, 18, 19, 20, 21, 22, 23, 24] Cut.nil rfl goFlt mixedS (by kernel_rfl) rfl ?_
      refine rpv [] [] ?_
      refine rpv [0] [] ?_
      refine rpv [] [] ?_
      refine rpv [2] [] ?_
      refine Run.pv [1, 3] [] rfl (fun vs => by apply ltr_pk; exact goPk; (refine ltr ?_; refine lt_call ?_ (C1); exact rfl)) goApp ?_
      refine rpv [4] [] ?_
      refine rpv [5] [] ?_
      refine Run.no [6] [] rfl rfl (fun vs => by apply look_pk; exact goPk; exact rfl) (by exact rfl) goApp ?_
      refine Run.no [6, 7] [] rfl rfl (fun vs => by apply look_pk; exact goPk; exact rfl) (by exact rfl) goApp ?_
      refine Run.no [6, 8] [] rfl rfl (fun vs => by apply look_pk; exact goPk; exact rfl) (by exact rfl) goApp ?_
      refine Run.no [6, 9] [] rfl rfl (fun vs => by apply look_pk; exact goPk; exact rfl) (by exact rfl) goApp ?_
      refine Run.no [6, 10] [] rfl rfl (fun vs => by apply look_pk; exact goPk; exact rfl) (by exact rfl) goApp ?_
      refine rpv [6, 11] [] ?_
      refine rpv [12] [] ?_
      refine Run.no [13] [] rfl rfl (fun vs => by apply look_pk; exact goPk; exact rfl) (by exact rfl) goApp ?_
      refine Run.no [13, 14] [] rfl rfl (fun vs => by apply look_pk; exact goPk; exact rfl) (by exact rfl) goApp ?_
      refine Run.no [13, 15] [] rfl rfl (fun vs => by apply look_pk; exact goPk; exact rfl) (by exact rfl) goApp ?_
      refine Run.no [13, 16] [] rfl rfl (fun vs => by apply look_pk; exact goPk; exact rfl) (by exact rfl) goApp ?_
      refine rpv [13, 17] [] ?_
      refine rpv [18] [] ?_
      refine Run.no [19] [] rfl rfl (fun vs => by apply look_pk; exact goPk; exact rfl) (by exact rfl) goApp ?_
      refine Run.no [19, 20] [] rfl rfl (fun vs => by apply look_pk; exact goPk; exact rfl) (by exact rfl) goApp ?_
      refine Run.no [19, 21] [] rfl rfl (fun vs => by apply look_pk; exact goPk; exact rfl) (by exact rfl) goApp ?_
      refine Run.no [19] [] rfl rfl (fun vs => by apply look_pk; exact goPk; exact rfl) (by exact rfl) goApp ?_
      refine Run.no [19, 23] [] rfl rfl (fun vs => by apply look_pk; exact goPk; exact rfl) (by exact rfl) goApp ?_
      refine ⟨⟨by kernel_rfl, by kernel_rfl⟩, fun vs => ?_⟩
      apply WL_auto [19, 22, 24]
      · exact goPk
      · exact goNrm
      · kernel_rfl
      · kernel_rfl
      (refine goSt ?_; (repeat (refine goAl ?_; intro p hp; refine goSt ?_)))
      (apply res1; exact rfl; exact rfl; exact ⟨rfl, rfl⟩)
    | true =>
      rw [h1] at C1
      cases h2 : (decide (1 ≤ f.bs[k].pe) && decide (f.bs[k].pe ≤ 1000000)) with
      | false =>
        rw [h2] at C2
        have hf := hno (by rw [hbo]; unfold bilA; rw [h1, h2]; rfl)
        rw [hf]
        refine W_run 25 [18, 19, 20, 21, 22, 23, 24, 25, 26, 27, 28, 29, 30, 31, 32, 33, 34, 35, 36, 37, 38, 39, 40, 41, 42] [0, 1, 2, 3, 4, 5, 6, 7, 8, 9, 10, 11, 12, 13, 14, 15, 16, 17, 18, 19, 20, 21, 22, 23, 24] Cut.nil rfl goFlt mixedS (by kernel_rfl) rfl ?_
        refine rpv [] [] ?_
        refine rpv [0] [] ?_
        refine rpv [] [] ?_
        refine rpv [2] [] ?_
        refine Run.pv [1, 3] [] rfl (fun vs => by apply ltr_pk; exact goPk; (refine ltr ?_; refine lt_call ?_ (C1); exact rfl)) goApp ?_
        refine rpv [4] [] ?_
        refine rpv [5] [] ?_
        refine Run.yes [6] [] rfl rfl (fun vs => by apply look_pk; exact goPk; exact rfl) (fun vs => by apply ltr_pk; exact goPk; exact goLtr) goApp ?_
        refine Run.yes [6, 7] [] rfl rfl (fun vs => by apply look_pk; exact goPk; exact rfl) (fun vs => by apply ltr_pk; exact goPk; exact goLtr) goApp ?_
        refine Run.yes [6, 8] [] rfl rfl (fun vs => by apply look_pk; exact goPk; exact rfl) (fun vs => by apply ltr_pk; exact goPk; (refine ltr ?_; apply LT_frz; apply lt_lit (f := iC); (repeat (first | exact Elems.nil | (apply Elems.cons; exact rfl; exact inferInstance; exact rfl))); exact rfl; (first | exact (of_decide_eq_true rfl) | decide | (simp; done) | (simp; omega)))) goApp ?_
        refine Run.yes [6, 9] [] rfl rfl (fun vs => by apply look_pk; exact goPk; exact rfl) (fun vs => by apply ltr_pk; exact goPk; (refine ltr ?_; refine lt_call ?_ (C2); exact rfl)) goApp ?_
        refine Run.yes [6, 10] [] rfl rfl (fun vs => by apply look_pk; exact goPk; exact rfl) (fun vs => by apply ltr_pk; exact goPk; exact goLtr) goApp ?_
        refine rpv [6, 11] [] ?_
        refine rpv [12] [] ?_
        refine Run.no [13] [] rfl rfl (fun vs => by apply look_pk; exact goPk; exact rfl) (by exact rfl) goApp ?_
        refine Run.no [13, 14] [] rfl rfl (fun vs => by apply look_pk; exact goPk; exact rfl) (by exact rfl) goApp ?_
        refine Run.no [13, 15] [] rfl rfl (fun vs => by apply look_pk; exact goPk; exact rfl) (by exact rfl) goApp ?_
        refine Run.no [13, 16] [] rfl rfl (fun vs => by apply look_pk; exact goPk; exact rfl) (by exact rfl) goApp ?_
        refine rpv [13, 17] [] ?_
        refine rpv [18] [] ?_
        refine Run.no [19] [] rfl rfl (fun vs => by apply look_pk; exact goPk; exact rfl) (by exact rfl) goApp ?_
        refine Run.no [19, 20] [] rfl rfl (fun vs => by apply look_pk; exact goPk; exact rfl) (by exact rfl) goApp ?_
        refine Run.no [19, 21] [] rfl rfl (fun vs => by apply look_pk; exact goPk; exact rfl) (by exact rfl) goApp ?_
        refine Run.no [19] [] rfl rfl (fun vs => by apply look_pk; exact goPk; exact rfl) (by exact rfl) goApp ?_
        refine Run.no [19, 23] [] rfl rfl (fun vs => by apply look_pk; exact goPk; exact rfl) (by exact rfl) goApp ?_
        refine ⟨⟨by kernel_rfl, by kernel_rfl⟩, fun vs => ?_⟩
        apply WL_auto [19, 22, 24]
        · exact goPk
        · exact goNrm
        · kernel_rfl
        · kernel_rfl
        (refine goSt ?_; (repeat (refine goAl ?_; intro p hp; refine goSt ?_)))
        (apply res1; exact rfl; exact rfl; exact ⟨rfl, rfl⟩)
      | true =>
        rw [h2] at C2
        by_cases h3 : f.bs[k].st = []
        · have hf := hno (by rw [hbo]; unfold bilA; rw [h1, h2]; simp [h3])
          rw [hf]
          refine W_run 25 [18, 19, 20, 21, 22, 23, 24, 25, 26, 27, 28, 29, 30, 31, 32, 33, 34, 35, 36, 37, 38, 39, 40, 41, 42] [0, 1, 2, 3, 4, 5, 6, 7, 8, 9, 10, 11, 12, 13, 14, 15, 16, 17, 18, 19, 20, 21, 22, 23, 24] Cut.nil rfl goFlt mixedS (by kernel_rfl) rfl ?_
          refine rpv [] [] ?_
          refine rpv [0] [] ?_
          refine rpv [] [] ?_
          refine rpv [2] [] ?_
          refine Run.pv [1, 3] [] rfl (fun vs => by apply ltr_pk; exact goPk; (refine ltr ?_; refine lt_call ?_ (C1); exact rfl)) goApp ?_
          refine rpv [4] [] ?_
          refine rpv [5] [] ?_
          refine Run.yes [6] [] rfl rfl (fun vs => by apply look_pk; exact goPk; exact rfl) (fun vs => by apply ltr_pk; exact goPk; exact goLtr) goApp ?_
          refine Run.yes [6, 7] [] rfl rfl (fun vs => by apply look_pk; exact goPk; exact rfl) (fun vs => by apply ltr_pk; exact goPk; exact goLtr) goApp ?_
          refine Run.yes [6, 8] [] rfl rfl (fun vs => by apply look_pk; exact goPk; exact rfl) (fun vs => by apply ltr_pk; exact goPk; (refine ltr ?_; apply LT_frz; apply lt_lit (f := iC); (repeat (first | exact Elems.nil | (apply Elems.cons; exact rfl; exact inferInstance; exact rfl))); exact rfl; (first | exact (of_decide_eq_true rfl) | decide | (simp; done) | (simp; omega)))) goApp ?_
          refine Run.yes [6, 9] [] rfl rfl (fun vs => by apply look_pk; exact goPk; exact rfl) (fun vs => by apply ltr_pk; exact goPk; (refine ltr ?_; refine lt_call ?_ (C2); exact rfl)) goApp ?_
          refine Run.yes [6, 10] [] rfl rfl (fun vs => by apply look_pk; exact goPk; exact rfl) (fun vs => by apply ltr_pk; exact goPk; exact goLtr) goApp ?_
          refine rpv [6, 11] [] ?_
          refine rpv [12] [] ?_
          refine Run.yes [13] [] rfl rfl (fun vs => by apply look_pk; exact goPk; exact rfl) (fun vs => by apply ltr_pk; exact goPk; exact goLtr) goApp ?_
          refine Run.yes [13, 14] [] rfl rfl (fun vs => by apply look_pk; exact goPk; exact rfl) (fun vs => by apply ltr_pk; exact goPk; exact goLtr) goApp ?_
          refine Run.yes [13, 15] [] rfl rfl (fun vs => by apply look_pk; exact goPk; exact rfl) (fun vs => by apply ltr_pk; exact goPk; exact goLtr) goApp ?_
          refine Run.yes [13, 16] [] rfl rfl (fun vs => by apply look_pk; exact goPk; exact rfl) (fun vs => by apply ltr_pk; exact goPk; (refine ltr ?_; apply LT_bool true; apply lt_eql; exact rfl; exact rfl; simp [h3])) goApp ?_
          refine rpv [13, 17] [] ?_
          refine rpv [18] [] ?_
          refine Run.no [19] [] rfl rfl (fun vs => by apply look_pk; exact goPk; exact rfl) (by exact rfl) goApp ?_
          refine Run.no [19, 20] [] rfl rfl (fun vs => by apply look_pk; exact goPk; exact rfl) (by exact rfl) goApp ?_
          refine Run.no [19, 21] [] rfl rfl (fun vs => by apply look_pk; exact goPk; exact rfl) (by exact rfl) goApp ?_
          refine Run.no [19] [] rfl rfl (fun vs => by apply look_pk; exact goPk; exact rfl) (by exact rfl) goApp ?_
          refine Run.no [19, 23] [] rfl rfl (fun vs => by apply look_pk; exact goPk; exact rfl) (by exact rfl) goApp ?_
          refine ⟨⟨by kernel_rfl, by kernel_rfl⟩, fun vs => ?_⟩
          apply WL_auto [19, 22, 24]
          · exact goPk
          · exact goNrm
          · kernel_rfl
          · kernel_rfl
          (refine goSt ?_; (repeat (refine goAl ?_; intro p hp; refine goSt ?_)))
          (apply res1; exact rfl; exact rfl; exact ⟨rfl, rfl⟩)
        · have hA : bilA f.ids f.bs[k] = true := by unfold bilA; rw [h1, h2]; simp [h3]
          rw [hA, Bool.true_and] at hbo
          refine W_run 25 [18, 19, 20, 21, 22, 23, 24, 25, 26, 27, 28, 29, 30, 31, 32, 33, 34, 35, 36, 37, 38, 39, 40, 41, 42] [0, 1, 2, 3, 4, 5, 6, 7, 8, 9, 10, 11, 12, 13, 14, 15, 16, 17, 18, 19, 20, 21, 22, 23, 24] Cut.nil rfl goFlt mixedS (by kernel_rfl) rfl ?_
          refine rpv [] [] ?_
          refine rpv [0] [] ?_
          refine rpv [] [] ?_
          refine rpv [2] [] ?_
          refine Run.pv [1, 3] [] rfl (fun vs => by apply ltr_pk; exact goPk; (refine ltr ?_; refine lt_call ?_ (C1); exact rfl)) goApp ?_
          refine rpv [4] [] ?_
          refine rpv [5] [] ?_
          refine Run.yes [6] [] rfl rfl (fun vs => by apply look_pk; exact goPk; exact rfl) (fun vs => by apply ltr_pk; exact goPk; exact goLtr) goApp ?_
          refine Run.yes [6, 7] [] rfl rfl (fun vs => by apply look_pk; exact goPk; exact rfl) (fun vs => by apply ltr_pk; exact goPk; exact goLtr) goApp ?_
          refine Run.yes [6, 8] [] rfl rfl (fun vs => by apply look_pk; exact goPk; exact rfl) (fun vs => by apply ltr_pk; exact goPk; (refine ltr ?_; apply LT_frz; apply lt_lit (f := iC); (repeat (first | exact Elems.nil | (apply Elems.cons; exact rfl; exact inferInstance; exact rfl))); exact rfl; (first | exact (of_decide_eq_true rfl) | decide | (simp; done) | (simp; omega)))) goApp ?_
          refine Run.yes [6, 9] [] rfl rfl (fun vs => by apply look_pk; exact goPk; exact rfl) (fun vs => by apply ltr_pk; exact goPk; (refine ltr ?_; refine lt_call ?_ (C2); exact rfl)) goApp ?_
          refine Run.yes [6, 10] [] rfl rfl (fun vs => by apply look_pk; exact goPk; exact rfl) (fun vs => by apply ltr_pk; exact goPk; exact goLtr) goApp ?_
          refine rpv [6, 11] [] ?_
          refine rpv [12] [] ?_
          refine Run.yes [13] [] rfl rfl (fun vs => by apply look_pk; exact goPk; exact rfl) (fun vs => by apply ltr_pk; exact goPk; exact goLtr) goApp ?_
          refine Run.yes [13, 14] [] rfl rfl (fun vs => by apply look_pk; exact goPk; exact rfl) (fun vs => by apply ltr_pk; exact goPk; exact goLtr) goApp ?_
          refine Run.yes [13, 15] [] rfl rfl (fun vs => by apply look_pk; exact goPk; exact rfl) (fun vs => by apply ltr_pk; exact goPk; exact goLtr) goApp ?_
          refine Run.yes [13, 16] [] rfl rfl (fun vs => by apply look_pk; exact goPk; exact rfl) (fun vs => by apply ltr_pk; exact goPk; (refine ltr ?_; apply LT_bool false; apply lt_eql; exact rfl; exact rfl; (have := List.length_pos_iff.2 h3; simp; omega))) goApp ?_
          refine rpv [13, 17] [] ?_
          refine rpv [18] [] ?_
          refine Run.yes [19] [] rfl rfl (fun vs => by apply look_pk; exact goPk; exact rfl) (fun vs => by apply ltr_pk; exact goPk; exact goLtr) goApp ?_
          refine Run.yes [19, 20] [] rfl rfl (fun vs => by apply look_pk; exact goPk; exact rfl) (fun vs => by apply ltr_pk; exact goPk; exact goLtr) goApp ?_
          refine Run.yes [19, 21] [] rfl rfl (fun vs => by apply look_pk; exact goPk; exact rfl) (fun vs => by apply ltr_pk; exact goPk; (refine ltr ?_; refine lt_call ?_ (C3); exact rfl)) goApp ?_
          refine Run.yes [19] [] rfl rfl (fun vs => by apply look_pk; exact goPk; exact rfl) (fun vs => by apply ltr_pk; exact goPk; exact goLtr) goApp ?_
          refine Run.yes [19, 23] [] rfl rfl (fun vs => by apply look_pk; exact goPk; exact rfl) (fun vs => by apply ltr_pk; exact goPk; exact goLtr) goApp ?_
          refine ⟨⟨by kernel_rfl, by kernel_rfl⟩, fun vs => ?_⟩
          apply WL_auto [19, 22, 24]
          · exact goPk
          · exact goNrm
          · kernel_rfl
          · kernel_rfl
          (refine goSt ?_; (repeat (refine goAl ?_; intro p hp; refine goSt ?_)))
          (first | (apply wl_call (hM); exact rfl; exact rfl) | (apply wl_callR (hM); exact rfl; exact goAtm; exact rfl))
          (refine goSt ?_; (repeat (refine goAl ?_; intro p hp; refine goSt ?_)))
          refine w_cond rfl (fun g => ?_) (fun g => ?_)
          · have hf := hno (by rw [hbo]; simp only [Bool.not_eq_true'] at g; rw [g]; rfl)
            rw [hf]
            (refine goSt ?_; (repeat (refine goAl ?_; intro p hp; refine goSt ?_)))
            (apply res1; exact rfl; exact rfl; exact ⟨rfl, rfl⟩)
          · have g' : ofB (f.bs[k].st.map Stk.fl) f.ids = true := by simpa using g
            rw [g', Bool.true_and] at hbo
            (refine goSt ?_; (repeat (refine goAl ?_; intro p hp; refine goSt ?_)))
            have C5 := containsFuncS_con f.bs[k].st 220 [] _ (by omega) (fun s _ => chk31_con s)
            (first | (apply wl_call (C5); exact rfl; exact rfl) | (apply wl_callR (C5); exact rfl; exact goAtm; exact rfl))
            (refine goSt ?_; (repeat (refine goAl ?_; intro p hp; refine goSt ?_)))
            refine w_cond rfl (fun g2 => ?_) (fun g2 => ?_)
            · have hf := hno (by rw [hbo, g2]; rfl)
              rw [hf]
              (refine goSt ?_; (repeat (refine goAl ?_; intro p hp; refine goSt ?_)))
              (apply res1; exact rfl; exact rfl; exact ⟨rfl, rfl⟩)
            · have hy := hyes (by rw [hbo, g2]; rfl)
              (refine goSt ?_; (repeat (refine goAl ?_; intro p hp; refine goSt ?_)))
              (refine ⟨(k + 1, v'), fun _ _ st => st_sub2 st ?_ ?_, ?_, ?_⟩; exact goSubr; exact goSubp)
              · exact ⟨by dsimp only; omega, hy⟩
              · dsimp only; omega
  · have hkk : k = f.bs.length := by simp at hlt; omega
    subst hkk
    rw [List.take_length] at hal
    rw [List.take_of_length_le (by simp), hal, Bool.true_and]
    (apply W_frz 3; exact rfl; exact goRm)
    (refine goSt ?_; (repeat (refine goAl ?_; intro p hp; refine goSt ?_)))
    (first | (apply wl_call (rising_con (f.bs.map Bil.no) (by simp; omega)); exact rfl; exact rfl) | (apply wl_callR (rising_con (f.bs.map Bil.no) (by simp; omega)); exact rfl; exact goAtm; exact rfl))
    (refine goSt ?_; (repeat (refine goAl ?_; intro p hp; refine goSt ?_)))
    (apply res1; exact rfl; exact rfl; exact ⟨rfl, rfl⟩)
end Go.Proofs.YtihonljdanjfmaaDoor.Sw
namespace Go.Proofs.YtihonljdanjfmaaDoor.Sw
open Go.RowKit Go Go.Shelf Go.Proofs
def chk8 : List AV := [.clo 215 [], .clo 216 [], .clo 217 [], .clo 221 []]
abbrev tab8 : HA := HA.glob 0 chk8
def errF (f : Flo) : Int := if floOk f = true then 0 else 80
def chkA (f : Flo) : Bool := decide (f.ids.length ≤ 6) && decide (f.bs.length ≤ 10) && decide (f.ps.length ≤ 12) && rises 0 f.ids
set_option maxRecDepth 20000 in
set_option maxHeartbeats 4000000 in
theorem check_con (f : Flo) (hS : Sml f) : Con Tryd.prog 22 [.agg (flC f)] [tab8] (Is (.val (.int .i64 (errF f))) [tab8]) := by
  have hE : errF f = (if (chkA f && qusOk f.ids none f.qs && bilsOk f.ids 0 f.bs && paysOk f.ids f.ps) = true then 0 else 80) := rfl
  rw [hE]
  clear hE
  refine con_of Tryd.func22 rfl (enters_of Tryd.func22 (by kernel_rfl) rfl) rfl ?_; intro n w0 F0 G0
  (refine goSt ?_; (repeat (refine goAl ?_; intro p hp; refine goSt ?_)))
  refine W_rounds 5 (WR_step ?_)
  have C0 := check1_con f hS
  rw [show (decide (f.ids.length ≤ 6) && decide (f.bs.length ≤ 10) && decide (f.ps.length ≤ 12) && rises 0 f.ids) = chkA f from rfl] at C0
  (refine goSt ?_; (repeat (refine goAl ?_; intro p hp; refine goSt ?_)))
  (apply wl_indexVN (e := 122) (n := 1); exact (show Tryd.prog.underlying 123 = some (.array 4 122) by kernel_rfl); exact rfl; exact rfl; exact (show _ = ((0 : Nat) : Int) from rfl); decide; exact (show _ = [AV.clo 215 []] from rfl); exact rfl)
  (refine goSt ?_; (repeat (refine goAl ?_; intro p hp; refine goSt ?_)))
  (apply wl_callV0 (C0); exact rfl; exact rfl; exact rfl)
  (refine goSt ?_; (repeat (refine goAl ?_; intro p hp; refine goSt ?_)))
  cases h0 : chkA f with
  | false =>
    simp only [Bool.true_and, Bool.false_and, Bool.and_false, Bool.false_eq_true, if_false, Bool.not_false]
    (refine goSt ?_; (repeat (refine goAl ?_; intro p hp; refine goSt ?_)))
    (apply resK; exact rfl; exact rfl; (apply Cut.cons (h := tab8); exact goRm; exact Cut.nil); exact ⟨rfl, rfl⟩)
  | true =>
    simp only [Bool.true_and, Bool.and_true, Bool.not_true]
    (refine goSt ?_; (repeat (refine goAl ?_; intro p hp; refine goSt ?_)))
    have hr : rises 0 f.ids = true := by unfold chkA at h0; simp only [Bool.and_eq_true] at h0; exact h0.2
    (refine goSt ?_; (repeat (refine goAl ?_; intro p hp; refine goSt ?_)))
    (apply wl_indexVN (e := 122) (n := 1); exact (show Tryd.prog.underlying 123 = some (.array 4 122) by kernel_rfl); exact rfl; exact rfl; exact (show _ = ((1 : Nat) : Int) from rfl); decide; exact (show _ = [AV.clo 216 []] from rfl); exact rfl)
    (refine goSt ?_; (repeat (refine goAl ?_; intro p hp; refine goSt ?_)))
    (apply wl_callV0 (check2_con f hS hr); exact rfl; exact rfl; exact rfl)
    (refine goSt ?_; (repeat (refine goAl ?_; intro p hp; refine goSt ?_)))
    cases h1 : qusOk f.ids none f.qs with
    | false =>
      simp only [Bool.true_and, Bool.false_and, Bool.and_false, Bool.false_eq_true, if_false, Bool.not_false]
      (refine goSt ?_; (repeat (refine goAl ?_; intro p hp; refine goSt ?_)))
      (apply resK; exact rfl; exact rfl; (apply Cut.cons (h := tab8); exact goRm; exact Cut.nil); exact ⟨rfl, rfl⟩)
    | true =>
      simp only [Bool.true_and, Bool.and_true, Bool.not_true]
      (refine goSt ?_; (repeat (refine goAl ?_; intro p hp; refine goSt ?_)))
      (refine goSt ?_; (repeat (refine goAl ?_; intro p hp; refine goSt ?_)))
      (apply wl_indexVN (e := 122) (n := 1); exact (show Tryd.prog.underlying 123 = some (.array 4 122) by kernel_rfl); exact rfl; exact rfl; exact (show _ = ((2 : Nat) : Int) from rfl); decide; exact (show _ = [AV.clo 217 []] from rfl); exact rfl)
      (refine goSt ?_; (repeat (refine goAl ?_; intro p hp; refine goSt ?_)))
      (apply wl_callV0 (check3_con f hS hr); exact rfl; exact rfl; exact rfl)
      (refine goSt ?_; (repeat (refine goAl ?_; intro p hp; refine goSt ?_)))
      cases h2 : bilsOk f.ids 0 f.bs with
      | false =>
        simp only [Bool.true_and, Bool.false_and, Bool.and_false, Bool.false_eq_true, if_false, Bool.not_false]
        (refine goSt ?_; (repeat (refine goAl ?_; intro p hp; refine goSt ?_)))
        (apply resK; exact rfl; exact rfl; (apply Cut.cons (h := tab8); exact goRm; exact Cut.nil); exact ⟨rfl, rfl⟩)
      | true =>
        simp only [Bool.true_and, Bool.and_true, Bool.not_true]
        (refine goSt ?_; (repeat (refine goAl ?_; intro p hp; refine goSt ?_)))
        (refine goSt ?_; (repeat (refine goAl ?_; intro p hp; refine goSt ?_)))
        (apply wl_indexVN (e := 122) (n := 1); exact (show Tryd.prog.underlying 123 = some (.array 4 122) by kernel_rfl); exact rfl; exact rfl; exact (show _ = ((3 : Nat) : Int) from rfl); decide; exact (show _ = [AV.clo 221 []] from rfl); exact rfl)
        (refine goSt ?_; (repeat (refine goAl ?_; intro p hp; refine goSt ?_)))
        (apply wl_callV0 (check4_con f hS); exact rfl; exact rfl; exact rfl)
        (refine goSt ?_; (repeat (refine goAl ?_; intro p hp; refine goSt ?_)))
        cases h3 : paysOk f.ids f.ps with
        | false =>
          simp only [Bool.true_and, Bool.false_and, Bool.and_false, Bool.false_eq_true, if_false, Bool.not_false]
          (refine goSt ?_; (repeat (refine goAl ?_; intro p hp; refine goSt ?_)))
          (apply resK; exact rfl; exact rfl; (apply Cut.cons (h := tab8); exact goRm; exact Cut.nil); exact ⟨rfl, rfl⟩)
        | true =>
          simp only [Bool.true_and, Bool.and_true, Bool.not_true]
          (refine goSt ?_; (repeat (refine goAl ?_; intro p hp; refine goSt ?_)))
          (refine goSt ?_; (repeat (refine goAl ?_; intro p hp; refine goSt ?_)))
          rw [if_pos trivial]
          (apply resK; exact rfl; exact rfl; (apply Cut.cons (h := tab8); exact goRm; exact Cut.nil); exact ⟨rfl, rfl⟩)
end Go.Proofs.YtihonljdanjfmaaDoor.Sw
namespace Go.Proofs.YtihonljdanjfmaaDoor
open Go Go.ChangeShapes Go.WideShapes Go.ChangeAt Go.RowKit
def laidL : List (String × DataW Unit) := [("aguador/floor.checks", Rows.laid_aguador_floor_checks)]
set_option maxRecDepth 100000 in
theorem door_met (os : Os) (args : Array Value) : laidMetH Tryd.prog laidL ((World.doorLaid Tryd.prog 400 os).forCall (fun _ _ => 0) ⟨#[], args, []⟩).memory :=
  laidMetH_of_parts3 (fuel := 8) (laidMet_of_run' 8 (by kernel_rfl) (by kernel_rfl)) (by kernel_rfl) (by kernel_rfl)
end Go.Proofs.YtihonljdanjfmaaDoor
namespace Go.Proofs.YtihonljdanjfmaaDoor.Sw
open Go Go.RowKit Go.ChangeShapes Go.WideShapes Go.ChangeAt
set_option maxRecDepth 100000
theorem tab_of8 {W : World} {L : List (String × DataW Unit)} (hm : ("aguador/floor.checks", Rows.laid_aguador_floor_checks) ∈ L) (h : laidMetH Tryd.prog L W) : hsP [tab8] (gh W) [] W := by
  obtain ⟨g, t, cs, fuel, p, hg, ht, hv, hd⟩ := h.funcs (n := "aguador/floor.checks") hm
  obtain rfl := Option.some.inj ((show Tryd.prog.globalNamed "aguador/floor.checks" = some 0 by kernel_rfl).symm.trans hg)
  obtain rfl := Option.some.inj ((show (Tryd.prog.globals[0]?).map (·.type) = some 123 by kernel_rfl).symm.trans ht)
  have hd' : DataW.trod (funcToken Tryd.prog) Tryd.prog W 0 (fun _ => true) true fuel 123 cs.toList = some (.agg [.agg [.held [97, 103, 117, 97, 100, 111, 114, 47, 102, 108, 111, 111, 114, 46, 99, 104, 101, 99, 107, 115, 36, 49]], .agg [.held [97, 103, 117, 97, 100, 111, 114, 47, 102, 108, 111, 111, 114, 46, 99, 104, 101, 99, 107, 115, 36, 50]], .agg [.held [97, 103, 117, 97, 100, 111, 114, 47, 102, 108, 111, 111, 114, 46, 99, 104, 101, 99, 107, 115, 36, 51]], .agg [.held [97, 103, 117, 97, 100, 111, 114, 47, 102, 108, 111, 111, 114, 46, 99, 104, 101, 99, 107, 115, 36, 52]]], p) := hd
  obtain ⟨xs, m, rfl, hx, hlen, hn, hel⟩ := DataW.trod_array Tryd.underlying123 hd'
  rw [show Tryd.prog.cellsOf 122 = 1 by kernel_rfl] at hel
  rw [show Tryd.prog.cellsOf 123 = 4 by kernel_rfl] at hlen
  obtain ⟨cl⟩ := cs
  match cl, hlen, xs, hn with
  | [v0, v1, v2, v3], _, [x0, x1, x2, x3], _ =>
    simp only [Prod.mk.injEq, DataW.agg.injEq, List.map_cons, List.map_nil, List.cons.injEq] at hx
    have h0 := hel 0 (by decide); have h1 := hel 1 (by decide); have h2 := hel 2 (by decide); have h3 := hel 3 (by decide)
    simp at h0 h1 h2 h3
    have go : ∀ (v : Value) (x : DataW (List UInt8) × List MemPlace) (b : UInt8) (r : List UInt8) (f0 : FuncId), ((List.range Tryd.prog.funcs.size).filter fun f => (Tryd.prog.funcs[f]?).any (·.name.toUTF8.data.toList == b :: r)) = [f0] →
        DataW.trod (funcToken Tryd.prog) Tryd.prog W 0 (fun _ => true) true m 122 [v] = some x → x.1 = .agg [.held (b :: r)] → v = .func (.func f0) #[] #[] := by
      intro v x b r f0 hone h hx
      obtain ⟨y, n, rfl, _, hy⟩ := trod_struct1 Tryd.underlying122 h
      simp only [DataW.agg.injEq, List.cons.injEq, and_true] at hx
      obtain ⟨y1, y2⟩ := y
      simp only at hx
      subst hx
      exact func_of_trod (P := Tryd.prog) Tryd.underlying28 hone (by simpa [show Tryd.prog.cellsOf 28 = 1 by kernel_rfl] using hy)
    have e0 := go v0 x0 _ _ 215 (by kernel_rfl) h0 hx.1.1.symm
    have e1 := go v1 x1 _ _ 216 (by kernel_rfl) h1 hx.1.2.1.symm
    have e2 := go v2 x2 _ _ 217 (by kernel_rfl) h2 hx.1.2.2.1.symm
    have e3 := go v3 x3 _ _ 221 (by kernel_rfl) h3 hx.1.2.2.2.1.symm
    subst e0; subst e1; subst e2; subst e3
    have hc := World.var?_cell hg hv
    have hfit : Fits (gh W) chk8 [.func (.func 215) #[] #[], .func (.func 216) #[] #[], .func (.func 217) #[] #[], .func (.func 221) #[] #[]] :=
      show Fits (gh W) [_, _, _, _] _ from ⟨⟨[], rfl, trivial⟩, ⟨[], rfl, trivial⟩, ⟨[], rfl, trivial⟩, ⟨[], rfl, trivial⟩, trivial⟩
    refine ⟨[], [], .refl _, ⟨rfl, _, hfit, fun j u e => ?_⟩, rfl⟩
    have := hc j
    exact cellG_gh (by simpa [e] using this)
theorem reads_2 {t : TypeId} {f0 f1 : Field} {α β : Type} {g0 : α → AV} {g1 : β → AV} (ht : Tryd.prog.underlying t = some (.struct #[f0, f1])) (hone : Go.Deep.oneCellFields Tryd.prog #[f0, f1] = true) (hC : Tryd.prog.cellsOf t = 2)
    (h0 : Reads f0.type fun x => [g0 x]) (h1 : Reads f1.type fun x => [g1 x]) : Reads t fun x : α × β => [g0 x.1, g1 x.2] := fun {H enc W n cs y} h => by
  obtain ⟨y0, y1, n, _, hl, k0, k1⟩ := trod_struct2 ht h
  rw [hC] at hl
  obtain ⟨o0, c0⟩ := Go.Deep.hone_of hone 0 f0 rfl
  obtain ⟨o1, c1⟩ := Go.Deep.hone_of hone 1 f1 rfl
  match cs, hl with
  | [v0, v1], _ =>
    obtain ⟨x0, e0, _⟩ := h0 (by simpa [o0, c0] using k0)
    obtain ⟨x1, e1, _⟩ := h1 (by simpa [o1, c1] using k1)
    exact ⟨⟨x0, x1⟩, e0, e1, trivial⟩
theorem reads_3 {t : TypeId} {f0 f1 f2 : Field} {α β γ : Type} {g0 : α → AV} {g1 : β → AV} {g2 : γ → AV} (ht : Tryd.prog.underlying t = some (.struct #[f0, f1, f2])) (hone : Go.Deep.oneCellFields Tryd.prog #[f0, f1, f2] = true) (hC : Tryd.prog.cellsOf t = 3)
    (h0 : Reads f0.type fun x => [g0 x]) (h1 : Reads f1.type fun x => [g1 x]) (h2 : Reads f2.type fun x => [g2 x]) : Reads t fun x : α × β × γ => [g0 x.1, g1 x.2.1, g2 x.2.2] := fun {H enc W n cs y} h => by
  obtain ⟨y0, y1, y2, n, _, hl, k0, k1, k2⟩ := Go.Deep.trod_struct3 ht h
  rw [hC] at hl
  obtain ⟨o0, c0⟩ := Go.Deep.hone_of hone 0 f0 rfl
  obtain ⟨o1, c1⟩ := Go.Deep.hone_of hone 1 f1 rfl
  obtain ⟨o2, c2⟩ := Go.Deep.hone_of hone 2 f2 rfl
  match cs, hl with
  | [v0, v1, v2], _ =>
    obtain ⟨x0, e0, _⟩ := h0 (by simpa [o0, c0] using k0)
    obtain ⟨x1, e1, _⟩ := h1 (by simpa [o1, c1] using k1)
    obtain ⟨x2, e2, _⟩ := h2 (by simpa [o2, c2] using k2)
    exact ⟨⟨x0, x1, x2⟩, e0, e1, e2, trivial⟩
theorem reads_q : Reads 55 quC := fun {H enc W n cs y} h =>
  let ⟨x, hx⟩ := reads_2 Tryd.underlying55 (by kernel_rfl) (by kernel_rfl) reads_i reads_i h
  ⟨⟨x.1, x.2⟩, hx⟩
theorem reads_st : Reads 113 stC := fun {H enc W n cs y} h =>
  let ⟨x, hx⟩ := reads_2 Tryd.underlying113 (by kernel_rfl) (by kernel_rfl) reads_i reads_i h
  ⟨⟨x.1, x.2⟩, hx⟩
theorem reads_p : Reads 53 payC := fun {H enc W n cs y} h =>
  let ⟨x, hx⟩ := reads_3 Tryd.underlying53 (by kernel_rfl) (by kernel_rfl) reads_i reads_i reads_i h
  ⟨⟨x.1, x.2.1, x.2.2⟩, hx⟩
theorem reads_qs : Reads 23 fun xs : List Qu => [AV.sl 2 quC xs] := reads_sl Tryd.underlying23 (n := 2) (by kernel_rfl) (by decide) (fun _ => rfl) reads_q
theorem reads_sts : Reads 64 fun xs : List Stk => [AV.sl 2 stC xs] := reads_sl Tryd.underlying64 (n := 2) (by kernel_rfl) (by decide) (fun _ => rfl) reads_st
theorem reads_ps : Reads 25 fun xs : List Pay => [AV.sl 3 payC xs] := reads_sl Tryd.underlying25 (n := 3) (by kernel_rfl) (by decide) (fun _ => rfl) reads_p
theorem reads_b : Reads 66 biC := fun {H enc W n cs y} h =>
  let ⟨x, hx⟩ := reads_4 Tryd.underlying66 (by kernel_rfl) (by kernel_rfl) reads_i reads_i reads_i reads_sts h
  ⟨⟨x.1, x.2.1, x.2.2.1, x.2.2.2⟩, hx⟩
theorem reads_bs : Reads 24 fun xs : List Bil => [AV.sl 4 biC xs] := reads_sl Tryd.underlying24 (n := 4) (by kernel_rfl) (by decide) (fun _ => rfl) reads_b
theorem reads_f : Reads 27 flC := fun {H enc W n cs y} h =>
  let ⟨x, hx⟩ := reads_4 Tryd.underlying27 (by kernel_rfl) (by kernel_rfl) reads_is reads_qs reads_bs reads_ps h
  ⟨⟨x.1, x.2.1, x.2.2.1, x.2.2.2⟩, hx⟩
end Go.Proofs.YtihonljdanjfmaaDoor.Sw
namespace Go.Proofs.YtihonljdanjfmaaDoor.Sw
open Go.RowKit Go Go.Shelf Go.Proofs
def sumPt : List Stk → Int
  | [] => 0
  | s :: t => s.pt + sumPt t
def addAt (l : List Int) (i : Nat) (d : Int) : List Int := l.set i (l[i]?.getD 0 + d)
def putAll (ids : List Int) (pe all : Int) : List Stk → List Int → List Int
  | [], l => l
  | s :: t, l => putAll ids pe all t (l.set (ids.idxOf s.fl) (pe * s.pt / all))
def incAll (ids : List Int) : List Stk → List Int → List Int
  | [], l => l
  | s :: t, l => incAll ids t (addAt l (ids.idxOf s.fl) 1)
def leftQ (pe all : Int) : List Stk → Int → Int
  | [], n => n
  | s :: t, n => leftQ pe all t (n - pe * s.pt / all)
def sharesR (ids : List Int) (x : Bil) : List Int := incAll ids (x.st.take (leftQ x.pe (sumPt x.st) x.st x.pe).toNat) (putAll ids x.pe (sumPt x.st) x.st (List.replicate ids.length 0))
def subL (l m : List Int) : List Int := List.zipWith (· - ·) l m
def bilFold (ids : List Int) : List Bil → List Int → List Int
  | [], l => l
  | x :: t, l => bilFold ids t (subL (addAt l (ids.idxOf x.py) x.pe) (sharesR ids x))
def payStep (ids : List Int) (x : Pay) (l : List Int) : List Int := addAt (addAt l (ids.idxOf x.a) x.p) (ids.idxOf x.b) (-x.p)
def payFold (ids : List Int) : List Pay → List Int → List Int
  | [], l => l
  | x :: t, l => payFold ids t (payStep ids x l)
def owed8 (f : Flo) : List Int := payFold f.ids f.ps (bilFold f.ids f.bs (List.replicate f.ids.length 0))
/-- What a valid bill gives. -/
theorem stks_all {ids : List Int} : ∀ {t : List Stk} {last : Int}, stksOk ids last t = true → ∀ s ∈ t, s.fl ∈ ids ∧ 1 ≤ s.pt ∧ s.pt ≤ 9
  | [], _, _, s, hs => by cases hs
  | x :: t, last, h, s, hs => by
    simp only [stksOk, Bool.and_eq_true, decide_eq_true_eq] at h
    rcases List.mem_cons.1 hs with rfl | hs
    · exact ⟨h.1.1.2, h.1.2.1, h.1.2.2⟩
    · exact stks_all h.2 s hs
structure BilF (ids : List Int) (x : Bil) : Prop where
  py : x.py ∈ ids
  pe0 : 1 ≤ x.pe
  pe1 : x.pe ≤ 1000000
  ne : x.st ≠ []
  st : ∀ s ∈ x.st, s.fl ∈ ids ∧ 1 ≤ s.pt ∧ s.pt ≤ 9
theorem bil_f {ids : List Int} {x : Bil} (h : bilOk ids x = true) : BilF ids x := by
  simp only [bilOk, Bool.and_eq_true, decide_eq_true_eq] at h
  exact ⟨h.1.1.1, h.1.1.2.1, h.1.1.2.2, h.1.2, stks_all h.2⟩
theorem bils_all {ids : List Int} : ∀ {t : List Bil} {last : Int}, bilsOk ids last t = true → ∀ x ∈ t, BilF ids x
  | [], _, _, s, hs => by cases hs
  | x :: t, last, h, s, hs => by
    simp only [bilsOk, Bool.and_eq_true, decide_eq_true_eq] at h
    rcases List.mem_cons.1 hs with rfl | hs
    · exact bil_f h.1.2
    · exact bils_all h.2 s hs
theorem pay_f {ids : List Int} {x : Pay} (h : payOk ids x = true) : x.a ∈ ids ∧ x.b ∈ ids ∧ x.a ≠ x.b ∧ 1 ≤ x.p ∧ x.p ≤ 1000000 := by
  simp only [payOk, Bool.and_eq_true, decide_eq_true_eq] at h
  exact ⟨h.1.1.1, h.1.1.2, h.1.2, h.2.1, h.2.2⟩
theorem pays_all {ids : List Int} : ∀ {t : List Pay}, paysOk ids t = true → ∀ x ∈ t, x.a ∈ ids ∧ x.b ∈ ids ∧ x.a ≠ x.b ∧ 1 ≤ x.p ∧ x.p ≤ 1000000
  | [], _, s, hs => by cases hs
  | x :: t, h, s, hs => by
    simp only [paysOk, Bool.and_eq_true] at h
    rcases List.mem_cons.1 hs with rfl | hs
    · exact pay_f h.1
    · exact pays_all h.2 s hs
structure FloF (f : Flo) : Prop where
  ids : f.ids.length ≤ 6
  bs : f.bs.length ≤ 10
  ps : f.ps.length ≤ 12
  bil : ∀ x ∈ f.bs, BilF f.ids x
  pay : ∀ x ∈ f.ps, x.a ∈ f.ids ∧ x.b ∈ f.ids ∧ x.a ≠ x.b ∧ 1 ≤ x.p ∧ x.p ≤ 1000000
theorem flo_f {f : Flo} (h : floOk f = true) : FloF f := by
  simp only [floOk, Bool.and_eq_true, decide_eq_true_eq] at h
  exact ⟨h.1.1.1.1.1.1, h.1.1.1.1.1.2, h.1.1.1.1.2, bils_all h.1.2, pays_all h.2⟩
theorem sumPt_bounds {t : List Stk} (h : ∀ s ∈ t, 1 ≤ s.pt ∧ s.pt ≤ 9) : (t.length : Int) ≤ sumPt t ∧ sumPt t ≤ 9 * t.length := by
  induction t with
  | nil => simp [sumPt]
  | cons s t ih =>
    have h1 := h s (by simp)
    have h2 := ih fun u hu => h u (by simp [hu])
    simp only [sumPt, List.length_cons]
    omega
def quots (pe all : Int) : List Stk → Int
  | [] => 0
  | s :: t => pe * s.pt / all + quots pe all t
theorem leftQ_eq (pe all : Int) : ∀ (t : List Stk) (n : Int), leftQ pe all t n = n - quots pe all t
  | [], n => by simp [leftQ, quots]
  | s :: t, n => by rw [leftQ, leftQ_eq pe all t, quots]; omega
theorem quots_bounds {pe all : Int} (ha : 0 < all) : ∀ (t : List Stk), quots pe all t * all ≤ pe * sumPt t ∧ pe * sumPt t ≤ quots pe all t * all + t.length * (all - 1)
  | [] => by simp [quots, sumPt]
  | s :: t => by
    have ⟨h1, h2⟩ := quots_bounds (pe := pe) ha t
    have e := Int.mul_ediv_add_emod (pe * s.pt) all
    have r0 := Int.emod_nonneg (pe * s.pt) (show all ≠ 0 by omega)
    have r1 := Int.emod_lt_of_pos (pe * s.pt) ha
    simp only [quots, sumPt, List.length_cons]
    have e1 : (pe * s.pt / all + quots pe all t) * all = all * (pe * s.pt / all) + quots pe all t * all := by rw [Int.add_mul, Int.mul_comm (pe * s.pt / all)]
    have e2 : pe * (s.pt + sumPt t) = pe * s.pt + pe * sumPt t := Int.mul_add _ _ _
    have e3 : ((t.length + 1 : Nat) : Int) * (all - 1) = t.length * (all - 1) + (all - 1) := by rw [Int.natCast_add, Int.add_mul]; simp
    rw [e1, e2, e3]
    omega
theorem left_bounds {ids : List Int} {x : Bil} (h : BilF ids x) : 0 ≤ leftQ x.pe (sumPt x.st) x.st x.pe ∧ leftQ x.pe (sumPt x.st) x.st x.pe ≤ x.st.length := by
  have hb := sumPt_bounds fun s hs => (h.st s hs).2
  have hl : 0 < x.st.length := List.length_pos_iff.2 h.ne
  have ha : 0 < sumPt x.st := by omega
  obtain ⟨h1, h2⟩ := quots_bounds (pe := x.pe) ha x.st
  rw [leftQ_eq]
  have k1 : quots x.pe (sumPt x.st) x.st ≤ x.pe := Int.le_of_mul_le_mul_right h1 ha
  have k2 : x.pe ≤ quots x.pe (sumPt x.st) x.st + x.st.length := by
    refine Int.le_of_mul_le_mul_right (a := sumPt x.st) ?_ ha
    rw [Int.add_mul]
    have : (x.st.length : Int) * (sumPt x.st - 1) ≤ x.st.length * sumPt x.st := Int.mul_le_mul_of_nonneg_left (by omega) (by omega)
    omega
  omega
theorem quot_bounds {ids : List Int} {x : Bil} (h : BilF ids x) {s : Stk} (hs : s ∈ x.st) : 0 ≤ x.pe * s.pt ∧ x.pe * s.pt ≤ 9000000 ∧ 0 < sumPt x.st ∧ sumPt x.st ≤ 9 * x.st.length ∧ 0 ≤ x.pe * s.pt / sumPt x.st ∧ x.pe * s.pt / sumPt x.st ≤ 9000000 := by
  have hb := sumPt_bounds fun s hs => (h.st s hs).2
  have hl : 0 < x.st.length := List.length_pos_iff.2 h.ne
  have h1 := h.st s hs
  have h2 := h.pe0
  have h3 := h.pe1
  have a1 : 0 ≤ x.pe * s.pt := Int.mul_nonneg (by omega) (by omega)
  have a2 : x.pe * s.pt ≤ 1000000 * 9 := Int.mul_le_mul h3 h1.2.2 (by omega) (by omega)
  refine ⟨a1, by omega, by omega, hb.2, Int.ediv_nonneg a1 (by omega), ?_⟩
  have := Int.ediv_le_self (sumPt x.st) a1
  omega
/-- All entries lie between these. -/
def Btw (lo hi : Int) (l : List Int) : Prop := ∀ e ∈ l, lo ≤ e ∧ e ≤ hi
theorem Btw.set {lo hi : Int} {l : List Int} (h : Btw lo hi l) (i : Nat) {v : Int} (h1 : lo ≤ v) (h2 : v ≤ hi) : Btw lo hi (l.set i v) := fun e he => by
  rcases List.mem_or_eq_of_mem_set he with he | rfl
  · exact h e he
  · exact ⟨h1, h2⟩
theorem Btw.mono {lo hi lo' hi' : Int} {l : List Int} (h : Btw lo hi l) (h1 : lo' ≤ lo) (h2 : hi ≤ hi') : Btw lo' hi' l := fun e he => by have := h e he; omega
theorem Btw.getD {lo hi : Int} {l : List Int} (h : Btw lo hi l) (h1 : lo ≤ 0) (h2 : 0 ≤ hi) (i : Nat) : lo ≤ l[i]?.getD 0 ∧ l[i]?.getD 0 ≤ hi := by
  cases e : l[i]? with
  | none => exact ⟨h1, h2⟩
  | some v => exact h v (List.mem_of_getElem? e)
theorem Btw.addAt {lo hi : Int} {l : List Int} (h : Btw lo hi l) (i : Nat) {d a b : Int} (h1 : lo ≤ 0) (h2 : 0 ≤ hi) (ha : a ≤ d) (hb : d ≤ b) (ha0 : a ≤ 0) (hb0 : 0 ≤ b) : Btw (lo + a) (hi + b) (addAt l i d) := by
  have := h.getD h1 h2 i
  exact (h.mono (lo' := lo + a) (hi' := hi + b) (by omega) (by omega)).set i (by omega) (by omega)
theorem Btw.rep (n : Nat) {lo hi : Int} (h1 : lo ≤ 0) (h2 : 0 ≤ hi) : Btw lo hi (List.replicate n 0) := fun e he => by rw [List.eq_of_mem_replicate he]; exact ⟨h1, h2⟩
theorem Btw.at {lo hi : Int} {l : List Int} (h : Btw lo hi l) {i : Nat} (hi' : i < l.length) : lo ≤ l[i] ∧ l[i] ≤ hi := h _ (List.getElem_mem hi')
theorem addAt_len (l : List Int) (i : Nat) (d : Int) : (addAt l i d).length = l.length := by unfold addAt; simp
theorem addAt_at {l : List Int} {i : Nat} (h : i < l.length) (d : Int) : addAt l i d = l.set i (l[i] + d) := by unfold addAt; rw [List.getElem?_eq_getElem h]; rfl
theorem putAll_len {ids : List Int} {pe all : Int} : ∀ (t : List Stk) (l : List Int), (putAll ids pe all t l).length = l.length
  | [], l => rfl
  | s :: t, l => by rw [putAll, putAll_len t]; simp
theorem incAll_len {ids : List Int} : ∀ (t : List Stk) (l : List Int), (incAll ids t l).length = l.length
  | [], l => rfl
  | s :: t, l => by rw [incAll, incAll_len t, addAt_len]
theorem shares_len (ids : List Int) (x : Bil) : (sharesR ids x).length = ids.length := by unfold sharesR; rw [incAll_len, putAll_len]; simp
theorem putAll_btw {ids : List Int} {pe all hi : Int} : ∀ (t : List Stk) (l : List Int), (∀ s ∈ t, 0 ≤ pe * s.pt / all ∧ pe * s.pt / all ≤ hi) → Btw 0 hi l → Btw 0 hi (putAll ids pe all t l)
  | [], l, _, h => h
  | s :: t, l, hq, h => putAll_btw t _ (fun u hu => hq u (by simp [hu])) (h.set _ (hq s (by simp)).1 (hq s (by simp)).2)
theorem incAll_btw {ids : List Int} : ∀ (t : List Stk) (l : List Int) {hi : Int}, 0 ≤ hi → Btw 0 hi l → Btw 0 (hi + t.length) (incAll ids t l)
  | [], l, hi, _, h => by simpa [incAll] using h
  | s :: t, l, hi, h0, h => by
    have := incAll_btw (ids := ids) t (addAt l (ids.idxOf s.fl) 1) (hi := hi + 1) (by omega) (by simpa using h.addAt (ids.idxOf s.fl) (d := 1) (a := 0) (b := 1) (by omega) h0 (by omega) (by omega) (by omega) (by omega))
    rw [incAll]
    exact this.mono (by omega) (by simp only [List.length_cons]; omega)
theorem shares_btw {ids : List Int} {x : Bil} (h : BilF ids x) (hl : x.st.length ≤ 1000) : Btw 0 9001000 (sharesR ids x) := by
  have h1 := putAll_btw (ids := ids) (pe := x.pe) (all := sumPt x.st) (hi := 9000000) x.st (List.replicate ids.length 0) (fun s hs => (quot_bounds h hs).2.2.2.2) (Btw.rep _ (by omega) (by omega))
  have h2 := incAll_btw (ids := ids) (x.st.take (leftQ x.pe (sumPt x.st) x.st x.pe).toNat) _ (by omega) h1
  have h3 := List.length_take_le (leftQ x.pe (sumPt x.st) x.st x.pe).toNat x.st
  have h4 : (x.st.take (leftQ x.pe (sumPt x.st) x.st x.pe).toNat).length ≤ x.st.length := by rw [List.length_take]; omega
  exact h2.mono (by omega) (by omega)
end Go.Proofs.YtihonljdanjfmaaDoor.Sw
namespace Go.Proofs.YtihonljdanjfmaaDoor.Sw
open Go.RowKit Go Go.Shelf Go.Proofs
theorem zeroF {α : Type} {P : Program} {e : TypeId} {f : α → List AV} {x0 : α} {n b : Nat} {z : Value} (h2 : (P.info? e).map (fun i => (i.zero, i.size, i.bytes)) = some (some z, n, b)) {zs : List Value} (h3 : z.cells = zs.toArray) (h4 : ∀ G, Fits G (f x0) zs) : ZeroF P e f x0 := by
  obtain ⟨i, hi, e1, _, _⟩ := info_parts h2
  exact ⟨z, ⟨i, hi, e1⟩, zs, h3, h4⟩
instance zeroI : ZeroF Tryd.prog 3 iC 0 := zeroF (z := .int .i64 0) (n := 1) (b := 8) (zs := [.int .i64 0]) (by kernel_rfl) rfl (fun _ => ⟨rfl, trivial⟩)
theorem floorAt_con (f : Flo) (id : Int) (hl : f.ids.length ≤ 1000000) (hm : id ∈ f.ids) : Con Tryd.prog 64 [.agg (flC f), .val (.int .i64 id)] [] (Is (.val (.int .i64 ((f.ids.idxOf id : Nat) : Int))) []) := by
  have := floor_con f id hl
  rwa [show ixOf f.ids id = ((f.ids.idxOf id : Nat) : Int) from if_pos hm] at this
set_option maxRecDepth 20000 in
set_option maxHeartbeats 2000000 in
theorem shares8_con (f : Flo) (x : Bil) (hl : f.ids.length ≤ 6) (hs : x.st.length ≤ 1000) (hB : BilF f.ids x) : Con Tryd.prog 69 [.agg (flC f), .agg (biC x)] [] (Is (.sl 1 iC (sharesR f.ids x)) []) := by
  have hsum := sumPt_bounds fun s hs => (hB.st s hs).2
  have hlb := left_bounds hB
  have hpe0 := hB.pe0
  have hpe1 := hB.pe1
  refine con_of Tryd.func69 rfl (enters_of Tryd.func69 (by kernel_rfl) rfl) rfl ?_; intro n w0 F0 G0
  (refine goSt ?_; (repeat (refine goAl ?_; intro p hp; refine goSt ?_)))
  rename_i pf hpf
  refine W_loopJ (fun (b : Nat × Int) => ⟨[(2, .val pf), (3, .val p), (5, .val (.int .i64 b.2)), (14, .sl 2 stC x.st), (15, .val (.int .i64 x.st.length)), (16, .val (.int .i64 b.1))], [.box pf (flC f) 27, .box p (biC x) 66]⟩) (fun b => b.1 ≤ x.st.length ∧ b.2 + sumPt (x.st.drop b.1) = sumPt x.st ∧ 0 ≤ b.2 ∧ b.2 ≤ 9 * b.1) (fun b => x.st.length - b.1) (0, 0) (fun _ _ st => st_sub2 st goSubr goSubp) ?hj0 ?round
  case hj0 => simp
  case round =>
    rintro ⟨k, acc⟩ ⟨hk, hno, ha0, ha1⟩
    dsimp only at hk hno ha0 ha1 ⊢
    (refine goSt ?_; (repeat (refine goAl ?_; intro p hp; refine goSt ?_)))
    refine w_cond rfl (fun hlt => ?_) (fun hlt => ?_)
    · have hlt' : k < x.st.length := by simpa using hlt
      have hp := (hB.st _ (List.getElem_mem hlt')).2
      rw [drop_step hlt', sumPt] at hno
      (refine goSt ?_; (repeat (refine goAl ?_; intro p hp; refine goSt ?_)))
      (refine ⟨(k + 1, acc + x.st[k].pt), fun _ _ st => st_sub2 st ?_ ?_, ?_, ?_⟩; exact goSubr; exact goSubp)
      · exact ⟨hlt', by dsimp only; omega, by dsimp only; omega, by dsimp only; omega⟩
      · dsimp only; omega
    · have hkk : k = x.st.length := by simp at hlt; omega
      subst hkk
      rw [List.drop_length, sumPt, Int.add_zero] at hno
      subst hno
      clear hlt hk ha0 ha1
      (refine goSt ?_; (repeat (refine goAl ?_; intro p hp; refine goSt ?_)))
      (apply wl_make iC; exact inferInstance; exact inferInstance; exact inferInstance; exact inferInstance; exact rfl; exact rfl; exact rfl; (first | omega | (simp; omega)); exact rfl)
      intro v
      (refine goSt ?_; (repeat (refine goAl ?_; intro p hp; refine goSt ?_)))
      refine W_loopJ (fun (b : Nat × Int × List Int) => ⟨[(2, .val pf), (3, .val p), (5, .val (.int .i64 (sumPt x.st))), (8, .val v), (9, .val (.int .i64 b.2.1)), (32, .sl 2 stC x.st), (33, .val (.int .i64 x.st.length)), (34, .val (.int .i64 b.1))], [.row v 3 1 iC b.2.2, .box pf (flC f) 27, .box p (biC x) 66]⟩)
        (fun b => b.1 ≤ x.st.length ∧ b.2.2.length = f.ids.length ∧ putAll f.ids x.pe (sumPt x.st) (x.st.drop b.1) b.2.2 = putAll f.ids x.pe (sumPt x.st) x.st (List.replicate f.ids.length 0) ∧ leftQ x.pe (sumPt x.st) (x.st.drop b.1) b.2.1 = leftQ x.pe (sumPt x.st) x.st x.pe ∧ -9000000 * (b.1 : Int) ≤ b.2.1 ∧ b.2.1 ≤ 1000000) (fun b => x.st.length - b.1) (0, x.pe, List.replicate f.ids.length 0) (fun _ _ st => st_sub2 st (by exact goSubr) (by exact goSubp)) ⟨Nat.zero_le _, by simp, rfl, rfl, by dsimp only; omega, by dsimp only; omega⟩ ?_
      rintro ⟨k, left, cur⟩ ⟨hk, hcl, hno, hlf, hl0, hl1⟩
      dsimp only at hk hcl hno hlf hl0 hl1 ⊢
      (refine goSt ?_; (repeat (refine goAl ?_; intro p hp; refine goSt ?_)))
      refine w_cond rfl (fun hlt => ?_) (fun hlt => ?_)
      · have hlt' : k < x.st.length := by simpa using hlt
        have hsk := hB.st _ (List.getElem_mem hlt')
        have hq := quot_bounds hB (List.getElem_mem hlt')
        have hix : f.ids.idxOf x.st[k].fl < cur.length := by rw [hcl]; exact List.idxOf_lt_length_of_mem hsk.1
        rw [drop_step hlt', putAll] at hno
        rw [drop_step hlt', leftQ] at hlf
        (refine goSt ?_; (repeat (refine goAl ?_; intro p hp; refine goSt ?_)))
        rename_i pb hpb
        refine W_run 12 [38, 39, 40, 41, 42, 43, 44, 45, 46, 47, 48, 49] [0, 1, 2, 3, 4, 5, 6, 7, 8, 9, 10, 11] Cut.nil rfl goFlt mixedS (by kernel_rfl) rfl ?_
        refine rpv [] [] ?_
        refine rpv [] [] ?_
        refine rpv [] [] ?_
        refine rpv [2] [] ?_
        refine Run.pv [1, 3] [] rfl (fun vs => by apply ltr_pk; exact goPk; (refine ltr ?_; refine lt_call ?_ ((floorAt_con f _ (by omega) hsk.1)); exact rfl)) goApp ?_
        refine rpv [] [] ?_
        refine rpv [5] [] ?_
        refine rpv [] [] ?_
        refine rpv [7] [] ?_
        refine rpv [6, 8] [] ?_
        refine rpv [] [] ?_
        refine Run.pv [9, 10] [] rfl (fun vs => by apply ltr_pk; exact goPk; (refine ltr ?_; apply lt_quo; exact rfl; exact rfl; omega; omega; omega)) goApp ?_
        refine ⟨⟨by kernel_rfl, by kernel_rfl⟩, fun vs => ?_⟩
        refine WL_to [(2, .val pf), (3, .val pb), (5, .val (.int .i64 (sumPt x.st))), (8, .val v), (9, .val (.int .i64 left)), (32, .sl 2 stC x.st), (33, .val (.int .i64 x.st.length)), (34, .val (.int .i64 k)), (11, .val p), (38, .val v), (42, .val (.int .i64 ((f.ids.idxOf x.st[k].fl : Nat) : Int))), (49, .val (.int .i64 (x.pe * x.st[k].pt / sumPt x.st)))] [.box p (stC x.st[k]) 113, .row v 3 1 iC cur, .box pf (flC f) 27, .box pb (biC x) 66] (by kernel_rfl) (by kernel_rfl) ?_
        (refine goSt ?_; (repeat (refine goAl ?_; intro p hp; refine goSt ?_)))
        (refine ⟨(k + 1, left - x.pe * x.st[k].pt / sumPt x.st, cur.set (f.ids.idxOf x.st[k].fl) (x.pe * x.st[k].pt / sumPt x.st)), fun _ _ st => st_sub2 st ?_ ?_, ?_, ?_⟩; exact goSubr; exact goSubp)
        · exact ⟨hlt', by dsimp only; rw [List.length_set]; exact hcl, hno, hlf, by dsimp only; omega, by dsimp only; omega⟩
        · dsimp only; omega
      · have hkk : k = x.st.length := by simp at hlt; omega
        subst hkk
        rw [List.drop_length, putAll] at hno
        rw [List.drop_length, leftQ] at hlf
        obtain ⟨m, hm⟩ : ∃ m : Nat, left = (m : Int) := ⟨left.toNat, by omega⟩
        have hml : m ≤ x.st.length := by omega
        have hW : sharesR f.ids x = incAll f.ids (x.st.take m) cur := by unfold sharesR; rw [← hlf, ← hno, hm]; rfl
        have hbt : Btw 0 9000000 cur := by
          rw [hno]
          exact putAll_btw _ _ (fun s hs => (quot_bounds hB hs).2.2.2.2) (Btw.rep _ (by omega) (by omega))
        subst hm
        rw [hW]
        clear hW hno hlf hlt hk hl0 hl1 hlb
        (refine goSt ?_; (repeat (refine goAl ?_; intro p hp; refine goSt ?_)))
        refine W_loopJ (fun (b : Nat × List Int) => ⟨[(2, .val pf), (3, .val p), (8, .val v), (9, .val (.int .i64 (m : Int))), (12, .val (.int .i64 b.1))], [.row v 3 1 iC b.2, .box pf (flC f) 27, .box p (biC x) 66]⟩)
          (fun b => b.1 ≤ m ∧ b.2.length = f.ids.length ∧ incAll f.ids ((x.st.take m).drop b.1) b.2 = incAll f.ids (x.st.take m) cur ∧ Btw 0 (9000000 + b.1) b.2) (fun b => m - b.1) (0, cur) (fun _ _ st => st_sub2 st (by exact goSubr) (by exact goSubp)) ⟨Nat.zero_le _, hcl, rfl, hbt.mono (by omega) (by dsimp only; omega)⟩ ?_
        rintro ⟨i, cu⟩ ⟨hi, hcl2, hno, hbt2⟩
        dsimp only at hi hcl2 hno hbt2 ⊢
        (refine goSt ?_; (repeat (refine goAl ?_; intro p hp; refine goSt ?_)))
        refine w_cond rfl (fun hlt => ?_) (fun hlt => ?_)
        · have hlt' : i < m := by simpa using hlt
          have hil : i < x.st.length := by omega
          have hsk := hB.st _ (List.getElem_mem hil)
          have hix : f.ids.idxOf x.st[i].fl < cu.length := by rw [hcl2]; exact List.idxOf_lt_length_of_mem hsk.1
          have hq1 : x.st[i]? = some x.st[i] := List.getElem?_eq_getElem hil
          have hq2 : cu[f.ids.idxOf x.st[i].fl]? = some cu[f.ids.idxOf x.st[i].fl] := List.getElem?_eq_getElem hix
          have hce := hbt2.at hix
          rw [drop_step (by rw [List.length_take]; omega), incAll, List.getElem_take, addAt_at hix] at hno
          (refine goSt ?_; (repeat (refine goAl ?_; intro p hp; refine goSt ?_)))
          refine W_run 9 [66, 67, 68, 69, 70, 71, 72, 73, 74] [0, 1, 2, 3, 4, 5, 6, 7, 8] Cut.nil rfl goFlt mixedS (by kernel_rfl) rfl ?_
          refine rpv [] [] ?_
          refine rpv [] [] ?_
          refine rpv [] [] ?_
          refine rpv [2] [] ?_
          refine rpv [] [] ?_
          refine rpv [3, 4] [] ?_
          refine rpv [5] [] ?_
          refine rpv [6] [] ?_
          refine Run.pv [1, 7] [] rfl (fun vs => by apply ltr_pk; exact goPk; (refine ltr ?_; refine lt_call ?_ ((floorAt_con f _ (by omega) hsk.1)); exact rfl)) goApp ?_
          refine ⟨⟨by kernel_rfl, by kernel_rfl⟩, fun vs => ?_⟩
          refine WL_to [(2, .val pf), (3, .val p), (8, .val v), (9, .val (.int .i64 (m : Int))), (12, .val (.int .i64 i)), (66, .val v), (74, .val (.int .i64 ((f.ids.idxOf x.st[i].fl : Nat) : Int)))] [.row v 3 1 iC cu, .box pf (flC f) 27, .box p (biC x) 66] (by kernel_rfl) (by kernel_rfl) ?_
          (refine goSt ?_; (repeat (refine goAl ?_; intro p hp; refine goSt ?_)))
          (refine ⟨(i + 1, cu.set (f.ids.idxOf x.st[i].fl) (cu[f.ids.idxOf x.st[i].fl] + 1)), fun _ _ st => st_sub2 st ?_ ?_, ?_, ?_⟩; exact goSubr; exact goSubp)
          · exact ⟨hlt', by dsimp only; rw [List.length_set]; exact hcl2, hno, (hbt2.mono (by omega) (by dsimp only; omega)).set _ (by omega) (by dsimp only; omega)⟩
          · dsimp only; omega
        · have hkk : i = m := by simp at hlt; omega
          subst hkk
          rw [List.drop_of_length_le (by rw [List.length_take]; omega), incAll] at hno
          rw [← hno]
          (apply W_frz 8; exact rfl; exact goRm)
          (refine goSt ?_; (repeat (refine goAl ?_; intro p hp; refine goSt ?_)))
          (apply res1; exact rfl; exact rfl; exact ⟨rfl, rfl⟩)
end Go.Proofs.YtihonljdanjfmaaDoor.Sw
namespace Go.Proofs.YtihonljdanjfmaaDoor.Sw
open Go.RowKit Go Go.Shelf Go.Proofs
theorem subL_len {l m : List Int} (h : l.length = m.length) : (subL l m).length = l.length := by unfold subL; simp; omega
/-- The first so many entries less others. -/
def subTo (l m : List Int) (k : Nat) : List Int := (subL l m).take k ++ l.drop k
theorem subTo_len {l m : List Int} (h : l.length = m.length) (k : Nat) : (subTo l m k).length = l.length := by
  unfold subTo; rw [List.length_append, List.length_take, List.length_drop, subL_len h]; omega
theorem subTo_get {l m : List Int} {k : Nat} (h : l.length = m.length) (hk : k < l.length) : (subTo l m k)[k]? = some l[k] := by
  unfold subTo
  rw [List.getElem?_append_right (by rw [List.length_take, subL_len h]; omega), List.length_take, subL_len h, List.getElem?_drop]
  rw [show k + (k - min k l.length) = k by omega]; exact List.getElem?_eq_getElem hk
theorem subTo_set {l m : List Int} {k : Nat} (h : l.length = m.length) (hk : k < l.length) : (subTo l m k).set k (l[k] - m[k]) = subTo l m (k + 1) := by
  have hs := subL_len h
  have hk2 : k < (subL l m).length := by omega
  unfold subTo
  rw [List.set_append_right _ _ (by rw [List.length_take]; omega), List.length_take, hs, show k - min k l.length = 0 by omega, List.drop_eq_getElem_cons hk, List.set_cons_zero, List.take_succ_eq_append_getElem hk2, List.append_assoc]
  congr 1
  simp [subL]
theorem subTo_all {l m : List Int} (h : l.length = m.length) : subTo l m l.length = subL l m := by
  unfold subTo
  rw [List.drop_length, List.append_nil, List.take_of_length_le (by rw [subL_len h]; omega)]
theorem Btw.subL {lo hi a b : Int} {l m : List Int} (h : Btw lo hi l) (k : Btw a b m) : Btw (lo - b) (hi - a) (subL l m) := fun e he => by
  unfold Sw.subL at he
  rw [List.zipWith_eq_zipWith_take_min] at he
  obtain ⟨i, hi', rfl⟩ := List.getElem_of_mem he
  rw [List.getElem_zipWith]
  have h1 := h.at (i := i) (by simp at hi'; omega)
  have h2 := k.at (i := i) (by simp at hi'; omega)
  simp only [List.getElem_take] at *
  omega
set_option maxRecDepth 20000 in
set_option maxHeartbeats 2000000 in
theorem owed8_con (f : Flo) (hF : FloF f) (hS : Sml f) : Con Tryd.prog 61 [.agg (flC f)] [] (Tok 3 1 iC (owed8 f)) := by
  have hidsl := hF.ids
  have hbsl := hF.bs
  have hpsl := hF.ps
  refine con_of Tryd.func61 rfl (enters_of Tryd.func61 (by kernel_rfl) rfl) rfl ?_; intro n w0 F0 G0
  (refine goSt ?_; (repeat (refine goAl ?_; intro p hp; refine goSt ?_)))
  (apply wl_make iC; exact inferInstance; exact inferInstance; exact inferInstance; exact inferInstance; exact rfl; exact rfl; exact rfl; (first | omega | (simp; omega)); exact rfl)
  intro v
  (refine goSt ?_; (repeat (refine goAl ?_; intro p hp; refine goSt ?_)))
  unfold owed8
  refine W_loopJ (fun (b : Nat × List Int) => ⟨[(1, .val p), (3, .val v), (15, .sl 4 biC f.bs), (16, .val (.int .i64 f.bs.length)), (17, .val (.int .i64 b.1))], [.row v 3 1 iC b.2, .box p (flC f) 27]⟩)
    (fun b => b.1 ≤ f.bs.length ∧ b.2.length = f.ids.length ∧ bilFold f.ids (f.bs.drop b.1) b.2 = bilFold f.ids f.bs (List.replicate f.ids.length 0) ∧ Btw (-(10000000 * b.1)) (10000000 * b.1) b.2) (fun b => f.bs.length - b.1) (0, List.replicate f.ids.length 0) (fun _ _ st => st_sub2 st (by exact goSubr) (by exact goSubp)) ⟨Nat.zero_le _, by simp, rfl, Btw.rep _ (by dsimp only; omega) (by dsimp only; omega)⟩ ?_
  rintro ⟨k, cur⟩ ⟨hk, hcl, hno, hbt⟩
  dsimp only at hk hcl hno hbt ⊢
  (refine goSt ?_; (repeat (refine goAl ?_; intro p hp; refine goSt ?_)))
  refine w_cond rfl (fun hlt => ?_) (fun hlt => ?_)
  · have hlt' : k < f.bs.length := by simpa using hlt
    have hB := hF.bil _ (List.getElem_mem hlt')
    have hsl := hS.st _ (List.getElem_mem hlt')
    have hpe0 := hB.pe0
    have hpe1 := hB.pe1
    have hix : f.ids.idxOf f.bs[k].py < cur.length := by rw [hcl]; exact List.idxOf_lt_length_of_mem hB.py
    have hq2 : cur[f.ids.idxOf f.bs[k].py]? = some cur[f.ids.idxOf f.bs[k].py] := List.getElem?_eq_getElem hix
    have hce := hbt.at hix
    rw [drop_step hlt', bilFold, addAt_at hix] at hno
    have hb1 := hbt.addAt (f.ids.idxOf f.bs[k].py) (d := f.bs[k].pe) (a := 0) (b := 1000000) (by omega) (by omega) (by omega) (by omega) (by omega) (by omega)
    rw [addAt_at hix] at hb1
    (refine goSt ?_; (repeat (refine goAl ?_; intro p hp; refine goSt ?_)))
    rename_i pb hpb
    refine W_run 9 [21, 22, 23, 24, 25, 26, 27, 28, 29] [0, 1, 2, 3, 4, 5, 6, 7, 8] Cut.nil rfl goFlt mixedS (by kernel_rfl) rfl ?_
    refine rpv [] [] ?_
    refine rpv [] [] ?_
    refine rpv [] [] ?_
    refine rpv [2] [] ?_
    refine Run.pv [1, 3] [] rfl (fun vs => by apply ltr_pk; exact goPk; (refine ltr ?_; refine lt_call ?_ ((floorAt_con f _ (by omega) hB.py)); exact rfl)) goApp ?_
    refine rpv [0, 4] [] ?_
    refine rpv [5] [] ?_
    refine rpv [] [] ?_
    refine rpv [7] [] ?_
    refine ⟨⟨by kernel_rfl, by kernel_rfl⟩, fun vs => ?_⟩
    refine WL_to [(1, .val pb), (3, .val v), (15, .sl 4 biC f.bs), (16, .val (.int .i64 f.bs.length)), (17, .val (.int .i64 k)), (5, .val p), (21, .val v), (25, .val (.int .i64 ((f.ids.idxOf f.bs[k].py : Nat) : Int))), (27, .val (.int .i64 cur[f.ids.idxOf f.bs[k].py])), (29, .val (.int .i64 f.bs[k].pe))] [.box p (biC f.bs[k]) 66, .row v 3 1 iC cur, .box pb (flC f) 27] (by kernel_rfl) (by kernel_rfl) ?_
    (refine goSt ?_; (repeat (refine goAl ?_; intro p hp; refine goSt ?_)))
    have hshl := shares_len f.ids f.bs[k]
    have hsb := shares_btw hB hsl
    generalize hsh : sharesR f.ids f.bs[k] = sh at *
    generalize hc1 : cur.set (f.ids.idxOf f.bs[k].py) (cur[f.ids.idxOf f.bs[k].py] + f.bs[k].pe) = c1 at *
    have hc1l : c1.length = sh.length := by rw [← hc1, List.length_set, hshl, hcl]
    have hsc := shares8_con f f.bs[k] (by omega) (by omega) hB
    rw [hsh] at hsc
    (first | (apply wl_call (hsc); exact rfl; exact rfl) | (apply wl_callR (hsc); exact rfl; exact goAtm; exact rfl))
    (refine goSt ?_; (repeat (refine goAl ?_; intro p hp; refine goSt ?_)))
    refine W_loopJ (fun (m : Nat) => ⟨[(1, .val pb), (3, .val v), (15, .sl 4 biC f.bs), (16, .val (.int .i64 f.bs.length)), (17, .val (.int .i64 k)), (34, .sl 1 iC sh), (35, .val (.int .i64 sh.length)), (36, .val (.int .i64 m))], [.row v 3 1 iC (subTo c1 sh m), .box pb (flC f) 27]⟩)
      (fun m => m ≤ sh.length) (fun m => sh.length - m) 0 (fun _ _ st => st_sub2 st (by exact goSubr) (by exact goSubp)) (Nat.zero_le _) ?_
    rintro m hm
    (refine goSt ?_; (repeat (refine goAl ?_; intro p hp; refine goSt ?_)))
    refine w_cond rfl (fun hlm => ?_) (fun hlm => ?_)
    · have hlm' : m < sh.length := by simpa using hlm
      have hmc : m < c1.length := by omega
      have hmk : m < (subTo c1 sh m).length := by rw [subTo_len hc1l]; exact hmc
      have hv : (subTo c1 sh m)[m] = c1[m] := by
        have := subTo_get hc1l hmc
        rw [List.getElem?_eq_getElem hmk] at this
        exact Option.some.inj this
      have hb2 := hb1.at hmc
      have hb3 := hsb.at hlm'
      (refine goSt ?_; (repeat (refine goAl ?_; intro p hp; refine goSt ?_)))
      rw [show (subTo c1 sh m).set m ((subTo c1 sh m)[m] - sh[m]) = subTo c1 sh (m + 1) from by rw [hv]; exact subTo_set hc1l hmc]
      (refine ⟨m + 1, fun _ _ st => st_sub2 st ?_ ?_, ?_, ?_⟩; exact goSubr; exact goSubp)
      · omega
      · omega
    · have hmm : m = sh.length := by simp at hlm; omega
      subst hmm
      rw [show subTo c1 sh sh.length = subL c1 sh from by rw [← hc1l]; exact subTo_all hc1l]
      (refine goSt ?_; (repeat (refine goAl ?_; intro p hp; refine goSt ?_)))
      (refine ⟨(k + 1, subL c1 sh), fun _ _ st => st_sub2 st ?_ ?_, ?_, ?_⟩; exact goSubr; exact goSubp)
      · exact ⟨hlt', by dsimp only; rw [subL_len hc1l]; omega, hno, (hb1.subL hsb).mono (by dsimp only; omega) (by dsimp only; omega)⟩
      · dsimp only; omega
  · have hkk : k = f.bs.length := by simp at hlt; omega
    subst hkk
    rw [List.drop_length, bilFold] at hno
    rw [← hno]
    clear hno hlt hk
    (refine goSt ?_; (repeat (refine goAl ?_; intro p hp; refine goSt ?_)))
    refine W_loopJ (fun (b : Nat × List Int) => ⟨[(1, .val p), (3, .val v), (51, .sl 3 payC f.ps), (52, .val (.int .i64 f.ps.length)), (53, .val (.int .i64 b.1))], [.row v 3 1 iC b.2, .box p (flC f) 27]⟩)
      (fun b => b.1 ≤ f.ps.length ∧ b.2.length = f.ids.length ∧ payFold f.ids (f.ps.drop b.1) b.2 = payFold f.ids f.ps cur ∧ Btw (-(200000000 + 2000000 * b.1)) (200000000 + 2000000 * b.1) b.2) (fun b => f.ps.length - b.1) (0, cur) (fun _ _ st => st_sub2 st (by exact goSubr) (by exact goSubp)) ⟨Nat.zero_le _, hcl, rfl, hbt.mono (by dsimp only; omega) (by dsimp only; omega)⟩ ?_
    clear hbt hcl
    rintro ⟨k, cu⟩ ⟨hk, hcl, hno, hbt⟩
    dsimp only at hk hcl hno hbt ⊢
    (refine goSt ?_; (repeat (refine goAl ?_; intro p hp; refine goSt ?_)))
    refine w_cond rfl (fun hlt => ?_) (fun hlt => ?_)
    · have hlt' : k < f.ps.length := by simpa using hlt
      have hP := hF.pay _ (List.getElem_mem hlt')
      have hix : f.ids.idxOf f.ps[k].a < cu.length := by rw [hcl]; exact List.idxOf_lt_length_of_mem hP.1
      have hq2 : cu[f.ids.idxOf f.ps[k].a]? = some cu[f.ids.idxOf f.ps[k].a] := List.getElem?_eq_getElem hix
      have hce := hbt.at hix
      rw [drop_step hlt', payFold, payStep, addAt_at hix] at hno
      have hb1 := hbt.addAt (f.ids.idxOf f.ps[k].a) (d := f.ps[k].p) (a := 0) (b := 1000000) (by omega) (by omega) (by omega) (by omega) (by omega) (by omega)
      rw [addAt_at hix] at hb1
      (refine goSt ?_; (repeat (refine goAl ?_; intro p hp; refine goSt ?_)))
      rename_i pb hpb
      refine W_run 9 [57, 58, 59, 60, 61, 62, 63, 64, 65] [0, 1, 2, 3, 4, 5, 6, 7, 8] Cut.nil rfl goFlt mixedS (by kernel_rfl) rfl ?_
      refine rpv [] [] ?_
      refine rpv [] [] ?_
      refine rpv [] [] ?_
      refine rpv [2] [] ?_
      refine Run.pv [1, 3] [] rfl (fun vs => by apply ltr_pk; exact goPk; (refine ltr ?_; refine lt_call ?_ ((floorAt_con f _ (by omega) hP.1)); exact rfl)) goApp ?_
      refine rpv [0, 4] [] ?_
      refine rpv [5] [] ?_
      refine rpv [] [] ?_
      refine rpv [7] [] ?_
      refine ⟨⟨by kernel_rfl, by kernel_rfl⟩, fun vs => ?_⟩
      refine WL_to [(1, .val pb), (3, .val v), (51, .sl 3 payC f.ps), (52, .val (.int .i64 f.ps.length)), (53, .val (.int .i64 k)), (9, .val p), (57, .val v), (61, .val (.int .i64 ((f.ids.idxOf f.ps[k].a : Nat) : Int))), (63, .val (.int .i64 cu[f.ids.idxOf f.ps[k].a])), (65, .val (.int .i64 f.ps[k].p))] [.box p (payC f.ps[k]) 53, .row v 3 1 iC cu, .box pb (flC f) 27] (by kernel_rfl) (by kernel_rfl) ?_
      (refine goSt ?_; (repeat (refine goAl ?_; intro p hp; refine goSt ?_)))
      generalize hc1 : cu.set (f.ids.idxOf f.ps[k].a) (cu[f.ids.idxOf f.ps[k].a] + f.ps[k].p) = c1 at *
      have hc1l : c1.length = f.ids.length := by rw [← hc1, List.length_set, hcl]
      have hix2 : f.ids.idxOf f.ps[k].b < c1.length := by rw [hc1l]; exact List.idxOf_lt_length_of_mem hP.2.1
      have hq3 : c1[f.ids.idxOf f.ps[k].b]? = some c1[f.ids.idxOf f.ps[k].b] := List.getElem?_eq_getElem hix2
      have hce2 := hb1.at hix2
      rw [addAt_at hix2] at hno
      have hb2 := hb1.addAt (f.ids.idxOf f.ps[k].b) (d := -f.ps[k].p) (a := -1000000) (b := 0) (by omega) (by omega) (by omega) (by omega) (by omega) (by omega)
      rw [addAt_at hix2] at hb2
      refine W_run 9 [68, 69, 70, 71, 72, 73, 74, 75, 76] [0, 1, 2, 3, 4, 5, 6, 7, 8] Cut.nil rfl goFlt mixedS (by kernel_rfl) rfl ?_
      refine rpv [] [] ?_
      refine rpv [] [] ?_
      refine rpv [] [] ?_
      refine rpv [2] [] ?_
      refine Run.pv [1, 3] [] rfl (fun vs => by apply ltr_pk; exact goPk; (refine ltr ?_; refine lt_call ?_ ((floorAt_con f _ (by omega) hP.2.1)); exact rfl)) goApp ?_
      refine rpv [0, 4] [] ?_
      refine rpv [5] [] ?_
      refine rpv [] [] ?_
      refine rpv [7] [] ?_
      refine ⟨⟨by kernel_rfl, by kernel_rfl⟩, fun vs => ?_⟩
      refine WL_to [(1, .val pb), (3, .val v), (51, .sl 3 payC f.ps), (52, .val (.int .i64 f.ps.length)), (53, .val (.int .i64 k)), (9, .val p), (68, .val v), (72, .val (.int .i64 ((f.ids.idxOf f.ps[k].b : Nat) : Int))), (74, .val (.int .i64 c1[f.ids.idxOf f.ps[k].b])), (76, .val (.int .i64 f.ps[k].p))] [.box p (payC f.ps[k]) 53, .row v 3 1 iC c1, .box pb (flC f) 27] (by kernel_rfl) (by kernel_rfl) ?_
      (refine goSt ?_; (repeat (refine goAl ?_; intro p hp; refine goSt ?_)))
      (refine goSt ?_; (repeat (refine goAl ?_; intro p hp; refine goSt ?_)))
      (refine ⟨(k + 1, c1.set (f.ids.idxOf f.ps[k].b) (c1[f.ids.idxOf f.ps[k].b] + -f.ps[k].p)), fun _ _ st => st_sub2 st ?_ ?_, ?_, ?_⟩; exact goSubr; exact goSubp)
      · exact ⟨hlt', by dsimp only; rw [List.length_set]; exact hc1l, hno, hb2.mono (by dsimp only; omega) (by dsimp only; omega)⟩
      · dsimp only; omega
    · have hkk : k = f.ps.length := by simp at hlt; omega
      subst hkk
      rw [List.drop_length, payFold] at hno
      rw [← hno]
      (refine goSt ?_; (repeat (refine goAl ?_; intro p hp; refine goSt ?_)))
      (apply resK; exact rfl; exact rfl; (apply Cut.cons; exact goRm; exact Cut.nil); exact ⟨_, rfl, rfl⟩)
end Go.Proofs.YtihonljdanjfmaaDoor.Sw
namespace Go.Proofs.YtihonljdanjfmaaDoor.Sw
open Go.RowKit Go Go.Shelf Go.Proofs
def hits (a b : Int) (q : Qu) : Bool := decide (q.a = min a b) && decide (q.b = max a b)
def speakR (qs : List Qu) (a b : Int) : Bool := !(qs.any (hits a b)) && decide (a ≠ b)
set_option maxRecDepth 20000 in
theorem speak8_con (f : Flo) (a b : Int) (hl : f.qs.length ≤ 1000) : Con Tryd.prog 63 [.agg (flC f), .val (.int .i64 a), .val (.int .i64 b)] [] (Is (.val (.bool (speakR f.qs a b))) []) := by
  refine con_of Tryd.func63 rfl (enters_of Tryd.func63 (by kernel_rfl) rfl) rfl ?_; intro n w0 F0 G0
  (refine goSt ?_; (repeat (refine goAl ?_; intro p hp; refine goSt ?_)))
  refine W_loopJ (fun (k : Nat) => ⟨[(1, .val (.int .i64 a)), (2, .val (.int .i64 b)), (10, .sl 2 quC f.qs), (11, .val (.int .i64 f.qs.length)), (12, .val (.int .i64 k))], []⟩) (fun k => k ≤ f.qs.length ∧ (f.qs.take k).any (hits a b) = false) (fun k => f.qs.length - k) 0 (fun _ _ st => st_sub2 st goSubr goSubp) ?hj0 ?round
  case hj0 => simp
  case round =>
    rintro k ⟨hk, hno⟩
    (refine goSt ?_; (repeat (refine goAl ?_; intro p hp; refine goSt ?_)))
    refine w_cond rfl (fun hlt => ?_) (fun hlt => ?_)
    · have hlt' : k < f.qs.length := by simpa using hlt
      have htk : f.qs.take (k + 1) = f.qs.take k ++ [f.qs[k]] := List.take_succ_eq_append_getElem hlt'
      (refine goSt ?_; (repeat (refine goAl ?_; intro p hp; refine goSt ?_)))
      have fin : hits a b f.qs[k] = true → speakR f.qs a b = false := fun h => by
        have : f.qs.any (hits a b) = true := List.any_eq_true.2 ⟨_, List.getElem_mem hlt', h⟩
        simp [speakR, this]
      have nxt : hits a b f.qs[k] = false → (f.qs.take (k + 1)).any (hits a b) = false := fun h => by rw [htk, List.any_append, hno]; simpa using h
      refine wl_part rfl rfl (fun g1 => ?_) (fun g1 => ?_)
      · (refine goSt ?_; (repeat (refine goAl ?_; intro p hp; refine goSt ?_)))
        refine w_cond rfl (fun g2 => ?_) (fun g2 => ?_)
        · have := fin (by unfold hits; rw [g1, g2]; rfl)
          (refine goSt ?_; (repeat (refine goAl ?_; intro p hp; refine goSt ?_)))
          (apply res1; exact rfl; exact rfl; exact ⟨(congrArg (fun b => AV.val (Value.bool b)) this.symm), rfl⟩)
        · have := nxt (by unfold hits; rw [g1, g2]; rfl)
          (refine goSt ?_; (repeat (refine goAl ?_; intro p hp; refine goSt ?_)))
          (refine ⟨k + 1, fun _ _ st => st_sub2 st ?_ ?_, ?_, ?_⟩; exact goSubr; exact goSubp)
          · exact ⟨by omega, this⟩
          · omega
      · have := nxt (by unfold hits; rw [g1]; rfl)
        (refine goSt ?_; (repeat (refine goAl ?_; intro p hp; refine goSt ?_)))
        (refine ⟨k + 1, fun _ _ st => st_sub2 st ?_ ?_, ?_, ?_⟩; exact goSubr; exact goSubp)
        · exact ⟨by omega, this⟩
        · omega
    · (refine goSt ?_; (repeat (refine goAl ?_; intro p hp; refine goSt ?_)))
      have hkk : k = f.qs.length := by simp at hlt; omega
      subst hkk
      rw [List.take_length] at hno
      (apply res1; exact rfl; exact rfl; exact ⟨(congrArg (fun b => AV.val (Value.bool b)) (by simp [speakR, hno])), rfl⟩)
theorem bilFold_len {ids : List Int} : ∀ (t : List Bil) (l : List Int), l.length = ids.length → (bilFold ids t l).length = ids.length
  | [], l, h => h
  | x :: t, l, h => by
    rw [bilFold]
    refine bilFold_len t _ ?_
    rw [subL_len (by rw [addAt_len, shares_len, h]), addAt_len, h]
theorem payFold_len {ids : List Int} : ∀ (t : List Pay) (l : List Int), (payFold ids t l).length = l.length
  | [], l => rfl
  | x :: t, l => by rw [payFold, payFold_len t]; unfold payStep; rw [addAt_len, addAt_len]
theorem owed8_len (f : Flo) : (owed8 f).length = f.ids.length := by unfold owed8; rw [payFold_len, bilFold_len _ _ (by simp)]
theorem bilFold_btw {ids : List Int} : ∀ (t : List Bil) (l : List Int) {c : Int}, 0 ≤ c → (∀ x ∈ t, BilF ids x ∧ x.st.length ≤ 1000) → Btw (-c) c l → Btw (-(c + 10000000 * t.length)) (c + 10000000 * t.length) (bilFold ids t l)
  | [], l, c, _, _, h => by simpa [bilFold] using h
  | x :: t, l, c, hc, hB, h => by
    have hx := hB x (by simp)
    have h1 := h.addAt (ids.idxOf x.py) (d := x.pe) (a := 0) (b := 1000000) (by omega) (by omega) (by have := hx.1.pe0; omega) hx.1.pe1 (by omega) (by omega)
    have h2 := (h1.subL (shares_btw hx.1 hx.2)).mono (lo' := -(c + 10000000)) (hi' := c + 10000000) (by omega) (by omega)
    have h3 := bilFold_btw (ids := ids) t _ (c := c + 10000000) (by omega) (fun y hy => hB y (by simp [hy])) h2
    rw [bilFold]
    exact h3.mono (by simp only [List.length_cons]; omega) (by simp only [List.length_cons]; omega)
theorem payStep_btw {ids : List Int} {x : Pay} {l : List Int} {c : Int} (hc : 0 ≤ c) (h1 : 1 ≤ x.p) (h2 : x.p ≤ 1000000) (h : Btw (-c) c l) : Btw (-(c + 1000000)) (c + 1000000) (payStep ids x l) := by
  have k1 := h.addAt (ids.idxOf x.a) (d := x.p) (a := 0) (b := 1000000) (by omega) (by omega) (by omega) h2 (by omega) (by omega)
  have k2 := k1.addAt (ids.idxOf x.b) (d := -x.p) (a := -1000000) (b := 0) (by omega) (by omega) (by omega) (by omega) (by omega) (by omega)
  exact k2.mono (by omega) (by omega)
theorem payFold_btw {ids : List Int} : ∀ (t : List Pay) (l : List Int) {c : Int}, 0 ≤ c → (∀ x ∈ t, 1 ≤ x.p ∧ x.p ≤ 1000000) → Btw (-c) c l → Btw (-(c + 1000000 * t.length)) (c + 1000000 * t.length) (payFold ids t l)
  | [], l, c, _, _, h => by simpa [payFold] using h
  | x :: t, l, c, hc, hB, h => by
    have hx := hB x (by simp)
    have h3 := payFold_btw (ids := ids) t _ (c := c + 1000000) (by omega) (fun y hy => hB y (by simp [hy])) (payStep_btw (ids := ids) hc hx.1 hx.2 h)
    rw [payFold]
    exact h3.mono (by simp only [List.length_cons]; omega) (by simp only [List.length_cons]; omega)
theorem owed8_btw {f : Flo} (hF : FloF f) (hS : Sml f) : Btw (-200000000) 200000000 (owed8 f) := by
  have h1 := bilFold_btw (ids := f.ids) f.bs (List.replicate f.ids.length 0) (c := 0) (by omega) (fun x hx => ⟨hF.bil x hx, hS.st x hx⟩) (Btw.rep _ (by omega) (by omega))
  have h2 := payFold_btw (ids := f.ids) f.ps _ (c := 0 + 10000000 * f.bs.length) (by omega) (fun x hx => (hF.pay x hx).2.2.2) h1
  have := hF.bs
  have := hF.ps
  exact h2.mono (by omega) (by omega)
end Go.Proofs.YtihonljdanjfmaaDoor.Sw
/- The program's house at work: 'index', 'shares', 'paid'. -/
namespace Go.Proofs.YtihonljdanjfmaaDoor.Sw
open Go.RowKit Go Go.Shelf Go.Proofs
/-- A house at work, with what it is owed. -/
abbrev hsB (ph : Value) (f : Flo) (v : Value) : HA := .box ph (flC f ++ [.val v]) 108
set_option maxRecDepth 20000 in
theorem index_con (ph v : Value) (f : Flo) (id : Int) (hl : f.ids.length ≤ 1000000) : Con Tryd.prog 58 [.val ph, .val (.int .i64 id)] [hsB ph f v] (Is (.val (.int .i64 (ixOf f.ids id))) [hsB ph f v]) := by
  refine con_of Tryd.func58 rfl (enters_of Tryd.func58 (by kernel_rfl) rfl) rfl ?_; intro n w0 F0 G0
  (refine goSt ?_; (repeat (refine goAl ?_; intro p hp; refine goSt ?_)))
  (first | (apply wl_call (indexI_con f.ids id hl); exact rfl; exact rfl) | (apply wl_callR (indexI_con f.ids id hl); exact rfl; exact goAtm; exact rfl))
  (refine goSt ?_; (repeat (refine goAl ?_; intro p hp; refine goSt ?_)))
  (apply resK; exact rfl; exact rfl; (apply Cut.cons (h := hsB ph f v); exact goRm; exact Cut.nil); exact ⟨rfl, rfl⟩)
theorem indexAt_con (ph v : Value) (f : Flo) (id : Int) (hl : f.ids.length ≤ 1000000) (hm : id ∈ f.ids) : Con Tryd.prog 58 [.val ph, .val (.int .i64 id)] [hsB ph f v] (Is (.val (.int .i64 ((f.ids.idxOf id : Nat) : Int))) [hsB ph f v]) := by
  have := index_con ph v f id hl
  rwa [show ixOf f.ids id = ((f.ids.idxOf id : Nat) : Int) from if_pos hm] at this
end Go.Proofs.YtihonljdanjfmaaDoor.Sw
/- The program's 'shares'. -/
namespace Go.Proofs.YtihonljdanjfmaaDoor.Sw
open Go.RowKit Go Go.Shelf Go.Proofs
/-- An own slice, by some value, and what is kept beside it. -/
def TokW {α : Type} (e : TypeId) (n : Nat) (f : α → List AV) (xs : List α) (r : List HA) : AV → List HA → Prop := fun x y => ∃ u, x = .val u ∧ y = .row u e n f xs :: r
set_option maxRecDepth 20000 in
set_option maxHeartbeats 2000000 in
theorem shares_con (ph ow : Value) (f : Flo) (x : Bil) (hl : f.ids.length ≤ 6) (hs : x.st.length ≤ 1000) (hB : BilF f.ids x) : Con Tryd.prog 68 [.val ph, .agg (biC x)] [hsB ph f ow] (TokW 3 1 iC (sharesR f.ids x) [hsB ph f ow]) := by
  have hsum := sumPt_bounds fun s hs => (hB.st s hs).2
  have hlb := left_bounds hB
  have hpe0 := hB.pe0
  have hpe1 := hB.pe1
  refine con_of Tryd.func68 rfl (enters_of Tryd.func68 (by kernel_rfl) rfl) rfl ?_; intro n w0 F0 G0
  (refine goSt ?_; (repeat (refine goAl ?_; intro p hp; refine goSt ?_)))
  refine W_run 3 [15, 16, 5] [0, 1, 2] Cut.nil rfl goFlt mixedS (by kernel_rfl) rfl ?_
  refine rpv [] [] ?_
  refine rpv [0] [] ?_
  refine rpv [] [] ?_
  refine ⟨⟨by kernel_rfl, by kernel_rfl⟩, fun vs => ?_⟩
  apply WL_auto [1, 2]
  · exact goPk
  · exact goNrm
  · kernel_rfl
  · kernel_rfl
  (refine goSt ?_; (repeat (refine goAl ?_; intro p hp; refine goSt ?_)))
  (refine goSt ?_; (repeat (refine goAl ?_; intro p hp; refine goSt ?_)))
  refine W_loopJ (fun (b : Nat × Int) => ⟨[(0, .val ph), (3, .val p), (5, .val (.int .i64 b.2)), (6, .val (.int .i64 x.pe)), (18, .sl 2 stC x.st), (19, .val (.int .i64 x.st.length)), (20, .val (.int .i64 b.1))], [hsB ph f ow, .box p (biC x) 66]⟩) (fun b => b.1 ≤ x.st.length ∧ b.2 + sumPt (x.st.drop b.1) = sumPt x.st ∧ 0 ≤ b.2 ∧ b.2 ≤ 9 * b.1) (fun b => x.st.length - b.1) (0, 0) (fun _ _ st => st_sub2 st goSubr goSubp) ?hj0 ?round
  case hj0 => simp
  case round =>
    rintro ⟨k, acc⟩ ⟨hk, hno, ha0, ha1⟩
    dsimp only at hk hno ha0 ha1 ⊢
    (refine goSt ?_; (repeat (refine goAl ?_; intro p hp; refine goSt ?_)))
    refine w_cond rfl (fun hlt => ?_) (fun hlt => ?_)
    · have hlt' : k < x.st.length := by simpa using hlt
      have hp := (hB.st _ (List.getElem_mem hlt')).2
      rw [drop_step hlt', sumPt] at hno
      (refine goSt ?_; (repeat (refine goAl ?_; intro p hp; refine goSt ?_)))
      (refine ⟨(k + 1, acc + x.st[k].pt), fun _ _ st => st_sub2 st ?_ ?_, ?_, ?_⟩; exact goSubr; exact goSubp)
      · exact ⟨hlt', by dsimp only; omega, by dsimp only; omega, by dsimp only; omega⟩
      · dsimp only; omega
    · have hkk : k = x.st.length := by simp at hlt; omega
      subst hkk
      rw [List.drop_length, sumPt, Int.add_zero] at hno
      subst hno
      clear hlt hk ha0 ha1
      (refine goSt ?_; (repeat (refine goAl ?_; intro p hp; refine goSt ?_)))
      (apply wl_make iC; exact inferInstance; exact inferInstance; exact inferInstance; exact inferInstance; exact rfl; exact rfl; exact rfl; (first | omega | (simp; omega)); exact rfl)
      intro v
      (refine goSt ?_; (repeat (refine goAl ?_; intro p hp; refine goSt ?_)))
      refine W_loopJ (fun (b : Nat × Int × List Int) => ⟨[(0, .val ph), (3, .val p), (5, .val (.int .i64 (sumPt x.st))), (9, .val v), (6, .val (.int .i64 b.2.1)), (37, .sl 2 stC x.st), (38, .val (.int .i64 x.st.length)), (39, .val (.int .i64 b.1))], [.row v 3 1 iC b.2.2, hsB ph f ow, .box p (biC x) 66]⟩)
        (fun b => b.1 ≤ x.st.length ∧ b.2.2.length = f.ids.length ∧ putAll f.ids x.pe (sumPt x.st) (x.st.drop b.1) b.2.2 = putAll f.ids x.pe (sumPt x.st) x.st (List.replicate f.ids.length 0) ∧ leftQ x.pe (sumPt x.st) (x.st.drop b.1) b.2.1 = leftQ x.pe (sumPt x.st) x.st x.pe ∧ -9000000 * (b.1 : Int) ≤ b.2.1 ∧ b.2.1 ≤ 1000000) (fun b => x.st.length - b.1) (0, x.pe, List.replicate f.ids.length 0) (fun _ _ st => st_sub2 st (by exact goSubr) (by exact goSubp)) ⟨Nat.zero_le _, by simp, rfl, rfl, by dsimp only; omega, by dsimp only; omega⟩ ?_
      rintro ⟨k, left, cur⟩ ⟨hk, hcl, hno, hlf, hl0, hl1⟩
      dsimp only at hk hcl hno hlf hl0 hl1 ⊢
      (refine goSt ?_; (repeat (refine goAl ?_; intro p hp; refine goSt ?_)))
      refine w_cond rfl (fun hlt => ?_) (fun hlt => ?_)
      · have hlt' : k < x.st.length := by simpa using hlt
        have hsk := hB.st _ (List.getElem_mem hlt')
        have hq := quot_bounds hB (List.getElem_mem hlt')
        have hix : f.ids.idxOf x.st[k].fl < cur.length := by rw [hcl]; exact List.idxOf_lt_length_of_mem hsk.1
        rw [drop_step hlt', putAll] at hno
        rw [drop_step hlt', leftQ] at hlf
        (refine goSt ?_; (repeat (refine goAl ?_; intro p hp; refine goSt ?_)))
        (first | (apply wl_call (indexAt_con ph ow f _ (by omega) hsk.1); exact rfl; exact rfl) | (apply wl_callR (indexAt_con ph ow f _ (by omega) hsk.1); exact rfl; exact goAtm; exact rfl))
        (refine goSt ?_; (repeat (refine goAl ?_; intro p hp; refine goSt ?_)))
        (refine ⟨(k + 1, left - x.pe * x.st[k].pt / sumPt x.st, cur.set (f.ids.idxOf x.st[k].fl) (x.pe * x.st[k].pt / sumPt x.st)), fun _ _ st => st_sub2 st ?_ ?_, ?_, ?_⟩; exact goSubr; exact goSubp)
        · exact ⟨hlt', by dsimp only; rw [List.length_set]; exact hcl, hno, hlf, by dsimp only; omega, by dsimp only; omega⟩
        · dsimp only; omega
      · have hkk : k = x.st.length := by simp at hlt; omega
        subst hkk
        rw [List.drop_length, putAll] at hno
        rw [List.drop_length, leftQ] at hlf
        obtain ⟨m, hm⟩ : ∃ m : Nat, left = (m : Int) := ⟨left.toNat, by omega⟩
        have hml : m ≤ x.st.length := by omega
        have hW : sharesR f.ids x = incAll f.ids (x.st.take m) cur := by unfold sharesR; rw [← hlf, ← hno, hm]; rfl
        have hbt : Btw 0 9000000 cur := by
          rw [hno]
          exact putAll_btw _ _ (fun s hs => (quot_bounds hB hs).2.2.2.2) (Btw.rep _ (by omega) (by omega))
        subst hm
        rw [hW]
        clear hW hno hlf hlt hk hl0 hl1 hlb
        (refine goSt ?_; (repeat (refine goAl ?_; intro p hp; refine goSt ?_)))
        (apply wl_slTo (h := m); exact inferInstance; exact rfl; exact rfl; (first | exact rfl | omega | (simp; omega)); exact hml; exact rfl)
        have htl : (x.st.take m).length = m := by rw [List.length_take]; omega
        (refine goSt ?_; (repeat (refine goAl ?_; intro p hp; refine goSt ?_)))
        refine W_loopJ (fun (b : Nat × List Int) => ⟨[(0, .val ph), (3, .val p), (9, .val v), (64, .sl 2 stC (x.st.take m)), (65, .val (.int .i64 (x.st.take m).length)), (66, .val (.int .i64 b.1))], [.row v 3 1 iC b.2, hsB ph f ow, .box p (biC x) 66]⟩)
          (fun b => b.1 ≤ m ∧ b.2.length = f.ids.length ∧ incAll f.ids ((x.st.take m).drop b.1) b.2 = incAll f.ids (x.st.take m) cur ∧ Btw 0 (9000000 + b.1) b.2) (fun b => m - b.1) (0, cur) (fun _ _ st => st_sub2 st (by exact goSubr) (by exact goSubp)) ⟨Nat.zero_le _, hcl, rfl, hbt.mono (by omega) (by dsimp only; omega)⟩ ?_
        rintro ⟨i, cu⟩ ⟨hi, hcl2, hno, hbt2⟩
        dsimp only at hi hcl2 hno hbt2 ⊢
        (refine goSt ?_; (repeat (refine goAl ?_; intro p hp; refine goSt ?_)))
        refine w_cond rfl (fun hlt => ?_) (fun hlt => ?_)
        · have hlt' : i < m := by simp at hlt; omega
          have hil : i < x.st.length := by omega
          have hitl : i < (x.st.take m).length := by omega
          have hsk := hB.st _ (List.getElem_mem hil)
          have hge : (x.st.take m)[i] = x.st[i] := List.getElem_take
          have hix : f.ids.idxOf x.st[i].fl < cu.length := by rw [hcl2]; exact List.idxOf_lt_length_of_mem hsk.1
          have hce := hbt2.at hix
          rw [drop_step (by rw [List.length_take]; omega), incAll, hge, addAt_at hix] at hno
          (refine goSt ?_; (repeat (refine goAl ?_; intro p hp; refine goSt ?_)))
          rw [hge]
          (first | (apply wl_call (indexAt_con ph ow f _ (by omega) hsk.1); exact rfl; exact rfl) | (apply wl_callR (indexAt_con ph ow f _ (by omega) hsk.1); exact rfl; exact goAtm; exact rfl))
          (refine goSt ?_; (repeat (refine goAl ?_; intro p hp; refine goSt ?_)))
          (refine ⟨(i + 1, cu.set (f.ids.idxOf x.st[i].fl) (cu[f.ids.idxOf x.st[i].fl] + 1)), fun _ _ st => st_sub2 st ?_ ?_, ?_, ?_⟩; exact goSubr; exact goSubp)
          · exact ⟨hlt', by dsimp only; rw [List.length_set]; exact hcl2, hno, (hbt2.mono (by omega) (by dsimp only; omega)).set _ (by omega) (by dsimp only; omega)⟩
          · dsimp only; omega
        · have hkk : i = m := by simp at hlt; omega
          subst hkk
          rw [List.drop_of_length_le (by rw [List.length_take]; omega), incAll] at hno
          rw [← hno]
          (refine goSt ?_; (repeat (refine goAl ?_; intro p hp; refine goSt ?_)))
          (apply resK; exact rfl; exact rfl; (apply Cut.cons; exact goRm; apply Cut.cons (h := hsB ph f ow); exact goRm; exact Cut.nil); exact ⟨_, rfl, rfl⟩)
end Go.Proofs.YtihonljdanjfmaaDoor.Sw
/- The program's 'paid'. -/
namespace Go.Proofs.YtihonljdanjfmaaDoor.Sw
open Go.RowKit Go Go.Shelf Go.Proofs
set_option maxRecDepth 20000 in
set_option maxHeartbeats 2000000 in
theorem paid_con (ph ow : Value) (f : Flo) (x : Pay) (cu : List Int) {c : Int} (hl : f.ids.length ≤ 6) (hP : x.a ∈ f.ids ∧ x.b ∈ f.ids ∧ x.a ≠ x.b ∧ 1 ≤ x.p ∧ x.p ≤ 1000000) (hcl : cu.length = f.ids.length) (hbt : Btw (-c) c cu) (hc0 : 0 ≤ c) (hc : c ≤ 1000000000000) : Con Tryd.prog 59 [.val ph, .agg (payC x)] [hsB ph f ow, .row ow 3 1 iC cu] (Is (.tup []) [hsB ph f ow, .row ow 3 1 iC (payStep f.ids x cu)]) := by
  have hix : f.ids.idxOf x.a < cu.length := by rw [hcl]; exact List.idxOf_lt_length_of_mem hP.1
  have hq2 : cu[f.ids.idxOf x.a]? = some cu[f.ids.idxOf x.a] := List.getElem?_eq_getElem hix
  have hce := hbt.at hix
  have hb1 := hbt.addAt (f.ids.idxOf x.a) (d := x.p) (a := 0) (b := 1000000) (by omega) (by omega) (by omega) (by omega) (by omega) (by omega)
  rw [payStep]
  rw [addAt_at hix] at hb1 ⊢
  refine con_of Tryd.func59 rfl (enters_of Tryd.func59 (by kernel_rfl) rfl) rfl ?_; intro n w0 F0 G0
  (refine goSt ?_; (repeat (refine goAl ?_; intro p hp; refine goSt ?_)))
  refine W_run 12 [4, 5, 6, 7, 8, 9, 10, 11, 12, 13, 14, 15] [0, 1, 2, 3, 4, 5, 6, 7, 8, 9, 10, 11] Cut.nil rfl goFlt mixedS (by kernel_rfl) rfl ?_
  refine rpv [] [] ?_
  refine rpv [0] [] ?_
  refine rpv [1] [] ?_
  refine rpv [2] [] ?_
  refine rpv [] [] ?_
  refine rpv [] [] ?_
  refine rpv [5] [] ?_
  refine Run.pv [4, 6] [] rfl (fun vs => by apply ltr_pk; exact goPk; (apply ltr_callR ((indexAt_con ph ow f _ (by omega) hP.1)); exact rfl; exact goAtm)) goApp ?_
  refine rpv [3, 7] [] ?_
  refine rpv [8] [] ?_
  refine rpv [] [] ?_
  refine rpv [10] [] ?_
  refine ⟨⟨by kernel_rfl, by kernel_rfl⟩, fun vs => ?_⟩
  apply WL_auto [3, 7, 9, 11]
  · exact goPk
  · exact goNrm
  · kernel_rfl
  · kernel_rfl
  (refine goSt ?_; (repeat (refine goAl ?_; intro p hp; refine goSt ?_)))
  generalize hc1 : cu.set (f.ids.idxOf x.a) (cu[f.ids.idxOf x.a] + x.p) = c1 at *
  have hc1l : c1.length = f.ids.length := by rw [← hc1, List.length_set, hcl]
  have hix2 : f.ids.idxOf x.b < c1.length := by rw [hc1l]; exact List.idxOf_lt_length_of_mem hP.2.1
  have hq3 : c1[f.ids.idxOf x.b]? = some c1[f.ids.idxOf x.b] := List.getElem?_eq_getElem hix2
  have hce2 := hb1.at hix2
  rw [addAt_at hix2, ← Int.sub_eq_add_neg]
  (refine goSt ?_; (repeat (refine goAl ?_; intro p hp; refine goSt ?_)))
  refine W_run 12 [18, 19, 20, 21, 22, 23, 24, 25, 26, 27, 28, 29] [0, 1, 2, 3, 4, 5, 6, 7, 8, 9, 10, 11] Cut.nil rfl goFlt mixedS (by kernel_rfl) rfl ?_
  refine rpv [] [] ?_
  refine rpv [0] [] ?_
  refine rpv [1] [] ?_
  refine rpv [2] [] ?_
  refine rpv [] [] ?_
  refine rpv [] [] ?_
  refine rpv [5] [] ?_
  refine Run.pv [4, 6] [] rfl (fun vs => by apply ltr_pk; exact goPk; (apply ltr_callR ((indexAt_con ph ow f _ (by omega) hP.2.1)); exact rfl; exact goAtm)) goApp ?_
  refine rpv [3, 7] [] ?_
  refine rpv [8] [] ?_
  refine rpv [] [] ?_
  refine rpv [10] [] ?_
  refine ⟨⟨by kernel_rfl, by kernel_rfl⟩, fun vs => ?_⟩
  apply WL_auto [3, 7, 9, 11]
  · exact goPk
  · exact goNrm
  · kernel_rfl
  · kernel_rfl
  (refine goSt ?_; (repeat (refine goAl ?_; intro p hp; refine goSt ?_)))
  (apply resK0; exact rfl; exact ⟨rfl, rfl⟩; exact goCutl)
end Go.Proofs.YtihonljdanjfmaaDoor.Sw
