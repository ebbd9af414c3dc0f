/- Proofs for one card: FloorLg, FloorLh, FloorLj, FloorLk, FloorLm, FloorLn, FloorLo, FloorLq, FloorLr, FloorLs, FloorLists, FloorCj, FloorPe, FloorPa, FloorPb, FloorPd, FloorPf, FloorPg, FloorParts. No condition of its own. -/
import Derived.Test.YtihonljdanjfmaaDoorZp7
namespace Go.Proofs.YtihonljdanjfmaaDoor.Sw
open Go.RowKit Go Go.Shelf Go.Proofs
/-- A list of a few payments within bounds. -/
structure PayB (l : List Pay) : Prop where
  len : l.length ≤ 1000
  bd : ∀ x ∈ l, -1000000000000 ≤ x.p ∧ x.p ≤ 1000000000000
set_option maxRecDepth 20000 in
set_option maxHeartbeats 4000000 in
theorem sum_con (l : List Pay) (hB : PayB l) : Con Tryd.prog 103 [.sl 3 payC l] [] (Is (.val (.int .i64 (sumPay l))) []) := by
  obtain ⟨hl, hb⟩ := hB
  refine con_of Tryd.func103 rfl (enters_of Tryd.func103 (by kernel_rfl) rfl) rfl ?_; intro n w0 F0 G0
  (refine goSt ?_; (repeat (refine goAl ?_; intro p hp; refine goSt ?_)))
  refine W_loopJ (fun (k : Nat) => ⟨[(6, .sl 3 payC l), (7, .val (.int .i64 l.length)), (8, .val (.int .i64 k)), (3, .val (.int .i64 (sumPay (l.take k))))], []⟩) (fun k => k ≤ l.length) (fun k => l.length - k) 0 (fun _ _ st => st_sub2 st goSubr goSubp) (Nat.zero_le _) ?_
  rintro k hk
  (refine goSt ?_; (repeat (refine goAl ?_; intro p hp; refine goSt ?_)))
  refine w_cond rfl (fun hlt => ?_) (fun hlt => ?_)
  · have hlt' : k < l.length := by simpa using hlt
    have h1 := hb _ (List.getElem_mem hlt')
    have h2 := sumPay_bound (c := 1000000000000) (by omega) (l := l.take k) fun y hy => hb y (List.mem_of_mem_take hy)
    have h3 : (l.take k).length = k := by rw [List.length_take]; omega
    rw [h3] at h2
    have h4 : sumPay (l.take (k + 1)) = sumPay (l.take k) + l[k].p := by rw [List.take_succ_eq_append_getElem hlt', sumPay_snoc]
    (refine goSt ?_; (repeat (refine goAl ?_; intro p hp; refine goSt ?_)))
    rw [← h4]
    (refine ⟨k + 1, fun _ _ st => st_sub2 st ?_ ?_, ?_, ?_⟩; exact goSubr; exact goSubp)
    · omega
    · omega
  · have hkk : k = l.length := by simp at hlt; omega
    subst hkk
    rw [List.take_length]
    (refine goSt ?_; (repeat (refine goAl ?_; intro p hp; refine goSt ?_)))
    (apply res1; exact rfl; exact rfl; exact ⟨rfl, rfl⟩)
def cmpL : List Pay → List Pay → Int
  | [], [] => 0
  | [], _ :: _ => -1
  | _ :: _, [] => 1
  | x :: s, y :: t => if pyCmp x y ≠ 0 then pyCmp x y else cmpL s t
theorem cmpL_0 : cmpL [] [] = 0 := rfl
theorem cmpL_1 (x : Pay) (s : List Pay) : cmpL (x :: s) [] = 1 := rfl
theorem cmpL_3 (x : Pay) (s : List Pay) : cmpL [] (x :: s) = -1 := rfl
theorem cmpL_2 (x y : Pay) (s t : List Pay) : cmpL (x :: s) (y :: t) = if pyCmp x y ≠ 0 then pyCmp x y else cmpL s t := rfl
set_option maxRecDepth 20000 in
set_option maxHeartbeats 4000000 in
theorem cmpF_con (a b : List Pay) (ha : a.length ≤ 1000) (hb : b.length ≤ 1000) : Con Tryd.prog 135 [.sl 3 payC a, .sl 3 payC b, .clo 136 []] [] (Is (.val (.int .i64 (cmpL a b))) []) := by
  refine con_of Tryd.func135 rfl (enters_of Tryd.func135 (by kernel_rfl) rfl) rfl ?_; intro n w0 F0 G0
  (refine goSt ?_; (repeat (refine goAl ?_; intro p hp; refine goSt ?_)))
  refine W_loopJ (fun (k : Nat) => ⟨[(0, .sl 3 payC a), (1, .sl 3 payC b), (2, .clo 136 []), (11, .sl 3 payC a), (12, .val (.int .i64 a.length)), (13, .val (.int .i64 k))], []⟩) (fun k => k ≤ a.length ∧ k ≤ b.length ∧ cmpL (a.drop k) (b.drop k) = cmpL a b) (fun k => a.length - k) 0 (fun _ _ st => st_sub2 st goSubr goSubp) ⟨Nat.zero_le _, Nat.zero_le _, rfl⟩ ?_
  rintro k ⟨hk, hkb, hc⟩
  (refine goSt ?_; (repeat (refine goAl ?_; intro p hp; refine goSt ?_)))
  refine w_cond rfl (fun hlt => ?_) (fun hlt => ?_)
  · have hlt' : k < a.length := by simpa using hlt
    (refine goSt ?_; (repeat (refine goAl ?_; intro p hp; refine goSt ?_)))
    refine w_cond rfl (fun hge => ?_) (fun hge => ?_)
    · have hke : k = b.length := by have := of_decide_eq_true hge; omega
      have e2 : b.drop k = [] := List.drop_eq_nil_of_le (by omega)
      rw [drop_step hlt', e2] at hc
      rw [cmpL_1] at hc
      rw [← hc]
      (refine goSt ?_; (repeat (refine goAl ?_; intro p hp; refine goSt ?_)))
      (apply res1; exact rfl; exact rfl; exact ⟨rfl, rfl⟩)
    · have hkb' : k < b.length := by have := of_decide_eq_false hge; omega
      rw [drop_step hlt', drop_step hkb', cmpL_2] at hc
      have CP := payments_con a[k] b[k]
      (refine goSt ?_; (repeat (refine goAl ?_; intro p hp; refine goSt ?_)))
      (apply wl_callV0 (CP); exact rfl; exact rfl; exact rfl)
      (refine goSt ?_; (repeat (refine goAl ?_; intro p hp; refine goSt ?_)))
      refine w_cond rfl (fun hz => ?_) (fun hz => ?_)
      · rw [if_pos (by simpa using hz)] at hc
        rw [hc]
        (refine goSt ?_; (repeat (refine goAl ?_; intro p hp; refine goSt ?_)))
        (apply res1; exact rfl; exact rfl; exact ⟨rfl, rfl⟩)
      · rw [if_neg (by simpa using hz)] at hc
        (refine goSt ?_; (repeat (refine goAl ?_; intro p hp; refine goSt ?_)))
        (refine ⟨k + 1, fun _ _ st => st_sub2 st ?_ ?_, ?_, ?_⟩; exact goSubr; exact goSubp)
        · exact ⟨hlt', hkb', hc⟩
        · omega
  · have hke : k = a.length := by simp at hlt; omega
    have e2 : a.drop k = [] := List.drop_eq_nil_of_le (by omega)
    rw [e2] at hc
    (refine goSt ?_; (repeat (refine goAl ?_; intro p hp; refine goSt ?_)))
    refine w_cond rfl (fun hl => ?_) (fun hl => ?_)
    · have hl' : k < b.length := by have := of_decide_eq_true hl; omega
      rw [drop_step hl', cmpL_3] at hc
      rw [← hc]
      (refine goSt ?_; (repeat (refine goAl ?_; intro p hp; refine goSt ?_)))
      (apply res1; exact rfl; exact rfl; exact ⟨rfl, rfl⟩)
    · have hl' : k = b.length := by have := of_decide_eq_false hl; omega
      rw [List.drop_eq_nil_of_le (by omega), cmpL_0] at hc
      rw [← hc]
      (refine goSt ?_; (repeat (refine goAl ?_; intro p hp; refine goSt ?_)))
      (apply res1; exact rfl; exact rfl; exact ⟨rfl, rfl⟩)
def befI (a b : List Pay) : Int := firstNZ [cmpR (sumPay a) (sumPay b), cmpL a b]
set_option maxRecDepth 20000 in
theorem before_con (a b : List Pay) (ha : PayB a) (hb : PayB b) : Con Tryd.prog 98 [.sl 3 payC a, .sl 3 payC b] [] (Is (.val (.int .i64 (befI a b))) []) := by
  refine con_of Tryd.func98 rfl (enters_of Tryd.func98 (by kernel_rfl) rfl) rfl ?_; intro n w0 F0 G0
  (refine goSt ?_; (repeat (refine goAl ?_; intro p hp; refine goSt ?_)))
  (first | (apply wl_call (sum_con a ha); exact rfl; exact rfl) | (apply wl_callR (sum_con a ha); exact rfl; exact goAtm; exact rfl))
  (refine goSt ?_; (repeat (refine goAl ?_; intro p hp; refine goSt ?_)))
  (first | (apply wl_call (sum_con b hb); exact rfl; exact rfl) | (apply wl_callR (sum_con b hb); exact rfl; exact goAtm; exact rfl))
  (refine goSt ?_; (repeat (refine goAl ?_; intro p hp; refine goSt ?_)))
  (first | (apply wl_call (compare_con (sumPay a) (sumPay b)); exact rfl; exact rfl) | (apply wl_callR (compare_con (sumPay a) (sumPay b)); exact rfl; exact goAtm; exact rfl))
  (refine goSt ?_; (repeat (refine goAl ?_; intro p hp; refine goSt ?_)))
  (first | (apply wl_call (cmpF_con a b ha.len hb.len); exact rfl; exact rfl) | (apply wl_callR (cmpF_con a b ha.len hb.len); exact rfl; exact goAtm; exact rfl))
  (refine goSt ?_; (repeat (refine goAl ?_; intro p hp; refine goSt ?_)))
  (apply wl_litF iC; exact inferInstance; exact inferInstance; exact inferInstance; (repeat (first | exact Elems.nil | (apply Elems.cons; exact rfl; exact inferInstance; exact rfl))); exact rfl; (first | exact (of_decide_eq_true rfl) | decide | (simp; done) | (simp; omega)); exact rfl)
  (refine goSt ?_; (repeat (refine goAl ?_; intro p hp; refine goSt ?_)))
  (first | (apply wl_call (or_con [cmpR (sumPay a) (sumPay b), cmpL a b] (by simp)); exact rfl; exact rfl) | (apply wl_callR (or_con [cmpR (sumPay a) (sumPay b), cmpL a b] (by simp)); exact rfl; exact goAtm; exact rfl))
  (refine goSt ?_; (repeat (refine goAl ?_; intro p hp; refine goSt ?_)))
  (apply res1; exact rfl; exact rfl; exact ⟨rfl, rfl⟩)
set_option maxRecDepth 20000 in
theorem values_iter (xs : List (List Pay)) (hl : xs.length ≤ 100000) : Iter Tryd.prog 134 [.fp 1 [.sl 1 plC xs]] [] lsC (fun _ _ => []) xs := by
  refine ⟨fun yv β βx H Hx I Ix hone hY b0 hI0 => ?_⟩
  refine con_of Tryd.func134 rfl (enters_of Tryd.func134 (by kernel_rfl) rfl) rfl ?_; intro n w0 F0 G0
  (refine goSt ?_; (repeat (refine goAl ?_; intro p hp; refine goSt ?_)))
  refine W_loopJ (fun (b : Nat × β) => ⟨[(0, .val yv), (5, .sl 1 plC xs), (6, .val (.int .i64 xs.length)), (7, .val (.int .i64 b.1))], [.pack (H b.2)]⟩) (fun b => b.1 ≤ xs.length ∧ I b.1 b.2) (fun b => xs.length - b.1) (0, b0) (fun _ _ st => st_sub2 st goSubr goSubp) ⟨Nat.zero_le _, hI0⟩ ?_
  rintro ⟨k, b⟩ ⟨hk, hI⟩
  dsimp only at hk hI ⊢
  (refine goSt ?_; (repeat (refine goAl ?_; intro p hp; refine goSt ?_)))
  refine w_cond rfl (fun hlt => ?_) (fun hlt => ?_)
  · have hk' : k < xs.length := by simpa using hlt
    have Y := hY k hk' b () hI
    (refine goSt ?_; (repeat (refine goAl ?_; intro p hp; refine goSt ?_)))
    (apply wl_yield Y; exact rfl; exact rfl; exact goCutl; exact rfl)
    rintro _ _ (⟨rfl, b', hb', rfl⟩ | ⟨rfl, b', hb', rfl⟩)
    · (refine goSt ?_; (repeat (refine goAl ?_; intro p hp; refine goSt ?_)))
      (refine ⟨(k + 1, b'), fun _ _ st => st_sub2 st ?_ ?_, ?_, ?_⟩; exact goSubr; exact goSubp)
      · exact ⟨hk', hb'⟩
      · dsimp only; omega
    · (refine goSt ?_; (repeat (refine goAl ?_; intro p hp; refine goSt ?_)))
      (apply resK0; exact rfl; exact .inr ⟨k + 1, b', by omega, by omega, hb', rfl⟩; exact goCutl)
  · have hkk : k = xs.length := by simp at hlt; omega
    subst hkk
    (refine goSt ?_; (repeat (refine goAl ?_; intro p hp; refine goSt ?_)))
    (apply resK0; exact rfl; exact .inl ⟨b, hI, rfl⟩; exact goCutl)
set_option maxRecDepth 20000 in
theorem values_con (xs : List (List Pay)) : Con Tryd.prog 97 [.sl 1 plC xs] [] (Is (.clo 134 [.fp 1 [.sl 1 plC xs]]) []) := by
  refine con_of Tryd.func97 rfl (enters_of Tryd.func97 (by kernel_rfl) rfl) rfl ?_; intro n w0 F0 G0
  refine goSt ?_
  refine goAl ?_
  intro p1 hp1
  (apply WL_frzb 1 1; exact rfl; exact goRm)
  (refine goSt ?_; (repeat (refine goAl ?_; intro p hp; refine goSt ?_)))
  (apply res1; exact rfl; exact rfl; exact ⟨rfl, rfl⟩)
def opA (o : Option (List Pay)) : AV := match o with | none => .val (.slice none 0 0) | some l => .sl 3 payC l
def bstS (b : Option (List Pay)) (x : List Pay) : Option (List Pay) := match b with | none => some x | some y => if befI x y < 0 then some x else some y
theorem bstS_mem {xs : List (List Pay)} {b : Option (List Pay)} {y : List Pay} (h : xs.foldl bstS b = some y) : y ∈ xs ∨ b = some y := by
  induction xs generalizing b with
  | nil => exact .inr h
  | cons x t ih =>
    rcases ih h with h1 | h1
    · exact .inl (by simp [h1])
    · unfold bstS at h1
      cases b with
      | none => injection h1 with h1; exact .inl (by simp [h1])
      | some z =>
        dsimp only at h1
        split at h1
        · injection h1 with h1; exact .inl (by simp [h1])
        · exact .inr h1
set_option maxRecDepth 20000 in
set_option maxHeartbeats 4000000 in
theorem firstL_con (xs : List (List Pay)) (hl : xs.length ≤ 100000) (hb : ∀ x ∈ xs, PayB x) : Con Tryd.prog 96 [.clo 134 [.fp 1 [.sl 1 plC xs]], .clo 98 []] [] (Is (.tup [opA (xs.foldl bstS none), .val (.bool (xs.foldl bstS none).isSome)]) []) := by
  have IT := values_iter xs hl
  refine con_of Tryd.func96 rfl (enters_of Tryd.func96 (by kernel_rfl) rfl) rfl ?_; intro n w0 F0 G0
  (refine goSt ?_; (repeat (refine goAl ?_; intro p hp; refine goSt ?_)))
  rename_i p3 hp3 p6 hp6
  refine W_range (own := []) (by exact rfl) IT goCutl (fun k (b : Nat × Option (List Pay)) => b.1 = k ∧ b.2 = (xs.take k).foldl bstS none) (fun b => [.box p6 [opA b.2] 155, .box p [.val (.bool b.2.isSome)] 4, .box p3 [.clo 98 []] 161]) (fun _ _ => False) (fun _ _ => []) (0, none) ⟨rfl, rfl⟩ goSubp (by intro _ _ _; exact rfl) (by exact rfl) ?_ ?_ (fun _ _ _ h => h.elim)
  · intro lr m w1 F1 G1 hrec k hk b u hI
    obtain ⟨j, o⟩ := b
    obtain ⟨hI, ho⟩ := hI
    dsimp only at hI ho
    subst hI
    dsimp only [zipR, lsC, List.cons_append, List.nil_append]
    have hst : (xs.take (j + 1)).foldl bstS none = bstS o xs[j] := by rw [List.take_succ_eq_append_getElem hk, List.foldl_append, ← ho]; rfl
    have hb1 := hb _ (List.getElem_mem hk)
    cases o with
    | none =>
      dsimp only [opA, Option.isSome]
      unfold bstS at hst
      dsimp only at hst
      (refine goSt ?_; (repeat (refine goAl ?_; intro p hp; refine goSt ?_)))
      intro w2 F2 G2 hrec2
      (refine goSt ?_; (repeat (refine goAl ?_; intro p hp; refine goSt ?_)))
      refine ⟨(j + 1, some xs[j]), ⟨rfl, hst.symm⟩, fun a w st => st_sub2 st goSubr goSubp⟩
    | some y =>
      have hb2 : PayB y := hb _ (by
        rcases bstS_mem ho.symm with h | h
        · exact List.mem_of_mem_take h
        · cases h)
      have BC := before_con xs[j] y hb1 hb2
      dsimp only [opA, Option.isSome]
      unfold bstS at hst
      dsimp only at hst
      (refine goSt ?_; (repeat (refine goAl ?_; intro p hp; refine goSt ?_)))
      intro w2 F2 G2 hrec2
      (refine goSt ?_; (repeat (refine goAl ?_; intro p hp; refine goSt ?_)))
      (apply wl_callV0 (BC); exact rfl; exact rfl; exact rfl)
      (refine goSt ?_; (repeat (refine goAl ?_; intro p hp; refine goSt ?_)))
      refine w_cond rfl (fun hlt => ?_) (fun hlt => ?_)
      · rw [if_pos (of_decide_eq_true hlt)] at hst
        (refine goSt ?_; (repeat (refine goAl ?_; intro p hp; refine goSt ?_)))
        refine ⟨(j + 1, some xs[j]), ⟨rfl, hst.symm⟩, fun a w st => st_sub2 st goSubr goSubp⟩
      · rw [if_neg (of_decide_eq_false hlt)] at hst
        (refine goSt ?_; (repeat (refine goAl ?_; intro p hp; refine goSt ?_)))
        refine ⟨(j + 1, some y), ⟨rfl, hst.symm⟩, fun a w st => st_sub2 st goSubr goSubp⟩
  · rintro ⟨j, o⟩ ⟨hI, ho⟩
    dsimp only at hI ho
    subst hI
    dsimp only
    rw [List.take_length] at ho
    rw [← ho]
    clear ho
    cases o with
    | none =>
      dsimp only [opA, Option.isSome]
      (repeat (first | refine th_norm ?_ | refine th_exit ?_ | refine th_ret ?_ | refine bl_norm ?_ | refine bl_eq ?_ | refine bl_ne rfl ?_ | refine bl_ret ?_ | refine rt_norm ?_ | refine rt_ret ?_))
      (refine goSt ?_; (repeat (refine goAl ?_; intro p hp; refine goSt ?_)))
      refine W_run 3 [21, 22, 4] [0, 1, 2] Cut.nil rfl goFlt mixedS (by kernel_rfl) rfl ?_
      refine rpv [] [] ?_
      refine rpv [] [] ?_
      refine rpv [0] [] ?_
      refine ⟨⟨by kernel_rfl, by kernel_rfl⟩, fun vs => ?_⟩
      apply WL_auto [1, 2]
      · exact goPk
      · exact goNrm
      · kernel_rfl
      · kernel_rfl
      (refine goSt ?_; (repeat (refine goAl ?_; intro p hp; refine goSt ?_)))
      (refine goSt ?_; (repeat (refine goAl ?_; intro p hp; refine goSt ?_)))
      (apply resK2; exact rfl; exact rfl; exact rfl; exact ⟨rfl, rfl⟩; exact goCutl)
    | some y =>
      dsimp only [opA, Option.isSome]
      (repeat (first | refine th_norm ?_ | refine th_exit ?_ | refine th_ret ?_ | refine bl_norm ?_ | refine bl_eq ?_ | refine bl_ne rfl ?_ | refine bl_ret ?_ | refine rt_norm ?_ | refine rt_ret ?_))
      (refine goSt ?_; (repeat (refine goAl ?_; intro p hp; refine goSt ?_)))
      refine W_run 3 [21, 22, 4] [0, 1, 2] Cut.nil rfl goFlt mixedS (by kernel_rfl) rfl ?_
      refine rpv [] [] ?_
      refine rpv [] [] ?_
      refine rpv [0] [] ?_
      refine ⟨⟨by kernel_rfl, by kernel_rfl⟩, fun vs => ?_⟩
      apply WL_auto [1, 2]
      · exact goPk
      · exact goNrm
      · kernel_rfl
      · kernel_rfl
      (refine goSt ?_; (repeat (refine goAl ?_; intro p hp; refine goSt ?_)))
      (refine goSt ?_; (repeat (refine goAl ?_; intro p hp; refine goSt ?_)))
      (apply resK2; exact rfl; exact rfl; exact rfl; exact ⟨rfl, rfl⟩; exact goCutl)
end Go.Proofs.YtihonljdanjfmaaDoor.Sw
namespace Go.Proofs.YtihonljdanjfmaaDoor.Sw
open Go.RowKit Go Go.Shelf Go.Proofs
theorem fewTo_mem {α : Type} {g : Nat → List α} {x : α} : ∀ {m : Nat}, x ∈ fewTo g m → ∃ k, k < m ∧ x ∈ g k
  | 0, h => by cases h
  | m + 1, h => by
    rw [fewTo] at h
    split at h
    · exact ⟨m, by omega, h⟩
    · obtain ⟨k, h1, h2⟩ := fewTo_mem h
      exact ⟨k, by omega, h2⟩
theorem fewTo_len {α : Type} {g : Nat → List α} {c : Nat} (h : ∀ k, (g k).length ≤ c) : ∀ m, (fewTo g m).length ≤ c
  | 0 => by simp [fewTo]
  | m + 1 => by
    rw [fewTo]
    split
    · exact h m
    · exact fewTo_len h m
/-- What the program finds. -/
noncomputable def lsF (f : Flo) : List (List Pay) := fewP f (owed8 f)
noncomputable def stlN (f : Flo) : List Pay × Int := if errL f = 0 then (((lsF f).foldl bstS none).getD [], 0) else ([], errL f)
theorem lsF_ne {f : Flo} (h : errL f = 0) : lsF f ≠ [] := by
  intro e
  unfold errL at h
  unfold lsF at e
  split at h
  · rw [e] at h; exact absurd h (by decide)
  · exact absurd h (by decide)
theorem lsF_len {f : Flo} (h : errL f = 0) : (lsF f).length ≤ 32768 := by
  have hok : floOk f = true := by
    unfold errL at h
    split at h
    · assumption
    · exact absurd h (by decide)
  exact fewTo_len (fun k => lsts_len (owed8 f) k (flo_f hok).ids) _
theorem bstS_some : ∀ {xs : List (List Pay)} {b : Option (List Pay)}, (xs ≠ [] ∨ b.isSome = true) → (xs.foldl bstS b).isSome = true
  | [], b, h => h.elim (fun h => absurd rfl h) id
  | x :: t, b, _ => by
    rw [List.foldl_cons]
    refine bstS_some (.inr ?_)
    unfold bstS
    cases b with
    | none => rfl
    | some y => dsimp only; split <;> rfl
set_option maxRecDepth 20000 in
theorem Settle_con (f : Flo) (hS : Sml f) (hB : errL f = 0 → ∀ x ∈ lsF f, PayB x) : Con Tryd.prog 47 [.agg (flC f)] [tab8] (Is (.tup [.sl 3 payC (stlN f).1, .val (.int .i64 (stlN f).2)]) [tab8]) := by
  by_cases he : errL f = 0
  · have C := askedOk_con f hS he
    have hB := hB he
    have hl := lsF_len he
    have hne := lsF_ne he
    unfold stlN
    rw [if_pos he]
    unfold lsF at hl hB hne ⊢
    generalize fewP f (owed8 f) = xs at C hl hB hne ⊢
    have FC := firstL_con xs (by omega) hB
    have hs := bstS_some (b := none) (.inl hne)
    generalize xs.foldl bstS none = o at FC hs ⊢
    obtain ⟨y, rfl⟩ := Option.isSome_iff_exists.1 hs
    dsimp only [opA, Option.isSome, Option.getD] at FC ⊢
    refine con_of Tryd.func47 rfl (enters_of Tryd.func47 (by kernel_rfl) rfl) rfl ?_; intro n w0 F0 G0
    (refine goSt ?_; (repeat (refine goAl ?_; intro p hp; refine goSt ?_)))
    (apply wl_callP (C); exact rfl; exact goCutl; exact rfl)
    rintro _ _ ⟨ph, ow, rfl, rfl⟩
    (refine goSt ?_; (repeat (refine goAl ?_; intro p hp; refine goSt ?_)))
    (first | (apply wl_call (values_con xs); exact rfl; exact rfl) | (apply wl_callR (values_con xs); exact rfl; exact goAtm; exact rfl))
    (refine goSt ?_; (repeat (refine goAl ?_; intro p hp; refine goSt ?_)))
    (first | (apply wl_call (FC); exact rfl; exact rfl) | (apply wl_callR (FC); exact rfl; exact goAtm; exact rfl))
    (refine goSt ?_; (repeat (refine goAl ?_; intro p hp; refine goSt ?_)))
    (apply resK2; exact rfl; exact rfl; exact rfl; exact ⟨rfl, rfl⟩; exact goCutl)
  · have C := askedErr_con f hS he
    unfold stlN
    rw [if_neg he]
    generalize errL f = e at C he ⊢
    refine con_of Tryd.func47 rfl (enters_of Tryd.func47 (by kernel_rfl) rfl) rfl ?_; intro n w0 F0 G0
    (refine goSt ?_; (repeat (refine goAl ?_; intro p hp; refine goSt ?_)))
    (apply wl_callP (C); exact rfl; exact goCutl; exact rfl)
    rintro _ _ ⟨rfl, rfl⟩
    (refine goSt ?_; (repeat (refine goAl ?_; intro p hp; refine goSt ?_)))
    refine w_cond rfl (fun h => ?_) (fun h => ?_)
    · (refine goSt ?_; (repeat (refine goAl ?_; intro p hp; refine goSt ?_)))
      refine Res_nil 2 3 payC rfl ?_
      (apply resK2; exact rfl; exact rfl; exact rfl; exact ⟨rfl, rfl⟩; exact goCutl)
    · exact absurd (by simpa using h) he
end Go.Proofs.YtihonljdanjfmaaDoor.Sw
namespace Go.Proofs.YtihonljdanjfmaaDoor.Sw
open Go.RowKit Go Go.Shelf Go.Proofs
theorem errL_ok {f : Flo} (h : errL f = 0) : floOk f = true := by
  unfold errL at h
  split at h
  · assumption
  · exact absurd h (by decide)
end Go.Proofs.YtihonljdanjfmaaDoor.Sw
namespace Go.Proofs.YtihonljdanjfmaaDoor.Sw
open Go.RowKit Go Go.Shelf Go.Proofs
open Go.Proofs.YtihonljdanjfmaaDoor.Gr (payLt)
theorem askR_ne {f : Flo} (h : (askR f).2.2 = 0) : (askR f).1 ≠ [] := by
  unfold askR at h ⊢
  split
  · rename_i hok
    rw [if_pos hok] at h
    split
    · rename_i he
      rw [if_pos he] at h
      exact absurd h (by decide)
    · rename_i he
      intro e
      dsimp only at e
      rw [e] at he
      exact he rfl
  · rename_i hok
    rw [if_neg hok] at h
    exact absurd h (by decide)
theorem askR_len (f : Flo) : (askR f).1.length ≤ 32768 := by
  unfold askR
  split
  · rename_i hok
    split
    · simp
    · exact fewTo_len (fun k => Nat.le_trans (List.length_filterMap_le _ _) (by simp; exact pow15 (prR_15 _ (flo_f hok).ids))) 6
  · simp
theorem pay_eq {x y : Pay} (h : x.a = y.a ∧ x.b = y.b ∧ x.p = y.p) : x = y := by
  cases x; cases y; simp_all
def ltL : List Pay → List Pay → Bool
  | x :: s, y :: t => if x ≠ y then payLt x y else ltL s t
  | [], _ => false
  | _ :: _, [] => false
theorem ltL_2 (x y : Pay) (s t : List Pay) : ltL (x :: s) (y :: t) = if x ≠ y then payLt x y else ltL s t := rfl
theorem ltL_1 (t : List Pay) : ltL [] t = false := rfl
def befR (a b : List Pay) : Bool := if sumPay a ≠ sumPay b then decide (sumPay a < sumPay b) else ltL a b
set_option maxRecDepth 20000 in
set_option maxHeartbeats 4000000 in
theorem Before8_con (a b : List Pay) (ha : PayB a) (hb : PayB b) (hab : a.length ≤ b.length) : Con Tryd.prog 99 [.sl 3 payC a, .sl 3 payC b] [] (Is (.val (.bool (befR a b))) []) := by
  have hal := ha.len
  have hbl := hb.len
  unfold befR
  refine con_of Tryd.func99 rfl (enters_of Tryd.func99 (by kernel_rfl) rfl) rfl ?_; intro n w0 F0 G0
  (refine goSt ?_; (repeat (refine goAl ?_; intro p hp; refine goSt ?_)))
  (first | (apply wl_call (Sum8_con a ha.len ha.bd); exact rfl; exact rfl) | (apply wl_callR (Sum8_con a ha.len ha.bd); exact rfl; exact goAtm; exact rfl))
  (refine goSt ?_; (repeat (refine goAl ?_; intro p hp; refine goSt ?_)))
  (first | (apply wl_call (Sum8_con b hb.len hb.bd); exact rfl; exact rfl) | (apply wl_callR (Sum8_con b hb.len hb.bd); exact rfl; exact goAtm; exact rfl))
  (refine goSt ?_; (repeat (refine goAl ?_; intro p hp; refine goSt ?_)))
  refine w_cond rfl (fun hs => ?_) (fun hs => ?_)
  · rw [if_pos (by simpa using hs)]
    (refine goSt ?_; (repeat (refine goAl ?_; intro p hp; refine goSt ?_)))
    (first | (apply wl_call (Sum8_con a ha.len ha.bd); exact rfl; exact rfl) | (apply wl_callR (Sum8_con a ha.len ha.bd); exact rfl; exact goAtm; exact rfl))
    (refine goSt ?_; (repeat (refine goAl ?_; intro p hp; refine goSt ?_)))
    (first | (apply wl_call (Sum8_con b hb.len hb.bd); exact rfl; exact rfl) | (apply wl_callR (Sum8_con b hb.len hb.bd); exact rfl; exact goAtm; exact rfl))
    (refine goSt ?_; (repeat (refine goAl ?_; intro p hp; refine goSt ?_)))
    (apply res1; exact rfl; exact rfl; exact ⟨rfl, rfl⟩)
  · rw [if_neg (by simpa using hs)]
    (refine goSt ?_; (repeat (refine goAl ?_; intro p hp; refine goSt ?_)))
    refine W_loopJ (fun (k : Nat) => ⟨[(0, .sl 3 payC a), (1, .sl 3 payC b), (5, .val (.int .i64 k))], []⟩) (fun k => k ≤ a.length ∧ ltL (a.drop k) (b.drop k) = ltL a b) (fun k => a.length - k) 0 (fun _ _ st => st_sub2 st goSubr goSubp) ⟨Nat.zero_le _, rfl⟩ ?_
    rintro k ⟨hk, hc⟩
    (refine goSt ?_; (repeat (refine goAl ?_; intro p hp; refine goSt ?_)))
    refine w_cond rfl (fun hlt => ?_) (fun hlt => ?_)
    · have hlt' : k < a.length := by simpa using hlt
      have hkb' : k < b.length := by omega
      rw [drop_step hlt', drop_step hkb', ltL_2] at hc
      have hq1 : a[k]? = some a[k] := List.getElem?_eq_getElem hlt'
      have hq2 : b[k]? = some b[k] := List.getElem?_eq_getElem hkb'
      (refine goSt ?_; (repeat (refine goAl ?_; intro p hp; refine goSt ?_)))
      refine W_run 8 [22, 23, 24, 25, 26, 27, 28, 29] [0, 1, 2, 3, 4, 5, 6, 7] Cut.nil rfl goFlt mixedS (by kernel_rfl) rfl ?_
      refine rpv [] [] ?_
      refine rpv [] [] ?_
      refine rpv [0, 1] [] ?_
      refine rpv [2] [] ?_
      refine rpv [] [] ?_
      refine rpv [] [] ?_
      refine rpv [4, 5] [] ?_
      refine rpv [6] [] ?_
      refine ⟨⟨by kernel_rfl, by kernel_rfl⟩, fun vs => ?_⟩
      apply WL_auto [3, 7]
      · exact goPk
      · exact goNrm
      · kernel_rfl
      · kernel_rfl
      (refine goSt ?_; (repeat (refine goAl ?_; intro p hp; refine goSt ?_)))
      (refine goSt ?_; (repeat (refine goAl ?_; intro p hp; refine goSt ?_)))
      refine w_cond rfl (fun hz => ?_) (fun hz => ?_)
      · rw [if_pos (fun e => by rw [e] at hz; simp at hz)] at hc
        rw [← hc]
        (refine goSt ?_; (repeat (refine goAl ?_; intro p hp; refine goSt ?_)))
        refine W_run 8 [31, 32, 33, 34, 35, 36, 37, 38] [0, 1, 2, 3, 4, 5, 6, 7] Cut.nil rfl goFlt mixedS (by kernel_rfl) rfl ?_
        refine rpv [] [] ?_
        refine rpv [] [] ?_
        refine rpv [0, 1] [] ?_
        refine rpv [2] [] ?_
        refine rpv [] [] ?_
        refine rpv [] [] ?_
        refine rpv [4, 5] [] ?_
        refine rpv [6] [] ?_
        refine ⟨⟨by kernel_rfl, by kernel_rfl⟩, fun vs => ?_⟩
        apply WL_auto [3, 7]
        · exact goPk
        · exact goNrm
        · kernel_rfl
        · kernel_rfl
        (refine goSt ?_; (repeat (refine goAl ?_; intro p hp; refine goSt ?_)))
        (first | (apply wl_call (less8_con a[k] b[k]); exact rfl; exact rfl) | (apply wl_callR (less8_con a[k] b[k]); exact rfl; exact goAtm; exact rfl))
        (refine goSt ?_; (repeat (refine goAl ?_; intro p hp; refine goSt ?_)))
        (apply res1; exact rfl; exact rfl; exact ⟨rfl, rfl⟩)
      · rw [if_neg (fun h => h (pay_eq (by simpa using hz)))] at hc
        (refine goSt ?_; (repeat (refine goAl ?_; intro p hp; refine goSt ?_)))
        (refine ⟨k + 1, fun _ _ st => st_sub2 st ?_ ?_, ?_, ?_⟩; exact goSubr; exact goSubp)
        · exact ⟨hlt', hc⟩
        · omega
    · have hke : k = a.length := by simp at hlt; omega
      have e2 : a.drop k = [] := List.drop_eq_nil_of_le (by omega)
      rw [e2, ltL_1] at hc
      rw [← hc]
      (refine goSt ?_; (repeat (refine goAl ?_; intro p hp; refine goSt ?_)))
      (apply res1; exact rfl; exact rfl; exact ⟨rfl, rfl⟩)
def bst8 (xs : List (List Pay)) : List Pay := xs.foldl (fun b x => if befR x b = true then x else b) (xs.headD [])
def stlN8 (f : Flo) : List Pay × Int := if (askR f).2.2 = 0 then (bst8 (askR f).1, 0) else ([], (askR f).2.2)
theorem bst8_mem {xs : List (List Pay)} {b y : List Pay} (h : xs.foldl (fun b x => if befR x b = true then x else b) b = y) : y ∈ xs ∨ y = b := by
  induction xs generalizing b with
  | nil => exact .inr h.symm
  | cons x t ih =>
    rcases ih h with h1 | h1
    · exact .inl (by simp [h1])
    · dsimp only at h1
      split at h1
      · exact .inl (by simp [h1])
      · exact .inr h1
set_option maxRecDepth 20000 in
set_option maxHeartbeats 4000000 in
theorem Settle8_con (f : Flo) (hS : Sml f) (hB : ∀ l ∈ (askR f).1, PayB l) (hE : ∀ a ∈ (askR f).1, ∀ b ∈ (askR f).1, a.length = b.length) : Con Tryd.prog 48 [.agg (flC f)] [] (Is (.tup [.sl 3 payC (stlN8 f).1, .val (.int .i64 (stlN8 f).2)]) []) := by
  have C := asked8_con f hS
  have hne := askR_ne (f := f)
  have hl := askR_len f
  unfold stlN8
  generalize askR f = r at C hne hl hB hE ⊢
  obtain ⟨xs, ch, c⟩ := r
  unfold askA at C
  dsimp only at C hne hl hB hE ⊢
  refine con_of Tryd.func48 rfl (enters_of Tryd.func48 (by kernel_rfl) rfl) rfl ?_; intro n w0 F0 G0
  (refine goSt ?_; (repeat (refine goAl ?_; intro p hp; refine goSt ?_)))
  (first | (apply wl_call (C); exact rfl; exact rfl) | (apply wl_callR (C); exact rfl; exact goAtm; exact rfl))
  (refine goSt ?_; (repeat (refine goAl ?_; intro p hp; refine goSt ?_)))
  refine w_cond rfl (fun he => ?_) (fun he => ?_)
  · have he' : c ≠ 0 := by simpa using he
    rw [if_neg he']
    (refine goSt ?_; (repeat (refine goAl ?_; intro p hp; refine goSt ?_)))
    refine Res_nil 2 3 payC rfl ?_
    (apply res2; exact rfl; exact rfl; exact rfl; exact ⟨rfl, rfl⟩)
  · have he' : c = 0 := by simpa using he
    rw [if_pos he']
    have h0 : 0 < xs.length := List.length_pos_iff.2 (hne he')
    have hh : xs.headD [] = xs[0] := by
      obtain ⟨x, t, rfl⟩ := List.exists_cons_of_ne_nil (hne he')
      rfl
    unfold bst8
    rw [hh]
    (refine goSt ?_; (repeat (refine goAl ?_; intro p hp; refine goSt ?_)))
    refine W_loopJ (fun (b : Nat × List Pay) => ⟨[(22, .sl 1 plC xs), (23, .val (.int .i64 xs.length)), (24, .val (.int .i64 b.1)), (7, .sl 3 payC b.2)], []⟩) (fun b => b.1 ≤ xs.length ∧ (xs.take b.1).foldl (fun b x => if befR x b = true then x else b) xs[0] = b.2) (fun b => xs.length - b.1) (0, xs[0]) (fun _ _ st => st_sub2 st goSubr goSubp) ⟨Nat.zero_le _, rfl⟩ ?_
    rintro ⟨k, b⟩ ⟨hk, hb⟩
    dsimp only at hk hb ⊢
    (refine goSt ?_; (repeat (refine goAl ?_; intro p hp; refine goSt ?_)))
    refine w_cond rfl (fun hlt => ?_) (fun hlt => ?_)
    · have hlt' : k < xs.length := by simpa using hlt
      have hbm : b ∈ xs := by
        rcases bst8_mem hb with h | h
        · exact List.mem_of_mem_take h
        · rw [h]; exact List.getElem_mem h0
      have hxm := List.getElem_mem hlt'
      have BC := Before8_con xs[k] b (hB _ hxm) (hB _ hbm) (Nat.le_of_eq (hE _ hxm _ hbm))
      have hst : (xs.take (k + 1)).foldl (fun b x => if befR x b = true then x else b) xs[0] = if befR xs[k] b = true then xs[k] else b := by rw [List.take_succ_eq_append_getElem hlt', List.foldl_append, hb]; rfl
      (refine goSt ?_; (repeat (refine goAl ?_; intro p hp; refine goSt ?_)))
      (first | (apply wl_call (BC); exact rfl; exact rfl) | (apply wl_callR (BC); exact rfl; exact goAtm; exact rfl))
      (refine goSt ?_; (repeat (refine goAl ?_; intro p hp; refine goSt ?_)))
      refine w_cond rfl (fun hg => ?_) (fun hg => ?_)
      · rw [if_pos hg] at hst
        (refine goSt ?_; (repeat (refine goAl ?_; intro p hp; refine goSt ?_)))
        (refine ⟨(k + 1, xs[k]), fun _ _ st => st_sub2 st ?_ ?_, ?_, ?_⟩; exact goSubr; exact goSubp)
        · exact ⟨hlt', hst⟩
        · dsimp only; omega
      · rw [if_neg (by rw [hg]; simp)] at hst
        (refine goSt ?_; (repeat (refine goAl ?_; intro p hp; refine goSt ?_)))
        (refine ⟨(k + 1, b), fun _ _ st => st_sub2 st ?_ ?_, ?_, ?_⟩; exact goSubr; exact goSubp)
        · exact ⟨hlt', hst⟩
        · dsimp only; omega
    · have hkk : k = xs.length := by simp at hlt; omega
      subst hkk
      rw [List.take_length] at hb
      rw [hb]
      (refine goSt ?_; (repeat (refine goAl ?_; intro p hp; refine goSt ?_)))
      (apply res2; exact rfl; exact rfl; exact rfl; exact ⟨rfl, rfl⟩)
end Go.Proofs.YtihonljdanjfmaaDoor.Sw
namespace Go.Proofs.YtihonljdanjfmaaDoor.Sw
open Go.RowKit Go Go.Shelf Go.Proofs
/-- Numbers that are no too large ones. -/
structure OkP (x : Pay) : Prop where
  a : -1000000000000 ≤ x.a ∧ x.a ≤ 1000000000000
  b : -1000000000000 ≤ x.b ∧ x.b ≤ 1000000000000
  p : -1000000000000 ≤ x.p ∧ x.p ≤ 1000000000000
instance : DecidableEq Pay := inferInstance
end Go.Proofs.YtihonljdanjfmaaDoor.Sw
namespace Go.Proofs.YtihonljdanjfmaaDoor.Sw
open Go.RowKit Go Go.Shelf Go.Proofs
instance tyzP : TyZ Tryd.prog 53 [.int .i64 0, .int .i64 0, .int .i64 0] := inferInstance
end Go.Proofs.YtihonljdanjfmaaDoor.Sw
namespace Go.Proofs.YtihonljdanjfmaaDoor.Sw
open Go.RowKit Go Go.Shelf Go.Proofs
/-- How often a payment was counted. -/
def cntM (m : List (Pay × Int)) (x : Pay) : Int := (getM m x).getD 0
theorem cntM_put (m : List (Pay × Int)) (x y : Pay) (n : Int) : cntM (putM m x n) y = if y = x then n else cntM m y := by
  unfold cntM
  rw [getM_put]
  split <;> rfl
/-- Counted so far. -/
structure CntJ (m : List (Pay × Int)) (L : List Pay) : Prop where
  eq : ∀ x, cntM m x = (L.count x : Nat)
  len : m.length ≤ L.length
theorem CntJ.nil : CntJ [] [] := ⟨fun x => rfl, Nat.le_refl _⟩
theorem CntJ.snoc {m : List (Pay × Int)} {L : List Pay} (h : CntJ m L) (x : Pay) : CntJ (putM m x (cntM m x + 1)) (L ++ [x]) := by
  refine ⟨fun y => ?_, by rw [List.length_append, List.length_singleton]; have := putM_len m x (cntM m x + 1); have := h.len; omega⟩
  rw [cntM_put, List.count_append, h.eq x, h.eq y, List.count_singleton]
  split
  · rename_i e; subst e; simp
  · rename_i e; simp [Ne.symm e]
theorem CntJ.le {m : List (Pay × Int)} {L : List Pay} (h : CntJ m L) (x : Pay) : 0 ≤ cntM m x ∧ cntM m x ≤ L.length := by
  rw [h.eq]; have := List.count_le_length (a := x) (l := L); omega
end Go.Proofs.YtihonljdanjfmaaDoor.Sw
namespace Go.Proofs.YtihonljdanjfmaaDoor.Sw
open Go.RowKit Go Go.Shelf Go.Proofs
open Go.Proofs.YtihonljdanjfmaaDoor.Gr (Ok Ord Forest Zr lf headsR hf Lab payLt payLt_iff payLt_no payLt_anti SortedP sorted_uniq amt payE treeR treeR_iff pick Side)
theorem ids_inj {ids : List Int} (h : rises 0 ids = true) {i j : Nat} (hi : i < ids.length) (hj : j < ids.length) (e : ids.getD i 0 = ids.getD j 0) : i = j := by
  rw [List.getD_eq_getElem?_getD, List.getD_eq_getElem?_getD, List.getElem?_eq_getElem hi, List.getElem?_eq_getElem hj] at e
  simp only [Option.getD_some] at e
  rcases Nat.lt_trichotomy i j with k | k | k
  · have := rises_sorted h i j hi hj k; omega
  · exact k
  · have := rises_sorted h j i hj hi k; omega
theorem payE_ends (ids : List Int) (x : Nat → Int) (L : List (Nat × Nat)) (e : Nat × Nat) : ((payE ids x L e).a = ids.getD e.1 0 ∧ (payE ids x L e).b = ids.getD e.2 0) ∨ ((payE ids x L e).a = ids.getD e.2 0 ∧ (payE ids x L e).b = ids.getD e.1 0) := by
  unfold payE
  split
  · exact .inr ⟨rfl, rfl⟩
  · exact .inl ⟨rfl, rfl⟩
theorem payE_inj {f : Flo} (hr : rises 0 f.ids = true) {x : Nat → Int} {L M : List (Nat × Nat)} {e e' : Nat × Nat} (h : PrS f e) (h' : PrS f e') (k : payE f.ids x L e = payE f.ids x M e') : e = e' := by
  have a1 := payE_ends f.ids x L e
  have a2 := payE_ends f.ids x M e'
  rw [k] at a1
  obtain ⟨h1, h2, _⟩ := h
  obtain ⟨h3, h4, _⟩ := h'
  have inj := fun i j hi hj => ids_inj hr (i := i) (j := j) hi hj
  rcases a1 with ⟨b1, b2⟩ | ⟨b1, b2⟩ <;> rcases a2 with ⟨c1, c2⟩ | ⟨c1, c2⟩
  · exact Prod.ext (inj _ _ (by omega) (by omega) (b1.symm.trans c1)) (inj _ _ (by omega) (by omega) (b2.symm.trans c2))
  · have := inj _ _ (by omega) (by omega) (b1.symm.trans c1)
    have := inj _ _ (by omega) (by omega) (b2.symm.trans c2)
    omega
  · have := inj _ _ (by omega) (by omega) (b1.symm.trans c1)
    have := inj _ _ (by omega) (by omega) (b2.symm.trans c2)
    omega
  · exact Prod.ext (inj _ _ (by omega) (by omega) (b2.symm.trans c2)) (inj _ _ (by omega) (by omega) (b1.symm.trans c1))
theorem SetL.sub {f : Flo} {cu : List Int} (hr : rises 0 f.ids = true) {k k' : Nat} {L M : List (Nat × Nat)} {out : List Pay} (h : SetL f.ids cu (PrS f) k L out) (h' : SetL f.ids cu (PrS f) k' M out) {e : Nat × Nat} (he : e ∈ L) : e ∈ M := by
  have h1 : payE f.ids (lf cu) L e ∈ out := h.pe.mem_iff.2 (List.mem_map.2 ⟨e, he, rfl⟩)
  obtain ⟨e', he', h2⟩ := List.mem_map.1 (h'.pe.mem_iff.1 h1)
  rw [← payE_inj hr (h'.mem e' he') (h.mem e he) h2]; exact he'
theorem leafG_nodup (f : Flo) (cu : List Int) (l : List (Nat × Nat)) : (leafG f cu l).Nodup := by
  unfold leafG
  split
  · cases lstR f.ids l cu <;> simp
  · simp
theorem chG_nodup {f : Flo} {cu : List Int} {many : Nat} (hr : rises 0 f.ids = true) : ∀ {t l : List (Nat × Nat)}, (l ++ t).Nodup → (∀ p ∈ l ++ t, PrS f p) → Forest l → l.length ≤ many → (chG f cu many t l).Nodup
  | [], l, hn, hl, hf, hle => by
    rw [chG]
    split
    · exact leafG_nodup _ _ _
    · simp
  | p :: t, l, hn, hl, hf, hle => by
    by_cases hm : l.length = many
    · rw [chG_yes hm]; exact leafG_nodup _ _ _
    · rw [chG_cons hm]
      have e1 : l ++ p :: t = (l ++ [p]) ++ t := by simp
      have hn1 : ((l ++ [p]) ++ t).Nodup := by rw [← e1]; exact hn
      have hl1 : ∀ q ∈ (l ++ [p]) ++ t, PrS f q := by rw [← e1]; exact hl
      have hn2 : (l ++ t).Nodup := hn.sublist ((List.sublist_cons_self p t).append_left l)
      have hl2 : ∀ q ∈ l ++ t, PrS f q := fun q hq => hl q (by simp at hq ⊢; rcases hq with h | h <;> simp [h])
      have bd : ∀ {l : List (Nat × Nat)}, (∀ q ∈ l, PrS f q) → ∀ q ∈ l, q.1 < f.ids.length ∧ q.2 < f.ids.length := fun h q hq => ⟨Nat.lt_trans (h q hq).1 (h q hq).2.1, (h q hq).2.1⟩
      have hnp : (l ++ [p]).Nodup := (List.nodup_append.1 hn1).1
      have hp := bd hl p (by simp)
      have hap : Forest (l ++ [p]) ↔ apB f.ids.length l p = true := by
        rw [Gr.forest_snoc hnp, ← Gr.lab_apart (Gr.lab_all (fun q hq => bd hl q (by simp [hq]))) hp.1 hp.2]
        unfold apB
        simp [hf]
      have ih2 := chG_nodup hr (cu := cu) hn2 hl2 hf hle
      split
      · rename_i ha
        have hlp : (l ++ [p]).length ≤ many := by rw [List.length_append, List.length_singleton]; omega
        refine List.nodup_append.2 ⟨chG_nodup hr hn1 hl1 (hap.2 ha) hlp, ih2, fun a hA b hB e => ?_⟩
        subst e
        obtain ⟨s, h1, h2, h3, h4, h5⟩ := (chG_mem hn1 (bd hl1) (hap.2 ha) hlp).1 hA
        obtain ⟨s', k1, k2, k3, k4, k5⟩ := (chG_mem hn2 (bd hl2) hf hle).1 hB
        obtain ⟨h6, h7, h8⟩ := lstR_iff.1 h5
        obtain ⟨k6, k7, k8⟩ := lstR_iff.1 k5
        have S1 : SetL f.ids cu (PrS f) many ((l ++ [p]) ++ s) a := ⟨hn1.sublist (h1.append_left _), fun e he => hl1 e ((h1.append_left _).subset he), h2, h3, h4, h6, h7, h8⟩
        have S2 : SetL f.ids cu (PrS f) many (l ++ s') a := ⟨hn2.sublist (k1.append_left _), fun e he => hl2 e ((k1.append_left _).subset he), k2, k3, k4, k6, k7, k8⟩
        have hpm : p ∈ l ++ s' := S1.sub hr S2 (by simp)
        have hpt : p ∈ l ++ t := (k1.append_left _).subset hpm
        have hn3 : (p :: (l ++ t)).Nodup := (List.perm_middle.nodup_iff).1 hn
        exact (List.nodup_cons.1 hn3).1 hpt
      · simpa using ih2
theorem lstsR_nodup {f : Flo} (hr : rises 0 f.ids = true) (k : Nat) : (lstsR f (owed8 f) k).Nodup :=
  chG_nodup hr (by simpa using prP_nodup _ _) (fun p hp => prP_mem.1 (by simpa using hp)) forest_nil (Nat.zero_le _)
theorem pick_inj {α : Type} : ∀ {l : List α} {s s' : Nat}, l.Nodup → s < 2 ^ l.length → s' < 2 ^ l.length → (∀ e, e ∈ pick l s ↔ e ∈ pick l s') → s = s'
  | [], s, s', _, h, h', _ => by simp at h h'; omega
  | p :: l, s, s', hn, h, h', hm => by
    obtain ⟨n1, n2⟩ := List.nodup_cons.1 hn
    rw [List.length_cons, Nat.pow_succ] at h h'
    have no : ∀ s, p ∉ pick l s := fun s hp => n1 ((Gr.pick_sub l s).subset hp)
    unfold pick at hm
    have hpar : s % 2 = s' % 2 := by
      have := hm p
      by_cases a : s % 2 = 1 <;> by_cases b : s' % 2 = 1
      · omega
      · rw [if_pos a, if_neg b] at this; exact absurd (this.1 (by simp)) (no _)
      · rw [if_neg a, if_pos b] at this; exact absurd (this.2 (by simp)) (no _)
      · omega
    have ih : s / 2 = s' / 2 := pick_inj n2 (by omega) (by omega) fun e => by
      have he := hm e
      by_cases a : s % 2 = 1
      · have b : s' % 2 = 1 := by omega
        rw [if_pos a, if_pos b] at he
        by_cases hep : e = p
        · subst hep; exact ⟨fun h => absurd h (no _), fun h => absurd h (no _)⟩
        · simpa [hep] using he
      · have b : ¬ s' % 2 = 1 := by omega
        rw [if_neg a, if_neg b] at he; exact he
    omega
theorem allR_nodup {f : Flo} (hr : rises 0 f.ids = true) (k : Nat) : (allR f k).Nodup := by
  have hok := prR_ok (spk f) f.ids.length
  unfold allR allTo
  have h0 : (List.range (2 ^ (prR (spk f) f.ids.length f.ids.length).length)).Pairwise (fun a b => ∀ x ∈ (if (pick (prR (spk f) f.ids.length f.ids.length) a).length = k then treeR f.ids (pick (prR (spk f) f.ids.length f.ids.length) a) (owed8 f) else none), ∀ y ∈ (if (pick (prR (spk f) f.ids.length f.ids.length) b).length = k then treeR f.ids (pick (prR (spk f) f.ids.length f.ids.length) b) (owed8 f) else none), x ≠ y) := by
    refine List.Pairwise.imp_of_mem ?_ (List.nodup_range (n := 2 ^ (prR (spk f) f.ids.length f.ids.length).length))
    intro a b ha hb hne x hx y hy e
    subst e
    have toS : ∀ {s}, x ∈ (if (pick (prR (spk f) f.ids.length f.ids.length) s).length = k then treeR f.ids (pick (prR (spk f) f.ids.length f.ids.length) s) (owed8 f) else none) → SetL f.ids (owed8 f) (PrS f) k (pick (prR (spk f) f.ids.length f.ids.length) s) x := fun {s} h => by
      split at h
      · rename_i hk
        have hsub := Gr.pick_sub (prR (spk f) f.ids.length f.ids.length) s
        have hoS := hok.sub hsub
        obtain ⟨h1, h2, h3, h4, h5⟩ := (treeR_iff hoS (owed8_len f)).1 h
        exact ⟨hoS.nd, fun e he => by have := (prR_mem (Nat.le_refl _)).1 (hsub.subset he); exact ⟨this.2.1, this.2.2.1, this.2.2.2⟩, hk, h1, h2, h3, h4, h5⟩
      · cases h
    exact hne (pick_inj hok.nd (List.mem_range.1 ha) (List.mem_range.1 hb) fun e => ⟨fun he => (toS hx).sub hr (toS hy) he, fun he => (toS hy).sub hr (toS hx) he⟩)
  exact List.pairwise_filterMap.2 h0
/-- Both list the same. -/
theorem lists_perm {f : Flo} (hr : rises 0 f.ids = true) (k : Nat) : (lstsR f (owed8 f) k).Perm (allR f k) :=
  (List.perm_ext_iff_of_nodup (lstsR_nodup hr k) (allR_nodup hr k)).2 fun out => lstsR_mem.trans allR_mem.symm
theorem SetL.small {f : Flo} {k : Nat} {L : List (Nat × Nat)} {out : List Pay} (h : SetL f.ids (owed8 f) (PrS f) k L out) : k < max 1 f.ids.length := by
  have hok : Ok f.ids.length L := ⟨h.nd, fun p hp => by have := h.mem p hp; exact ⟨Nat.lt_trans this.1 this.2.1, this.2.1, Nat.ne_of_lt this.1⟩⟩
  have hm : Gr.Min f.ids.length L (lf (owed8 f)) := fun e he hz => by
    obtain ⟨Q, hQ⟩ := Gr.side_of h.fo he (.inr ⟨rfl, rfl⟩ : Gr.Ends e e.2 e.1)
    exact h.nz e he (by rw [Gr.amt_side h.nd h.zr hQ]; exact hz Q hQ.cl)
  have := Gr.Min.small hok h.zr hm
  rw [h.len] at this
  omega
theorem fewTo_ext {α : Type} {g : Nat → List α} {m : Nat} (h : ∀ k, m ≤ k → g k = []) : ∀ j, fewTo g (m + j) = fewTo g m
  | 0 => rfl
  | j + 1 => by
    have ih := fewTo_ext h j
    rw [← Nat.add_assoc, fewTo]
    split
    · rename_i he
      rw [h _ (by omega), ← ih]
      rcases hq : fewTo g (m + j) with _ | ⟨x, t⟩
      · rfl
      · rw [hq] at he; cases he
    · exact ih
theorem fewTo_perm {α : Type} {g g' : Nat → List α} (h : ∀ k, (g k).Perm (g' k)) : ∀ m, (fewTo g m).Perm (fewTo g' m)
  | 0 => .refl _
  | m + 1 => by
    have ih := fewTo_perm h m
    rw [fewTo, fewTo]
    have e : (fewTo g m).isEmpty = (fewTo g' m).isEmpty := by
      have hl := ih.length_eq
      generalize fewTo g m = A at hl
      generalize fewTo g' m = B at hl
      cases A <;> cases B <;> first | rfl | (simp at hl)
    rw [e]
    split
    · exact h m
    · exact ih
theorem few_perm {f : Flo} (hF : FloF f) (hr : rises 0 f.ids = true) : (lsF f).Perm (fewTo (allR f) 6) := by
  have hn := hF.ids
  have hz : ∀ k, max 1 f.ids.length ≤ k → allR f k = [] := fun k hk => by
    rcases hq : allR f k with _ | ⟨x, t⟩
    · rfl
    · have : x ∈ allR f k := by rw [hq]; simp
      obtain ⟨L, hL⟩ := allR_mem.1 this
      have := hL.small
      omega
  have e := fewTo_ext hz (6 - max 1 f.ids.length)
  rw [show max 1 f.ids.length + (6 - max 1 f.ids.length) = 6 by omega] at e
  rw [e]
  exact fewTo_perm (fun k => lists_perm hr k) _
end Go.Proofs.YtihonljdanjfmaaDoor.Sw
namespace Go.Proofs.YtihonljdanjfmaaDoor.Sw
open Go.RowKit Go Go.Shelf Go.Proofs
open Go.Proofs.YtihonljdanjfmaaDoor.Gr (payLt payLt_iff payLt_no payLt_anti SortedP sorted_uniq payE lf)
theorem fewTo_one {α : Type} {g : Nat → List α} : ∀ m, fewTo g m = [] ∨ ∃ k, k < m ∧ fewTo g m = g k
  | 0 => .inl rfl
  | m + 1 => by
    rw [fewTo]
    split
    · exact .inr ⟨m, by omega, rfl⟩
    · rcases fewTo_one (g := g) m with h | ⟨k, h1, h2⟩
      · exact .inl h
      · exact .inr ⟨k, by omega, h2⟩
/-- What holds of a list that is told. -/
structure Told (f : Flo) (k : Nat) (l : List Pay) : Prop where
  len : l.length = k
  so : SortedP l
  nd : l.Nodup
  ok : ∀ x ∈ l, OkP x ∧ 1 ≤ x.p
theorem told {f : Flo} (hF : FloF f) (hS : Sml f) (hr : rises 0 f.ids = true) {k : Nat} {l : List Pay} (h : l ∈ allR f k) : Told f k l := by
  obtain ⟨L, hL⟩ := allR_mem.1 h
  have hp := allTo_pays (prR_ok (spk f) f.ids.length) (owed8_len f) (by omega) (owed8_btw hF hS) h
  have hn := hF.ids
  refine ⟨hp.1, hL.so, (hL.pe.nodup_iff).2 ?_, fun x hx => ?_⟩
  · rw [List.Nodup, List.pairwise_map]
    exact hL.nd.imp_of_mem fun {a b} ha hb hne e => hne (payE_inj hr (hL.mem a ha) (hL.mem b hb) e)
  · have h2 := hp.2 x hx
    have h3 : (f.ids.length : Int) * 200000000 ≤ 6 * 200000000 := Int.mul_le_mul_of_nonneg_right (by omega) (by omega)
    obtain ⟨e, he, rfl⟩ := List.mem_map.1 (hL.pe.mem_iff.1 hx)
    have hb : ∀ i, i < f.ids.length → 1 ≤ f.ids.getD i 0 ∧ f.ids.getD i 0 ≤ 9999 := fun i hi => by
      rw [List.getD_eq_getElem?_getD, List.getElem?_eq_getElem hi]
      have := rises_all hr _ (List.getElem_mem hi)
      simp only [Option.getD_some]; omega
    have hm := hL.mem e he
    have b1 := hb e.1 (Nat.lt_trans hm.1 hm.2.1)
    have b2 := hb e.2 hm.2.1
    rcases payE_ends f.ids (lf (owed8 f)) L e with ⟨c1, c2⟩ | ⟨c1, c2⟩
    · exact ⟨⟨by rw [c1]; omega, by rw [c2]; omega, by omega⟩, h2.1⟩
    · exact ⟨⟨by rw [c1]; omega, by rw [c2]; omega, by omega⟩, h2.1⟩
theorem Told.payB {f : Flo} {k : Nat} {l : List Pay} (h : Told f k l) (hk : k ≤ 1000) : PayB l := ⟨by rw [h.len]; exact hk, fun x hx => (h.ok x hx).1.p⟩
theorem askR_err {f : Flo} (h : floOk f = true) : errL f = (askR f).2.2 := by
  have hp := few_perm (flo_f h) (rises_of_ok h)
  unfold errL askR
  rw [if_pos h, if_pos h]
  have e : (fewP f (owed8 f)).isEmpty = (fewTo (allR f) 6).isEmpty := by
    have hl := hp.length_eq
    unfold lsF at hl
    generalize fewP f (owed8 f) = A at hl
    generalize fewTo (allR f) 6 = B at hl
    cases A <;> cases B <;> first | rfl | (simp at hl)
  rw [e]
  split <;> rfl
theorem askR_no {f : Flo} (h : floOk f = false) : errL f = 80 ∧ askR f = ([], 0, 80) := by
  unfold errL askR
  rw [h]
  exact ⟨rfl, rfl⟩
theorem askR_ls {f : Flo} (h : floOk f = true) (he : errL f = 0) : (askR f).1 = fewTo (allR f) 6 ∧ (askR f).2.1 = chTo (allR f) 6 := by
  rw [askR_err h] at he
  unfold askR at he ⊢
  rw [if_pos h] at he ⊢
  split
  · rename_i h2
    rw [if_pos h2] at he
    exact absurd he (by decide)
  · exact ⟨rfl, rfl⟩
/-- What both have found, by name. -/
structure Both (f : Flo) (k : Nat) (A B : List (List Pay)) : Prop where
  pe : A.Perm B
  to : ∀ l ∈ B, Told f k l
  neA : A ≠ []
  neB : B ≠ []
theorem both {f : Flo} (hS : Sml f) (h : floOk f = true) (he : errL f = 0) : ∃ k, k < 6 ∧ Both f k (lsF f) (askR f).1 := by
  have hF := flo_f h
  have hr := rises_of_ok h
  rw [(askR_ls h he).1]
  have hp := few_perm hF hr
  have hA := lsF_ne he
  have hB : fewTo (allR f) 6 ≠ [] := fun e => hA (by rw [e] at hp; exact List.perm_nil.1 hp)
  rcases fewTo_one (g := allR f) 6 with e | ⟨k, hk, e⟩
  · exact absurd e hB
  · exact ⟨k, hk, hp, fun l hl => told hF hS hr (by rw [← e]; exact hl), hA, hB⟩
theorem Both.toA {f : Flo} {k : Nat} {A B : List (List Pay)} (h : Both f k A B) : ∀ l ∈ A, Told f k l := fun l hl => h.to l (h.pe.mem_iff.1 hl)
theorem head_mem {α : Type} {l : List (List α)} (h : l ≠ []) : l.headD [] ∈ l := by
  obtain ⟨x, t, rfl⟩ := List.exists_cons_of_ne_nil h
  simp
end Go.Proofs.YtihonljdanjfmaaDoor.Sw
namespace Go.Proofs.YtihonljdanjfmaaDoor.Sw
open Go.RowKit Go Go.Shelf Go.Proofs
open Go.Proofs.YtihonljdanjfmaaDoor.Gr (payLt payLt_iff payLt_no payLt_anti SortedP sorted_uniq payE lf)
/-- The least of several numbers. -/
structure Lst (p : Int → Prop) (m : Int) : Prop where
  is : p m
  le : ∀ x, p x → m ≤ x
theorem pyCmp_zero {x y : Pay} : pyCmp x y = 0 ↔ x = y := by
  constructor
  · intro h
    have h1 : payLt x y = false := by rw [← pyCmp_lt, h]; rfl
    refine payLt_anti h1 ?_
    rw [payLt_no] at h1 ⊢
    unfold pyCmp firstNZ firstNZ firstNZ firstNZ cmpR at h
    repeat (split at h)
    all_goals omega
  · rintro rfl
    unfold pyCmp firstNZ firstNZ firstNZ firstNZ cmpR
    simp
theorem cmpL_lt : ∀ {a b : List Pay}, a.length = b.length → (cmpL a b < 0 ↔ ltL a b = true)
  | [], [], _ => by simp [cmpL_0, ltL_1]
  | [], _ :: _, h => by cases h
  | _ :: _, [], h => by cases h
  | x :: s, y :: t, h => by
    rw [cmpL_2, ltL_2]
    by_cases e : x = y
    · rw [if_neg (by rw [pyCmp_zero.2 e]; simp), if_neg (by simp [e])]
      exact cmpL_lt (by simpa using h)
    · rw [if_pos (fun h => e (pyCmp_zero.1 h)), if_pos e, ← pyCmp_lt, decide_eq_true_iff]
theorem befI_lt {a b : List Pay} (h : a.length = b.length) : befI a b < 0 ↔ befR a b = true := by
  unfold befI befR
  rw [firstNZ, firstNZ, firstNZ]
  by_cases e : sumPay a = sumPay b
  · have c0 : cmpR (sumPay a) (sumPay b) = 0 := by unfold cmpR; simp [e]
    have hR : (if sumPay a ≠ sumPay b then decide (sumPay a < sumPay b) else ltL a b) = ltL a b := if_neg (by simp [e])
    rw [if_pos c0, hR, ← cmpL_lt h]
    split <;> omega
  · rw [if_pos e]
    by_cases l : sumPay a < sumPay b
    · have c1 : cmpR (sumPay a) (sumPay b) = -1 := by unfold cmpR; simp [l]
      rw [c1]; simp [l]
    · have c1 : cmpR (sumPay a) (sumPay b) = 1 := by unfold cmpR; rw [if_neg l, if_pos (by omega)]
      rw [c1]; simp [l]
theorem payLt_tri {x y : Pay} (h : x ≠ y) : payLt x y = true ∨ payLt y x = true := by
  cases h1 : payLt x y with
  | true => exact .inl rfl
  | false =>
    cases h2 : payLt y x with
    | true => exact .inr rfl
    | false => exact absurd (payLt_anti h1 h2) h
theorem payLt_nt {x y z : Pay} (h : payLt x z = true) : payLt x y = true ∨ payLt y z = true := by
  rw [payLt_iff] at h
  rw [payLt_iff, payLt_iff]
  omega
theorem payLt_asym {x y : Pay} (h : payLt x y = true) : payLt y x = false := by
  rw [payLt_iff] at h
  rw [payLt_no]; omega
theorem ltL_asym : ∀ {a b : List Pay}, ltL a b = true → ltL b a = false
  | [], [], _ => rfl
  | [], _ :: _, _ => rfl
  | _ :: _, [], _ => rfl
  | x :: s, y :: t, h => by
    rw [ltL_2] at h ⊢
    by_cases e : x = y
    · rw [if_neg (by simp [e])] at h
      rw [if_neg (by simp [e])]
      exact ltL_asym h
    · rw [if_pos e] at h
      rw [if_pos (Ne.symm e)]
      exact payLt_asym h
theorem ltL_nt : ∀ {a b c : List Pay}, a.length = b.length → b.length = c.length → ltL a c = true → ltL a b = true ∨ ltL b c = true
  | [], _, _, _, _, h => by rw [ltL_1] at h; cases h
  | x :: s, [], _, e, _, _ => by cases e
  | x :: s, y :: t, [], _, e, _ => by cases e
  | x :: s, y :: t, z :: u, e1, e2, h => by
    rw [ltL_2] at h
    rw [ltL_2, ltL_2]
    by_cases hxz : x = z
    · rw [if_neg (by simp [hxz])] at h
      by_cases hxy : x = y
      · have hyz : y = z := hxy.symm.trans hxz
        rw [if_neg (by simp [hxy]), if_neg (by simp [hyz])]
        exact ltL_nt (by simpa using e1) (by simpa using e2) h
      · have hyz : y ≠ z := fun e => hxy (hxz.trans e.symm)
        rw [if_pos hxy, if_pos hyz]
        rw [← hxz]
        exact payLt_tri hxy
    · rw [if_pos hxz] at h
      by_cases hxy : x = y
      · have hyz : y ≠ z := fun e => hxz (hxy.trans e)
        rw [if_pos hyz]
        exact .inr (by rw [← hxy]; exact h)
      · rw [if_pos hxy]
        by_cases hyz : y = z
        · exact .inl (by rw [hyz]; exact h)
        · rw [if_pos hyz]; exact payLt_nt h
theorem ltL_eq : ∀ {a b : List Pay}, a.length = b.length → ltL a b = false → ltL b a = false → a = b
  | [], [], _, _, _ => rfl
  | [], _ :: _, e, _, _ => by cases e
  | _ :: _, [], e, _, _ => by cases e
  | x :: s, y :: t, e, h, h' => by
    rw [ltL_2] at h h'
    by_cases hxy : x = y
    · rw [if_neg (by simp [hxy])] at h
      rw [if_neg (by simp [hxy])] at h'
      rw [hxy, ltL_eq (by simpa using e) h h']
    · rw [if_pos hxy] at h
      rw [if_pos (Ne.symm hxy)] at h'
      exact absurd (payLt_anti h h') hxy
theorem befR_asym {a b : List Pay} (h : befR a b = true) : befR b a = false := by
  unfold befR at h ⊢
  by_cases e : sumPay a = sumPay b
  · rw [if_neg (by simp [e])] at h
    rw [if_neg (by simp [e])]
    exact ltL_asym h
  · rw [if_pos e] at h
    rw [if_pos (Ne.symm e)]
    have := of_decide_eq_true h
    exact decide_eq_false (by omega)
theorem befR_nt {a b c : List Pay} (e1 : a.length = b.length) (e2 : b.length = c.length) (h : befR a c = true) : befR a b = true ∨ befR b c = true := by
  unfold befR at h ⊢
  by_cases e : sumPay a = sumPay c
  · rw [if_neg (by simp [e])] at h
    by_cases e3 : sumPay a = sumPay b
    · rw [if_neg (by simp [e3]), if_neg (by simp [← e3, e])]
      exact ltL_nt e1 e2 h
    · rw [if_pos e3, if_pos (fun k => e3 (e.trans k.symm)), decide_eq_true_iff, decide_eq_true_iff]
      omega
  · rw [if_pos e] at h
    have h1 := of_decide_eq_true h
    by_cases e3 : sumPay a = sumPay b
    · exact .inr (by rw [if_pos (by omega)]; exact decide_eq_true (by omega))
    · by_cases e4 : sumPay b = sumPay c
      · exact .inl (by rw [if_pos e3]; exact decide_eq_true (by omega))
      · rw [if_pos e3, if_pos e4, decide_eq_true_iff, decide_eq_true_iff]; omega
theorem befR_eq {a b : List Pay} (e : a.length = b.length) (h : befR a b = false) (h' : befR b a = false) : a = b := by
  unfold befR at h h'
  by_cases e3 : sumPay a = sumPay b
  · rw [if_neg (by simp [e3])] at h
    rw [if_neg (by simp [e3])] at h'
    exact ltL_eq e h h'
  · rw [if_pos e3] at h
    rw [if_pos (Ne.symm e3)] at h'
    have := of_decide_eq_false h
    have := of_decide_eq_false h'
    omega
/-- The best of several lists of as many payments. -/
structure Bst (p : List Pay → Prop) (y : List Pay) : Prop where
  is : p y
  le : ∀ x, p x → befR x y = false
theorem Bst.uniq {k : Nat} {p : List Pay → Prop} (hp : ∀ x, p x → x.length = k) {y y' : List Pay} (h : Bst p y) (h' : Bst p y') : y = y' :=
  befR_eq ((hp _ h.is).trans (hp _ h'.is).symm) (h'.le _ h.is) (h.le _ h'.is)
theorem befR_irr (a : List Pay) : befR a a = false := by
  cases h : befR a a with
  | false => rfl
  | true => have := befR_asym h; rw [h] at this; cases this
theorem bst_fold {k : Nat} : ∀ (xs : List (List Pay)) (b : List Pay), (∀ x ∈ xs, x.length = k) → b.length = k → Bst (fun x => x = b ∨ x ∈ xs) (xs.foldl (fun b x => if befR x b = true then x else b) b)
  | [], b, _, _ => ⟨.inl rfl, fun x h => by rcases h with rfl | h; exact befR_irr _; cases h⟩
  | x :: t, b, hx, hb => by
    have hxk := hx x (by simp)
    have ht : ∀ x ∈ t, x.length = k := fun y hy => hx y (by simp [hy])
    rw [List.foldl_cons]
    have ih := bst_fold t (if befR x b = true then x else b) ht (by split <;> assumption)
    have hm : ∀ y, (y = (if befR x b = true then x else b) ∨ y ∈ t) → y.length = k := fun y hy => by
      rcases hy with rfl | hy
      · split <;> assumption
      · exact ht y hy
    have hyk := hm _ ih.is
    generalize t.foldl (fun b x => if befR x b = true then x else b) (if befR x b = true then x else b) = y at ih hyk ⊢
    have hle := ih.le _ (.inl rfl)
    refine ⟨?_, fun z hz => ?_⟩
    · rcases ih.is with h | h
      · split at h
        · exact .inr (by simp [h])
        · exact .inl h
      · exact .inr (by simp [h])
    · have key : befR b y = false ∧ befR x y = false := by
        split at hle
        · rename_i hg
          refine ⟨?_, hle⟩
          cases hq : befR b y with
          | false => rfl
          | true =>
            rcases befR_nt (b := x) (hb.trans hxk.symm) (hxk.trans hyk.symm) hq with h | h
            · rw [befR_asym hg] at h; cases h
            · rw [hle] at h; cases h
        · rename_i hg
          refine ⟨hle, ?_⟩
          cases hq : befR x y with
          | false => rfl
          | true =>
            rcases befR_nt (b := b) (hxk.trans hb.symm) (hb.trans hyk.symm) hq with h | h
            · exact absurd h hg
            · rw [hle] at h; cases h
      rcases hz with rfl | hz
      · exact key.1
      · rcases List.mem_cons.1 hz with rfl | hz
        · exact key.2
        · exact ih.le _ (.inr hz)
theorem bstS_fold {k : Nat} : ∀ (xs : List (List Pay)) (b : List Pay), (∀ x ∈ xs, x.length = k) → b.length = k → xs.foldl bstS (some b) = some (xs.foldl (fun b x => if befR x b = true then x else b) b)
  | [], _, _, _ => rfl
  | x :: t, b, hx, hb => by
    have hxk := hx x (by simp)
    rw [List.foldl_cons, List.foldl_cons]
    have e : bstS (some b) x = some (if befR x b = true then x else b) := by
      unfold bstS
      dsimp only
      by_cases h : befR x b = true
      · rw [if_pos h, if_pos ((befI_lt (hxk.trans hb.symm)).2 h)]
      · rw [if_neg h, if_neg (fun k => h ((befI_lt (hxk.trans hb.symm)).1 k))]
    rw [e]
    exact bstS_fold t _ (fun y hy => hx y (by simp [hy])) (by split <;> assumption)
theorem stl_eq {f : Flo} (hS : Sml f) : stlN f = stlN8 f := by
  unfold stlN stlN8
  cases h : floOk f with
  | false => rw [(askR_no h).1, (askR_no h).2]; rfl
  | true =>
    rw [← askR_err h]
    split
    · rename_i he
      obtain ⟨k, _, hb⟩ := both hS h he
      generalize lsF f = A at hb ⊢
      generalize (askR f).1 = B at hb ⊢
      have lA : ∀ x ∈ A, x.length = k := fun x hx => (hb.toA x hx).len
      have lB : ∀ x ∈ B, x.length = k := fun x hx => (hb.to x hx).len
      obtain ⟨x, t, rfl⟩ := List.exists_cons_of_ne_nil hb.neA
      have b1 := bst_fold t x (fun y hy => lA y (by simp [hy])) (lA x (by simp))
      have b2 := bst_fold B (B.headD []) lB (lB _ (head_mem hb.neB))
      rw [List.foldl_cons, show bstS none x = some x from rfl, bstS_fold t x (fun y hy => lA y (by simp [hy])) (lA x (by simp)), Option.getD_some]
      have c1 : Bst (fun z => z ∈ B) (t.foldl (fun b x => if befR x b = true then x else b) x) := ⟨hb.pe.mem_iff.1 (by rcases b1.is with h | h <;> simp [h]), fun z hz => b1.le z (List.mem_cons.1 (hb.pe.mem_iff.2 hz))⟩
      have c2 : Bst (fun z => z ∈ B) (B.foldl (fun b x => if befR x b = true then x else b) (B.headD [])) := ⟨by rcases b2.is with h | h; (rw [h]; exact head_mem hb.neB); exact h, fun z hz => b2.le z (.inr hz)⟩
      unfold bst8
      rw [c1.uniq lB c2]
    · rfl
end Go.Proofs.YtihonljdanjfmaaDoor.Sw
namespace Go.Proofs.YtihonljdanjfmaaDoor.Sw
open Go.RowKit Go Go.Shelf Go.Proofs
theorem asked_told {f : Flo} (hS : Sml f) : ∃ k, k ≤ 1000 ∧ ∀ l ∈ (askR f).1, Told f k l := by
  cases h : floOk f with
  | false => exact ⟨0, by omega, fun l hl => by rw [(askR_no h).2] at hl; cases hl⟩
  | true =>
    by_cases he : errL f = 0
    · obtain ⟨k, hk, hb⟩ := both hS h he
      exact ⟨k, by omega, hb.to⟩
    · refine ⟨0, by omega, fun l hl => ?_⟩
      rw [askR_err h] at he
      unfold askR at he hl
      rw [if_pos h] at he hl
      split at hl
      · cases hl
      · rename_i h2; rw [if_neg h2] at he; exact absurd rfl he
theorem lsF_told {f : Flo} (hS : Sml f) (he : errL f = 0) : ∃ k, k ≤ 5 ∧ ∀ l ∈ lsF f, Told f k l := by
  obtain ⟨k, hk, hb⟩ := both hS (errL_ok he) he
  exact ⟨k, by omega, hb.toA⟩
theorem stlN_len {f : Flo} (hS : Sml f) : (stlN f).1.length ≤ 1000 := by
  unfold stlN
  split
  · rename_i he
    obtain ⟨k, hk, hb⟩ := lsF_told hS he
    cases hq : (lsF f).foldl bstS none with
    | none => simp
    | some y =>
      rcases bstS_mem hq with h | h
      · rw [Option.getD_some, (hb y h).len]; omega
      · cases h
  · simp
end Go.Proofs.YtihonljdanjfmaaDoor.Sw
/- The reference's 'Pay'. -/
namespace Go.Proofs.YtihonljdanjfmaaDoor.Sw
open Go.RowKit Go Go.Shelf Go.Proofs
theorem nil_sl {α : Type} {G : Nat → Option Obj} {v : Value} (n : Nat) (f : α → List AV) (h : (AV.val (.slice none 0 0)).P G v) : (AV.sl n f ([] : List α)).P G v :=
  ⟨none, 0, h, Nat.le_refl _, fun i hi => (by cases hi)⟩
end Go.Proofs.YtihonljdanjfmaaDoor.Sw
/- The reference's 'Mend'. -/
namespace Go.Proofs.YtihonljdanjfmaaDoor.Sw
open Go.RowKit Go Go.Shelf Go.Proofs
end Go.Proofs.YtihonljdanjfmaaDoor.Sw
/- The reference's 'Split'. -/
namespace Go.Proofs.YtihonljdanjfmaaDoor.Sw
open Go.RowKit Go Go.Shelf Go.Proofs
end Go.Proofs.YtihonljdanjfmaaDoor.Sw
namespace Go.Proofs.YtihonljdanjfmaaDoor.Sw
open Go.RowKit Go Go.Shelf Go.Proofs
open Go.Proofs.YtihonljdanjfmaaDoor.Gr (headsR hf Lab lab_all)
instance {α : Type} {n : Nat} {f : α → List AV} {g : List α} : OneL (slC n f g) := inferInstanceAs (OneL [_])
instance {α : Type} {n : Nat} {f : α → List AV} : OneF (slC n f) := ⟨fun _ => inferInstance⟩
instance {α : Type} {n : Nat} {f : α → List AV} : LenF (slC n f) 1 := ⟨fun _ => rfl⟩
/-- The floors of a list of payments, by their places. -/
def prsG (f : Flo) (l : List Pay) : List (Nat × Nat) := l.map fun x => (f.ids.idxOf x.a, f.ids.idxOf x.b)
def grG (f : Flo) (l : List Pay) : List (List Int) := allG (headsR f.ids.length (prsG f l)) f.ids f.ids.length
theorem prsG_lt {f : Flo} {l : List Pay} (h : ∀ x ∈ l, x.a ∈ f.ids ∧ x.b ∈ f.ids) : ∀ p ∈ prsG f l, p.1 < f.ids.length ∧ p.2 < f.ids.length := fun p hp => by
  obtain ⟨x, hx, rfl⟩ := List.mem_map.1 hp
  exact ⟨List.idxOf_lt_length_of_mem (h x hx).1, List.idxOf_lt_length_of_mem (h x hx).2⟩
theorem prsG_drop {f : Flo} {l : List Pay} {k : Nat} (h : k < l.length) : (prsG f l).drop k = (f.ids.idxOf l[k].a, f.ids.idxOf l[k].b) :: (prsG f l).drop (k + 1) := by
  have hl : k < (prsG f l).length := by simpa [prsG] using h
  rw [List.drop_eq_getElem_cons hl]
  simp [prsG]
theorem dnG_zero (h : List Nat) (n : Nat) : dnG h n 0 0 = List.replicate n false := by
  refine List.ext_getElem (by simp [dnG]) fun j h1 h2 => ?_
  simp [dnG]
theorem hitB_no {b : List Bool} {i j : Nat} (hi : i < b.length) (hj : j < b.length) (h1 : b[i] = false) (h2 : b[j] = false) : hitB b (i, j) = b := by
  unfold hitB
  rw [if_neg]
  simp [List.getD_eq_getElem?_getD, hi, hj, h1, h2]
theorem hitB_a {b : List Bool} {i j : Nat} (hi : i < b.length) (h1 : b[i] = true) : hitB b (i, j) = (b.set i true).set j true := by
  unfold hitB
  rw [if_pos]
  simp [List.getD_eq_getElem?_getD, hi, h1]
theorem hitB_b {b : List Bool} {i j : Nat} (hj : j < b.length) (h1 : b[j] = true) : hitB b (i, j) = (b.set i true).set j true := by
  unfold hitB
  rw [if_pos]
  simp [List.getD_eq_getElem?_getD, hj, h1]
set_option maxRecDepth 20000 in
set_option maxHeartbeats 8000000 in
theorem Grouped_con (f : Flo) (l : List Pay) (hn : f.ids.length ≤ 6) (hl : l.length ≤ 1000) (hm : ∀ x ∈ l, x.a ∈ f.ids ∧ x.b ∈ f.ids) : Con Tryd.prog 90 [.agg (flC f), .sl 3 payC l] [] (Is (.sl 1 (slC 1 iC) (grG f l)) []) := by
  have hlt0 := prsG_lt hm
  have H : Hd f.ids.length (headsR f.ids.length (prsG f l)) := hd_heads hlt0
  have HL : Lab f.ids.length (prsG f l) (headsR f.ids.length (prsG f l)) := lab_all hlt0
  unfold grG
  generalize headsR f.ids.length (prsG f l) = h at H HL ⊢
  refine con_of Tryd.func90 rfl (enters_of Tryd.func90 (by kernel_rfl) rfl) rfl ?_; intro n w0 F0 G0
  (refine goSt ?_; (repeat (refine goAl ?_; intro p hp; refine goSt ?_)))
  (apply wl_make bC; exact inferInstance; exact inferInstance; exact inferInstance; exact inferInstance; exact rfl; exact rfl; exact rfl; (first | omega | (simp; omega)); exact rfl)
  intro vd
  rw [← dnG_zero h]
  (refine goSt ?_; (repeat (refine goAl ?_; intro p hp; refine goSt ?_)))
  refine W_loopJ (fun (b : Nat × Value) => ⟨[(1, .sl 3 payC l), (2, .val p), (5, .val b.2), (6, .val vd), (21, .sl 1 iC f.ids), (22, .val (.int .i64 f.ids.length)), (23, .val (.int .i64 b.1))], [.row b.2 22 1 (slC 1 iC) ((rtsG h b.1).map (grpG h f.ids f.ids.length)), .row vd 4 1 bC (dnG h f.ids.length b.1 0), .box p (flC f) 27]⟩) (fun b => b.1 ≤ f.ids.length) (fun b => f.ids.length - b.1) (0, .slice none 0 0) (fun _ _ st => st_sub2 (st_nil 22 1 (slC 1 iC) st) goSubr goSubp) (Nat.zero_le _) ?_
  rintro ⟨i, w⟩ hi
  dsimp only at hi ⊢
  have hdl := dnG_len h f.ids.length i 0
  (refine goSt ?_; (repeat (refine goAl ?_; intro p hp; refine goSt ?_)))
  refine w_cond rfl (fun hlt => ?_) (fun hlt => ?_)
  · have hlt' : i < f.ids.length := by simpa using hlt
    have hsk := dnG_skip H hlt'
    have hup := dnG_upto H hlt'
    have hrs := rtsG_succ h i
    have hdi : ∀ hh : i < (dnG h f.ids.length i 0).length, (dnG h f.ids.length i 0)[i] = decide (hf h i < i) := fun hh => by simp [dnG]
    have hle := H.le i hlt'
    generalize dnG h f.ids.length i 0 = dn at hdl hsk hup hdi ⊢
    have hdl' : i < dn.length := by omega
    (refine goSt ?_; (repeat (refine goAl ?_; intro p hp; refine goSt ?_)))
    rw [hdi hdl']
    refine w_cond rfl (fun hd => ?_) (fun hd => ?_)
    · have hd' : hf h i < i := by simpa using hd
      have hsk' := hsk hd'
      rw [if_neg (by omega), List.append_nil] at hrs
      rw [hsk', ← hrs]
      (refine goSt ?_; (repeat (refine goAl ?_; intro p hp; refine goSt ?_)))
      (refine ⟨(i + 1, w), fun _ _ st => st_sub2 st ?_ ?_, ?_, ?_⟩; exact goSubr; exact goSubp)
      · dsimp only; omega
      · dsimp only; omega
    · have hd' : hf h i = i := by simp at hd; omega
      rw [if_pos hd'] at hrs
      rw [hup]
      clear hsk hup hd hdi hdl hdl'
      clear dn
      (refine goSt ?_; (repeat (refine goAl ?_; intro p hp; refine goSt ?_)))
      (apply wl_make bC; exact inferInstance; exact inferInstance; exact inferInstance; exact inferInstance; exact rfl; exact rfl; exact rfl; (first | omega | (simp; omega)); exact rfl)
      intro vi
      have hrl : i < (List.replicate f.ids.length false).length := by simpa using hlt'
      (refine goSt ?_; (repeat (refine goAl ?_; intro p hp; refine goSt ?_)))
      have hib := itB_eq hlt0 HL hlt'
      have hb0 : ((List.replicate f.ids.length false).set i true).length = f.ids.length := by simp
      rw [hd'] at hib
      generalize (List.replicate f.ids.length false).set i true = b0 at hib hb0 ⊢
      refine W_loopJ (fun (b : Nat × List Bool) => ⟨[(1, .sl 3 payC l), (2, .val p), (5, .val w), (6, .val vd), (7, .val (.int .i64 i)), (8, .val (.int .i64 f.ids[i])), (9, .val vi), (21, .sl 1 iC f.ids), (22, .val (.int .i64 f.ids.length)), (23, .val (.int .i64 i)), (41, .val (.int .i64 f.ids.length)), (42, .val (.int .i64 b.1))], [.row vi 4 1 bC b.2, .row w 22 1 (slC 1 iC) ((rtsG h i).map (grpG h f.ids f.ids.length)), .row vd 4 1 bC (dnG h f.ids.length i i), .box p (flC f) 27]⟩)
        (fun b => b.1 ≤ f.ids.length ∧ b.2.length = f.ids.length ∧ itB (prsG f l) (f.ids.length - b.1) b.2 = itB (prsG f l) f.ids.length b0) (fun b => f.ids.length - b.1) (0, b0) (fun _ _ st => st_sub2 st goSubr goSubp) ⟨Nat.zero_le _, hb0, rfl⟩ ?_
      rintro ⟨r, b⟩ ⟨hr, hbl, hit⟩
      dsimp only at hr hbl hit ⊢
      (refine goSt ?_; (repeat (refine goAl ?_; intro p hp; refine goSt ?_)))
      refine w_cond rfl (fun hlt2 => ?_) (fun hlt2 => ?_)
      · have hr' : r < f.ids.length := by simpa using hlt2
        rw [show f.ids.length - r = (f.ids.length - (r + 1)) + 1 by omega, itB] at hit
        (refine goSt ?_; (repeat (refine goAl ?_; intro p hp; refine goSt ?_)))
        refine W_loopJ (fun (x : Nat × List Bool) => ⟨[(1, .sl 3 payC l), (2, .val p), (5, .val w), (6, .val vd), (7, .val (.int .i64 i)), (8, .val (.int .i64 f.ids[i])), (9, .val vi), (21, .sl 1 iC f.ids), (22, .val (.int .i64 f.ids.length)), (23, .val (.int .i64 i)), (41, .val (.int .i64 f.ids.length)), (42, .val (.int .i64 r)), (44, .sl 3 payC l), (45, .val (.int .i64 l.length)), (46, .val (.int .i64 x.1))], [.row vi 4 1 bC x.2, .row w 22 1 (slC 1 iC) ((rtsG h i).map (grpG h f.ids f.ids.length)), .row vd 4 1 bC (dnG h f.ids.length i i), .box p (flC f) 27]⟩)
          (fun x => x.1 ≤ l.length ∧ x.2.length = f.ids.length ∧ ((prsG f l).drop x.1).foldl hitB x.2 = (prsG f l).foldl hitB b) (fun x => l.length - x.1) (0, b) (fun _ _ st => st_sub2 st goSubr goSubp) ⟨Nat.zero_le _, hbl, rfl⟩ ?_
        rintro ⟨q, c⟩ ⟨hq, hcl, hfo⟩
        dsimp only at hq hcl hfo ⊢
        (refine goSt ?_; (repeat (refine goAl ?_; intro p hp; refine goSt ?_)))
        refine w_cond rfl (fun hlt3 => ?_) (fun hlt3 => ?_)
        · have hq' : q < l.length := by simpa using hlt3
          have hx := hm _ (List.getElem_mem hq')
          rw [prsG_drop hq', List.foldl_cons] at hfo
          have hia : f.ids.idxOf l[q].a < c.length := by rw [hcl]; exact List.idxOf_lt_length_of_mem hx.1
          have hib2 : f.ids.idxOf l[q].b < c.length := by rw [hcl]; exact List.idxOf_lt_length_of_mem hx.2
          have hib3 : f.ids.idxOf l[q].b < (c.set (f.ids.idxOf l[q].a) true).length := by simpa using hib2
          (refine goSt ?_; (repeat (refine goAl ?_; intro p hp; refine goSt ?_)))
          refine W_run 7 [50, 51, 52, 53, 54, 55, 56] [0, 1, 2, 3, 4, 5, 6] Cut.nil rfl goFlt mixedS (by kernel_rfl) rfl ?_
          refine rpv [] [] ?_
          refine rpv [] [] ?_
          refine rpv [1] [] ?_
          refine Run.pv [0, 2] [] rfl (fun vs => by apply ltr_pk; exact goPk; (refine ltr ?_; refine lt_call ?_ ((floorAt_con f _ (by omega) hx.1)); exact rfl)) goApp ?_
          refine rpv [] [] ?_
          refine rpv [] [] ?_
          refine rpv [5] [] ?_
          refine ⟨⟨by kernel_rfl, by kernel_rfl⟩, fun vs => ?_⟩
          apply WL_auto [3, 4, 6]
          · exact goPk
          · exact goNrm
          · kernel_rfl
          · kernel_rfl
          (refine goSt ?_; (repeat (refine goAl ?_; intro p hp; refine goSt ?_)))
          (first | (apply wl_call (floorAt_con f _ (by omega) hx.2); exact rfl; exact rfl) | (apply wl_callR (floorAt_con f _ (by omega) hx.2); exact rfl; exact goAtm; exact rfl))
          (refine goSt ?_; (repeat (refine goAl ?_; intro p hp; refine goSt ?_)))
          cases ha : c[f.ids.idxOf l[q].a] with
          | true =>
            rw [hitB_a hia ha] at hfo
            (refine goSt ?_; (repeat (refine goAl ?_; intro p hp; refine goSt ?_)))
            (refine ⟨(q + 1, (c.set (f.ids.idxOf l[q].a) true).set (f.ids.idxOf l[q].b) true), fun _ _ st => st_sub2 st ?_ ?_, ?_, ?_⟩; exact goSubr; exact goSubp)
            · exact ⟨hq', by simpa using hcl, hfo⟩
            · dsimp only; omega
          | false =>
            (refine goSt ?_; (repeat (refine goAl ?_; intro p hp; refine goSt ?_)))
            cases hb : c[f.ids.idxOf l[q].b] with
            | true =>
              rw [hitB_b hib2 hb] at hfo
              (refine goSt ?_; (repeat (refine goAl ?_; intro p hp; refine goSt ?_)))
              (refine ⟨(q + 1, (c.set (f.ids.idxOf l[q].a) true).set (f.ids.idxOf l[q].b) true), fun _ _ st => st_sub2 st ?_ ?_, ?_, ?_⟩; exact goSubr; exact goSubp)
              · exact ⟨hq', by simpa using hcl, hfo⟩
              · dsimp only; omega
            | false =>
              rw [hitB_no hia hib2 ha hb] at hfo
              (refine goSt ?_; (repeat (refine goAl ?_; intro p hp; refine goSt ?_)))
              (refine ⟨(q + 1, c), fun _ _ st => st_sub2 st ?_ ?_, ?_, ?_⟩; exact goSubr; exact goSubp)
              · exact ⟨hq', hcl, hfo⟩
              · dsimp only; omega
        · have hqq : q = l.length := by simp at hlt3; omega
          subst hqq
          rw [show (prsG f l).drop l.length = [] from List.drop_eq_nil_of_le (by simp [prsG]), List.foldl_nil] at hfo
          rw [← hfo] at hit
          (refine goSt ?_; (repeat (refine goAl ?_; intro p hp; refine goSt ?_)))
          (refine ⟨(r + 1, c), fun _ _ st => st_sub2 st ?_ ?_, ?_, ?_⟩; exact goSubr; exact goSubp)
          · exact ⟨hr', hcl, hit⟩
          · dsimp only; omega
      · have hrr : r = f.ids.length := by simp at hlt2; omega
        subst hrr
        rw [Nat.sub_self, itB, hib] at hit
        have hin : ∀ k (hk : k < b.length), b[k] = decide (hf h k = i) := fun k hk => by simp [hit]
        clear hit hib
        have hds := dnG_set (n := f.ids.length) i hd'
        have hdl : i < (dnG h f.ids.length i i).length := by rw [dnG_len]; exact hlt'
        generalize dnG h f.ids.length i i = dn at hds hdl ⊢
        (refine goSt ?_; (repeat (refine goAl ?_; intro p hp; refine goSt ?_)))
        (apply wl_lit iC; exact inferInstance; exact inferInstance; exact inferInstance; (repeat (first | exact Elems.nil | (apply Elems.cons; exact rfl; exact inferInstance; exact rfl))); exact rfl; (first | exact (of_decide_eq_true rfl) | decide | (simp; done) | (simp; omega)); exact rfl)
        intro vg
        (refine goSt ?_; (repeat (refine goAl ?_; intro p hp; refine goSt ?_)))
        rw [hds]
        refine W_loopJ (fun (b2 : Nat × Value) => ⟨[(1, .sl 3 payC l), (2, .val p), (5, .val w), (6, .val vd), (9, .val vi), (14, .val b2.2), (15, .val (.int .i64 b2.1)), (21, .sl 1 iC f.ids), (22, .val (.int .i64 f.ids.length)), (23, .val (.int .i64 i))], [.row b2.2 3 1 iC (grpG h f.ids b2.1 i), .row vd 4 1 bC (dnG h f.ids.length i b2.1), .row vi 4 1 bC b, .row w 22 1 (slC 1 iC) ((rtsG h i).map (grpG h f.ids f.ids.length)), .box p (flC f) 27]⟩)
          (fun b2 => b2.1 ≤ f.ids.length) (fun b2 => f.ids.length - b2.1) (i + 1, vg) (fun _ _ st => st_sub2 st goSubr (by rw [grpG_succ, grpG_new H f.ids (by omega) (Nat.le_refl _), if_pos hd', List.nil_append, List.getD_eq_getElem?_getD, List.getElem?_eq_getElem hlt']; exact goSubp)) hlt' ?_
        rintro ⟨k, vg⟩ hk
        dsimp only at hk ⊢
        (refine goSt ?_; (repeat (refine goAl ?_; intro p hp; refine goSt ?_)))
        refine w_cond rfl (fun hlt4 => ?_) (fun hlt4 => ?_)
        · have hk' : k < f.ids.length := by simpa using hlt4
          have hbk : k < b.length := by omega
          have hdk : k < (dnG h f.ids.length i k).length := by rw [dnG_len]; exact hk'
          have hgs := grpG_succ h f.ids k i
          have hgl := grpG_len h f.ids k i
          have hds2 := dnG_set (n := f.ids.length) (h := h) i (k := k)
          have hdp := dnG_pass (n := f.ids.length) (h := h) i (k := k)
          rw [List.getD_eq_getElem?_getD, List.getElem?_eq_getElem hk', Option.getD_some] at hgs
          generalize dnG h f.ids.length i k = dn2 at hdk hds2 hdp ⊢
          (refine goSt ?_; (repeat (refine goAl ?_; intro p hp; refine goSt ?_)))
          rw [hin k hbk]
          refine w_cond rfl (fun he => ?_) (fun he => ?_)
          · have he' : hf h k = i := by simpa using he
            rw [if_pos he'] at hgs
            (refine goSt ?_; (repeat (refine goAl ?_; intro p hp; refine goSt ?_)))
            (apply wl_litF iC; exact inferInstance; exact inferInstance; exact inferInstance; (repeat (first | exact Elems.nil | (apply Elems.cons; exact rfl; exact inferInstance; exact rfl))); exact rfl; (first | exact (of_decide_eq_true rfl) | decide | (simp; done) | (simp; omega)); exact rfl)
            (first | (apply wl_append; exact rfl; exact rfl; exact goRm; exact inferInstance; exact inferInstance; (first | omega | (simp; omega)); exact rfl) | (apply wl_appendN; exact rfl; exact rfl; exact inferInstance; exact inferInstance; (first | omega | (simp; omega)); exact rfl))
            intro vg2
            rw [← hgs]
            (refine goSt ?_; (repeat (refine goAl ?_; intro p hp; refine goSt ?_)))
            rw [hds2 he']
            (refine ⟨(k + 1, vg2), fun _ _ st => st_sub2 st ?_ ?_, ?_, ?_⟩; exact goSubr; exact goSubp)
            · dsimp only; omega
            · dsimp only; omega
          · have he' : hf h k ≠ i := by simpa using he
            rw [if_neg he', List.append_nil] at hgs
            rw [← hgs, hdp he']
            (refine goSt ?_; (repeat (refine goAl ?_; intro p hp; refine goSt ?_)))
            (refine ⟨(k + 1, vg), fun _ _ st => st_sub2 st ?_ ?_, ?_, ?_⟩; exact goSubr; exact goSubp)
            · dsimp only; omega
            · dsimp only; omega
        · have hkk : k = f.ids.length := by simp at hlt4; omega
          subst hkk
          have hst : (rtsG h (i + 1)).map (grpG h f.ids f.ids.length) = (rtsG h i).map (grpG h f.ids f.ids.length) ++ [grpG h f.ids f.ids.length i] := by rw [hrs, List.map_append, List.map_singleton]
          have hrl2 := rtsG_len h i
          rw [dnG_all]
          (refine goSt ?_; (repeat (refine goAl ?_; intro p hp; refine goSt ?_)))
          (apply WL_frz 106; exact rfl; exact goRm)
          (apply wl_litF (slC 1 iC); exact inferInstance; exact inferInstance; exact inferInstance; (repeat (first | exact Elems.nil | (apply Elems.cons; exact rfl; exact inferInstance; exact rfl))); exact rfl; (first | exact (of_decide_eq_true rfl) | decide | (simp; done) | (simp; omega)); exact rfl)
          (first | (apply wl_append; exact rfl; exact rfl; exact goRm; exact inferInstance; exact inferInstance; (first | omega | (simp; omega)); exact rfl) | (apply wl_appendN; exact rfl; exact rfl; exact inferInstance; exact inferInstance; (first | omega | (simp; omega)); exact rfl))
          intro w2
          rw [← hst]
          (refine goSt ?_; (repeat (refine goAl ?_; intro p hp; refine goSt ?_)))
          (refine ⟨(i + 1, w2), fun _ _ st => st_sub2 st ?_ ?_, ?_, ?_⟩; exact goSubr; exact goSubp)
          · dsimp only; omega
          · dsimp only; omega
  · have hii : i = f.ids.length := by simp at hlt; omega
    subst hii
    (refine goSt ?_; (repeat (refine goAl ?_; intro p hp; refine goSt ?_)))
    (apply Res_frz 4; exact rfl; exact goRm)
    (apply res1; exact rfl; exact rfl; exact ⟨rfl, rfl⟩)
end Go.Proofs.YtihonljdanjfmaaDoor.Sw
namespace Go.Proofs.YtihonljdanjfmaaDoor.Sw
open Go.RowKit Go Go.Shelf Go.Proofs
open Go.Proofs.YtihonljdanjfmaaDoor.Gr (treeR pick Zr lf)
/-- Some floors by themselves: the program's, the reference's. -/
def ownF (l : List Int) (f : Flo) : Flo := ⟨l, f.qs, [], []⟩
def ownQ (l : List Int) (f : Flo) : Flo := ⟨l, f.qs.filter (fun q => decide (q.a ∈ l) && decide (q.b ∈ l)), [], []⟩
theorem any_filter {α : Type} {p q : α → Bool} : ∀ {l : List α}, (∀ x ∈ l, p x = true → q x = true) → (l.filter q).any p = l.any p
  | [], _ => rfl
  | x :: t, h => by
    have ih := any_filter (p := p) (q := q) (l := t) fun y hy => h y (by simp [hy])
    by_cases hq : q x = true
    · rw [List.filter_cons_of_pos hq, List.any_cons, List.any_cons, ih]
    · have hp : p x = false := by
        cases hp : p x with
        | false => rfl
        | true => exact absurd (h x (by simp) hp) hq
      rw [List.filter_cons_of_neg hq, List.any_cons, hp, Bool.false_or, ih]
theorem spk_own (l : List Int) (f : Flo) {a b : Nat} (ha : a < l.length) (hb : b < l.length) : spk (ownQ l f) a b = spk (ownF l f) a b := by
  have h1 : l.getD a 0 ∈ l := by rw [List.getD_eq_getElem?_getD, List.getElem?_eq_getElem ha]; exact List.getElem_mem ha
  have h2 : l.getD b 0 ∈ l := by rw [List.getD_eq_getElem?_getD, List.getElem?_eq_getElem hb]; exact List.getElem_mem hb
  unfold spk speakR ownQ ownF
  dsimp only
  rw [any_filter fun q _ hq => ?_]
  unfold hits at hq
  simp only [Bool.and_eq_true, decide_eq_true_eq] at hq
  have m1 : min (l.getD a 0) (l.getD b 0) ∈ l := by
    rcases Int.le_total (l.getD a 0) (l.getD b 0) with h | h
    · rw [Int.min_eq_left h]; exact h1
    · rw [Int.min_eq_right h]; exact h2
  have m2 : max (l.getD a 0) (l.getD b 0) ∈ l := by
    rcases Int.le_total (l.getD a 0) (l.getD b 0) with h | h
    · rw [Int.max_eq_right h]; exact h2
    · rw [Int.max_eq_left h]; exact h1
  rw [hq.1, hq.2]
  simp only [m1, m2, decide_true, Bool.and_self]
def ltO (prev : Option Int) (x : Int) : Bool := match prev with | none => true | some y => decide (y < x)
/-- What the reference asks of some floors. -/
def aOk (ids : List Int) : Option Int → List Int → Bool
  | _, [] => true
  | prev, x :: t => (decide (x ∈ ids) && ltO prev x) && aOk ids (some x) t
theorem aOk_eq {ids : List Int} (h : rises 0 ids = true) : ∀ {l : List Int} {prev : Option Int}, aOk ids prev l = (rises (prev.getD 0) l && !l.any fun n => !decide (n ∈ ids))
  | [], prev => rfl
  | x :: t, prev => by
    have ih := aOk_eq h (l := t) (prev := some x)
    rw [aOk, ih, rises, List.any_cons]
    by_cases hx : x ∈ ids
    · have hb := rises_all h x hx
      have e : ltO prev x = (decide (prev.getD 0 + 1 ≤ x) && decide (x ≤ 9999)) := by
        unfold ltO
        cases prev with
        | none => simp; omega
        | some y =>
          have : decide (x ≤ 9999) = true := decide_eq_true hb.2
          rw [this, Bool.and_true]
          exact decide_eq_decide.2 ⟨fun h => by simp only [Option.getD_some]; omega, fun h => by simp only [Option.getD_some] at h; omega⟩
      rw [e]
      simp [hx, Bool.and_assoc]
    · simp [hx]
/-- What they are owed. -/
def netS (f : Flo) (l : List Int) : List Int := l.map fun id => (owed8 f).getD (f.ids.idxOf id) 0
def aloR (f : Flo) (l : List Int) : Bool × Int := if floOk f = true then (if (rises 0 l && !l.any fun n => !decide (n ∈ f.ids)) = true then (canB (ownF l f) (netS f l), 0) else (false, 6)) else (false, 80)
theorem alo_iff {f : Flo} {l : List Int} (hn : l.length ≤ 6) : (∃ s, s < 2 ^ (prR (spk (ownQ l f)) l.length l.length).length ∧ (pick (prR (spk (ownQ l f)) l.length l.length) s).length < 6 ∧ ∃ out, treeR l (pick (prR (spk (ownQ l f)) l.length l.length) s) (netS f l) = some out) ↔ canB (ownF l f) (netS f l) = true := by
  have hs : ∀ p, p ∈ prP (spk (ownF l f)) l.length ↔ p ∈ prR (spk (ownQ l f)) l.length l.length := fun p => by
    rw [prP_mem, prR_mem (Nat.le_refl _)]
    constructor
    · rintro ⟨h1, h2, h3⟩; exact ⟨by omega, h1, h2, by rw [spk_own l f (by omega) h2]; exact h3⟩
    · rintro ⟨_, h1, h2, h3⟩; exact ⟨h1, h2, by rw [← spk_own l f (by omega) h2]; exact h3⟩
  unfold canB
  rw [Gr.can_iff (prR_ok _ _) hn (by simp [netS]), evB_iff (fun p hp => by have := prP_mem.1 hp; omega)]
  exact (zr_same hs).symm
end Go.Proofs.YtihonljdanjfmaaDoor.Sw
namespace Go.Proofs.YtihonljdanjfmaaDoor.Sw
open Go.RowKit Go Go.Shelf Go.Proofs
open Go.Proofs.YtihonljdanjfmaaDoor.Gr (treeR pick Zr lf)
set_option maxRecDepth 20000 in
theorem floorG_con (ids : List Int) (v : Value) [One (.val v)] (id : Int) (hl : ids.length ≤ 1000000) : Con Tryd.prog 64 [.agg [.sl 1 iC ids, .val v, .val (.slice none 0 0), .val (.slice none 0 0)], .val (.int .i64 id)] [] (Is (.val (.int .i64 (ixOf ids id))) []) := by
  refine con_of Tryd.func64 rfl (enters_of Tryd.func64 (by kernel_rfl) rfl) rfl ?_; intro n w0 F0 G0
  (refine goSt ?_; (repeat (refine goAl ?_; intro p hp; refine goSt ?_)))
  refine W_loopJ (fun (k : Nat) => ⟨[(1, .val (.int .i64 id)), (2, .val p), (5, .val (.int .i64 k))], [.box p [.sl 1 iC ids, .val v, .val (.slice none 0 0), .val (.slice none 0 0)] 27]⟩) (fun k => k ≤ ids.length ∧ id ∉ ids.take k) (fun k => ids.length - k) 0 (fun _ _ st => st_sub2 st goSubr goSubp) ⟨Nat.zero_le _, by simp⟩ ?_
  rintro k ⟨hk, hno⟩
  (refine goSt ?_; (repeat (refine goAl ?_; intro p hp; refine goSt ?_)))
  refine w_cond rfl (fun hlt => ?_) (fun hlt => ?_)
  · have hlt' : k < ids.length := by simpa using hlt
    (refine goSt ?_; (repeat (refine goAl ?_; intro p hp; refine goSt ?_)))
    refine w_cond rfl (fun he => ?_) (fun he => ?_)
    · (refine goSt ?_; (repeat (refine goAl ?_; intro p hp; refine goSt ?_)))
      (apply res1; exact rfl; exact rfl; exact ⟨(congrArg (fun b => AV.val (Value.int .i64 b)) (ixOf_at hlt' hno (by simpa using he)).symm), rfl⟩)
    · (refine goSt ?_; (repeat (refine goAl ?_; intro p hp; refine goSt ?_)))
      (refine ⟨k + 1, fun _ _ st => st_sub2 st ?_ ?_, ?_, ?_⟩; exact goSubr; exact goSubp)
      · refine ⟨by omega, ?_⟩
        rw [List.take_succ_eq_append_getElem hlt', List.mem_append, not_or]
        exact ⟨hno, by simp at he; simpa using Ne.symm he⟩
      · omega
  · (refine goSt ?_; (repeat (refine goAl ?_; intro p hp; refine goSt ?_)))
    have hkk : k = ids.length := by simp at hlt; omega
    subst hkk
    rw [List.take_length] at hno
    (apply res1; exact rfl; exact rfl; exact ⟨(congrArg (fun b => AV.val (Value.int .i64 b)) (ixOf_none hno).symm), rfl⟩)
theorem aOk_fine {ids l : List Int} (hr : rises 0 ids = true) (hn : ids.length ≤ 6) (h : aOk ids none l = true) : rises 0 l = true ∧ (∀ x ∈ l, x ∈ ids) ∧ l.length ≤ 6 := by
  rw [aOk_eq hr, Option.getD_none] at h
  simp only [Bool.and_eq_true, Bool.not_eq_true'] at h
  obtain ⟨h1, h2⟩ := h
  have hm : ∀ x ∈ l, x ∈ ids := fun x hx => by
    have := List.any_eq_false.1 h2 x hx
    simpa using this
  have hnd : l.Nodup := by
    rw [List.Nodup, List.pairwise_iff_getElem]
    intro i j hi hj hij e
    have := rises_sorted h1 i j hi hj hij
    omega
  exact ⟨h1, hm, Nat.le_trans (hnd.length_le_of_subset hm) hn⟩
theorem ixOf_nn (l : List Int) (x : Int) : decide (0 ≤ ixOf l x) = decide (x ∈ l) := by
  unfold ixOf
  by_cases h : x ∈ l
  · rw [if_pos h]; simp [h]
  · rw [if_neg h]; simp [h]
theorem agg_own (l : List Int) (qs : List Qu) (G : Nat → Option Obj) (v : Value) (h : (AV.agg [.sl 1 iC l, .sl 2 quC qs, .val (.slice none 0 0), .val (.slice none 0 0)]).P G v) : (AV.agg (flC ⟨l, qs, [], []⟩)).P G v := by
  obtain ⟨us, e, h⟩ := h
  match us, h with
  | [a, b, c, d], ⟨ha, hb, hc, hd, _⟩ => exact ⟨[a, b, c, d], e, ha, hb, nil_sl _ _ hc, nil_sl _ _ hd, trivial⟩
theorem netS_btw {f : Flo} {l : List Int} {lo hi : Int} (hol : (owed8 f).length = f.ids.length) (hb : Btw lo hi (owed8 f)) (hm : ∀ x ∈ l, x ∈ f.ids) : Btw lo hi (netS f l) := by
  intro x hx
  obtain ⟨id, hid, rfl⟩ := List.mem_map.1 hx
  have h1 : f.ids.idxOf id < (owed8 f).length := by rw [hol]; exact List.idxOf_lt_length_of_mem (hm id hid)
  rw [List.getD_eq_getElem?_getD, List.getElem?_eq_getElem h1]
  exact hb _ (List.getElem_mem h1)
def prvO (l : List Int) (k : Nat) : Option Int := if k = 0 then none else l[k - 1]?
theorem prvO_succ {l : List Int} {k : Nat} (h : k < l.length) : prvO l (k + 1) = some l[k] := by
  unfold prvO
  rw [if_neg (by omega), Nat.add_sub_cancel, List.getElem?_eq_getElem h]
set_option maxRecDepth 20000 in
set_option maxHeartbeats 8000000 in
theorem Alone8_con (f : Flo) (l : List Int) (hS : Sml f) (hl : l.length ≤ 10) : Con Tryd.prog 43 [.agg (flC f), .sl 1 iC l] [] (Is (.tup [.val (.bool (aloR f l).1), .val (.int .i64 (aloR f l).2)]) []) := by
  have C := floors_con f hS
  unfold aloR
  cases hok : floOk f with
  | false =>
    rw [hok] at C
    rw [if_neg (by simp)]
    refine con_of Tryd.func43 rfl (enters_of Tryd.func43 (by kernel_rfl) rfl) rfl ?_; intro n w0 F0 G0
    (refine goSt ?_; (repeat (refine goAl ?_; intro p hp; refine goSt ?_)))
    (first | (apply wl_call (C); exact rfl; exact rfl) | (apply wl_callR (C); exact rfl; exact goAtm; exact rfl))
    (refine goSt ?_; (repeat (refine goAl ?_; intro p hp; refine goSt ?_)))
    (apply res2; exact rfl; exact rfl; exact rfl; exact ⟨rfl, rfl⟩)
  | true =>
    have hF := flo_f hok
    have hn := hF.ids
    have hr := rises_of_ok hok
    have hqsl := hS.qs
    rw [hok] at C
    rw [if_pos rfl]
    have ha := aOk_eq hr (l := l) (prev := none)
    rw [Option.getD_none] at ha
    rw [← ha]
    clear ha
    refine con_of Tryd.func43 rfl (enters_of Tryd.func43 (by kernel_rfl) rfl) rfl ?_; intro n w0 F0 G0
    (refine goSt ?_; (repeat (refine goAl ?_; intro p hp; refine goSt ?_)))
    (first | (apply wl_call (C); exact rfl; exact rfl) | (apply wl_callR (C); exact rfl; exact goAtm; exact rfl))
    (refine goSt ?_; (repeat (refine goAl ?_; intro p hp; refine goSt ?_)))
    refine W_loopJ (fun (k : Nat) => ⟨[(1, .sl 1 iC l), (2, .val p), (25, .sl 1 iC l), (26, .val (.int .i64 l.length)), (27, .val (.int .i64 k))], [.box p (flC f) 27]⟩) (fun k => k ≤ l.length ∧ aOk f.ids (prvO l k) (l.drop k) = aOk f.ids none l) (fun k => l.length - k) 0 (fun _ _ st => st_sub2 st goSubr goSubp) ⟨Nat.zero_le _, rfl⟩ ?_
    rintro k ⟨hk, hno⟩
    (refine goSt ?_; (repeat (refine goAl ?_; intro p hp; refine goSt ?_)))
    refine w_cond rfl (fun hlt => ?_) (fun hlt => ?_)
    · have hlt' : k < l.length := by simpa using hlt
      have hps := prvO_succ hlt'
      rw [drop_step hlt', aOk] at hno
      have FC := floor_con f l[k] (by omega)
      have hq : l[k]? = some l[k] := List.getElem?_eq_getElem hlt'
      (refine goSt ?_; (repeat (refine goAl ?_; intro p hp; refine goSt ?_)))
      (first | (apply wl_call (FC); exact rfl; exact rfl) | (apply wl_callR (FC); exact rfl; exact goAtm; exact rfl))
      (refine goSt ?_; (repeat (refine goAl ?_; intro p hp; refine goSt ?_)))
      by_cases hx : l[k] ∈ f.ids
      · have hix : decide (ixOf f.ids l[k] < 0) = false := by unfold ixOf; rw [if_pos hx]; simp
        rw [hix]
        rw [decide_eq_true hx, Bool.true_and] at hno
        (refine goSt ?_; (repeat (refine goAl ?_; intro p hp; refine goSt ?_)))
        refine wl_part rfl rfl (fun hg => ?_) (fun hg => ?_)
        · have hk0 : 0 < k := by simpa using hg
          have hkm : k - 1 < l.length := by omega
          have hpv : prvO l k = some l[k - 1] := by unfold prvO; rw [if_neg (by omega), List.getElem?_eq_getElem hkm]
          rw [hpv] at hno
          have hsub : (k : Int) - 1 = ((k - 1 : Nat) : Int) := by omega
          have hq2 : l[k - 1]? = some l[k - 1] := List.getElem?_eq_getElem hkm
          (refine goSt ?_; (repeat (refine goAl ?_; intro p hp; refine goSt ?_)))
          (apply wl_indexSl; exact rfl; exact rfl; exact hsub; exact hkm; exact rfl)
          (refine goSt ?_; (repeat (refine goAl ?_; intro p hp; refine goSt ?_)))
          refine w_cond rfl (fun h3 => ?_) (fun h3 => ?_)
          · have hlt3 : ltO (some l[k - 1]) l[k] = false := decide_eq_false (by have := of_decide_eq_true h3; omega)
            rw [hlt3, Bool.false_and] at hno
            rw [← hno]
            (refine goSt ?_; (repeat (refine goAl ?_; intro p hp; refine goSt ?_)))
            (apply res2; exact rfl; exact rfl; exact rfl; exact ⟨rfl, rfl⟩)
          · have hlt3 : ltO (some l[k - 1]) l[k] = true := decide_eq_true (by have := of_decide_eq_false h3; omega)
            rw [hlt3, Bool.true_and] at hno
            (refine goSt ?_; (repeat (refine goAl ?_; intro p hp; refine goSt ?_)))
            (refine ⟨k + 1, fun _ _ st => st_sub2 st ?_ ?_, ?_, ?_⟩; exact goSubr; exact goSubp)
            · exact ⟨hlt', by rw [hps]; exact hno⟩
            · omega
        · have hk0 : k = 0 := by simp at hg; omega
          subst hk0
          rw [show ltO (prvO l 0) l[0] = true from rfl, Bool.true_and] at hno
          (refine goSt ?_; (repeat (refine goAl ?_; intro p hp; refine goSt ?_)))
          (refine ⟨0 + 1, fun _ _ st => st_sub2 st ?_ ?_, ?_, ?_⟩; exact goSubr; exact goSubp)
          · exact ⟨hlt', by rw [hps]; exact hno⟩
          · omega
      · have hix : decide (ixOf f.ids l[k] < 0) = true := by rw [ixOf_none hx]; rfl
        rw [hix]
        rw [decide_eq_false hx, Bool.false_and, Bool.false_and] at hno
        rw [← hno]
        (refine goSt ?_; (repeat (refine goAl ?_; intro p hp; refine goSt ?_)))
        (apply res2; exact rfl; exact rfl; exact rfl; exact ⟨rfl, rfl⟩)
    · have hkk : k = l.length := by simp at hlt; omega
      subst hkk
      rw [List.drop_eq_nil_of_le (Nat.le_refl _)] at hno
      rw [show aOk f.ids (prvO l l.length) [] = true by cases prvO l l.length <;> rfl] at hno
      have OC := owed8_con f hF hS
      have hol := owed8_len f
      obtain ⟨hrl, hml, hl6⟩ := aOk_fine hr hn hno.symm
      rw [← hno, if_pos rfl]
      have hob := (owed8_btw hF hS).mono (lo' := -1000000000) (hi' := 1000000000) (by omega) (by omega)
      have hcan := alo_iff (f := f) (l := l) hl6
      have hnb : Btw (-1000000000) 1000000000 (netS f l) := netS_btw hol hob hml
      have hnl : (netS f l).length = l.length := by simp [netS]
      unfold netS at hcan hnb hnl ⊢
      generalize hO : owed8 f = owed at OC hol hob hcan hnb hnl ⊢
      (refine goSt ?_; (repeat (refine goAl ?_; intro p hp; refine goSt ?_)))
      (apply wl_callC (OC); exact rfl; exact Cut.nil; exact rfl)
      rintro _ _ ⟨u, rfl, rfl⟩
      (apply WL_frz 51; exact rfl; exact goRm)
      (refine goSt ?_; (repeat (refine goAl ?_; intro p hp; refine goSt ?_)))
      rename_i p2 hp2
      refine W_loopJ (fun (b : Nat × Value) => ⟨[(1, .sl 1 iC l), (2, .val p2), (8, .sl 1 iC owed), (9, .val b.2), (10, .val p), (54, .sl 1 iC l), (55, .val (.int .i64 l.length)), (56, .val (.int .i64 b.1))], [.row b.2 3 1 iC ((l.take b.1).map fun id => owed.getD (f.ids.idxOf id) 0), .box p [.sl 1 iC l, .val (.slice none 0 0), .val (.slice none 0 0), .val (.slice none 0 0)] 27, .box p2 (flC f) 27]⟩) (fun b => b.1 ≤ l.length) (fun b => l.length - b.1) (0, .slice none 0 0) (fun _ _ st => st_sub2 (st_nil 3 1 iC st) goSubr goSubp) (Nat.zero_le _) ?_
      rintro ⟨k, v⟩ hk
      dsimp only at hk ⊢
      (refine goSt ?_; (repeat (refine goAl ?_; intro p hp; refine goSt ?_)))
      refine w_cond rfl (fun hlt2 => ?_) (fun hlt2 => ?_)
      · have hlt' : k < l.length := by simpa using hlt2
        have hx := hml _ (List.getElem_mem hlt')
        have hxi : f.ids.idxOf l[k] < owed.length := by rw [hol]; exact List.idxOf_lt_length_of_mem hx
        have hix : ixOf f.ids l[k] = (f.ids.idxOf l[k] : Nat) := by unfold ixOf; rw [if_pos hx]
        have hst : (l.take (k + 1)).map (fun id => owed.getD (f.ids.idxOf id) 0) = (l.take k).map (fun id => owed.getD (f.ids.idxOf id) 0) ++ [owed[f.ids.idxOf l[k]]] := by
          rw [List.take_succ_eq_append_getElem hlt', List.map_append, List.map_singleton, List.getD_eq_getElem?_getD, List.getElem?_eq_getElem hxi]; rfl
        have FC := floor_con f l[k] (by omega)
        rw [hix] at FC
        have hq : owed[f.ids.idxOf l[k]]? = some owed[f.ids.idxOf l[k]] := List.getElem?_eq_getElem hxi
        (refine goSt ?_; (repeat (refine goAl ?_; intro p hp; refine goSt ?_)))
        (first | (apply wl_call (FC); exact rfl; exact rfl) | (apply wl_callR (FC); exact rfl; exact goAtm; exact rfl))
        (refine goSt ?_; (repeat (refine goAl ?_; intro p hp; refine goSt ?_)))
        (apply wl_litF iC; exact inferInstance; exact inferInstance; exact inferInstance; (repeat (first | exact Elems.nil | (apply Elems.cons; exact rfl; exact inferInstance; exact rfl))); exact rfl; (first | exact (of_decide_eq_true rfl) | decide | (simp; done) | (simp; omega)); exact rfl)
        (first | (apply wl_append; exact rfl; exact rfl; exact goRm; exact inferInstance; exact inferInstance; (first | omega | (simp; omega)); exact rfl) | (apply wl_appendN; exact rfl; exact rfl; exact inferInstance; exact inferInstance; (first | omega | (simp; omega)); exact rfl))
        intro v2
        rw [← hst]
        (refine goSt ?_; (repeat (refine goAl ?_; intro p hp; refine goSt ?_)))
        (refine ⟨(k + 1, v2), fun _ _ st => st_sub2 st ?_ ?_, ?_, ?_⟩; exact goSubr; exact goSubp)
        · dsimp only; omega
        · dsimp only; omega
      · have hkk : k = l.length := by simp at hlt2; omega
        subst hkk
        rw [List.take_length]
        generalize hnet : (l.map fun id => owed.getD (f.ids.idxOf id) 0) = net at hcan hnb hnl ⊢
        (refine goSt ?_; (repeat (refine goAl ?_; intro p hp; refine goSt ?_)))
        (apply W_frz 9; exact rfl; exact goRm)
        refine W_loopJ (fun (b : Nat × Value) => ⟨[(8, .sl 1 iC owed), (9, .sl 1 iC net), (10, .val p), (71, .sl 2 quC f.qs), (72, .val (.int .i64 f.qs.length)), (73, .val (.int .i64 b.1))], [.row b.2 55 2 quC ((f.qs.take b.1).filter fun q => decide (q.a ∈ l) && decide (q.b ∈ l)), .box p [.sl 1 iC l, .val b.2, .val (.slice none 0 0), .val (.slice none 0 0)] 27]⟩) (fun b => b.1 ≤ f.qs.length) (fun b => f.qs.length - b.1) (0, .slice none 0 0) (fun _ _ st => st_sub2 (st_nil 55 2 quC st) goSubr goSubp) (Nat.zero_le _) ?_
        rintro ⟨k, w⟩ hk
        dsimp only at hk ⊢
        (refine goSt ?_; (repeat (refine goAl ?_; intro p hp; refine goSt ?_)))
        refine w_cond rfl (fun hlt3 => ?_) (fun hlt3 => ?_)
        · have hlt' : k < f.qs.length := by simpa using hlt3
          have hst : (f.qs.take (k + 1)).filter (fun q => decide (q.a ∈ l) && decide (q.b ∈ l)) = (f.qs.take k).filter (fun q => decide (q.a ∈ l) && decide (q.b ∈ l)) ++ (if (decide (f.qs[k].a ∈ l) && decide (f.qs[k].b ∈ l)) = true then [f.qs[k]] else []) := by
            rw [List.take_succ_eq_append_getElem hlt', List.filter_append, List.filter_cons]
            split <;> simp
          have hfl : ((f.qs.take k).filter fun q => decide (q.a ∈ l) && decide (q.b ∈ l)).length ≤ 1000 := Nat.le_trans (List.length_filter_le _ _) (by rw [List.length_take]; omega)
          (refine goSt ?_; (repeat (refine goAl ?_; intro p hp; refine goSt ?_)))
          refine WL_one (At.there At.here) (fun hone => ?_)
          generalize f.qs[k] = q at hst ⊢
          have FA := floorG_con l w q.a (by omega)
          have FB := floorG_con l w q.b (by omega)
          (first | (apply wl_call (FA); exact rfl; exact rfl) | (apply wl_callR (FA); exact rfl; exact goAtm; exact rfl))
          (refine goSt ?_; (repeat (refine goAl ?_; intro p hp; refine goSt ?_)))
          rw [ixOf_nn]
          rename_i p7 hp7
          cases hqa : decide (q.a ∈ l) with
          | false =>
            rw [hqa, Bool.false_and, if_neg (by simp), List.append_nil] at hst
            rw [← hst]
            (refine goSt ?_; (repeat (refine goAl ?_; intro p hp; refine goSt ?_)))
            (refine ⟨(k + 1, w), fun _ _ st => st_sub2 st ?_ ?_, ?_, ?_⟩; exact goSubr; exact goSubp)
            · dsimp only; omega
            · dsimp only; omega
          | true =>
            rw [hqa, Bool.true_and] at hst
            (refine goSt ?_; (repeat (refine goAl ?_; intro p hp; refine goSt ?_)))
            (first | (apply wl_call (FB); exact rfl; exact rfl) | (apply wl_callR (FB); exact rfl; exact goAtm; exact rfl))
            (refine goSt ?_; (repeat (refine goAl ?_; intro p hp; refine goSt ?_)))
            rw [ixOf_nn]
            cases hqb : decide (q.b ∈ l) with
            | false =>
              rw [hqb, if_neg (by simp), List.append_nil] at hst
              rw [← hst]
              (refine goSt ?_; (repeat (refine goAl ?_; intro p hp; refine goSt ?_)))
              (refine ⟨(k + 1, w), fun _ _ st => st_sub2 st ?_ ?_, ?_, ?_⟩; exact goSubr; exact goSubp)
              · dsimp only; omega
              · dsimp only; omega
            | true =>
              rw [hqb, if_pos rfl] at hst
              (refine goSt ?_; (repeat (refine goAl ?_; intro p hp; refine goSt ?_)))
              refine WL_as 91 (.agg (quC q)) rfl ?_
              (apply wl_litF quC; exact inferInstance; exact inferInstance; exact inferInstance; (repeat (first | exact Elems.nil | (apply Elems.cons; exact rfl; exact inferInstance; exact rfl))); exact rfl; (first | exact (of_decide_eq_true rfl) | decide | (simp; done) | (simp; omega)); exact rfl)
              (first | (apply wl_append; exact rfl; exact rfl; exact goRm; exact inferInstance; exact inferInstance; (first | omega | (simp; omega)); exact rfl) | (apply wl_appendN; exact rfl; exact rfl; exact inferInstance; exact inferInstance; (first | omega | (simp; omega)); exact rfl))
              intro v2
              rw [← hst]
              refine WL_one At.here (fun hone2 => ?_)
              (refine goSt ?_; (repeat (refine goAl ?_; intro p hp; refine goSt ?_)))
              (refine ⟨(k + 1, v2), fun _ _ st => st_sub2 st ?_ ?_, ?_, ?_⟩; exact goSubr; exact goSubp)
              · dsimp only; omega
              · dsimp only; omega
        · have hkk : k = f.qs.length := by simp at hlt3; omega
          subst hkk
          rw [List.take_length]
          (apply W_frzX (v := w) p 1; exact goRm; exact rfl; exact goAtm; exact rfl)
          simp only [List.set_cons_zero, List.set_cons_succ]
          have PC := Con.arg (agg_own l (f.qs.filter fun q => decide (q.a ∈ l) && decide (q.b ∈ l))) (pairs8_con (ownQ l f) (by show l.length ≤ 10; omega) (by show (f.qs.filter _).length ≤ 1000; exact Nat.le_trans (List.length_filter_le _ _) (by omega)))
          (refine goSt ?_; (repeat (refine goAl ?_; intro p hp; refine goSt ?_)))
          (apply wl_callC (PC); exact rfl; exact Cut.nil; exact rfl)
          rintro _ _ ⟨u2, rfl, rfl⟩
          (apply WL_frz 97; exact rfl; exact goRm)
          have hPL : prR (spk (ownQ l f)) (ownQ l f).ids.length (ownQ l f).ids.length = prR (spk (ownQ l f)) l.length l.length := rfl
          rw [hPL]
          have hokL := prR_ok (spk (ownQ l f)) l.length
          have hLl := prR_15 (spk (ownQ l f)) hl6
          have hTC := fun T h1 h2 => tree8_con (ownQ l f) T net (by show l.length ≤ 10; omega) h1 h2 hnl hnb
          have hTC2 := fun T h1 h2 => Con.arg (agg_own l (f.qs.filter fun q => decide (q.a ∈ l) && decide (q.b ∈ l))) (hTC T h1 h2)
          clear hTC PC
          generalize prR (spk (ownQ l f)) l.length l.length = L at hokL hLl hcan ⊢
          have hp36 := pow15 hLl
          generalize f.qs.filter (fun q => decide (q.a ∈ l) && decide (q.b ∈ l)) = qs at hTC2 ⊢
          (refine goSt ?_; (repeat (refine goAl ?_; intro p hp; refine goSt ?_)))
          refine W_loopJ (fun (S : Nat) => ⟨[(9, .sl 1 iC net), (10, .val p), (15, .sl 2 pnC L), (16, .val (.int .i64 S))], [.box p [.sl 1 iC l, .sl 2 quC qs, .val (.slice none 0 0), .val (.slice none 0 0)] 27]⟩) (fun S => S ≤ 2 ^ L.length ∧ ∀ s, s < S → ¬ ((pick L s).length < 6 ∧ ∃ out, treeR l (pick L s) net = some out)) (fun S => 2 ^ L.length - S) 0 (fun _ _ st => st_sub2 st goSubr goSubp) ⟨Nat.zero_le _, fun s hs => by omega⟩ ?_
          rintro S ⟨hS1, hls⟩
          (refine goSt ?_; (repeat (refine goAl ?_; intro p hp; refine goSt ?_)))
          (apply wl_shl (k := L.length); exact rfl; exact rfl; omega; exact rfl)
          (refine goSt ?_; (repeat (refine goAl ?_; intro p hp; refine goSt ?_)))
          refine w_cond rfl (fun hlt4 => ?_) (fun hlt4 => ?_)
          · have hS2 : S < 2 ^ L.length := by simp only [decide_eq_true_eq] at hlt4; exact Int.ofNat_lt.1 hlt4
            (refine goSt ?_; (repeat (refine goAl ?_; intro p hp; refine goSt ?_)))
            refine W_loopJ (fun (b : Nat × Value) => ⟨[(9, .sl 1 iC net), (10, .val p), (15, .sl 2 pnC L), (16, .val (.int .i64 S)), (17, .val b.2), (105, .sl 2 pnC L), (106, .val (.int .i64 L.length)), (107, .val (.int .i64 b.1))], [.row b.2 149 2 pnC (pick (L.take b.1) S), .box p [.sl 1 iC l, .sl 2 quC qs, .val (.slice none 0 0), .val (.slice none 0 0)] 27]⟩)
              (fun b => b.1 ≤ L.length) (fun b => L.length - b.1) (0, .slice none 0 0) (fun _ _ st => st_sub2 (st_nil 149 2 pnC st) goSubr goSubp) (Nat.zero_le _) ?_
            rintro ⟨i, w⟩ hi
            dsimp only at hi ⊢
            (refine goSt ?_; (repeat (refine goAl ?_; intro p hp; refine goSt ?_)))
            refine w_cond rfl (fun hlt5 => ?_) (fun hlt5 => ?_)
            · have hi' : i < L.length := by simpa using hlt5
              have hpt := pick_take (s := S) hi'
              have hpl := pick_len (L.take i) S
              have htl : (L.take i).length = i := by rw [List.length_take]; omega
              (refine goSt ?_; (repeat (refine goAl ?_; intro p hp; refine goSt ?_)))
              rename_i px hpx
              (apply wl_shr (s := S) (k := i); exact rfl; exact rfl; omega; exact rfl)
              (refine goSt ?_; (repeat (refine goAl ?_; intro p hp; refine goSt ?_)))
              (apply wl_and1 (s := S / 2 ^ i); exact rfl; exact rfl; exact Nat.le_trans (Nat.div_le_self _ _) (by omega); exact rfl)
              (refine goSt ?_; (repeat (refine goAl ?_; intro p hp; refine goSt ?_)))
              refine w_cond rfl (fun hb => ?_) (fun hb => ?_)
              · have hb' : S / 2 ^ i % 2 = 1 := by simp only [decide_eq_true_eq] at hb; exact Int.ofNat_inj.1 hb
                rw [if_pos hb'] at hpt
                (refine goSt ?_; (repeat (refine goAl ?_; intro p hp; refine goSt ?_)))
                refine WL_as 118 (.agg (pnC L[i])) rfl ?_
                (apply wl_litF pnC; exact inferInstance; exact inferInstance; exact inferInstance; (repeat (first | exact Elems.nil | (apply Elems.cons; exact rfl; exact inferInstance; exact rfl))); exact rfl; (first | exact (of_decide_eq_true rfl) | decide | (simp; done) | (simp; omega)); exact rfl)
                (first | (apply wl_append; exact rfl; exact rfl; exact goRm; exact inferInstance; exact inferInstance; (first | omega | (simp; omega)); exact rfl) | (apply wl_appendN; exact rfl; exact rfl; exact inferInstance; exact inferInstance; (first | omega | (simp; omega)); exact rfl))
                intro w2
                rw [← hpt]
                (refine goSt ?_; (repeat (refine goAl ?_; intro p hp; refine goSt ?_)))
                (refine ⟨(i + 1, w2), fun _ _ st => st_sub2 st ?_ ?_, ?_, ?_⟩; exact goSubr; exact goSubp)
                · dsimp only; omega
                · dsimp only; omega
              · have hb' : ¬ S / 2 ^ i % 2 = 1 := fun h => by rw [h] at hb; simp at hb
                rw [if_neg hb', List.append_nil] at hpt
                rw [← hpt]
                (refine goSt ?_; (repeat (refine goAl ?_; intro p hp; refine goSt ?_)))
                (refine ⟨(i + 1, w), fun _ _ st => st_sub2 st ?_ ?_, ?_, ?_⟩; exact goSubr; exact goSubp)
                · dsimp only; omega
                · dsimp only; omega
            · have hii : i = L.length := by simp at hlt5; omega
              subst hii
              rw [List.take_length]
              have hsub := Gr.pick_sub L S
              have hokS := hokL.sub hsub
              have hnext : ¬ ((pick L S).length < 6 ∧ ∃ out, treeR l (pick L S) net = some out) → ∀ s, s < S + 1 → ¬ ((pick L s).length < 6 ∧ ∃ out, treeR l (pick L s) net = some out) := fun h s hs => by
                by_cases e : s = S
                · rw [e]; exact h
                · exact hls s (by omega)
              have hhit : (pick L S).length < 6 ∧ (∃ out, treeR l (pick L S) net = some out) → canB (ownF l f) net = true := fun h => hcan.1 ⟨S, hS2, h.1, h.2⟩
              generalize pick L S = T at hokS hnext hhit ⊢
              (apply W_frz 17; exact rfl; exact goRm)
              (refine goSt ?_; (repeat (refine goAl ?_; intro p hp; refine goSt ?_)))
              refine w_cond rfl (fun hge => ?_) (fun hge => ?_)
              · have hge' : 6 ≤ T.length := by simp at hge; omega
                (refine goSt ?_; (repeat (refine goAl ?_; intro p hp; refine goSt ?_)))
                (refine ⟨S + 1, fun _ _ st => st_sub2 st ?_ ?_, ?_, ?_⟩; exact goSubr; exact goSubp)
                · exact ⟨hS2, hnext fun h => by omega⟩
                · omega
              · have hlt6 : T.length < 6 := by simp at hge; omega
                have C := hTC2 T (by omega) hokS
                cases hT : treeR l T net with
                | none =>
                  rw [show treeR (ownQ l f).ids T net = none from hT] at C
                  unfold treeA at C
                  (refine goSt ?_; (repeat (refine goAl ?_; intro p hp; refine goSt ?_)))
                  (first | (apply wl_call (C); exact rfl; exact rfl) | (apply wl_callR (C); exact rfl; exact goAtm; exact rfl))
                  (refine goSt ?_; (repeat (refine goAl ?_; intro p hp; refine goSt ?_)))
                  (refine ⟨S + 1, fun _ _ st => st_sub2 st ?_ ?_, ?_, ?_⟩; exact goSubr; exact goSubp)
                  · exact ⟨hS2, hnext fun h => by obtain ⟨_, out, e⟩ := h; rw [hT] at e; cases e⟩
                  · omega
                | some out =>
                  rw [show treeR (ownQ l f).ids T net = some out from hT] at C
                  unfold treeA at C
                  rw [hhit ⟨hlt6, out, hT⟩]
                  (refine goSt ?_; (repeat (refine goAl ?_; intro p hp; refine goSt ?_)))
                  (first | (apply wl_call (C); exact rfl; exact rfl) | (apply wl_callR (C); exact rfl; exact goAtm; exact rfl))
                  (refine goSt ?_; (repeat (refine goAl ?_; intro p hp; refine goSt ?_)))
                  (apply res2; exact rfl; exact rfl; exact rfl; exact ⟨rfl, rfl⟩)
          · have hSS : S = 2 ^ L.length := by
              simp only [decide_eq_false_iff_not] at hlt4
              have : ¬ S < 2 ^ L.length := fun h => hlt4 (Int.ofNat_lt.2 h)
              omega
            have hno2 : canB (ownF l f) net = false := by
              cases hc : canB (ownF l f) net with
              | false => rfl
              | true =>
                obtain ⟨s, h1, h2, h3⟩ := hcan.2 hc
                exact absurd ⟨h2, h3⟩ (hls s (by omega))
            rw [hno2]
            (refine goSt ?_; (repeat (refine goAl ?_; intro p hp; refine goSt ?_)))
            (apply res2; exact rfl; exact rfl; exact rfl; exact ⟨rfl, rfl⟩)
end Go.Proofs.YtihonljdanjfmaaDoor.Sw
namespace Go.Proofs.YtihonljdanjfmaaDoor.Sw
open Go.RowKit Go Go.Shelf Go.Proofs
theorem hsB_own (p v : Value) (l : List Int) (f : Flo) (G : Nat → Option Obj) (F : List Nat) (w : World) (h : (HA.box p [.sl 1 iC l, .sl 2 quC f.qs, .val (.slice none 0 0), .val (.slice none 0 0), .val v] 108).P G F w) : (hsB p (ownF l f) v).P G F w := by
  obtain ⟨b, vs, e1, e2, e3, e4⟩ := h
  refine ⟨b, vs, e1, e2, ?_, e4⟩
  match vs, e3 with
  | [a, b, c, d, e], ⟨h1, h2, h3, h4, h5, _⟩ => exact ⟨h1, h2, nil_sl _ _ h3, nil_sl _ _ h4, h5, trivial⟩
set_option maxRecDepth 20000 in
set_option maxHeartbeats 8000000 in
theorem Alone_con (f : Flo) (l : List Int) (hS : Sml f) (hl : l.length ≤ 10) : Con Tryd.prog 42 [.agg (flC f), .sl 1 iC l] [tab8] (Is (.tup [.val (.bool (aloR f l).1), .val (.int .i64 (aloR f l).2)]) [tab8]) := by
  unfold aloR
  cases hok : floOk f with
  | false =>
    have C := openedNo_con f hS hok
    rw [if_neg (by simp)]
    refine con_of Tryd.func42 rfl (enters_of Tryd.func42 (by kernel_rfl) rfl) rfl ?_; intro n w0 F0 G0
    (refine goSt ?_; (repeat (refine goAl ?_; intro p hp; refine goSt ?_)))
    (first | (apply wl_call (C); exact rfl; exact rfl) | (apply wl_callR (C); exact rfl; exact goAtm; exact rfl))
    (refine goSt ?_; (repeat (refine goAl ?_; intro p hp; refine goSt ?_)))
    (apply resK2; exact rfl; exact rfl; exact rfl; exact ⟨rfl, rfl⟩; exact goCutl)
  | true =>
    have C := opened_con f hS hok
    have hF := flo_f hok
    have hr := rises_of_ok hok
    have hidl := hF.ids
    have hqsl := hS.qs
    rw [if_pos rfl]
    refine con_of Tryd.func42 rfl (enters_of Tryd.func42 (by kernel_rfl) rfl) rfl ?_; intro n w0 F0 G0
    (refine goSt ?_; (repeat (refine goAl ?_; intro p hp; refine goSt ?_)))
    (apply wl_callP (C); exact rfl; exact goCutl; exact rfl)
    rintro _ _ ⟨ph, ow, rfl, rfl⟩
    (refine goSt ?_; (repeat (refine goAl ?_; intro p hp; refine goSt ?_)))
    (first | (apply wl_call (of_con l f.ids (by omega) (by omega)); exact rfl; exact rfl) | (apply wl_callR (of_con l f.ids (by omega) (by omega)); exact rfl; exact goAtm; exact rfl))
    (refine goSt ?_; (repeat (refine goAl ?_; intro p hp; refine goSt ?_)))
    cases hof : (rises 0 l && !l.any fun n => !decide (n ∈ f.ids)) with
    | false =>
      rw [if_neg (by simp)]
      (refine goSt ?_; (repeat (refine goAl ?_; intro p hp; refine goSt ?_)))
      (apply resK2; exact rfl; exact rfl; exact rfl; exact ⟨rfl, rfl⟩; exact goCutl)
    | true =>
      have hrl : rises 0 l = true := by
        cases h : rises 0 l with
        | true => rfl
        | false => rw [h] at hof; cases hof
      have hml : ∀ x ∈ l, x ∈ f.ids := fun x hx => by
        rw [hrl, Bool.true_and, Bool.not_eq_true'] at hof
        have := List.any_eq_false.1 hof x hx
        simpa using this
      rw [if_pos rfl]
      have hol := owed8_len f
      have hob := (owed8_btw hF hS).mono (lo' := -1000000000) (hi' := 1000000000) (by omega) (by omega)
      have hnb : Btw (-1000000000) 1000000000 (netS f l) := netS_btw hol hob hml
      have hnl : (netS f l).length = l.length := by simp [netS]
      unfold netS at hnb hnl ⊢
      generalize owed8 f = owed at hol hob hnb hnl ⊢
      (refine goSt ?_; (repeat (refine goAl ?_; intro p hp; refine goSt ?_)))
      refine W_imp goAtm (hsB_own p (.slice none 0 0) l f) ?_
      refine W_loopJ (fun (b : Nat × Value) => ⟨[(8, .val p), (6, .val ph), (30, .sl 1 iC l), (31, .val (.int .i64 l.length)), (32, .val (.int .i64 b.1))], [.row b.2 3 1 iC ((l.take b.1).map fun id => owed.getD (f.ids.idxOf id) 0), hsB p (ownF l f) b.2, hsB ph f ow, .row ow 3 1 iC owed, tab8]⟩) (fun b => b.1 ≤ l.length) (fun b => l.length - b.1) (0, .slice none 0 0) (fun _ _ st => st_sub2 (st_nil 3 1 iC st) goSubr goSubp) (Nat.zero_le _) ?_
      rintro ⟨k, v⟩ hk
      dsimp only at hk ⊢
      (refine goSt ?_; (repeat (refine goAl ?_; intro p hp; refine goSt ?_)))
      refine w_cond rfl (fun hlt => ?_) (fun hlt => ?_)
      · have hlt' : k < l.length := by simpa using hlt
        have hx := hml _ (List.getElem_mem hlt')
        have hxi : f.ids.idxOf l[k] < owed.length := by rw [hol]; exact List.idxOf_lt_length_of_mem hx
        have hst : (l.take (k + 1)).map (fun id => owed.getD (f.ids.idxOf id) 0) = (l.take k).map (fun id => owed.getD (f.ids.idxOf id) 0) ++ [owed[f.ids.idxOf l[k]]] := by
          rw [List.take_succ_eq_append_getElem hlt', List.map_append, List.map_singleton, List.getD_eq_getElem?_getD, List.getElem?_eq_getElem hxi]; rfl
        have hq : owed[f.ids.idxOf l[k]]? = some owed[f.ids.idxOf l[k]] := List.getElem?_eq_getElem hxi
        have hq2 : l[k]? = some l[k] := List.getElem?_eq_getElem hlt'
        have htl : ((l.take k).map fun id => owed.getD (f.ids.idxOf id) 0).length ≤ 10 := by rw [List.length_map, List.length_take]; omega
        (refine goSt ?_; (repeat (refine goAl ?_; intro p hp; refine goSt ?_)))
        generalize ((l.take k).map fun id => owed.getD (f.ids.idxOf id) 0) = net at hst htl ⊢
        refine W_run 16 [36, 37, 38, 39, 40, 41, 42, 43, 44, 45, 46, 47, 48, 49, 50, 51] [0, 1, 2, 3, 4, 5, 6, 7, 8, 9, 10, 11, 12, 13, 14, 15] (Cut.cons (h := HA.row v 3 1 iC net) goRm (Cut.nil)) rfl goFlt mixedS (by kernel_rfl) rfl ?_
        refine rpv [] [] ?_
        refine rpv [] [] ?_
        refine rpv [1] [] ?_
        refine rpv [2] [] ?_
        refine rpv [3] [] ?_
        refine rpv [] [] ?_
        refine rpv [5] [] ?_
        refine rpv [6] [] ?_
        refine rpv [7] [] ?_
        refine rpv [] [] ?_
        refine rpv [] [] ?_
        refine Run.pv [9, 10] [] rfl (fun vs => by apply ltr_pk; exact goPk; (apply ltr_callR ((indexAt_con ph ow f _ (by omega) hx)); exact rfl; exact goAtm)) goApp ?_
        refine rpv [8, 11] [] ?_
        refine rpv [12] [] ?_
        refine Run.pv [13] [] rfl (fun vs => by apply ltr_pk; exact goPk; (refine ltr ?_; apply LT_frz; apply lt_lit (f := iC); (repeat (first | exact Elems.nil | (apply Elems.cons; exact rfl; exact inferInstance; exact rfl))); exact rfl; (first | exact (of_decide_eq_true rfl) | decide | (simp; done) | (simp; omega)))) goApp ?_
        refine Run.tok [4, 14] [1000] rfl (fun vs => by apply ltr_pk; exact goPk; (refine ltr ?_; apply lt_append; exact rfl; exact rfl; (first | omega | (simp; omega)))) goApp ?_
        refine ⟨⟨by kernel_rfl, by kernel_rfl⟩, fun vs => ?_⟩
        apply WL_auto [0, 15]
        · exact goPk
        · exact goNrm
        · kernel_rfl
        · kernel_rfl
        generalize vs 15 = v2
        rw [← hst]
        refine WL_one At.here (fun hone => ?_)
        (refine goSt ?_; (repeat (refine goAl ?_; intro p hp; refine goSt ?_)))
        (refine ⟨(k + 1, v2), fun _ _ st => st_sub2 st ?_ ?_, ?_, ?_⟩; exact goSubr; exact goSubp)
        · dsimp only; omega
        · dsimp only; omega
      · have hkk : k = l.length := by simp at hlt; omega
        subst hkk
        rw [List.take_length]
        have CC := can_con p v (ownF l f) (l.map fun id => owed.getD (f.ids.idxOf id) 0) (by show l.length ≤ 10; omega) (by show f.qs.length ≤ 1000; omega) hrl hnl hnb
        (refine goSt ?_; (repeat (refine goAl ?_; intro p hp; refine goSt ?_)))
        (apply wl_callP (CC); exact rfl; exact goCutl; exact rfl)
        rintro _ _ ⟨rfl, rfl⟩
        (refine goSt ?_; (repeat (refine goAl ?_; intro p hp; refine goSt ?_)))
        (apply resK2; exact rfl; exact rfl; exact rfl; exact ⟨rfl, rfl⟩; exact goCutl)
end Go.Proofs.YtihonljdanjfmaaDoor.Sw
namespace Go.Proofs.YtihonljdanjfmaaDoor.Sw
open Go.RowKit Go Go.Shelf Go.Proofs
open Go.Proofs.YtihonljdanjfmaaDoor.Gr (headsR hf lf Lab lab_all)
theorem lsF_ids {f : Flo} (he : errL f = 0) : ∀ l ∈ lsF f, ∀ x ∈ l, x.a ∈ f.ids ∧ x.b ∈ f.ids := fun l hl x hx => by
  have hok := errL_ok he
  have hr := rises_of_ok hok
  have h1 := (few_perm (flo_f hok) hr).mem_iff.1 hl
  obtain ⟨k, _, h2⟩ := fewTo_mem h1
  obtain ⟨L, hL⟩ := allR_mem.1 h2
  obtain ⟨e, he2, rfl⟩ := List.mem_map.1 (hL.pe.mem_iff.1 hx)
  have hm := hL.mem e he2
  have hb : ∀ i, i < f.ids.length → f.ids.getD i 0 ∈ f.ids := fun i hi => by
    rw [List.getD_eq_getElem?_getD, List.getElem?_eq_getElem hi]; exact List.getElem_mem hi
  have b1 := hb e.1 (Nat.lt_trans hm.1 hm.2.1)
  have b2 := hb e.2 hm.2.1
  rcases payE_ends f.ids (lf (owed8 f)) L e with ⟨c1, c2⟩ | ⟨c1, c2⟩
  · exact ⟨by rw [c1]; exact b1, by rw [c2]; exact b2⟩
  · exact ⟨by rw [c1]; exact b2, by rw [c2]; exact b1⟩
theorem stlN_ids (f : Flo) : ∀ x ∈ (stlN f).1, x.a ∈ f.ids ∧ x.b ∈ f.ids := by
  unfold stlN
  split
  · rename_i he
    cases hq : (lsF f).foldl bstS none with
    | none => simp
    | some y =>
      rcases bstS_mem hq with h | h
      · exact lsF_ids he y h
      · cases h
  · simp
/-- What 'Groups' answers. -/
noncomputable def grpN (f : Flo) : List (List Int) × Int := if (stlN f).2 = 0 then (grG f (stlN f).1, 0) else ([], (stlN f).2)
/-- Where each group stands. -/
def atG (h : List Nat) : Nat → List (Nat × Int)
  | 0 => []
  | i + 1 => if hf h i = i then putM (atG h i) i ((rtsG h i).length : Int) else atG h i
theorem atG_len (h : List Nat) : ∀ i, (atG h i).length ≤ i
  | 0 => Nat.le_refl _
  | i + 1 => by
    have ih := atG_len h i
    rw [atG]
    split
    · have := putM_len (atG h i) i ((rtsG h i).length : Int); omega
    · omega
theorem atG_get (h : List Nat) : ∀ {i k : Nat}, k ∈ rtsG h i → getM (atG h i) k = some (((rtsG h i).idxOf k : Nat) : Int)
  | 0, k, hk => by simp [rtsG] at hk
  | i + 1, k, hk => by
    have ih := @atG_get h i k
    rw [atG]
    rw [rtsG_succ] at hk ⊢
    by_cases e : hf h i = i
    · rw [if_pos e] at hk ⊢
      rw [if_pos e, getM_put, List.idxOf_append]
      by_cases ek : k = i
      · subst ek
        rw [if_pos rfl, if_neg fun hm => Nat.lt_irrefl _ (mem_rtsG.1 hm).1]
        simp
      · have hm : k ∈ rtsG h i := by
          rcases List.mem_append.1 hk with hk | hk
          · exact hk
          · exact absurd (by simpa using hk) ek
        rw [if_neg ek, if_pos hm, ih hm]
    · rw [if_neg e, List.append_nil] at hk
      rw [if_neg e, if_neg e, List.append_nil, ih hk]
theorem allG_len (h : List Nat) (ids : List Int) (i : Nat) : (allG h ids i).length = (rtsG h i).length := by simp [allG]
theorem prsG_take {f : Flo} {l : List Pay} {k : Nat} (h : k < l.length) : (prsG f l).take (k + 1) = (prsG f l).take k ++ [(f.ids.idxOf l[k].a, f.ids.idxOf l[k].b)] := by
  have hl : k < (prsG f l).length := by simpa [prsG] using h
  rw [List.take_succ_eq_append_getElem hl]
  simp [prsG]
set_option maxRecDepth 20000 in
set_option maxHeartbeats 8000000 in
theorem Groups_con (f : Flo) (hS : Sml f) (hB : errL f = 0 → ∀ x ∈ lsF f, PayB x) : Con Tryd.prog 40 [.agg (flC f)] [tab8] (Is (.tup [.sl 1 (slC 1 iC) (grpN f).1, .val (.int .i64 (grpN f).2)]) [tab8]) := by
  cases hok : floOk f with
  | false =>
    have C := openedNo_con f hS hok
    have hst : stlN f = ([], 80) := by
      have he : errL f = 80 := by unfold errL; rw [hok]; rfl
      unfold stlN
      rw [he]; rfl
    unfold grpN
    rw [hst, if_neg (by decide)]
    refine con_of Tryd.func40 rfl (enters_of Tryd.func40 (by kernel_rfl) rfl) rfl ?_; intro n w0 F0 G0
    (refine goSt ?_; (repeat (refine goAl ?_; intro p hp; refine goSt ?_)))
    (first | (apply wl_call (C); exact rfl; exact rfl) | (apply wl_callR (C); exact rfl; exact goAtm; exact rfl))
    (refine goSt ?_; (repeat (refine goAl ?_; intro p hp; refine goSt ?_)))
    refine Res_nil 2 1 (slC 1 iC) rfl ?_
    (apply resK2; exact rfl; exact rfl; exact rfl; exact ⟨rfl, rfl⟩; exact goCutl)
  | true =>
    have C := opened_con f hS hok
    have SC := Settle_con f hS hB
    have hF := flo_f hok
    have hidl := hF.ids
    have hll := stlN_len hS
    have hli := stlN_ids f
    unfold grpN
    generalize stlN f = r at SC hll hli ⊢
    obtain ⟨l, e⟩ := r
    dsimp only at SC hll hli ⊢
    refine con_of Tryd.func40 rfl (enters_of Tryd.func40 (by kernel_rfl) rfl) rfl ?_; intro n w0 F0 G0
    (refine goSt ?_; (repeat (refine goAl ?_; intro p hp; refine goSt ?_)))
    (apply wl_callP (C); exact rfl; exact goCutl; exact rfl)
    rintro _ _ ⟨ph, ow, rfl, rfl⟩
    generalize owed8 f = owed
    (refine goSt ?_; (repeat (refine goAl ?_; intro p hp; refine goSt ?_)))
    (first | (apply wl_call (SC); exact rfl; exact rfl) | (apply wl_callR (SC); exact rfl; exact goAtm; exact rfl))
    (refine goSt ?_; (repeat (refine goAl ?_; intro p hp; refine goSt ?_)))
    refine w_cond rfl (fun he => ?_) (fun he => ?_)
    · have he' : e ≠ 0 := by simpa using he
      rw [if_neg he']
      (refine goSt ?_; (repeat (refine goAl ?_; intro p hp; refine goSt ?_)))
      refine Res_nil 2 1 (slC 1 iC) rfl ?_
      (apply resK2; exact rfl; exact rfl; exact rfl; exact ⟨rfl, rfl⟩; exact goCutl)
    · have he' : e = 0 := by simpa using he
      subst he'
      rw [if_pos rfl]
      (refine goSt ?_; (repeat (refine goAl ?_; intro p hp; refine goSt ?_)))
      refine W_loopJ (fun (b : Nat × Value) => ⟨[(1, .val p), (4, .val ph), (7, .val b.2), (30, .sl 3 payC l), (31, .val (.int .i64 l.length)), (32, .val (.int .i64 b.1))], [.row b.2 105 2 pnC ((prsG f l).take b.1), hsB ph f ow, .box p (flC f) 27, tab8]⟩) (fun b => b.1 ≤ l.length) (fun b => l.length - b.1) (0, .slice none 0 0) (fun _ _ st => st_sub2 (st_nil 105 2 pnC st) goSubr goSubp) (Nat.zero_le _) ?_
      rintro ⟨k, v⟩ hk
      dsimp only at hk ⊢
      (refine goSt ?_; (repeat (refine goAl ?_; intro p hp; refine goSt ?_)))
      refine w_cond rfl (fun hlt => ?_) (fun hlt => ?_)
      · have hlt' : k < l.length := by simpa using hlt
        have hx := hli _ (List.getElem_mem hlt')
        have hpt := prsG_take (f := f) hlt'
        have hpl : ((prsG f l).take k).length ≤ 1000 := by rw [List.length_take]; omega
        generalize (prsG f l).take k = L at hpt hpl ⊢
        (refine goSt ?_; (repeat (refine goAl ?_; intro p hp; refine goSt ?_)))
        refine W_run 11 [36, 37, 38, 39, 40, 41, 42, 43, 44, 45, 46] [0, 1, 2, 3, 4, 5, 6, 7, 8, 9, 10] Cut.nil rfl goFlt mixedS (by kernel_rfl) rfl ?_
        refine rpv [] [] ?_
        refine rpv [] [] ?_
        refine rpv [] [] ?_
        refine rpv [2] [] ?_
        refine Run.pv [1, 3] [] rfl (fun vs => by apply ltr_pk; exact goPk; (apply ltr_callR ((indexAt_con ph ow f _ (by omega) hx.1)); exact rfl; exact goAtm)) goApp ?_
        refine rpv [] [] ?_
        refine rpv [] [] ?_
        refine rpv [6] [] ?_
        refine Run.pv [5, 7] [] rfl (fun vs => by apply ltr_pk; exact goPk; (apply ltr_callR ((indexAt_con ph ow f _ (by omega) hx.2)); exact rfl; exact goAtm)) goApp ?_
        refine Run.pv [4, 8] [] rfl (fun vs => by apply ltr_pk; exact goPk; (refine ltr ?_; refine LT_av (av' := .agg (pnC (f.ids.idxOf l[k].a, f.ids.idxOf l[k].b))) ?_ rfl; apply lt_build; (repeat (first | exact Parts.nil | (apply Parts.cons; exact rfl; exact rfl; exact inferInstance; exact rfl; exact (of_decide_eq_true rfl)))))) goApp ?_
        refine Run.pv [9] [] rfl (fun vs => by apply ltr_pk; exact goPk; (refine ltr ?_; apply LT_frz; apply lt_lit (f := pnC); (repeat (first | exact Elems.nil | (apply Elems.cons; exact rfl; exact inferInstance; exact rfl))); exact rfl; (first | exact (of_decide_eq_true rfl) | decide | (simp; done) | (simp; omega)))) goApp ?_
        refine ⟨⟨by kernel_rfl, by kernel_rfl⟩, fun vs => ?_⟩
        apply WL_auto [0, 10]
        · exact goPk
        · exact goNrm
        · kernel_rfl
        · kernel_rfl
        (refine goSt ?_; (repeat (refine goAl ?_; intro p hp; refine goSt ?_)))
        (first | (apply wl_append; exact rfl; exact rfl; exact goRm; exact inferInstance; exact inferInstance; (first | omega | (simp; omega)); exact rfl) | (apply wl_appendN; exact rfl; exact rfl; exact inferInstance; exact inferInstance; (first | omega | (simp; omega)); exact rfl))
        intro v2
        rw [← hpt]
        (refine goSt ?_; (repeat (refine goAl ?_; intro p hp; refine goSt ?_)))
        (refine ⟨(k + 1, v2), fun _ _ st => st_sub2 st ?_ ?_, ?_, ?_⟩; exact goSubr; exact goSubp)
        · dsimp only; omega
        · dsimp only; omega
      · have hkk : k = l.length := by simp at hlt; omega
        subst hkk
        rw [show (prsG f l).take l.length = prsG f l from List.take_of_length_le (by simp [prsG])]
        have hlt0 := prsG_lt hli
        have hpl : (prsG f l).length ≤ 1000 := by simpa [prsG] using hll
        have H : Hd f.ids.length (headsR f.ids.length (prsG f l)) := hd_heads hlt0
        have GC := groups_con ph ow f (prsG f l) (by omega) hpl hlt0
        have hhl := headsR_len f.ids.length (prsG f l)
        unfold grG
        generalize headsR f.ids.length (prsG f l) = h at H GC hhl ⊢
        (refine goSt ?_; (repeat (refine goAl ?_; intro p hp; refine goSt ?_)))
        (apply wl_mmake keyN iG; exact rfl; intro mv hmv)
        (refine goSt ?_; (repeat (refine goAl ?_; intro p hp; refine goSt ?_)))
        (apply WL_frz 51; exact rfl; exact goRm)
        (apply wl_callP (GC); exact rfl; exact goCutl; exact rfl)
        rintro _ _ ⟨u, rfl, rfl⟩
        (refine goSt ?_; (repeat (refine goAl ?_; intro p hp; refine goSt ?_)))
        refine W_rows0 3 1 iC ?_
        refine W_loopJ (fun (b : Nat × Value × List OV) => ⟨[(1, .val p), (10, .val mv), (11, .val b.2.1), (52, .val u), (53, .val (.int .i64 h.length)), (54, .val (.int .i64 b.1))], [.row b.2.1 22 1 vlC b.2.2, .pack (rowsZ 3 1 iC b.2.2 (allG h f.ids b.1)), mpI mv (atG h b.1), .row u 3 1 nC h, .box p (flC f) 27, tab8]⟩) (fun b => b.1 ≤ h.length ∧ b.2.2.length = (rtsG h b.1).length) (fun b => h.length - b.1) (0, .slice none 0 0, []) (fun _ _ st => st_sub2 (st_nil 22 1 vlC st) goSubr goSubp) ⟨Nat.zero_le _, rfl⟩ ?_
        rintro ⟨i, w, zs⟩ ⟨hi, hvl⟩
        dsimp only at hi hvl ⊢
        (refine goSt ?_; (repeat (refine goAl ?_; intro p hp; refine goSt ?_)))
        refine w_cond rfl (fun hlt2 => ?_) (fun hlt2 => ?_)
        · have hi' : i < h.length := by simpa using hlt2
          have hin : i < f.ids.length := by omega
          have hst := allG_step H f.ids hin
          have hbg := baseG_get H f.ids hin
          have hhm := headG_mem H hin
          have hag := atG_get h hhm
          have hle := H.le i hin
          have hmp : atG h (i + 1) = if hf h i = i then putM (atG h i) i ((rtsG h i).length : Int) else atG h i := rfl
          have hml := atG_len h i
          have hrl := rtsG_succ h i
          have hbu : baseG h f.ids i = allG h f.ids i ++ if hf h i = i then [[]] else [] := rfl
          have hal := allG_len h f.ids i
          have hrz := rtsG_len h i
          have hgl := grpG_len h f.ids i (hf h i)
          rw [List.getD_eq_getElem?_getD, List.getElem?_eq_getElem hin, Option.getD_some] at hst
          rw [hf_at hi'] at hst hbg hhm hag hle hmp hrl hbu hgl
          (refine goSt ?_; (repeat (refine goAl ?_; intro p hp; refine goSt ?_)))
          generalize h[i] = kk at hst hbg hhm hag hle hmp hrl hbu hgl ⊢
          refine W_meetE (fun (b : Value × List OV) => ⟨[(1, .val p), (10, .val mv), (11, .val b.1), (12, .val (.int .i64 i)), (13, .val (.int .i64 kk)), (52, .val u), (53, .val (.int .i64 h.length)), (54, .val (.int .i64 i))], [.row b.1 22 1 vlC b.2, .pack (rowsZ 3 1 iC b.2 (baseG h f.ids i)), mpI mv (atG h (i + 1)), .row u 3 1 nC h, .box p (flC f) 27, tab8]⟩) (fun b => b.2.length = (rtsG h (i + 1)).length) ?_ ?_
          · refine w_cond rfl (fun he => ?_) (fun he => ?_)
            · have he' : kk = i := by simp at he; omega
              subst he'
              rw [if_pos rfl] at hbu hmp hrl
              rw [hbu, hmp, hrl]
              (refine goSt ?_; (repeat (refine goAl ?_; intro p hp; refine goSt ?_)))
              have hsn := rowsZ_snoc (e := 3) (n := 1) (f := iC) (v := nilOV) (g := []) (vs := zs) (gs := allG h f.ids kk) (by omega)
              rw [hvl]
              (apply wl_mput keyN kk ((rtsG h kk).length : Int) Tryd.underlying143; exact rfl; exact goAtm; exact rfl; exact KeyV.val; exact (by omega); exact rfl; omega)
              (refine goSt ?_; (repeat (refine goAl ?_; intro p hp; refine goSt ?_)))
              (apply wl_litF vlC (xs := [nilOV]); exact inferInstance; exact inferInstance; exact inferInstance; (repeat (first | exact Elems.nil | (apply Elems.cons; exact rfl; exact inferInstance; exact rfl))); exact rfl; (first | exact (of_decide_eq_true rfl) | decide | (simp; done) | (simp; omega)); exact rfl)
              (first | (apply wl_append; exact rfl; exact rfl; exact goRm; exact inferInstance; exact inferInstance; (first | omega | (simp; omega)); exact rfl) | (apply wl_appendN; exact rfl; exact rfl; exact inferInstance; exact inferInstance; (first | omega | (simp; omega)); exact rfl))
              intro w2
              (refine goSt ?_; (repeat (refine goAl ?_; intro p hp; refine goSt ?_)))
              exact ⟨rfl, (w2, zs ++ [nilOV]), fun _ _ st => st_sub2 (st_repack hsn goRm goRm (st_nil 3 1 iC st)) goSubr goSubp, by simp [hvl]⟩
            · have he' : ¬ kk = i := by simp at he; omega
              rw [if_neg he', List.append_nil] at hbu hrl
              rw [if_neg he'] at hmp
              rw [hbu, hmp, hrl]
              (refine goSt ?_; (repeat (refine goAl ?_; intro p hp; refine goSt ?_)))
              exact ⟨rfl, (w, zs), fun _ _ st => st_sub2 st goSubr goSubp, hvl⟩
          · clear hvl hbu hal hrl
            rintro ⟨w, zs⟩ hvl
            dsimp only at hvl ⊢
            have hj := List.idxOf_lt_length_of_mem hhm
            have hjl : (rtsG h (i + 1)).idxOf kk ≤ 1000 := by have := rtsG_len h (i + 1); omega
            have hlk : lkA iG (.int .i64 0) (getM (atG h (i + 1)) kk) = .val (.int .i64 (((rtsG h (i + 1)).idxOf kk : Nat) : Int)) := by rw [hag]; rfl
            generalize (rtsG h (i + 1)).idxOf kk = j at hst hbg hj hjl hlk hag
            have hjz : j < zs.length := by omega
            obtain ⟨hjb, hge⟩ := List.getElem?_eq_some_iff.1 hbg
            clear hmp hag hml
            generalize hmE : atG h (i + 1) = m at hlk ⊢
            generalize baseG h f.ids i = bs at hst hbg hjb hge ⊢
            refine W_unpack (rowsZ_perm zs bs j hjz hjb) goRm ?_
            rw [hge]
            generalize grpG h f.ids i kk = g at hst hgl hge hbg ⊢
            have hkk2 : kk ≤ 1000000 := by omega
            have hjq : zs[j]? = some zs[j] := List.getElem?_eq_getElem hjz
            have hiq : f.ids[i]? = some f.ids[i] := List.getElem?_eq_getElem hin
            refine W_run 17 [69, 70, 71, 72, 73, 74, 75, 76, 77, 78, 79, 80, 81, 82, 83, 84, 85] [0, 1, 2, 3, 4, 5, 6, 7, 8, 9, 10, 11, 12, 13, 14, 15, 16] (Cut.cons (h := HA.row zs[j].1 3 1 iC g) goRm (Cut.nil)) rfl goFlt mixedS (by kernel_rfl) rfl ?_
            refine rpv [] [] ?_
            refine rpv [] [] ?_
            refine rpv [] [] ?_
            refine Run.pv [1, 2] [] rfl (fun vs => by apply ltr_pk; exact goPk; exact ltr_rd (h := mpI mv m) (LT_av (lt_look1 keyN Tryd.underlying143 (fun w => by kernel_rfl) kk rfl rfl KeyV.val hkk2) hlk) goAtm) goApp ?_
            refine rpv [] [] ?_
            refine rpv [] [] ?_
            refine rpv [] [] ?_
            refine Run.pv [5, 6] [] rfl (fun vs => by apply ltr_pk; exact goPk; exact ltr_rd (h := mpI mv m) (LT_av (lt_look1 keyN Tryd.underlying143 (fun w => by kernel_rfl) kk rfl rfl KeyV.val hkk2) hlk) goAtm) goApp ?_
            refine rpv [4, 7] [] ?_
            refine rpv [8] [] ?_
            refine rpv [] [] ?_
            refine rpv [10] [] ?_
            refine rpv [] [] ?_
            refine rpv [11, 12] [] ?_
            refine rpv [13] [] ?_
            refine Run.pv [14] [] rfl (fun vs => by apply ltr_pk; exact goPk; (refine ltr ?_; apply LT_frz; apply lt_lit (f := iC); (repeat (first | exact Elems.nil | (apply Elems.cons; exact rfl; exact inferInstance; exact rfl))); exact rfl; (first | exact (of_decide_eq_true rfl) | decide | (simp; done) | (simp; omega)))) goApp ?_
            refine Run.tok [9, 15] [1000] rfl (fun vs => by apply ltr_pk; exact goPk; (refine ltr ?_; apply lt_append; exact rfl; exact rfl; (first | omega | (simp; omega)))) goApp ?_
            refine ⟨⟨by kernel_rfl, by kernel_rfl⟩, fun vs => ?_⟩
            apply WL_auto [0, 3, 16]
            · exact goPk
            · exact goNrm
            · kernel_rfl
            · kernel_rfl
            generalize vs 16 = v2
            refine WL_one (v := v2) goAtm (fun hone => ?_)
            obtain ⟨ov, rfl⟩ : ∃ o : OV, v2 = o.1 := ⟨⟨v2, hone.out (fun _ => none) v2 rfl⟩, rfl⟩
            (refine goSt ?_; (repeat (refine goAl ?_; intro p hp; refine goSt ?_)))
            have hput := rowsZ_put (e := 3) (n := 1) (f := iC) zs bs j hjz hjb ov (g ++ [f.ids[i]])
            rw [← hst] at hput
            subst hmE
            refine ⟨(i + 1, w, zs.set j ov), fun _ _ st => st_sub2 (st_repack hput goRm goRm st) goSubr goSubp, ⟨hi', by simpa using hvl⟩, ?_⟩
            dsimp only; omega
        · have hii : i = f.ids.length := by simp at hlt2; omega
          subst hii
          have hz : zs.length = (allG h f.ids f.ids.length).length := by rw [hvl, allG_len]
          refine W_frzRows hz goRm goRm ?_
          (refine goSt ?_; (repeat (refine goAl ?_; intro p hp; refine goSt ?_)))
          (apply Res_frz 2; exact rfl; exact goRm)
          (apply resK2; exact rfl; exact rfl; exact rfl; exact ⟨rfl, rfl⟩; exact goCutl)
end Go.Proofs.YtihonljdanjfmaaDoor.Sw
namespace Go.Proofs.YtihonljdanjfmaaDoor.Sw
open Go.RowKit Go Go.Shelf Go.Proofs
set_option maxRecDepth 20000 in
theorem sameLists_con (xs ys : List (List Int)) (hl : xs.length ≤ 100000) (hl2 : ys.length ≤ 100000) (hx : ∀ x ∈ xs, x.length ≤ 100000) (hy : ∀ y ∈ ys, y.length ≤ 100000) : Con Tryd.prog 94 [.sl 1 (slC 1 iC) xs, .sl 1 (slC 1 iC) ys] [] (Is (.val (.bool (decide (xs = ys)))) []) := by
  refine con_of Tryd.func94 rfl (enters_of Tryd.func94 (by kernel_rfl) rfl) rfl ?_; intro n w0 F0 G0
  (refine goSt ?_; (repeat (refine goAl ?_; intro p hp; refine goSt ?_)))
  refine w_cond rfl (fun hne => ?_) (fun hne => ?_)
  · have hne' : xs ≠ ys := by intro e; rw [e] at hne; simp at hne
    (refine goSt ?_; (repeat (refine goAl ?_; intro p hp; refine goSt ?_)))
    (apply res1; exact rfl; exact rfl; exact ⟨(congrArg (fun b => AV.val (Value.bool b)) (by simp [hne'])), rfl⟩)
  · have hlen : xs.length = ys.length := by simp at hne; omega
    (refine goSt ?_; (repeat (refine goAl ?_; intro p hp; refine goSt ?_)))
    refine W_loopJ (fun (k : Nat) => ⟨[(0, .sl 1 (slC 1 iC) xs), (1, .sl 1 (slC 1 iC) ys), (5, .val (.int .i64 k))], []⟩) (fun k => k ≤ xs.length ∧ xs.take k = ys.take k) (fun k => xs.length - k) 0 (fun _ _ st => st_sub2 st goSubr goSubp) ?hj0 ?round
    case hj0 => simp
    case round =>
      rintro k ⟨hk, hall⟩
      (refine goSt ?_; (repeat (refine goAl ?_; intro p hp; refine goSt ?_)))
      refine w_cond rfl (fun hlt => ?_) (fun hlt => ?_)
      · have hlt' : k < xs.length := by simpa using hlt
        have hlt2 : k < ys.length := by omega
        have hq1 : xs[k]? = some xs[k] := List.getElem?_eq_getElem hlt'
        have hq2 : ys[k]? = some ys[k] := List.getElem?_eq_getElem hlt2
        have SC := sameInts_con xs[k] ys[k] (by have := hx _ (List.getElem_mem hlt'); omega) (by have := hy _ (List.getElem_mem hlt2); omega)
        (refine goSt ?_; (repeat (refine goAl ?_; intro p hp; refine goSt ?_)))
        refine W_run 8 [17, 18, 19, 20, 21, 22, 23, 24] [0, 1, 2, 3, 4, 5, 6, 7] Cut.nil rfl goFlt mixedS (by kernel_rfl) rfl ?_
        refine rpv [] [] ?_
        refine rpv [] [] ?_
        refine rpv [0, 1] [] ?_
        refine rpv [2] [] ?_
        refine rpv [] [] ?_
        refine rpv [] [] ?_
        refine rpv [4, 5] [] ?_
        refine rpv [6] [] ?_
        refine ⟨⟨by kernel_rfl, by kernel_rfl⟩, fun vs => ?_⟩
        apply WL_auto [3, 7]
        · exact goPk
        · exact goNrm
        · kernel_rfl
        · kernel_rfl
        (refine goSt ?_; (repeat (refine goAl ?_; intro p hp; refine goSt ?_)))
        (first | (apply wl_call (SC); exact rfl; exact rfl) | (apply wl_callR (SC); exact rfl; exact goAtm; exact rfl))
        (refine goSt ?_; (repeat (refine goAl ?_; intro p hp; refine goSt ?_)))
        refine w_cond rfl (fun hg => ?_) (fun hg => ?_)
        · have hne' : xs ≠ ys := by intro e; subst e; simp at hg
          (refine goSt ?_; (repeat (refine goAl ?_; intro p hp; refine goSt ?_)))
          (apply res1; exact rfl; exact rfl; exact ⟨(congrArg (fun b => AV.val (Value.bool b)) (by simp [hne'])), rfl⟩)
        · (refine goSt ?_; (repeat (refine goAl ?_; intro p hp; refine goSt ?_)))
          (refine ⟨k + 1, fun _ _ st => st_sub2 st ?_ ?_, ?_, ?_⟩; exact goSubr; exact goSubp)
          · refine ⟨by omega, ?_⟩
            rw [List.take_succ_eq_append_getElem hlt', List.take_succ_eq_append_getElem hlt2, hall]
            simp at hg; rw [hg]
          · omega
      · (refine goSt ?_; (repeat (refine goAl ?_; intro p hp; refine goSt ?_)))
        have hkk : k = xs.length := by simp at hlt; omega
        have he : xs = ys := by
          rw [List.take_of_length_le (by omega), List.take_of_length_le (by omega)] at hall; exact hall
        (apply res1; exact rfl; exact rfl; exact ⟨(congrArg (fun b => AV.val (Value.bool b)) (by simp [he])), rfl⟩)
theorem sameLists8_con (xs ys : List (List Int)) (hl : xs.length ≤ 100000) (hl2 : ys.length ≤ 100000) (hx : ∀ x ∈ xs, x.length ≤ 100000) (hy : ∀ y ∈ ys, y.length ≤ 100000) : Con Tryd.prog 44 [.sl 1 (slC 1 iC) xs, .sl 1 (slC 1 iC) ys] [] (Is (.val (.bool (decide (xs = ys)))) []) := by
  refine con_of Tryd.func44 rfl (enters_of Tryd.func44 (by kernel_rfl) rfl) rfl ?_; intro n w0 F0 G0
  (refine goSt ?_; (repeat (refine goAl ?_; intro p hp; refine goSt ?_)))
  (first | (apply wl_call (sameLists_con xs ys hl hl2 hx hy); exact rfl; exact rfl) | (apply wl_callR (sameLists_con xs ys hl hl2 hx hy); exact rfl; exact goAtm; exact rfl))
  (refine goSt ?_; (repeat (refine goAl ?_; intro p hp; refine goSt ?_)))
  (apply res1; exact rfl; exact rfl; exact ⟨rfl, rfl⟩)
set_option maxRecDepth 20000 in
set_option maxHeartbeats 4000000 in
theorem Groups8_con (f : Flo) (hS : Sml f) (hn : (stlN f).2 = 0 → f.ids.length ≤ 6) (SC : Con Tryd.prog 48 [.agg (flC f)] [] (Is (.tup [.sl 3 payC (stlN f).1, .val (.int .i64 (stlN f).2)]) [])) : Con Tryd.prog 41 [.agg (flC f)] [] (Is (.tup [.sl 1 (slC 1 iC) (grpN f).1, .val (.int .i64 (grpN f).2)]) []) := by
  have hll := stlN_len hS
  have hli := stlN_ids f
  unfold grpN
  generalize stlN f = r at SC hll hli hn ⊢
  obtain ⟨l, e⟩ := r
  dsimp only at SC hll hli hn ⊢
  refine con_of Tryd.func41 rfl (enters_of Tryd.func41 (by kernel_rfl) rfl) rfl ?_; intro n w0 F0 G0
  (refine goSt ?_; (repeat (refine goAl ?_; intro p hp; refine goSt ?_)))
  (first | (apply wl_call (SC); exact rfl; exact rfl) | (apply wl_callR (SC); exact rfl; exact goAtm; exact rfl))
  (refine goSt ?_; (repeat (refine goAl ?_; intro p hp; refine goSt ?_)))
  refine w_cond rfl (fun he => ?_) (fun he => ?_)
  · have he' : e ≠ 0 := by simpa using he
    rw [if_neg he']
    (refine goSt ?_; (repeat (refine goAl ?_; intro p hp; refine goSt ?_)))
    refine Res_nil 2 1 (slC 1 iC) rfl ?_
    (apply res2; exact rfl; exact rfl; exact rfl; exact ⟨rfl, rfl⟩)
  · have he' : e = 0 := by simpa using he
    rw [if_pos he']
    have GC := Grouped_con f l (hn he') hll hli
    (refine goSt ?_; (repeat (refine goAl ?_; intro p hp; refine goSt ?_)))
    (first | (apply wl_call (GC); exact rfl; exact rfl) | (apply wl_callR (GC); exact rfl; exact goAtm; exact rfl))
    (refine goSt ?_; (repeat (refine goAl ?_; intro p hp; refine goSt ?_)))
    (apply res2; exact rfl; exact rfl; exact rfl; exact ⟨rfl, rfl⟩)
end Go.Proofs.YtihonljdanjfmaaDoor.Sw
namespace Go.Proofs.YtihonljdanjfmaaDoor.Sw
open Go.RowKit Go Go.Shelf Go.Proofs
theorem grpN_len {f : Flo} (hn : f.ids.length ≤ 1000) : (grpN f).1.length ≤ 100000 ∧ ∀ x ∈ (grpN f).1, x.length ≤ 100000 := by
  unfold grpN
  split
  · unfold grG
    generalize Gr.headsR f.ids.length (prsG f (stlN f).1) = h
    refine ⟨?_, fun x hx => ?_⟩
    · rw [allG_len]; have := rtsG_len h f.ids.length; omega
    · obtain ⟨k, _, rfl⟩ := List.mem_map.1 hx
      have := grpG_len h f.ids f.ids.length k; omega
  · exact ⟨by simp, fun x hx => by cases hx⟩
set_option maxRecDepth 20000 in
set_option maxHeartbeats 8000000 in
theorem floorParts_con (f : Flo) (some : List Int) : Con Tryd.prog 7 [.agg (flC f), .sl 1 iC some] [tab8] (Is (.val (.bool true)) []) := by
  refine con_of Tryd.func7 rfl (enters_of Tryd.func7 (by kernel_rfl) rfl) rfl ?_; intro n w0 F0 G0
  (refine goSt ?_; (repeat (refine goAl ?_; intro p hp; refine goSt ?_)))
  (first | (apply wl_call (great8_con f); exact rfl; exact rfl) | (apply wl_callR (great8_con f); exact rfl; exact goAtm; exact rfl))
  (refine goSt ?_; (repeat (refine goAl ?_; intro p hp; refine goSt ?_)))
  by_cases hg : greatF f = true
  · refine wl_part rfl rfl (fun h => ?_) (fun h => absurd hg (by rw [h]; simp))
    (refine goSt ?_; (repeat (refine goAl ?_; intro p hp; refine goSt ?_)))
    (apply res1; exact rfl; exact rfl; exact ⟨rfl, rfl⟩)
  · refine wl_part rfl rfl (fun h => absurd h hg) (fun h => ?_)
    (refine goSt ?_; (repeat (refine goAl ?_; intro p hp; refine goSt ?_)))
    refine w_cond rfl (fun h2 => ?_) (fun h2 => ?_)
    · (refine goSt ?_; (repeat (refine goAl ?_; intro p hp; refine goSt ?_)))
      (apply res1; exact rfl; exact rfl; exact ⟨rfl, rfl⟩)
    · have hS := sml_small h
      have hl : some.length ≤ 10 := by simp at h2; omega
      obtain ⟨k, hk, hT⟩ := asked_told hS
      have hA : errL f = 0 → ∀ x ∈ lsF f, PayB x := fun he x hx => by
        obtain ⟨k, hk, hb⟩ := lsF_told hS he
        exact (hb x hx).payB (by omega)
      have hn : (stlN f).2 = 0 → f.ids.length ≤ 6 := fun he => by
        have he' : errL f = 0 := by
          unfold stlN at he
          split at he
          · assumption
          · exact he
        exact (flo_f (errL_ok he')).ids
      have D2 := Settle8_con f hS (fun l hl => (hT l hl).payB hk) fun a ha b hb => (hT a ha).len.trans (hT b hb).len.symm
      rw [← stl_eq hS] at D2
      have C1 := Groups_con f hS hA
      have D1 := Groups8_con f hS hn D2
      have C3 := Alone_con f some hS hl
      have D3 := Alone8_con f some hS hl
      have hgl := grpN_len (f := f) (by have := hS.ids; omega)
      clear D2
      generalize grpN f = r1 at *
      generalize aloR f some = r3 at *
      have q2 : ∀ n : Int, decide (n = n) = true := fun n => by simp
      have q3 : ∀ l : List (List Int), decide (l = l) = true := fun l => by simp
      have q4 : ∀ l : List Int, decide (l = l) = true := fun l => by simp
      have q5 : ∀ b : Bool, decide (b = b) = true := fun b => by simp
      clear hA hT hn
      (refine goSt ?_; (repeat (refine goAl ?_; intro p hp; refine goSt ?_)))
      (first | (apply wl_call (twin8_con f hS); exact rfl; exact rfl) | (apply wl_callR (twin8_con f hS); exact rfl; exact goAtm; exact rfl))
      (refine goSt ?_; (repeat (refine goAl ?_; intro p hp; refine goSt ?_)))
      (apply wl_lit iC; exact inferInstance; exact inferInstance; exact inferInstance; (repeat (first | exact Elems.nil | (apply Elems.cons; exact rfl; exact inferInstance; exact rfl))); exact rfl; (first | exact (of_decide_eq_true rfl) | decide | (simp; done) | (simp; omega)); exact rfl)
      intro v0
      (refine goSt ?_; (repeat (refine goAl ?_; intro p hp; refine goSt ?_)))
      (first | (apply wl_append; exact rfl; exact rfl; exact goRm; exact inferInstance; exact inferInstance; (first | omega | (simp; omega)); exact rfl) | (apply wl_appendN; exact rfl; exact rfl; exact inferInstance; exact inferInstance; (first | omega | (simp; omega)); exact rfl))
      intro v1
      rw [List.nil_append]
      (apply WL_frz 26; exact rfl; exact goRm)
      (refine goSt ?_; (repeat (refine goAl ?_; intro p hp; refine goSt ?_)))
      (first | (apply wl_call (C1); exact rfl; exact rfl) | (apply wl_callR (C1); exact rfl; exact goAtm; exact rfl))
      (refine goSt ?_; (repeat (refine goAl ?_; intro p hp; refine goSt ?_)))
      (first | (apply wl_call (D1); exact rfl; exact rfl) | (apply wl_callR (D1); exact rfl; exact goAtm; exact rfl))
      (refine goSt ?_; (repeat (refine goAl ?_; intro p hp; refine goSt ?_)))
      (first | (apply wl_call (C3); exact rfl; exact rfl) | (apply wl_callR (C3); exact rfl; exact goAtm; exact rfl))
      (refine goSt ?_; (repeat (refine goAl ?_; intro p hp; refine goSt ?_)))
      (first | (apply wl_call (D3); exact rfl; exact rfl) | (apply wl_callR (D3); exact rfl; exact goAtm; exact rfl))
      (refine goSt ?_; (repeat (refine goAl ?_; intro p hp; refine goSt ?_)))
      (first | (apply wl_call (sameLists8_con r1.1 r1.1 hgl.1 hgl.1 hgl.2 hgl.2); exact rfl; exact rfl) | (apply wl_callR (sameLists8_con r1.1 r1.1 hgl.1 hgl.1 hgl.2 hgl.2); exact rfl; exact goAtm; exact rfl))
      (refine goSt ?_; (repeat (refine goAl ?_; intro p hp; refine goSt ?_)))
      rw [q3]
      (refine goSt ?_; (repeat (refine goAl ?_; intro p hp; refine goSt ?_)))
      rw [q2]
      (refine goSt ?_; (repeat (refine goAl ?_; intro p hp; refine goSt ?_)))
      refine wl_ex (lt_eqlB Tryd.underlying4 rfl rfl) rfl ?_
      rw [show (r3.1 == r3.1) = true by simp]
      (refine goSt ?_; (repeat (refine goAl ?_; intro p hp; refine goSt ?_)))
      rw [q2]
      (refine goSt ?_; (repeat (refine goAl ?_; intro p hp; refine goSt ?_)))
      (first | (apply wl_call (same8_con f f hS hS); exact rfl; exact rfl) | (apply wl_callR (same8_con f f hS hS); exact rfl; exact goAtm; exact rfl))
      (refine goSt ?_; (repeat (refine goAl ?_; intro p hp; refine goSt ?_)))
      rw [show decide (f = f) = true by simp]
      (refine goSt ?_; (repeat (refine goAl ?_; intro p hp; refine goSt ?_)))
      (first | (apply wl_call (sameInts8_con some some (by omega) (by omega)); exact rfl; exact rfl) | (apply wl_callR (sameInts8_con some some (by omega) (by omega)); exact rfl; exact goAtm; exact rfl))
      (refine goSt ?_; (repeat (refine goAl ?_; intro p hp; refine goSt ?_)))
      rw [q4]
      (refine goSt ?_; (repeat (refine goAl ?_; intro p hp; refine goSt ?_)))
      (apply res1; exact rfl; exact rfl; exact ⟨rfl, rfl⟩)
end Go.Proofs.YtihonljdanjfmaaDoor.Sw
