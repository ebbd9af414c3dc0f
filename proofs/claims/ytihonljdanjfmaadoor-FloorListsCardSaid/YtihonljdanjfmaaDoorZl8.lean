/- Proofs for one card: FloorLh, FloorLi, FloorLj, FloorLk, FloorLl, SwN, FloorLm, FloorDd, FloorLn, FloorLo, FloorLq, FloorLr, FloorLs. No condition of its own. -/
import Derived.WideKeyEntry
import Derived.Test.YtihonljdanjfmaaDoorZl7
namespace Go.Proofs.YtihonljdanjfmaaDoor.Sw
open Go.RowKit Go Go.Shelf Go.Proofs
theorem fewTo_len {α : Type} {g : Nat → List α} {c : Nat} (h : ∀ k, (g k).length ≤ c) : ∀ m, (fewTo g m).length ≤ c
  | 0 => by simp [fewTo]
  | m + 1 => by
    rw [fewTo]
    split
    · exact h m
    · exact fewTo_len h m
/-- What the program finds. -/
noncomputable def lsF (f : Flo) : List (List Pay) := fewP f (owed8 f)
noncomputable def fewN (f : Flo) : Int × Int := if errL f = 0 then ((((lsF f).headD []).length : Int), 0) else (0, errL f)
noncomputable def cntN (f : Flo) : Int × Int := if errL f = 0 then (((lsF f).length : Int), 0) else (0, errL f)
noncomputable def stlN (f : Flo) : List Pay × Int := if errL f = 0 then (((lsF f).foldl bstS none).getD [], 0) else ([], errL f)
theorem lsF_ne {f : Flo} (h : errL f = 0) : lsF f ≠ [] := by
  intro e
  unfold errL at h
  unfold lsF at e
  split at h
  · rw [e] at h; exact absurd h (by decide)
  · exact absurd h (by decide)
theorem lsF_len {f : Flo} (h : errL f = 0) : (lsF f).length ≤ 32768 := by
  have hok : floOk f = true := by
    unfold errL at h
    split at h
    · assumption
    · exact absurd h (by decide)
  exact fewTo_len (fun k => lsts_len (owed8 f) k (flo_f hok).ids) _
theorem bstS_some : ∀ {xs : List (List Pay)} {b : Option (List Pay)}, (xs ≠ [] ∨ b.isSome = true) → (xs.foldl bstS b).isSome = true
  | [], b, h => h.elim (fun h => absurd rfl h) id
  | x :: t, b, _ => by
    rw [List.foldl_cons]
    refine bstS_some (.inr ?_)
    unfold bstS
    cases b with
    | none => rfl
    | some y => dsimp only; split <;> rfl
set_option maxRecDepth 20000 in
theorem Fewest_con (f : Flo) (hS : Sml f) : Con Tryd.prog 45 [.agg (flC f)] [tab8] (Is (.tup [.val (.int .i64 (fewN f).1), .val (.int .i64 (fewN f).2)]) [tab8]) := by
  by_cases he : errL f = 0
  · have C := askedOk_con f hS he
    have hne := lsF_ne he
    have hl := lsF_len he
    unfold fewN
    rw [if_pos he]
    unfold lsF at hne hl ⊢
    generalize fewP f (owed8 f) = xs at C hne hl ⊢
    obtain ⟨x, t, rfl⟩ := List.exists_cons_of_ne_nil hne
    have h0 : 0 < (x :: t).length := Nat.succ_pos _
    refine con_of Tryd.func45 rfl (enters_of Tryd.func45 (by kernel_rfl) rfl) rfl ?_; intro n w0 F0 G0
    (refine goSt ?_; (repeat (refine goAl ?_; intro p hp; refine goSt ?_)))
    (apply wl_callP (C); exact rfl; exact goCutl; exact rfl)
    rintro _ _ ⟨ph, ow, rfl, rfl⟩
    (refine goSt ?_; (repeat (refine goAl ?_; intro p hp; refine goSt ?_)))
    (apply resK2; exact rfl; exact rfl; exact rfl; exact ⟨rfl, rfl⟩; exact goCutl)
  · have C := askedErr_con f hS he
    unfold fewN
    rw [if_neg he]
    generalize errL f = e at C he ⊢
    refine con_of Tryd.func45 rfl (enters_of Tryd.func45 (by kernel_rfl) rfl) rfl ?_; intro n w0 F0 G0
    (refine goSt ?_; (repeat (refine goAl ?_; intro p hp; refine goSt ?_)))
    (apply wl_callP (C); exact rfl; exact goCutl; exact rfl)
    rintro _ _ ⟨rfl, rfl⟩
    (refine goSt ?_; (repeat (refine goAl ?_; intro p hp; refine goSt ?_)))
    refine w_cond rfl (fun h => ?_) (fun h => ?_)
    · (refine goSt ?_; (repeat (refine goAl ?_; intro p hp; refine goSt ?_)))
      (apply resK2; exact rfl; exact rfl; exact rfl; exact ⟨rfl, rfl⟩; exact goCutl)
    · exact absurd (by simpa using h) he
set_option maxRecDepth 20000 in
theorem Count_con (f : Flo) (hS : Sml f) : Con Tryd.prog 51 [.agg (flC f)] [tab8] (Is (.tup [.val (.int .i64 (cntN f).1), .val (.int .i64 (cntN f).2)]) [tab8]) := by
  by_cases he : errL f = 0
  · have C := askedOk_con f hS he
    have hl := lsF_len he
    unfold cntN
    rw [if_pos he]
    unfold lsF at hl ⊢
    generalize fewP f (owed8 f) = xs at C hl ⊢
    refine con_of Tryd.func51 rfl (enters_of Tryd.func51 (by kernel_rfl) rfl) rfl ?_; intro n w0 F0 G0
    (refine goSt ?_; (repeat (refine goAl ?_; intro p hp; refine goSt ?_)))
    (apply wl_callP (C); exact rfl; exact goCutl; exact rfl)
    rintro _ _ ⟨ph, ow, rfl, rfl⟩
    (refine goSt ?_; (repeat (refine goAl ?_; intro p hp; refine goSt ?_)))
    (apply resK2; exact rfl; exact rfl; exact rfl; exact ⟨rfl, rfl⟩; exact goCutl)
  · have C := askedErr_con f hS he
    unfold cntN
    rw [if_neg he]
    generalize errL f = e at C he ⊢
    refine con_of Tryd.func51 rfl (enters_of Tryd.func51 (by kernel_rfl) rfl) rfl ?_; intro n w0 F0 G0
    (refine goSt ?_; (repeat (refine goAl ?_; intro p hp; refine goSt ?_)))
    (apply wl_callP (C); exact rfl; exact goCutl; exact rfl)
    rintro _ _ ⟨rfl, rfl⟩
    (refine goSt ?_; (repeat (refine goAl ?_; intro p hp; refine goSt ?_)))
    (apply resK2; exact rfl; exact rfl; exact rfl; exact ⟨rfl, rfl⟩; exact goCutl)
set_option maxRecDepth 20000 in
theorem Settle_con (f : Flo) (hS : Sml f) (hB : errL f = 0 → ∀ x ∈ lsF f, PayB x) : Con Tryd.prog 47 [.agg (flC f)] [tab8] (Is (.tup [.sl 3 payC (stlN f).1, .val (.int .i64 (stlN f).2)]) [tab8]) := by
  by_cases he : errL f = 0
  · have C := askedOk_con f hS he
    have hB := hB he
    have hl := lsF_len he
    have hne := lsF_ne he
    unfold stlN
    rw [if_pos he]
    unfold lsF at hl hB hne ⊢
    generalize fewP f (owed8 f) = xs at C hl hB hne ⊢
    have FC := firstL_con xs (by omega) hB
    have hs := bstS_some (b := none) (.inl hne)
    generalize xs.foldl bstS none = o at FC hs ⊢
    obtain ⟨y, rfl⟩ := Option.isSome_iff_exists.1 hs
    dsimp only [opA, Option.isSome, Option.getD] at FC ⊢
    refine con_of Tryd.func47 rfl (enters_of Tryd.func47 (by kernel_rfl) rfl) rfl ?_; intro n w0 F0 G0
    (refine goSt ?_; (repeat (refine goAl ?_; intro p hp; refine goSt ?_)))
    (apply wl_callP (C); exact rfl; exact goCutl; exact rfl)
    rintro _ _ ⟨ph, ow, rfl, rfl⟩
    (refine goSt ?_; (repeat (refine goAl ?_; intro p hp; refine goSt ?_)))
    (first | (apply wl_call (values_con xs); exact rfl; exact rfl) | (apply wl_callR (values_con xs); exact rfl; exact goAtm; exact rfl))
    (refine goSt ?_; (repeat (refine goAl ?_; intro p hp; refine goSt ?_)))
    (first | (apply wl_call (FC); exact rfl; exact rfl) | (apply wl_callR (FC); exact rfl; exact goAtm; exact rfl))
    (refine goSt ?_; (repeat (refine goAl ?_; intro p hp; refine goSt ?_)))
    (apply resK2; exact rfl; exact rfl; exact rfl; exact ⟨rfl, rfl⟩; exact goCutl)
  · have C := askedErr_con f hS he
    unfold stlN
    rw [if_neg he]
    generalize errL f = e at C he ⊢
    refine con_of Tryd.func47 rfl (enters_of Tryd.func47 (by kernel_rfl) rfl) rfl ?_; intro n w0 F0 G0
    (refine goSt ?_; (repeat (refine goAl ?_; intro p hp; refine goSt ?_)))
    (apply wl_callP (C); exact rfl; exact goCutl; exact rfl)
    rintro _ _ ⟨rfl, rfl⟩
    (refine goSt ?_; (repeat (refine goAl ?_; intro p hp; refine goSt ?_)))
    refine w_cond rfl (fun h => ?_) (fun h => ?_)
    · (refine goSt ?_; (repeat (refine goAl ?_; intro p hp; refine goSt ?_)))
      refine Res_nil 2 3 payC rfl ?_
      (apply resK2; exact rfl; exact rfl; exact rfl; exact ⟨rfl, rfl⟩; exact goCutl)
    · exact absurd (by simpa using h) he
end Go.Proofs.YtihonljdanjfmaaDoor.Sw
namespace Go.Proofs.YtihonljdanjfmaaDoor.Sw
open Go.RowKit Go Go.Shelf Go.Proofs
/-- The pence of all lists, as they come up. -/
noncomputable def sumsTo (f : Flo) (cu : List Int) : Nat → List Int
  | 0 => []
  | m + 1 => sumsTo f cu m ++ (lstsR f cu m).map sumPay
theorem sumsTo_pre {f : Flo} {cu : List Int} {a : Nat} : ∀ {m : Nat}, a ≤ m → sumsTo f cu a <+: sumsTo f cu m
  | 0, h => by obtain rfl : a = 0 := by omega
               exact List.prefix_refl _
  | m + 1, h => by
    by_cases e : a = m + 1
    · subst e; exact List.prefix_refl _
    · exact (sumsTo_pre (m := m) (by omega)).trans (List.prefix_append _ _)
def siC (x : Int) (_ : Unit) : List AV := [.val (.int .i64 x)]
def HX {β βx : Type} (H : β → List HA) (Hx : βx → List HA) (b : Nat × (β ⊕ βx)) : List HA := match b.2 with | .inl b => [.pack (H b)] | .inr b => [.pack (Hx b)]
set_option maxRecDepth 20000 in
set_option maxHeartbeats 8000000 in
theorem sums_iter (ph ow : Value) [One (.val ph)] (f : Flo) (cu : List Int) (hok : floOk f = true) (hql : f.qs.length ≤ 1000) (hcl : cu.length = f.ids.length) (hbt : Btw (-1000000000) 1000000000 cu) (hB : ∀ m, m ≤ 5 → ∀ l ∈ lstsR f cu m, PayB l) :
    Iter Tryd.prog 101 [.fp 4 (flC f), .fp 1 [.val ph]] [hsB ph f ow, .row ow 3 1 iC cu] siC (fun _ _ => []) (sumsTo f cu (max 1 f.ids.length)) := by
  have hn := (flo_f hok).ids
  have hmx : (max (1 : Int) (f.ids.length : Int)) = ((max 1 f.ids.length : Nat) : Int) := by omega
  have hmx6 : max 1 f.ids.length ≤ 6 := by omega
  generalize max 1 f.ids.length = mx at hmx hmx6 ⊢
  refine ⟨fun yv β βx H Hx I Ix hone hY b0 hI0 => ?_⟩
  refine con_of Tryd.func101 rfl (enters_of Tryd.func101 (by kernel_rfl) rfl) rfl ?_; intro n w0 F0 G0
  (refine goSt ?_; (repeat (refine goAl ?_; intro p hp; refine goSt ?_)))
  (apply W_frzb 3 1; exact rfl; exact goRm)
  (refine goSt ?_; (repeat (refine goAl ?_; intro p hp; refine goSt ?_)))
  rw [hmx]
  refine W_loopJ (fun (b : Nat × β) => ⟨[(3, .fp 1 [.val yv]), (1, .fp 4 (flC f)), (2, .fp 1 [.val ph]), (9, .val (.int .i64 mx)), (10, .val (.int .i64 b.1))], [hsB ph f ow, .row ow 3 1 iC cu, .pack (H b.2)]⟩) (fun b => b.1 ≤ mx ∧ I (sumsTo f cu b.1).length b.2) (fun b => mx - b.1) (0, b0) (fun _ _ st => st_sub2 st goSubr goSubp) ⟨Nat.zero_le _, hI0⟩ ?_
  rintro ⟨i, b⟩ ⟨hi, hI⟩
  dsimp only at hi hI ⊢
  (refine goSt ?_; (repeat (refine goAl ?_; intro p hp; refine goSt ?_)))
  refine w_cond rfl (fun hlt => ?_) (fun hlt => ?_)
  · have hi' : i < mx := by simpa using hlt
    have IT := lists_iter ph ow f cu i hok hql (by omega) hcl hbt
    have hBi := hB i (by omega)
    obtain ⟨s, hs⟩ := sumsTo_pre (f := f) (cu := cu) (show i + 1 ≤ mx from hi')
    have hsu : sumsTo f cu (i + 1) = sumsTo f cu i ++ (lstsR f cu i).map sumPay := rfl
    rw [hsu, List.append_assoc] at hs
    (refine goSt ?_; (repeat (refine goAl ?_; intro p hp; refine goSt ?_)))
    (first | (apply wl_call (lists_con ph i); exact rfl; exact rfl) | (apply wl_callR (lists_con ph i); exact rfl; exact goAtm; exact rfl))
    (refine goSt ?_; (repeat (refine goAl ?_; intro p hp; refine goSt ?_)))
    refine W_range (own := [hsB ph f ow, .row ow 3 1 iC cu]) (by exact rfl) IT goCutl (fun k (b : Nat × (β ⊕ βx)) => ∃ b', b = (k, .inl b') ∧ I ((sumsTo f cu i).length + k) b') (HX H Hx) (fun e b => e = .ret ∧ ∃ k b', b = (k, .inr b') ∧ 0 < k ∧ k ≤ (sumsTo f cu mx).length ∧ Ix k b') (fun _ b => HX H Hx b) (0, .inl b) ⟨b, rfl, hI⟩ goSubp (by intro _ _ _; exact rfl) (by exact rfl) ?_ ?_ ?_
    · intro lr m w1 F1 G1 hrec k hk b u hI
      obtain ⟨b', rfl, hI⟩ := hI
      have hkk : (sumsTo f cu i).length + k < (sumsTo f cu mx).length := by
        rw [← hs, List.length_append, List.length_append, List.length_map]; omega
      have hx0 : (sumsTo f cu mx)[(sumsTo f cu i).length + k] = sumPay (lstsR f cu i)[k] := by
        apply Option.some.inj
        rw [← List.getElem?_eq_getElem hkk, ← hs, List.getElem?_append_right (by omega), Nat.add_sub_cancel_left, List.getElem?_append_left (by rw [List.length_map]; exact hk), List.getElem?_map, List.getElem?_eq_getElem hk]
        rfl
      have Y := hY _ hkk b' () hI
      rw [hx0] at Y
      have SC := sum_con _ (hBi _ (List.getElem_mem hk))
      dsimp only [zipR, lsC, HX, List.cons_append, List.nil_append]
      generalize (lstsR f cu i)[k] = x at SC Y ⊢
      (refine goSt ?_; (repeat (refine goAl ?_; intro p hp; refine goSt ?_)))
      intro w2 F2 G2 hrec2
      (refine goSt ?_; (repeat (refine goAl ?_; intro p hp; refine goSt ?_)))
      refine W_run 3 [17, 18, 19] [0, 1, 2] Cut.nil rfl goFlt mixedS (by kernel_rfl) rfl ?_
      refine Run.pv [] [] rfl (fun vs => by apply ltr_pk; exact goPk; (refine ltr ?_; apply lt_loadE1'; exact rfl; exact rfl; exact rfl)) goApp ?_
      refine rpv [] [] ?_
      refine Run.pv [1] [] rfl (fun vs => by apply ltr_pk; exact goPk; (refine ltr ?_; refine lt_call ?_ (SC); exact rfl)) goApp ?_
      refine ⟨⟨by kernel_rfl, by kernel_rfl⟩, fun vs => ?_⟩
      apply WL_auto [0, 2]
      · exact goPk
      · exact goNrm
      · kernel_rfl
      · kernel_rfl
      (refine goSt ?_; (repeat (refine goAl ?_; intro p hp; refine goSt ?_)))
      (apply wl_yield Y; exact rfl; exact rfl; exact goCutl; exact rfl)
      rintro _ _ (⟨rfl, b2, hb2, rfl⟩ | ⟨rfl, b2, hb2, rfl⟩)
      · (refine goSt ?_; (repeat (refine goAl ?_; intro p hp; refine goSt ?_)))
        refine ⟨(k + 1, .inl b2), ⟨b2, rfl, hb2⟩, fun a w st => st_sub2 st goSubr goSubp⟩
      · (refine goSt ?_; (repeat (refine goAl ?_; intro p hp; refine goSt ?_)))
        refine ⟨(_, .inr b2), ⟨rfl, _, b2, rfl, by omega, by omega, hb2⟩, fun a w st => st_sub2 st goSubr goSubp⟩
    · rintro _ ⟨b', rfl, hI⟩
      dsimp only [HX]
      (repeat (first | refine th_norm ?_ | refine th_exit ?_ | refine th_ret ?_ | refine bl_norm ?_ | refine bl_eq ?_ | refine bl_ne rfl ?_ | refine bl_ret ?_ | refine rt_norm ?_ | refine rt_ret ?_))
      (refine goSt ?_; (repeat (refine goAl ?_; intro p hp; refine goSt ?_)))
      (refine ⟨(i + 1, b'), fun _ _ st => st_sub2 st ?_ ?_, ?_, ?_⟩; exact goSubr; exact goSubp)
      · exact ⟨hi', by rw [hsu, List.length_append, List.length_map]; exact hI⟩
      · dsimp only; omega
    · rintro _ _ _ ⟨rfl, k, b', rfl, h1, h2, h3⟩
      dsimp only [HX]
      (repeat (first | refine th_norm ?_ | refine th_exit ?_ | refine th_ret ?_ | refine bl_norm ?_ | refine bl_eq ?_ | refine bl_ne rfl ?_ | refine bl_ret ?_ | refine rt_norm ?_ | refine rt_ret ?_))
      (apply resK0; exact rfl; exact .inr ⟨k, b', h1, h2, h3, rfl⟩; exact goCutl)
  · have hii : i = mx := by simp at hlt; omega
    subst hii
    (refine goSt ?_; (repeat (refine goAl ?_; intro p hp; refine goSt ?_)))
    (apply resK0; exact rfl; exact .inl ⟨b, hI, rfl⟩; exact goCutl)
end Go.Proofs.YtihonljdanjfmaaDoor.Sw
namespace Go.Proofs.YtihonljdanjfmaaDoor.Sw
open Go.RowKit Go Go.Shelf Go.Proofs
set_option maxRecDepth 20000 in
theorem cheap2_con (x y : Int) : Con Tryd.prog 104 [.val (.int .i64 x), .val (.int .i64 y)] [] (Is (.val (.int .i64 (cmpR x y))) []) := by
  refine con_of Tryd.func104 rfl (enters_of Tryd.func104 (by kernel_rfl) rfl) rfl ?_; intro n w0 F0 G0
  (refine goSt ?_; (repeat (refine goAl ?_; intro p hp; refine goSt ?_)))
  (first | (apply wl_call (compare_con x y); exact rfl; exact rfl) | (apply wl_callR (compare_con x y); exact rfl; exact goAtm; exact rfl))
  (refine goSt ?_; (repeat (refine goAl ?_; intro p hp; refine goSt ?_)))
  (apply res1; exact rfl; exact rfl; exact ⟨rfl, rfl⟩)
def bstJ (b : Option Int) (x : Int) : Option Int := match b with | none => some x | some y => if cmpR x y < 0 then some x else some y
set_option maxRecDepth 20000 in
set_option maxHeartbeats 4000000 in
theorem firstI_con {g : FuncId} {caps : List AV} (ph ow : Value) (f : Flo) (cu : List Int) (xs : List Int) (IT : Iter Tryd.prog g caps [hsB ph f ow, .row ow 3 1 iC cu] siC (fun _ _ => []) xs) : Con Tryd.prog 100 [.clo g caps, .clo 104 []] [hsB ph f ow, .row ow 3 1 iC cu] (Is (.tup [.val (.int .i64 ((xs.foldl bstJ none).getD 0)), .val (.bool (xs.foldl bstJ none).isSome)]) [hsB ph f ow, .row ow 3 1 iC cu]) := by
  refine con_of Tryd.func100 rfl (enters_of Tryd.func100 (by kernel_rfl) rfl) rfl ?_; intro n w0 F0 G0
  (refine goSt ?_; (repeat (refine goAl ?_; intro p hp; refine goSt ?_)))
  rename_i p3 hp3 p6 hp6
  refine W_range (own := [hsB ph f ow, .row ow 3 1 iC cu]) (by exact rfl) IT goCutl (fun k (b : Nat × Option Int) => b.1 = k ∧ b.2 = (xs.take k).foldl bstJ none) (fun b => [.box p6 [.val (.int .i64 (b.2.getD 0))] 3, .box p [.val (.bool b.2.isSome)] 4, .box p3 [.clo 104 []] 131]) (fun _ _ => False) (fun _ _ => []) (0, none) ⟨rfl, rfl⟩ goSubp (by intro _ _ _; exact rfl) (by exact rfl) ?_ ?_ (fun _ _ _ h => h.elim)
  · intro lr m w1 F1 G1 hrec k hk b u hI
    obtain ⟨j, o⟩ := b
    obtain ⟨hI, ho⟩ := hI
    dsimp only at hI ho
    subst hI
    dsimp only [zipR, siC, List.cons_append, List.nil_append]
    have hst : (xs.take (j + 1)).foldl bstJ none = bstJ o xs[j] := by rw [List.take_succ_eq_append_getElem hk, List.foldl_append, ← ho]; rfl
    cases o with
    | none =>
      dsimp only [Option.isSome, Option.getD]
      unfold bstJ at hst
      dsimp only at hst
      (refine goSt ?_; (repeat (refine goAl ?_; intro p hp; refine goSt ?_)))
      intro w2 F2 G2 hrec2
      (refine goSt ?_; (repeat (refine goAl ?_; intro p hp; refine goSt ?_)))
      refine ⟨(j + 1, some xs[j]), ⟨rfl, hst.symm⟩, fun a w st => st_sub2 st goSubr goSubp⟩
    | some y =>
      dsimp only [Option.isSome, Option.getD]
      unfold bstJ at hst
      dsimp only at hst
      (refine goSt ?_; (repeat (refine goAl ?_; intro p hp; refine goSt ?_)))
      intro w2 F2 G2 hrec2
      (refine goSt ?_; (repeat (refine goAl ?_; intro p hp; refine goSt ?_)))
      (apply wl_callV0 (cheap2_con xs[j] y); exact rfl; exact rfl; exact rfl)
      (refine goSt ?_; (repeat (refine goAl ?_; intro p hp; refine goSt ?_)))
      refine w_cond rfl (fun hlt => ?_) (fun hlt => ?_)
      · rw [if_pos (of_decide_eq_true hlt)] at hst
        (refine goSt ?_; (repeat (refine goAl ?_; intro p hp; refine goSt ?_)))
        refine ⟨(j + 1, some xs[j]), ⟨rfl, hst.symm⟩, fun a w st => st_sub2 st goSubr goSubp⟩
      · rw [if_neg (of_decide_eq_false hlt)] at hst
        (refine goSt ?_; (repeat (refine goAl ?_; intro p hp; refine goSt ?_)))
        refine ⟨(j + 1, some y), ⟨rfl, hst.symm⟩, fun a w st => st_sub2 st goSubr goSubp⟩
  · rintro ⟨j, o⟩ ⟨hI, ho⟩
    dsimp only at hI ho
    subst hI
    dsimp only
    rw [List.take_length] at ho
    rw [← ho]
    clear ho
    (repeat (first | refine th_norm ?_ | refine th_exit ?_ | refine th_ret ?_ | refine bl_norm ?_ | refine bl_eq ?_ | refine bl_ne rfl ?_ | refine bl_ret ?_ | refine rt_norm ?_ | refine rt_ret ?_))
    (refine goSt ?_; (repeat (refine goAl ?_; intro p hp; refine goSt ?_)))
    refine W_run 3 [21, 22, 4] [0, 1, 2] Cut.nil rfl goFlt mixedS (by kernel_rfl) rfl ?_
    refine rpv [] [] ?_
    refine rpv [] [] ?_
    refine rpv [0] [] ?_
    refine ⟨⟨by kernel_rfl, by kernel_rfl⟩, fun vs => ?_⟩
    apply WL_auto [1, 2]
    · exact goPk
    · exact goNrm
    · kernel_rfl
    · kernel_rfl
    (refine goSt ?_; (repeat (refine goAl ?_; intro p hp; refine goSt ?_)))
    (refine goSt ?_; (repeat (refine goAl ?_; intro p hp; refine goSt ?_)))
    (apply resK2; exact rfl; exact rfl; exact rfl; exact ⟨rfl, rfl⟩; exact goCutl)
noncomputable def chpN (f : Flo) : Int × Int := if errL f = 0 then (((sumsTo f (owed8 f) (max 1 f.ids.length)).foldl bstJ none).getD 0, 0) else (0, errL f)
theorem errL_ok {f : Flo} (h : errL f = 0) : floOk f = true := by
  unfold errL at h
  split at h
  · assumption
  · exact absurd h (by decide)
set_option maxRecDepth 20000 in
theorem Cheapest_con (f : Flo) (hS : Sml f) (hB : errL f = 0 → ∀ m, m ≤ 5 → ∀ l ∈ lstsR f (owed8 f) m, PayB l) : Con Tryd.prog 49 [.agg (flC f)] [tab8] (Is (.tup [.val (.int .i64 (chpN f).1), .val (.int .i64 (chpN f).2)]) [tab8]) := by
  by_cases he : errL f = 0
  · have C := askedOk_con f hS he
    have hB := hB he
    have hok := errL_ok he
    have hF := flo_f hok
    have hqsl := hS.qs
    unfold chpN
    rw [if_pos he]
    refine con_of Tryd.func49 rfl (enters_of Tryd.func49 (by kernel_rfl) rfl) rfl ?_; intro n w0 F0 G0
    (refine goSt ?_; (repeat (refine goAl ?_; intro p hp; refine goSt ?_)))
    (apply wl_callP (C); exact rfl; exact goCutl; exact rfl)
    rintro _ _ ⟨ph, ow, rfl, rfl⟩
    apply WL_oneB At.here
    intro hone
    have IT := sums_iter ph ow f (owed8 f) hok (by omega) (owed8_len f) ((owed8_btw hF hS).mono (by omega) (by omega)) hB
    have FC := firstI_con ph ow f (owed8 f) _ IT
    generalize sumsTo f (owed8 f) (max 1 f.ids.length) = xs at FC ⊢
    (refine goSt ?_; (repeat (refine goAl ?_; intro p hp; refine goSt ?_)))
    (apply WL_frzC 19 0 4; exact rfl; exact rfl; exact goRm)
    (apply WL_frzC 19 1 1; exact rfl; exact rfl; exact goRm)
    (refine goSt ?_; (repeat (refine goAl ?_; intro p hp; refine goSt ?_)))
    (apply wl_callP (FC); exact rfl; exact goCutl; exact rfl)
    rintro _ _ ⟨rfl, rfl⟩
    (refine goSt ?_; (repeat (refine goAl ?_; intro p hp; refine goSt ?_)))
    (apply resK2; exact rfl; exact rfl; exact rfl; exact ⟨rfl, rfl⟩; exact goCutl)
  · have C := askedErr_con f hS he
    unfold chpN
    rw [if_neg he]
    generalize errL f = e at C he ⊢
    refine con_of Tryd.func49 rfl (enters_of Tryd.func49 (by kernel_rfl) rfl) rfl ?_; intro n w0 F0 G0
    (refine goSt ?_; (repeat (refine goAl ?_; intro p hp; refine goSt ?_)))
    (apply wl_callP (C); exact rfl; exact goCutl; exact rfl)
    rintro _ _ ⟨rfl, rfl⟩
    (refine goSt ?_; (repeat (refine goAl ?_; intro p hp; refine goSt ?_)))
    refine w_cond rfl (fun h => ?_) (fun h => ?_)
    · (refine goSt ?_; (repeat (refine goAl ?_; intro p hp; refine goSt ?_)))
      (apply resK2; exact rfl; exact rfl; exact rfl; exact ⟨rfl, rfl⟩; exact goCutl)
    · exact absurd (by simpa using h) he
end Go.Proofs.YtihonljdanjfmaaDoor.Sw
namespace Go.Proofs.YtihonljdanjfmaaDoor.Sw
open Go.RowKit Go Go.Shelf Go.Proofs
open Go.Proofs.YtihonljdanjfmaaDoor.Gr (payLt)
def fewN8 (f : Flo) : Int × Int := if (askR f).2.2 = 0 then ((((askR f).1.headD []).length : Int), 0) else (0, (askR f).2.2)
def cntN8 (f : Flo) : Int × Int := ((((askR f).1).length : Int), (askR f).2.2)
def chpN8 (f : Flo) : Int × Int := if (askR f).2.2 = 0 then ((askR f).2.1, 0) else (0, (askR f).2.2)
theorem askR_ne {f : Flo} (h : (askR f).2.2 = 0) : (askR f).1 ≠ [] := by
  unfold askR at h ⊢
  split
  · rename_i hok
    rw [if_pos hok] at h
    split
    · rename_i he
      rw [if_pos he] at h
      exact absurd h (by decide)
    · rename_i he
      intro e
      dsimp only at e
      rw [e] at he
      exact he rfl
  · rename_i hok
    rw [if_neg hok] at h
    exact absurd h (by decide)
theorem askR_len (f : Flo) : (askR f).1.length ≤ 32768 := by
  unfold askR
  split
  · rename_i hok
    split
    · simp
    · exact fewTo_len (fun k => Nat.le_trans (List.length_filterMap_le _ _) (by simp; exact pow15 (prR_15 _ (flo_f hok).ids))) 6
  · simp
set_option maxRecDepth 20000 in
theorem Fewest8_con (f : Flo) (hS : Sml f) : Con Tryd.prog 46 [.agg (flC f)] [] (Is (.tup [.val (.int .i64 (fewN8 f).1), .val (.int .i64 (fewN8 f).2)]) []) := by
  have C := asked8_con f hS
  have hne := askR_ne (f := f)
  have hl := askR_len f
  unfold fewN8
  generalize askR f = r at C hne hl ⊢
  obtain ⟨a, b, c⟩ := r
  unfold askA at C
  dsimp only at C hne hl ⊢
  refine con_of Tryd.func46 rfl (enters_of Tryd.func46 (by kernel_rfl) rfl) rfl ?_; intro n w0 F0 G0
  (refine goSt ?_; (repeat (refine goAl ?_; intro p hp; refine goSt ?_)))
  (first | (apply wl_call (C); exact rfl; exact rfl) | (apply wl_callR (C); exact rfl; exact goAtm; exact rfl))
  (refine goSt ?_; (repeat (refine goAl ?_; intro p hp; refine goSt ?_)))
  refine w_cond rfl (fun he => ?_) (fun he => ?_)
  · have he' : c ≠ 0 := by simpa using he
    rw [if_neg he']
    (refine goSt ?_; (repeat (refine goAl ?_; intro p hp; refine goSt ?_)))
    (apply res2; exact rfl; exact rfl; exact rfl; exact ⟨rfl, rfl⟩)
  · have he' : c = 0 := by simpa using he
    rw [if_pos he']
    obtain ⟨x, t, rfl⟩ := List.exists_cons_of_ne_nil (hne he')
    have h0 : 0 < (x :: t).length := Nat.succ_pos _
    (refine goSt ?_; (repeat (refine goAl ?_; intro p hp; refine goSt ?_)))
    (apply res2; exact rfl; exact rfl; exact rfl; exact ⟨rfl, rfl⟩)
set_option maxRecDepth 20000 in
theorem Count8_con (f : Flo) (hS : Sml f) : Con Tryd.prog 52 [.agg (flC f)] [] (Is (.tup [.val (.int .i64 (cntN8 f).1), .val (.int .i64 (cntN8 f).2)]) []) := by
  have C := asked8_con f hS
  have hl := askR_len f
  unfold cntN8
  generalize askR f = r at C hl ⊢
  obtain ⟨a, b, c⟩ := r
  unfold askA at C
  dsimp only at C hl ⊢
  refine con_of Tryd.func52 rfl (enters_of Tryd.func52 (by kernel_rfl) rfl) rfl ?_; intro n w0 F0 G0
  (refine goSt ?_; (repeat (refine goAl ?_; intro p hp; refine goSt ?_)))
  (first | (apply wl_call (C); exact rfl; exact rfl) | (apply wl_callR (C); exact rfl; exact goAtm; exact rfl))
  (refine goSt ?_; (repeat (refine goAl ?_; intro p hp; refine goSt ?_)))
  (apply res2; exact rfl; exact rfl; exact rfl; exact ⟨rfl, rfl⟩)
set_option maxRecDepth 20000 in
theorem Cheapest8_con (f : Flo) (hS : Sml f) : Con Tryd.prog 50 [.agg (flC f)] [] (Is (.tup [.val (.int .i64 (chpN8 f).1), .val (.int .i64 (chpN8 f).2)]) []) := by
  have C := asked8_con f hS
  unfold chpN8
  generalize askR f = r at C ⊢
  obtain ⟨a, b, c⟩ := r
  unfold askA at C
  dsimp only at C ⊢
  refine con_of Tryd.func50 rfl (enters_of Tryd.func50 (by kernel_rfl) rfl) rfl ?_; intro n w0 F0 G0
  (refine goSt ?_; (repeat (refine goAl ?_; intro p hp; refine goSt ?_)))
  (first | (apply wl_call (C); exact rfl; exact rfl) | (apply wl_callR (C); exact rfl; exact goAtm; exact rfl))
  (refine goSt ?_; (repeat (refine goAl ?_; intro p hp; refine goSt ?_)))
  refine w_cond rfl (fun he => ?_) (fun he => ?_)
  · have he' : c ≠ 0 := by simpa using he
    rw [if_neg he']
    (refine goSt ?_; (repeat (refine goAl ?_; intro p hp; refine goSt ?_)))
    (apply res2; exact rfl; exact rfl; exact rfl; exact ⟨rfl, rfl⟩)
  · have he' : c = 0 := by simpa using he
    rw [if_pos he']
    (refine goSt ?_; (repeat (refine goAl ?_; intro p hp; refine goSt ?_)))
    (apply res2; exact rfl; exact rfl; exact rfl; exact ⟨rfl, rfl⟩)
theorem pay_eq {x y : Pay} (h : x.a = y.a ∧ x.b = y.b ∧ x.p = y.p) : x = y := by
  cases x; cases y; simp_all
def ltL : List Pay → List Pay → Bool
  | x :: s, y :: t => if x ≠ y then payLt x y else ltL s t
  | [], _ => false
  | _ :: _, [] => false
theorem ltL_2 (x y : Pay) (s t : List Pay) : ltL (x :: s) (y :: t) = if x ≠ y then payLt x y else ltL s t := rfl
theorem ltL_1 (t : List Pay) : ltL [] t = false := rfl
def befR (a b : List Pay) : Bool := if sumPay a ≠ sumPay b then decide (sumPay a < sumPay b) else ltL a b
set_option maxRecDepth 20000 in
set_option maxHeartbeats 4000000 in
theorem Before8_con (a b : List Pay) (ha : PayB a) (hb : PayB b) (hab : a.length ≤ b.length) : Con Tryd.prog 99 [.sl 3 payC a, .sl 3 payC b] [] (Is (.val (.bool (befR a b))) []) := by
  have hal := ha.len
  have hbl := hb.len
  unfold befR
  refine con_of Tryd.func99 rfl (enters_of Tryd.func99 (by kernel_rfl) rfl) rfl ?_; intro n w0 F0 G0
  (refine goSt ?_; (repeat (refine goAl ?_; intro p hp; refine goSt ?_)))
  (first | (apply wl_call (Sum8_con a ha.len ha.bd); exact rfl; exact rfl) | (apply wl_callR (Sum8_con a ha.len ha.bd); exact rfl; exact goAtm; exact rfl))
  (refine goSt ?_; (repeat (refine goAl ?_; intro p hp; refine goSt ?_)))
  (first | (apply wl_call (Sum8_con b hb.len hb.bd); exact rfl; exact rfl) | (apply wl_callR (Sum8_con b hb.len hb.bd); exact rfl; exact goAtm; exact rfl))
  (refine goSt ?_; (repeat (refine goAl ?_; intro p hp; refine goSt ?_)))
  refine w_cond rfl (fun hs => ?_) (fun hs => ?_)
  · rw [if_pos (by simpa using hs)]
    (refine goSt ?_; (repeat (refine goAl ?_; intro p hp; refine goSt ?_)))
    (first | (apply wl_call (Sum8_con a ha.len ha.bd); exact rfl; exact rfl) | (apply wl_callR (Sum8_con a ha.len ha.bd); exact rfl; exact goAtm; exact rfl))
    (refine goSt ?_; (repeat (refine goAl ?_; intro p hp; refine goSt ?_)))
    (first | (apply wl_call (Sum8_con b hb.len hb.bd); exact rfl; exact rfl) | (apply wl_callR (Sum8_con b hb.len hb.bd); exact rfl; exact goAtm; exact rfl))
    (refine goSt ?_; (repeat (refine goAl ?_; intro p hp; refine goSt ?_)))
    (apply res1; exact rfl; exact rfl; exact ⟨rfl, rfl⟩)
  · rw [if_neg (by simpa using hs)]
    (refine goSt ?_; (repeat (refine goAl ?_; intro p hp; refine goSt ?_)))
    refine W_loopJ (fun (k : Nat) => ⟨[(0, .sl 3 payC a), (1, .sl 3 payC b), (5, .val (.int .i64 k))], []⟩) (fun k => k ≤ a.length ∧ ltL (a.drop k) (b.drop k) = ltL a b) (fun k => a.length - k) 0 (fun _ _ st => st_sub2 st goSubr goSubp) ⟨Nat.zero_le _, rfl⟩ ?_
    rintro k ⟨hk, hc⟩
    (refine goSt ?_; (repeat (refine goAl ?_; intro p hp; refine goSt ?_)))
    refine w_cond rfl (fun hlt => ?_) (fun hlt => ?_)
    · have hlt' : k < a.length := by simpa using hlt
      have hkb' : k < b.length := by omega
      rw [drop_step hlt', drop_step hkb', ltL_2] at hc
      have hq1 : a[k]? = some a[k] := List.getElem?_eq_getElem hlt'
      have hq2 : b[k]? = some b[k] := List.getElem?_eq_getElem hkb'
      (refine goSt ?_; (repeat (refine goAl ?_; intro p hp; refine goSt ?_)))
      refine W_run 8 [22, 23, 24, 25, 26, 27, 28, 29] [0, 1, 2, 3, 4, 5, 6, 7] Cut.nil rfl goFlt mixedS (by kernel_rfl) rfl ?_
      refine rpv [] [] ?_
      refine rpv [] [] ?_
      refine rpv [0, 1] [] ?_
      refine rpv [2] [] ?_
      refine rpv [] [] ?_
      refine rpv [] [] ?_
      refine rpv [4, 5] [] ?_
      refine rpv [6] [] ?_
      refine ⟨⟨by kernel_rfl, by kernel_rfl⟩, fun vs => ?_⟩
      apply WL_auto [3, 7]
      · exact goPk
      · exact goNrm
      · kernel_rfl
      · kernel_rfl
      (refine goSt ?_; (repeat (refine goAl ?_; intro p hp; refine goSt ?_)))
      (refine goSt ?_; (repeat (refine goAl ?_; intro p hp; refine goSt ?_)))
      refine w_cond rfl (fun hz => ?_) (fun hz => ?_)
      · rw [if_pos (fun e => by rw [e] at hz; simp at hz)] at hc
        rw [← hc]
        (refine goSt ?_; (repeat (refine goAl ?_; intro p hp; refine goSt ?_)))
        refine W_run 8 [31, 32, 33, 34, 35, 36, 37, 38] [0, 1, 2, 3, 4, 5, 6, 7] Cut.nil rfl goFlt mixedS (by kernel_rfl) rfl ?_
        refine rpv [] [] ?_
        refine rpv [] [] ?_
        refine rpv [0, 1] [] ?_
        refine rpv [2] [] ?_
        refine rpv [] [] ?_
        refine rpv [] [] ?_
        refine rpv [4, 5] [] ?_
        refine rpv [6] [] ?_
        refine ⟨⟨by kernel_rfl, by kernel_rfl⟩, fun vs => ?_⟩
        apply WL_auto [3, 7]
        · exact goPk
        · exact goNrm
        · kernel_rfl
        · kernel_rfl
        (refine goSt ?_; (repeat (refine goAl ?_; intro p hp; refine goSt ?_)))
        (first | (apply wl_call (less8_con a[k] b[k]); exact rfl; exact rfl) | (apply wl_callR (less8_con a[k] b[k]); exact rfl; exact goAtm; exact rfl))
        (refine goSt ?_; (repeat (refine goAl ?_; intro p hp; refine goSt ?_)))
        (apply res1; exact rfl; exact rfl; exact ⟨rfl, rfl⟩)
      · rw [if_neg (fun h => h (pay_eq (by simpa using hz)))] at hc
        (refine goSt ?_; (repeat (refine goAl ?_; intro p hp; refine goSt ?_)))
        (refine ⟨k + 1, fun _ _ st => st_sub2 st ?_ ?_, ?_, ?_⟩; exact goSubr; exact goSubp)
        · exact ⟨hlt', hc⟩
        · omega
    · have hke : k = a.length := by simp at hlt; omega
      have e2 : a.drop k = [] := List.drop_eq_nil_of_le (by omega)
      rw [e2, ltL_1] at hc
      rw [← hc]
      (refine goSt ?_; (repeat (refine goAl ?_; intro p hp; refine goSt ?_)))
      (apply res1; exact rfl; exact rfl; exact ⟨rfl, rfl⟩)
def bst8 (xs : List (List Pay)) : List Pay := xs.foldl (fun b x => if befR x b = true then x else b) (xs.headD [])
def stlN8 (f : Flo) : List Pay × Int := if (askR f).2.2 = 0 then (bst8 (askR f).1, 0) else ([], (askR f).2.2)
theorem bst8_mem {xs : List (List Pay)} {b y : List Pay} (h : xs.foldl (fun b x => if befR x b = true then x else b) b = y) : y ∈ xs ∨ y = b := by
  induction xs generalizing b with
  | nil => exact .inr h.symm
  | cons x t ih =>
    rcases ih h with h1 | h1
    · exact .inl (by simp [h1])
    · dsimp only at h1
      split at h1
      · exact .inl (by simp [h1])
      · exact .inr h1
set_option maxRecDepth 20000 in
set_option maxHeartbeats 4000000 in
theorem Settle8_con (f : Flo) (hS : Sml f) (hB : ∀ l ∈ (askR f).1, PayB l) (hE : ∀ a ∈ (askR f).1, ∀ b ∈ (askR f).1, a.length = b.length) : Con Tryd.prog 48 [.agg (flC f)] [] (Is (.tup [.sl 3 payC (stlN8 f).1, .val (.int .i64 (stlN8 f).2)]) []) := by
  have C := asked8_con f hS
  have hne := askR_ne (f := f)
  have hl := askR_len f
  unfold stlN8
  generalize askR f = r at C hne hl hB hE ⊢
  obtain ⟨xs, ch, c⟩ := r
  unfold askA at C
  dsimp only at C hne hl hB hE ⊢
  refine con_of Tryd.func48 rfl (enters_of Tryd.func48 (by kernel_rfl) rfl) rfl ?_; intro n w0 F0 G0
  (refine goSt ?_; (repeat (refine goAl ?_; intro p hp; refine goSt ?_)))
  (first | (apply wl_call (C); exact rfl; exact rfl) | (apply wl_callR (C); exact rfl; exact goAtm; exact rfl))
  (refine goSt ?_; (repeat (refine goAl ?_; intro p hp; refine goSt ?_)))
  refine w_cond rfl (fun he => ?_) (fun he => ?_)
  · have he' : c ≠ 0 := by simpa using he
    rw [if_neg he']
    (refine goSt ?_; (repeat (refine goAl ?_; intro p hp; refine goSt ?_)))
    refine Res_nil 2 3 payC rfl ?_
    (apply res2; exact rfl; exact rfl; exact rfl; exact ⟨rfl, rfl⟩)
  · have he' : c = 0 := by simpa using he
    rw [if_pos he']
    have h0 : 0 < xs.length := List.length_pos_iff.2 (hne he')
    have hh : xs.headD [] = xs[0] := by
      obtain ⟨x, t, rfl⟩ := List.exists_cons_of_ne_nil (hne he')
      rfl
    unfold bst8
    rw [hh]
    (refine goSt ?_; (repeat (refine goAl ?_; intro p hp; refine goSt ?_)))
    refine W_loopJ (fun (b : Nat × List Pay) => ⟨[(22, .sl 1 plC xs), (23, .val (.int .i64 xs.length)), (24, .val (.int .i64 b.1)), (7, .sl 3 payC b.2)], []⟩) (fun b => b.1 ≤ xs.length ∧ (xs.take b.1).foldl (fun b x => if befR x b = true then x else b) xs[0] = b.2) (fun b => xs.length - b.1) (0, xs[0]) (fun _ _ st => st_sub2 st goSubr goSubp) ⟨Nat.zero_le _, rfl⟩ ?_
    rintro ⟨k, b⟩ ⟨hk, hb⟩
    dsimp only at hk hb ⊢
    (refine goSt ?_; (repeat (refine goAl ?_; intro p hp; refine goSt ?_)))
    refine w_cond rfl (fun hlt => ?_) (fun hlt => ?_)
    · have hlt' : k < xs.length := by simpa using hlt
      have hbm : b ∈ xs := by
        rcases bst8_mem hb with h | h
        · exact List.mem_of_mem_take h
        · rw [h]; exact List.getElem_mem h0
      have hxm := List.getElem_mem hlt'
      have BC := Before8_con xs[k] b (hB _ hxm) (hB _ hbm) (Nat.le_of_eq (hE _ hxm _ hbm))
      have hst : (xs.take (k + 1)).foldl (fun b x => if befR x b = true then x else b) xs[0] = if befR xs[k] b = true then xs[k] else b := by rw [List.take_succ_eq_append_getElem hlt', List.foldl_append, hb]; rfl
      (refine goSt ?_; (repeat (refine goAl ?_; intro p hp; refine goSt ?_)))
      (first | (apply wl_call (BC); exact rfl; exact rfl) | (apply wl_callR (BC); exact rfl; exact goAtm; exact rfl))
      (refine goSt ?_; (repeat (refine goAl ?_; intro p hp; refine goSt ?_)))
      refine w_cond rfl (fun hg => ?_) (fun hg => ?_)
      · rw [if_pos hg] at hst
        (refine goSt ?_; (repeat (refine goAl ?_; intro p hp; refine goSt ?_)))
        (refine ⟨(k + 1, xs[k]), fun _ _ st => st_sub2 st ?_ ?_, ?_, ?_⟩; exact goSubr; exact goSubp)
        · exact ⟨hlt', hst⟩
        · dsimp only; omega
      · rw [if_neg (by rw [hg]; simp)] at hst
        (refine goSt ?_; (repeat (refine goAl ?_; intro p hp; refine goSt ?_)))
        (refine ⟨(k + 1, b), fun _ _ st => st_sub2 st ?_ ?_, ?_, ?_⟩; exact goSubr; exact goSubp)
        · exact ⟨hlt', hst⟩
        · dsimp only; omega
    · have hkk : k = xs.length := by simp at hlt; omega
      subst hkk
      rw [List.take_length] at hb
      rw [hb]
      (refine goSt ?_; (repeat (refine goAl ?_; intro p hp; refine goSt ?_)))
      (apply res2; exact rfl; exact rfl; exact rfl; exact ⟨rfl, rfl⟩)
def hasP (l : List Pay) (x : Pay) : Bool := l.any fun y => decide (x = y)
set_option maxRecDepth 20000 in
theorem Has8_con (l : List Pay) (x : Pay) (hl : l.length ≤ 1000000) : Con Tryd.prog 108 [.sl 3 payC l, .agg (payC x)] [] (Is (.val (.bool (hasP l x))) []) := by
  refine con_of Tryd.func108 rfl (enters_of Tryd.func108 (by kernel_rfl) rfl) rfl ?_; intro n w0 F0 G0
  (refine goSt ?_; (repeat (refine goAl ?_; intro p hp; refine goSt ?_)))
  refine W_loopJ (fun (k : Nat) => ⟨[(3, .val p), (7, .sl 3 payC l), (8, .val (.int .i64 l.length)), (9, .val (.int .i64 k))], [.box p (payC x) 53]⟩) (fun k => k ≤ l.length ∧ hasP (l.take k) x = false) (fun k => l.length - k) 0 (fun _ _ st => st_sub2 st goSubr goSubp) ⟨Nat.zero_le _, rfl⟩ ?_
  rintro k ⟨hk, hno⟩
  (refine goSt ?_; (repeat (refine goAl ?_; intro p hp; refine goSt ?_)))
  refine w_cond rfl (fun hlt => ?_) (fun hlt => ?_)
  · have hlt' : k < l.length := by simpa using hlt
    have hst : hasP (l.take (k + 1)) x = (decide (x = l[k])) := by unfold hasP at hno ⊢; rw [List.take_succ_eq_append_getElem hlt', List.any_append, hno]; simp
    (refine goSt ?_; (repeat (refine goAl ?_; intro p hp; refine goSt ?_)))
    refine w_cond rfl (fun hg => ?_) (fun hg => ?_)
    · have e : x = l[k] := pay_eq (by simpa using hg)
      have hy : hasP l x = true := List.any_eq_true.2 ⟨l[k], List.getElem_mem hlt', decide_eq_true e⟩
      rw [hy]
      (refine goSt ?_; (repeat (refine goAl ?_; intro p hp; refine goSt ?_)))
      (apply res1; exact rfl; exact rfl; exact ⟨rfl, rfl⟩)
    · have e : x ≠ l[k] := fun e => by rw [← e] at hg; simp at hg
      (refine goSt ?_; (repeat (refine goAl ?_; intro p hp; refine goSt ?_)))
      (refine ⟨k + 1, fun _ _ st => st_sub2 st ?_ ?_, ?_, ?_⟩; exact goSubr; exact goSubp)
      · exact ⟨hlt', by rw [hst]; exact decide_eq_false e⟩
      · omega
  · have hkk : k = l.length := by simp at hlt; omega
    subst hkk
    rw [List.take_length] at hno
    rw [hno]
    (refine goSt ?_; (repeat (refine goAl ?_; intro p hp; refine goSt ?_)))
    (apply res1; exact rfl; exact rfl; exact ⟨rfl, rfl⟩)
end Go.Proofs.YtihonljdanjfmaaDoor.Sw
namespace Go.Proofs.YtihonljdanjfmaaDoor.Sw
open Go.RowKit Go Go.Shelf Go.Proofs
def sur8 (xs : List (List Pay)) : List Pay := (xs.headD []).filter fun x => xs.all fun y => hasP y x
def surN8 (f : Flo) : List Pay × Int := if (askR f).2.2 = 0 then (sur8 (askR f).1, 0) else ([], (askR f).2.2)
set_option maxRecDepth 20000 in
set_option maxHeartbeats 8000000 in
theorem Sure8_con (f : Flo) (hS : Sml f) (hB : ∀ l ∈ (askR f).1, PayB l) : Con Tryd.prog 54 [.agg (flC f)] [] (Is (.tup [.sl 3 payC (surN8 f).1, .val (.int .i64 (surN8 f).2)]) []) := by
  have C := asked8_con f hS
  have hne := askR_ne (f := f)
  have hl := askR_len f
  unfold surN8
  generalize askR f = r at C hne hl hB ⊢
  obtain ⟨xs, ch, c⟩ := r
  unfold askA at C
  dsimp only at C hne hl hB ⊢
  refine con_of Tryd.func54 rfl (enters_of Tryd.func54 (by kernel_rfl) rfl) rfl ?_; intro n w0 F0 G0
  (refine goSt ?_; (repeat (refine goAl ?_; intro p hp; refine goSt ?_)))
  (first | (apply wl_call (C); exact rfl; exact rfl) | (apply wl_callR (C); exact rfl; exact goAtm; exact rfl))
  (refine goSt ?_; (repeat (refine goAl ?_; intro p hp; refine goSt ?_)))
  refine w_cond rfl (fun he => ?_) (fun he => ?_)
  · have he' : c ≠ 0 := by simpa using he
    rw [if_neg he']
    (refine goSt ?_; (repeat (refine goAl ?_; intro p hp; refine goSt ?_)))
    refine Res_nil 2 3 payC rfl ?_
    (apply res2; exact rfl; exact rfl; exact rfl; exact ⟨rfl, rfl⟩)
  · have he' : c = 0 := by simpa using he
    rw [if_pos he']
    have h0 : 0 < xs.length := List.length_pos_iff.2 (hne he')
    have hh : xs.headD [] = xs[0] := by
      obtain ⟨x, t, rfl⟩ := List.exists_cons_of_ne_nil (hne he')
      rfl
    have hl0 := (hB _ (List.getElem_mem h0)).len
    unfold sur8
    rw [hh]
    (refine goSt ?_; (repeat (refine goAl ?_; intro p hp; refine goSt ?_)))
    generalize xs[0] = l at hl0 ⊢
    refine W_loopJ (fun (b : Nat × Value) => ⟨[(4, .sl 1 plC xs), (24, .sl 3 payC l), (25, .val (.int .i64 l.length)), (26, .val (.int .i64 b.1)), (7, .val b.2)], [.row b.2 53 3 payC ((l.take b.1).filter fun x => xs.all fun y => hasP y x)]⟩) (fun b => b.1 ≤ l.length) (fun b => l.length - b.1) (0, .slice none 0 0) (fun _ _ st => st_sub2 (st_nil 53 3 payC st) goSubr goSubp) (Nat.zero_le _) ?_
    rintro ⟨k, v⟩ hk
    dsimp only at hk ⊢
    (refine goSt ?_; (repeat (refine goAl ?_; intro p hp; refine goSt ?_)))
    refine w_cond rfl (fun hlt => ?_) (fun hlt => ?_)
    · have hlt' : k < l.length := by simpa using hlt
      have hfl : ((l.take k).filter fun x => xs.all fun y => hasP y x).length ≤ 1000 := Nat.le_trans (List.length_filter_le _ _) (by rw [List.length_take]; omega)
      have hst : (l.take (k + 1)).filter (fun x => xs.all fun y => hasP y x) = (l.take k).filter (fun x => xs.all fun y => hasP y x) ++ (if xs.all (fun y => hasP y l[k]) = true then [l[k]] else []) := by
        rw [List.take_succ_eq_append_getElem hlt', List.filter_append, List.filter_cons]
        split
        · rename_i h; simp [h]
        · rename_i h; simp [h]
      generalize hF : (fun x => xs.all fun y => hasP y x) = F at hst hfl ⊢
      (refine goSt ?_; (repeat (refine goAl ?_; intro p hp; refine goSt ?_)))
      generalize hX : l[k] = x at hst ⊢
      refine W_loopJ (fun (b : Nat × Bool) => ⟨[(4, .sl 1 plC xs), (24, .sl 3 payC l), (25, .val (.int .i64 l.length)), (26, .val (.int .i64 k)), (7, .val v), (9, .val p), (30, .sl 1 plC xs), (31, .val (.int .i64 xs.length)), (32, .val (.int .i64 b.1)), (10, .val (.bool b.2))], [.row v 53 3 payC ((l.take k).filter F), .box p (payC x) 53]⟩) (fun b => b.1 ≤ xs.length ∧ b.2 = (xs.take b.1).all (fun y => hasP y x)) (fun b => xs.length - b.1) (0, true) (fun _ _ st => st_sub2 st goSubr goSubp) ⟨Nat.zero_le _, rfl⟩ ?_
      rintro ⟨m, b⟩ ⟨hm, hb⟩
      dsimp only at hm hb ⊢
      (refine goSt ?_; (repeat (refine goAl ?_; intro p hp; refine goSt ?_)))
      refine w_cond rfl (fun hlt2 => ?_) (fun hlt2 => ?_)
      · have hlt2' : m < xs.length := by simpa using hlt2
        have HC := Has8_con xs[m] x (Nat.le_trans (hB _ (List.getElem_mem hlt2')).len (by omega))
        have hst2 : (xs.take (m + 1)).all (fun y => hasP y x) = (b && hasP xs[m] x) := by rw [List.take_succ_eq_append_getElem hlt2', List.all_append, ← hb]; simp
        cases b with
        | false =>
          (refine goSt ?_; (repeat (refine goAl ?_; intro p hp; refine goSt ?_)))
          (refine ⟨(m + 1, false), fun _ _ st => st_sub2 st ?_ ?_, ?_, ?_⟩; exact goSubr; exact goSubp)
          · exact ⟨hlt2', by rw [hst2]; rfl⟩
          · dsimp only; omega
        | true =>
          (refine goSt ?_; (repeat (refine goAl ?_; intro p hp; refine goSt ?_)))
          (first | (apply wl_call (HC); exact rfl; exact rfl) | (apply wl_callR (HC); exact rfl; exact goAtm; exact rfl))
          (refine goSt ?_; (repeat (refine goAl ?_; intro p hp; refine goSt ?_)))
          (refine ⟨(m + 1, hasP xs[m] x), fun _ _ st => st_sub2 st ?_ ?_, ?_, ?_⟩; exact goSubr; exact goSubp)
          · exact ⟨hlt2', by rw [hst2]; rfl⟩
          · dsimp only; omega
      · have hmm : m = xs.length := by simp at hlt2; omega
        subst hmm
        rw [List.take_length] at hb
        rw [← hb] at hst
        cases b with
        | false =>
          rw [if_neg (by simp), List.append_nil] at hst
          rw [← hst]
          (refine goSt ?_; (repeat (refine goAl ?_; intro p hp; refine goSt ?_)))
          (refine ⟨(k + 1, v), fun _ _ st => st_sub2 st ?_ ?_, ?_, ?_⟩; exact goSubr; exact goSubp)
          · dsimp only; omega
          · dsimp only; omega
        | true =>
          rw [if_pos rfl] at hst
          (refine goSt ?_; (repeat (refine goAl ?_; intro p hp; refine goSt ?_)))
          (apply wl_litF payC; exact inferInstance; exact inferInstance; exact inferInstance; (repeat (first | exact Elems.nil | (apply Elems.cons; exact rfl; exact inferInstance; exact rfl))); exact rfl; (first | exact (of_decide_eq_true rfl) | decide | (simp; done) | (simp; omega)); exact rfl)
          (first | (apply wl_append; exact rfl; exact rfl; exact goRm; exact inferInstance; exact inferInstance; (first | omega | (simp; omega)); exact rfl) | (apply wl_appendN; exact rfl; exact rfl; exact inferInstance; exact inferInstance; (first | omega | (simp; omega)); exact rfl))
          intro v2
          rw [← hst]
          (refine goSt ?_; (repeat (refine goAl ?_; intro p hp; refine goSt ?_)))
          (refine ⟨(k + 1, v2), fun _ _ st => st_sub2 st ?_ ?_, ?_, ?_⟩; exact goSubr; exact goSubp)
          · dsimp only; omega
          · dsimp only; omega
    · have hkk : k = l.length := by simp at hlt; omega
      subst hkk
      rw [List.take_length]
      (refine goSt ?_; (repeat (refine goAl ?_; intro p hp; refine goSt ?_)))
      (apply Res_frz 2; exact rfl; exact goRm)
      (apply res2; exact rfl; exact rfl; exact rfl; exact ⟨rfl, rfl⟩)
end Go.Proofs.YtihonljdanjfmaaDoor.Sw
namespace Go.Proofs.YtihonljdanjfmaaDoor.Sw
open Go.RowKit Go
open Go.WideElems (Fit)
open Go.ChangeMaps (setBlock heap_setBlock_same heap_setBlock_other)
/-- A drawn region, from a state with these operations done. -/
structure WA (c : Cx) (ops : Array Oper) (j : Nat) (D : Array Bool) (s : S) (Q : Exit → S → Prop) : Prop where
  out : ∀ a w, St c s a w → wpAnyIn c.F c.n c.P .any ops (Post c Q) j D a w
theorem WA_done {c : Cx} {ops : Array Oper} {j : Nat} {D : Array Bool} {s : S} {Q : Exit → S → Prop} (hr : Region.ready .any ops D = []) (h : Q .normal s) : WA c ops j D s Q :=
  ⟨fun _ _ st => wpAnyIn_done hr ⟨s, st, h⟩ j⟩
def Each (p : Nat → Prop) : List Nat → Prop
  | [] => True
  | i :: t => p i ∧ Each p t
theorem Each.mem {p : Nat → Prop} : ∀ {l : List Nat}, Each p l → ∀ i ∈ l, p i
  | _ :: _, h, i, hi => by
    rcases List.mem_cons.1 hi with rfl | hi
    · exact h.1
    · exact Each.mem h.2 i hi
theorem wpIn_q {F : Fence} {n : Nat} {P : Program} {o : Oper} {a : Act} {w : World} {K : Act → World → Prop} {Q Q' : Exit → Act → World → Prop} (hq : ∀ e a w, e ≠ .normal → Q' e a w → Q e a w) (hl : LetsOut Q' → LetsOut Q) (hh : o.wpIn F n P a w K Q') : o.wpIn F n P a w K Q := by
  unfold Oper.wpIn at *
  refine ⟨hh.1, ?_⟩
  have hh := hh.2
  generalize (o.semAt F.round a.eval).run P w = r at *
  cases r with
  | ok x w' =>
    cases x <;> simp only [Oper.uponIn] at hh ⊢ <;>
      first
        | exact hh
        | exact ⟨hh.1, CallsIn.mono hh.2 (fun e w'' he => by cases e <;> first | exact he | exact hq _ _ _ (by simp) he | exact hl he)⟩
        | exact ⟨hh.1, RoundIn.mono hh.2 (fun e w'' he => by cases e <;> first | exact he | exact hq _ _ _ (by simp) he | exact hl he)⟩
  | halt x w' => cases x <;> simp only [Oper.uponIn] at hh ⊢ <;> first | exact hh | exact hq _ _ _ (by simp) hh
/-- At the end so, else as before. -/
def norQ (Q : Exit → S → Prop) (K : S → Prop) : Exit → S → Prop
  | .normal, s => K s
  | e, s => Q e s
/-- One operation more. -/
def StepA (c : Cx) (ops : Array Oper) (j : Nat) (D : Array Bool) (s : S) (Q : Exit → S → Prop) (i : Nat) : Prop :=
  ∃ o, ops[i]? = some o ∧ WL c ops [o] s (norQ Q fun s' => WA c ops j (D.setIfInBounds i true) s' Q)
theorem WA_go {c : Cx} {ops : Array Oper} {j : Nat} {D : Array Bool} {s : S} {Q : Exit → S → Prop} (rs : List Nat) (hr : Region.ready .any ops D = rs) (hne : rs ≠ []) (h : Each (StepA c ops j D s Q) rs) : WA c ops (j + 1) D s Q :=
  ⟨fun a w st => wpAnyIn_all hr hne fun i hi => by
    obtain ⟨o, ho, hw⟩ := h.mem i hi
    have hl := hw.out a w st
    unfold wpListIn at hl
    unfold wpOpIn
    simp only [ho]
    have key : ∀ a w, wpListIn c.F c.n c.P ops (Post c (norQ Q fun s' => WA c ops j (D.setIfInBounds i true) s' Q)) [] a w → wpAnyIn c.F c.n c.P .any ops (Post c Q) j (D.setIfInBounds i true) a w := fun a w h => by
      obtain ⟨s', st', h2⟩ := h
      exact WA.out h2 a w st'
    have hq : ∀ e a w, e ≠ Exit.normal → Post c (norQ Q fun s' => WA c ops j (D.setIfInBounds i true) s' Q) e a w → Post c Q e a w := fun e a w hne ⟨s', st', h2⟩ => ⟨s', st', by cases e <;> first | exact absurd rfl hne | exact h2⟩
    split
    · rename_i hw2
      rw [if_pos hw2] at hl
      exact Oper.wpIn_mono key (wpIn_q hq (fun ⟨a, w, h⟩ => ⟨a, w, hq _ _ _ (by simp) h⟩) hl)
    · rename_i hw2
      rw [if_neg hw2] at hl
      exact ⟨hl.1, key _ _ hl.2⟩⟩
theorem nor_norm {Q : Exit → S → Prop} {K : S → Prop} {s : S} (h : K s) : norQ Q K .normal s := h
theorem W_all {c : Cx} {Q : Exit → S → Prop} {id : Nat} {l : List Oper} {rs : List (Nat × AV)} {hs : List HA} (hm : c.P.follows .mixedOrders = true) (h : WA c l.toArray l.length (Array.replicate l.length false) ⟨rs, hs⟩ Q) : W c (.region id l.toArray true) ⟨rs, hs⟩ Q := ⟨fun a w st => by
  refine wpIn_region_any hm ?_
  simp only [List.size_toArray]
  refine h.out a _ ?_
  obtain ⟨G, F, hI, hF, r⟩ := st
  have hF' : Fr c.w0 w c.F0 F c.G0 G := hF
  exact ⟨G, F, ⟨hI.gin, hI.nd, hI.own, hsP.loc (w := w) (fun _ _ => rfl) hI.hs⟩, ⟨hF'.os, hF'.tape, hF'.output, hF'.size, hF'.same, hF'.newF, hF'.gle, hF'.newG⟩, r⟩⟩
section
variable {P : Program} {κ α : Type} [DecidableEq κ] {t : TypeId} {kv : κ → Value} {ok : κ → Prop} {g : α → AV} {l : List (κ × α)} {G : Nat → Option Obj} {F : List Nat} {w : World} {v : Value}
/-- A map whose entry of a key was asked for: by its stamp. -/
def HA.mpE {κ α : Type} (P : Program) (v : Value) (t : TypeId) (kv : κ → Value) (g : α → AV) (l : List (κ × α)) (k : κ) (st : Nat) : HA :=
  ⟨fun G F w => (HA.mp P v t kv g l).P G F w ∧ ∃ b es clock, ∃ j : Nat, ∃ e0 : MapEntry, v = .map (some b) ∧ F = [b] ∧ w.heap[b]? = some (.map es clock) ∧ es.toList[j]? = some e0 ∧ e0.key = kv k ∧ e0.born = st,
   fun h k => ⟨(HA.mp P v t kv g l).mono h k.1, k.2⟩,
   fun h k => ⟨(HA.mp P v t kv g l).loc h k.1, by
     obtain ⟨_, b, es, clock, j, e0, e1, e2, e3, e4⟩ := k
     exact ⟨b, es, clock, j, e0, e1, e2, (h b (by rw [e2]; simp)).trans e3, e4⟩⟩⟩
theorem mp_entry (K : KeyT P t kv ok) {tm e : TypeId} (ht : P.underlying tm = some (.map t e)) {z : Value} (hz : ∀ w, (zeroValue e).run P w = .ok z w) {k : κ} (hk : ok k) (hl : l.length ≤ 1000000) {a0 : α} (hz0 : g a0 = .val z) (h : (HA.mp P v t kv g l).P G F w) :
    ∃ b o o0 st v0, v = .map (some b) ∧ F = [b] ∧ w.heap[b]? = some o0 ∧ (∃ es cl, o0 = .map es cl) ∧ (∃ es cl, o = .map es cl) ∧ (Instr.mapEntry tm v (kv k)).run P w = .ok (.tuple #[v0, goInt ((st : Nat) : Int)]) (setBlock w b o) ∧ (HA.mpE P v t kv g (putM l k ((getM l k).getD a0)) k st).P G F (setBlock w b o) := by
  have h' := h
  obtain ⟨b, es, clock, rfl, rfl, hb, hF, hm⟩ := h
  obtain ⟨kl, hkey⟩ := K.key k hk
  have hn := hm.nodup hF.stamped.2.2
  rcases K.keyed.find w hkey es.toList hF.keys with ⟨h1, h2⟩ | ⟨j, e0, h1, h2, h3⟩
  · have hg : getM l k = none := getM_none.2 fun p hp e => by
      obtain ⟨l', e1, h1⟩ := hm
      have h4 : kv p.1 ∈ es.toList.map (·.key) := by rw [h1.keys]; exact List.mem_map.2 ⟨p, e1.mem_iff.1 hp, rfl⟩
      obtain ⟨x, hx, ex⟩ := List.mem_map.1 h4
      exact h2 x hx (by rw [ex, e])
    obtain ⟨b', o, o0, hb', hF', hb2, _, hr, hm'⟩ := mp_store (a := a0) (u := z) K ht hk hl (by rw [hz0]; rfl) h'
    have hbb : b' = b := by simpa using hF'.symm
    subst hbb
    have hr2 : (Instr.mapUpdate tm (.map (some b')) (kv k) z).run P w = .ok () (setBlock w b' (.map (es.push ⟨kv k, z, clock⟩) (clock + 1))) := by
      simp [Instr.mapUpdate, run_underlying ht, MapKept.run_getObj_map hb, K.keyed.check w false hkey, h1, MapKept.run_setObj_map _ hb, Result.andThen, setBlock]
    have e1 : o = .map (es.push ⟨kv k, z, clock⟩) (clock + 1) := by
      have e := hr.symm.trans hr2
      injection e with _ e
      have h5 := heap_setBlock_same hb o
      rw [e, heap_setBlock_same hb _] at h5
      exact (Option.some.inj h5).symm
    subst e1
    refine ⟨b', _, _, clock, z, rfl, rfl, hb, ⟨_, _, rfl⟩, ⟨_, _, rfl⟩, ?_, by rw [hg]; exact hm', b', _, _, es.size, ⟨kv k, z, clock⟩, rfl, rfl, heap_setBlock_same hb _, by simp, rfl, rfl⟩
    simp [Instr.mapEntry, run_underlying ht, MapKept.run_getObj_map hb, K.keyed.check w false hkey, h1, hz, MapKept.run_setObj_map _ hb, Result.andThen, setBlock]
  · have hj : es[j]? = some e0 := by simpa using h2
    obtain ⟨r, p1, _, _⟩ := set_permM (x := e0) h2
    obtain ⟨p, l3, q1, q2, q3, _⟩ := (hm.perm p1).uncons
    have hpk : p.1 = k := K.inj _ _ (q2.symm.trans h3)
    have hg : getM l k = some p.2 := (getM_iff hn).2 (q1.mem_iff.2 (by rw [← hpk]; simp))
    obtain ⟨b', o, o0, hb', hF', hb2, _, hr, hm'⟩ := mp_store (a := p.2) (u := e0.val) K ht hk hl q3 h'
    have hbb : b' = b := by simpa using hF'.symm
    subst hbb
    have hsame : es.modify j (fun e => { e with key := kv k, val := e0.val }) = es := by
      apply Array.ext'
      rw [Array.toList_modify, Go.ChangeMaps.modify_eq_set _ _ _ _ h2]
      have : ({ e0 with key := kv k, val := e0.val } : MapEntry) = e0 := by rw [← h3]
      rw [this]
      exact Go.WideElems.set_self _ _ _ h2
    have hsame2 : es.modify j (fun e => { e with key := kv k }) = es := by
      apply Array.ext'
      rw [Array.toList_modify, Go.ChangeMaps.modify_eq_set _ _ _ _ h2]
      have : ({ e0 with key := kv k } : MapEntry) = e0 := by rw [← h3]
      rw [this]
      exact Go.WideElems.set_self _ _ _ h2
    have hr2 : (Instr.mapUpdate tm (.map (some b')) (kv k) e0.val).run P w = .ok () (setBlock w b' (.map es clock)) := by
      simp [Instr.mapUpdate, run_underlying ht, MapKept.run_getObj_map hb, K.keyed.check w false hkey, h1, hj, h3, K.keyed.stays w hkey, MapKept.run_setObj_map _ hb, Result.andThen, setBlock, hsame]
    have e1 : o = .map es clock := by
      have e := hr.symm.trans hr2
      injection e with _ e
      have h5 := heap_setBlock_same hb o
      rw [e, heap_setBlock_same hb _] at h5
      exact (Option.some.inj h5).symm
    subst e1
    refine ⟨b', _, _, e0.born, e0.val, rfl, rfl, hb, ⟨_, _, rfl⟩, ⟨_, _, rfl⟩, ?_, by rw [hg]; exact hm', b', _, _, j, e0, rfl, rfl, heap_setBlock_same hb _, h2, h3, rfl⟩
    simp [Instr.mapEntry, run_underlying ht, MapKept.run_getObj_map hb, K.keyed.check w false hkey, h1, hj, h3, K.keyed.stays w hkey, hsame2, MapKept.run_setObj_map _ hb, Result.andThen, setBlock]
omit [DecidableEq κ] in
/-- The store by a stamp is the store by the key. -/
theorem mpE_store (K : KeyT P t kv ok) {tm e : TypeId} (ht : P.underlying tm = some (.map t e)) {k : κ} (hk : ok k) {st : Nat} {u : Value} (h : (HA.mpE P v t kv g l k st).P G F w) :
    (Instr.entryStore tm v (goInt ((st : Nat) : Int)) u).run P w = (Instr.mapUpdate tm v (kv k) u).run P w := by
  obtain ⟨⟨b, es, clock, rfl, rfl, hb, hF, hm⟩, b', es', clock', j, e0, e1, e2, e3, e4, e5, e6⟩ := h
  injection e1 with e1
  injection e1 with e1
  subst e1
  rw [hb] at e3
  injection e3 with e3
  injection e3 with e3 e7
  subst e3 e7 e6
  obtain ⟨kl, hkey⟩ := K.key k hk
  have hidx : es.findIdx? (fun e => ((e.born : Nat) : Int) == ((e0.born : Nat) : Int)) = some j := by
    rw [Go.WideElems.findIdx_arr]
    exact Go.WideElems.findIdx_born hF.stamped.2.1 e4
  rcases K.keyed.find w hkey es.toList hF.keys with ⟨h1, h2⟩ | ⟨i, e0', h1, h2, h3⟩
  · exact absurd e5 (h2 _ (List.mem_of_getElem? e4))
  · have hij : i = j := by
      have hnd := hF.stamped.2.2
      have hi : i < (es.toList.map (·.key)).length := by rw [List.length_map]; exact (List.getElem?_eq_some_iff.1 h2).1
      have hjl : j < (es.toList.map (·.key)).length := by rw [List.length_map]; exact (List.getElem?_eq_some_iff.1 e4).1
      refine (List.getElem_inj (h₀ := hi) (h₁ := hjl) hnd).1 ?_
      rw [List.getElem_map, List.getElem_map, (List.getElem?_eq_some_iff.1 h2).2, (List.getElem?_eq_some_iff.1 e4).2, h3, e5]
    subst hij
    have hee : e0' = e0 := Option.some.inj (h2.symm.trans e4)
    subst hee
    have hj : es[i]? = some e0' := by simpa using h2
    have hmod : es.modify i (fun e => { e with val := u }) = es.modify i (fun e' => { e' with key := kv k, val := u }) := by
      apply Array.ext'
      rw [Array.toList_modify, Array.toList_modify, Go.ChangeMaps.modify_eq_set _ _ _ _ h2, Go.ChangeMaps.modify_eq_set _ _ _ _ h2, ← e5]
    have hr2 : (Instr.mapUpdate tm (.map (some b)) (kv k) u).run P w = .ok () (setBlock w b (.map (es.modify i (fun e' => { e' with key := kv k, val := u })) clock)) := by
      simp [Instr.mapUpdate, run_underlying ht, MapKept.run_getObj_map hb, K.keyed.check w false hkey, h1, hj, h3, K.keyed.stays w hkey, MapKept.run_setObj_map _ hb, Result.andThen, setBlock]
    rw [hr2]
    simp [Instr.entryStore, MapKept.run_getObj_map hb, asInt, asIntOf, goInt, hidx, hmod, MapKept.run_setObj_map _ hb, Result.andThen, setBlock]
variable {rs : List (Nat × AV)} {d : Option Nat} {ty : TypeId} {pos : String} {af : Array Edge} {gd : Option (Nat × Bool)}
theorem lt_ment (K : KeyT P t kv ok) {tm e : TypeId} (ht : P.underlying tm = some (.map t e)) {z : Value} (hz : ∀ w, (zeroValue e).run P w = .ok z w) {x y : Operand} {av : AV} (k : κ) (a0 : α) (hz0 : g a0 = .val z) (hx : opv rs x = some (.val v)) (hy : opv rs y = some av) (hv : KeyV av (kv k)) (hk : ok k) (hl : l.length ≤ 1000000) :
    LT P ⟨d, .mapEntry tm x y, ty, pos, af, gd⟩ rs [.mp P v t kv g l] (fun p q => ∃ st : Nat, p = .tup [AV.any, .val (.int .i64 st)] ∧ q = [.mpE P v t kv g (putM l k ((getM l k).getD a0)) k st]) :=
  LT_eff (fun _ e => by cases e) fun ac w G F hR hI => by
    obtain ⟨F1, F2, e, hm, h2⟩ := hI.hs
    have h2' : F2 = [] := h2
    subst h2'
    have e1 : ac.eval x = v := opv_ok hR hx
    have e2 := hv.out G _ (opv_ok hR hy)
    obtain ⟨b, o, o0, st, v0, hvb, hF1, hb, ho, _, hr, hm'⟩ := mp_entry K ht hz hk hl hz0 hm
    subst hF1
    have hF : F = [b] := List.perm_singleton.1 (by simpa using e)
    subst hF
    obtain ⟨f1, f2⟩ := inv_setB hI hb ho hm'
    exact ⟨.value (.tuple #[v0, goInt ((st : Nat) : Int)]), setBlock w b o, .tuple #[v0, goInt ((st : Nat) : Int)], _, _, G, [b], by simp [execOp, e1, e2, hr, Result.andThen], .inl rfl, ⟨st, rfl, rfl⟩, f1, f2, [_, _], rfl, trivial, rfl, trivial⟩
theorem lt_mstE (K : KeyT P t kv ok) {tm e : TypeId} (ht : P.underlying tm = some (.map t e)) {x y z : Operand} (k : κ) (a : α) {st : Nat} (hx : opv rs x = some (.val v)) (hy : opv rs y = some (.val (.int .i64 st))) (hk : ok k) (hz : opv rs z = some (g a)) (hl : l.length ≤ 1000000) :
    LT P ⟨d, .entryStore tm x y z, ty, pos, af, gd⟩ rs [.mpE P v t kv g l k st] (Is (.val undef) [.mp P v t kv g (putM l k a)]) :=
  LT_eff (fun _ e => by cases e) fun ac w G F hR hI => by
    obtain ⟨F1, F2, e, hm, h2⟩ := hI.hs
    have h2' : F2 = [] := h2
    subst h2'
    have e1 : ac.eval x = v := opv_ok hR hx
    have e2 : ac.eval y = goInt ((st : Nat) : Int) := opv_ok hR hy
    have hst := fun u => mpE_store (u := u) K ht hk hm
    obtain ⟨b, o, o0, hvb, hF1, hb, ho, hr, hm'⟩ := mp_store K ht hk hl (opv_ok hR hz) hm.1
    subst hF1
    have hF : F = [b] := List.perm_singleton.1 (by simpa using e)
    subst hF
    have hI' : Inv G [b] [.mp P v t kv g l] w := ⟨hI.gin, hI.nd, hI.own, [b], [], by simp, hm.1, rfl⟩
    obtain ⟨f1, f2⟩ := inv_setB hI' hb ho hm'
    exact ⟨_, setBlock w b o, undef, _, _, G, [b], by simp [execOp, e1, e2, hst, hr, Result.andThen], .inr ⟨rfl, rfl⟩, ⟨rfl, rfl⟩, f1, f2, rfl⟩
theorem lt_look1E (K : KeyT P t kv ok) {tm e : TypeId} (ht : P.underlying tm = some (.map t e)) {z : Value} (hz : ∀ w, (zeroValue e).run P w = .ok z w) {x y : Operand} {av : AV} {k' : κ} {st : Nat} (k : κ) (hx : opv rs x = some (.val v)) (hy : opv rs y = some av) (hv : KeyV av (kv k)) (hk : ok k) :
    LT P ⟨d, .lookup tm x y false, ty, pos, af, gd⟩ rs [.mpE P v t kv g l k' st] (Is (lkA g z (getM l k)) [.mpE P v t kv g l k' st]) :=
  LT_read (fun _ e => by cases e) fun a w G F hR _ hh => by
    have e1 : a.eval x = v := opv_ok hR hx
    have e2 := hv.out G _ (opv_ok hR hy)
    obtain ⟨u, h1, h2⟩ := mp_look K ht hz false hk hh.1
    rw [if_neg (by simp)] at h2
    exact ⟨u, h1, by simp [execOp, e1, e2, h2, Result.andThen]⟩
end
section
variable {c : Cx} {rs : List (Nat × AV)} {hs : List HA} {Q : Exit → S → Prop} {ops : Array Oper} {tl : List Oper} {d : Nat} {ty : TypeId} {pos : String} {af : Array Edge} {κ α : Type} [DecidableEq κ] {t : TypeId} {kv : κ → Value} {ok : κ → Prop} {g : α → AV} {l : List (κ × α)} {v : Value}
theorem wl_ment {tm e : TypeId} {z : Value} {x y : Operand} {av : AV} {r : List HA} (K : KeyT c.P t kv ok) (k : κ) (a0 : α) (hz0 : g a0 = .val z) (ht : c.P.underlying tm = some (.map t e)) (hz : ∀ w, (zeroValue e).run c.P w = .ok z w) (hx : opv rs x = some (.val v)) (hr : Rm hs (.mp c.P v t kv g l) r) (hy : opv rs y = some av) (hv : KeyV av (kv k)) (hk : ok k) (hl : l.length ≤ 1000000) (hd : Nat.blt d c.nt = true)
    (kk : ∀ st : Nat, WL c ops tl ⟨(d, .tup [AV.any, .val (.int .i64 st)]) :: rs, .mpE c.P v t kv g (putM l k ((getM l k).getD a0)) k st :: r⟩ Q) : WL c ops (⟨some d, .mapEntry tm x y, ty, pos, af, none⟩ :: tl) ⟨rs, hs⟩ Q :=
  WL_lt (cons := [.mp c.P v t kv g l]) (rest := r) hd rfl (fun _ _ _ h => hr.sel h) (lt_ment K ht hz k a0 hz0 hx hy hv hk hl) fun av pr ⟨st, e1, e2⟩ => by subst e1; subst e2; exact kk st
theorem wl_mstE {tm e : TypeId} {x y z : Operand} {st : Nat} {r : List HA} (K : KeyT c.P t kv ok) (k : κ) (a : α) (ht : c.P.underlying tm = some (.map t e)) (hx : opv rs x = some (.val v)) (hr : Rm hs (.mpE c.P v t kv g l k st) r) (hy : opv rs y = some (.val (.int .i64 st))) (hk : ok k) (hz : opv rs z = some (g a)) (hl : l.length ≤ 1000000)
    (kk : WL c ops tl ⟨rs, .mp c.P v t kv g (putM l k a) :: r⟩ Q) : WL c ops (⟨none, .entryStore tm x y z, ty, pos, af, none⟩ :: tl) ⟨rs, hs⟩ Q :=
  WL_lt (cons := [.mpE c.P v t kv g l k st]) (rest := r) rfl rfl (fun _ _ _ h => hr.sel h) (lt_mstE K ht k a hx hy hk hz hl) fun av pr ⟨e1, e2⟩ => by subst e1; subst e2; exact kk
theorem wl_look1E {tm e : TypeId} {z : Value} {x y : Operand} {av : AV} {k' : κ} {st : Nat} {h : HA → List HA} (K : KeyT c.P t kv ok) (k : κ) (ht : c.P.underlying tm = some (.map t e)) (hz : ∀ w, (zeroValue e).run c.P w = .ok z w) (hx : opv rs x = some (.val v)) (hat : At hs (.mpE c.P v t kv g l k' st) h) (hy : opv rs y = some av) (hv : KeyV av (kv k)) (hk : ok k) (hd : Nat.blt d c.nt = true)
    (kk : WL c ops tl ⟨(d, lkA g z (getM l k)) :: rs, hs⟩ Q) : WL c ops (⟨some d, .lookup tm x y false, ty, pos, af, none⟩ :: tl) ⟨rs, hs⟩ Q := wl_rd (lt_look1E K ht hz k hx hy hv hk) hat hd kk
end
/-- Keys of three numbers. -/
def k3 (x : Int × Int × Int) : Value := .agg #[.int .i64 x.1, .int .i64 x.2.1, .int .i64 x.2.2]
end Go.Proofs.YtihonljdanjfmaaDoor.Sw
namespace Go.Proofs.YtihonljdanjfmaaDoor.Sw
open Go.RowKit Go Go.Shelf Go.Proofs
def kP (x : Pay) : Value := .agg #[.int .i64 x.a, .int .i64 x.b, .int .i64 x.p]
/-- Numbers that are no too large ones. -/
structure OkP (x : Pay) : Prop where
  a : -1000000000000 ≤ x.a ∧ x.a ≤ 1000000000000
  b : -1000000000000 ≤ x.b ∧ x.b ≤ 1000000000000
  p : -1000000000000 ≤ x.p ∧ x.p ≤ 1000000000000
theorem laid_P : laidOutB Tryd.prog = true := by kernel_rfl
theorem row_P : 53 < (Tryd.prog).types.size := of_decide_eq_true (by kernel_rfl)
theorem deep_P : (Tryd.prog).keyTypeAt 2 53 = true := by kernel_rfl
theorem law_P : Go.WideMaps.KeyLaw Tryd.prog 53 := deep_law_laid laid_P (m := 2) (by omega) row_P deep_P (by rw [Tryd.underlying53])
theorem keytype_P : (Tryd.prog).keyType 53 = true := by kernel_rfl
theorem cells_P : (Tryd.prog).cellsOf 53 = 3 := by kernel_rfl
theorem cells_I : (Tryd.prog).cellsOf 3 = 1 := by kernel_rfl
theorem wf_I {i : Int} (h : -1000000000000 ≤ i ∧ i ≤ 1000000000000) : (Lit.int .i64 i).wf = true := by
  simp only [Lit.wf, IntKind.min, IntKind.max, IntKind.signed, IntKind.bits, Bool.and_eq_true, decide_eq_true_eq, if_true]
  omega
theorem key_P {x : Pay} (h : OkP x) : keyOf Tryd.prog 53 (kP x) = some (.string (keyBytes [.int .i64 x.a, .int .i64 x.b, .int .i64 x.p])) := by
  have w1 := wf_I h.a
  have w2 := wf_I h.b
  have w3 := wf_I h.p
  have u1 := Tryd.underlying53
  have u2 : (Tryd.prog).underlying 3 = some (.int .i64) := Tryd.underlying3
  have c1 := cells_P
  have c2 := cells_I
  have kt := keytype_P
  have hs : ∃ m, (Tryd.prog).types.size = m + 1 := ⟨(Tryd.prog).types.size - 1, by have := row_P; omega⟩
  obtain ⟨m, hm⟩ := hs
  obtain ⟨d, hd⟩ : ∃ d, d = (Tryd.prog).types.size + 1 := ⟨_, rfl⟩
  have kl : (Tryd.prog).keyLits d 53 [.int .i64 x.a, .int .i64 x.b, .int .i64 x.p] = some [.int .i64 x.a, .int .i64 x.b, .int .i64 x.p] := by
    rw [hd, hm]
    unfold Program.keyLits
    simp only [u1]
    simp [c1, c2, Program.keyLits, u2, w1, w2, w3]
  unfold keyOf
  rw [← hd]
  simp only [u1]
  rw [if_pos (by simp [kt, kP, Value.formed, u1, c1])]
  show ((Tryd.prog).keyLits d 53 [.int .i64 x.a, .int .i64 x.b, .int .i64 x.p]).map _ = _
  rw [kl]
  rfl
theorem keyT_P : KeyT Tryd.prog 53 kP OkP :=
  ⟨Go.Maps.Keyed.of_law law_P, fun x h => ⟨_, key_P h⟩, fun a b e => by
    unfold kP at e
    injection e with e
    injection e with e
    injection e with e1 e
    injection e with e2 e
    injection e with e3 e
    injection e1 with _ e1
    injection e2 with _ e2
    injection e3 with _ e3
    exact pay_eq ⟨e1, e2, e3⟩⟩
instance : DecidableEq Pay := inferInstance
abbrev mpP (v : Value) (l : List (Pay × Int)) : HA := .mp Tryd.prog v 53 kP iG l
theorem kvP (x : Pay) : KeyV (.agg (payC x)) (kP x) := KeyV.ints (xs := [x.a, x.b, x.p]) (by (repeat (first | exact Ints.nil | apply Ints.cons)))
end Go.Proofs.YtihonljdanjfmaaDoor.Sw
namespace Go.Proofs.YtihonljdanjfmaaDoor.Sw
open Go.RowKit Go Go.Shelf Go.Proofs
theorem Fits.front {G : Nat → Option Obj} : ∀ {cs ds : List AV} {vs : List Value}, Fits G (cs ++ ds) vs → ∃ us ws, vs = us ++ ws ∧ Fits G cs us
  | [], ds, vs, h => ⟨[], vs, rfl, trivial⟩
  | c :: cs, ds, [], h => h.elim
  | c :: cs, ds, v :: vs, h => by
    obtain ⟨us, ws, e, k⟩ := Fits.front (cs := cs) (ds := ds) h.2
    exact ⟨v :: us, ws, by rw [e]; rfl, h.1, k⟩
/-- Fewer cells of a block told. -/
theorem WL_cutCells {c : Cx} {rs : List (Nat × AV)} {hs r : List HA} {Q : Exit → S → Prop} {ops : Array Oper} {tl : List Oper} {b tot : Nat} {e : TypeId} {cs ds : List AV} (hr : Rm hs (.cells b e (cs ++ ds) tot) r) (k : WL c ops tl ⟨rs, .cells b e cs tot :: r⟩ Q) : WL c ops tl ⟨rs, hs⟩ Q := ⟨fun a w st => by
  obtain ⟨G, F, hI, rr⟩ := st
  obtain ⟨F1, F2, ep, ⟨vs, rest, e1, e2, e3, e4, e5⟩, h2⟩ := hr.sel hI.hs
  obtain ⟨us, ws, hv, hf⟩ := Fits.front e2
  subst hv
  exact k.out a w ⟨G, F, ⟨hI.gin, hI.nd, hI.own, F1, F2, ep, ⟨us, ws ++ rest, e1, hf, fun u hu => e3 u (by simp [hu]), by rw [e4, List.append_assoc], by rw [← e5, List.append_assoc]⟩, h2⟩, rr⟩⟩
end Go.Proofs.YtihonljdanjfmaaDoor.Sw
namespace Go.Proofs.YtihonljdanjfmaaDoor.Sw
open Go.RowKit Go Go.Shelf Go.Proofs
instance tyzP : TyZ Tryd.prog 53 [.int .i64 0, .int .i64 0, .int .i64 0] := inferInstance
def TokP (xs : List Pay) (Rc : HA) : AV → List HA → Prop := fun x y => ∃ u, x = .val u ∧ y = [.row u 53 3 payC xs, Rc]
set_option maxRecDepth 20000 in
set_option maxHeartbeats 4000000 in
theorem indexFuncPL_con (v : Value) (xs : List Pay) (k : FuncId) (caps : List AV) (p : Pay → Bool) (Rc : HA) (hl : xs.length ≤ 1000000) (hc : ∀ x, x ∈ xs → Con Tryd.prog k ([.agg (payC x)] ++ caps) [Rc] (Is (.val (.bool (p x))) [Rc])) : Con Tryd.prog 142 [.val v, .clo k caps] [.row v 53 3 payC xs, Rc] (Is (.val (.int .i64 (fiX p xs))) [.row v 53 3 payC xs, Rc]) := by
  refine con_of Tryd.func142 rfl (enters_of Tryd.func142 (by kernel_rfl) rfl) rfl ?_; intro n w0 F0 G0
  (refine goSt ?_; (repeat (refine goAl ?_; intro p hp; refine goSt ?_)))
  refine W_loopJ (fun (m : Nat) => ⟨[(0, .val v), (1, .clo k caps), (7, .val (.int .i64 xs.length)), (8, .val (.int .i64 m))], [.row v 53 3 payC xs, Rc]⟩) (fun m => m ≤ xs.length ∧ (xs.take m).any p = false) (fun m => xs.length - m) 0 (fun _ _ st => st_sub2 st goSubr goSubp) ?hj0 ?round
  case hj0 => simp
  case round =>
    rintro m ⟨hk, hno⟩
    (refine goSt ?_; (repeat (refine goAl ?_; intro p hp; refine goSt ?_)))
    refine w_cond rfl (fun hlt => ?_) (fun hlt => ?_)
    · have hlt' : m < xs.length := by simpa using hlt
      (refine goSt ?_; (repeat (refine goAl ?_; intro p hp; refine goSt ?_)))
      (apply wl_callVP (hc xs[m] (List.getElem_mem hlt')); exact rfl; exact rfl; exact goCutl; exact rfl)
      rintro _ _ ⟨rfl, rfl⟩
      (refine goSt ?_; (repeat (refine goAl ?_; intro p hp; refine goSt ?_)))
      refine w_cond rfl (fun he => ?_) (fun he => ?_)
      · (refine goSt ?_; (repeat (refine goAl ?_; intro p hp; refine goSt ?_)))
        (apply resK1; exact rfl; exact rfl; exact ⟨(congrArg (fun b => AV.val (Value.int .i64 b)) (fiX_at hlt' hno he).symm), rfl⟩; exact goCutl)
      · (refine goSt ?_; (repeat (refine goAl ?_; intro p hp; refine goSt ?_)))
        (refine ⟨m + 1, fun _ _ st => st_sub2 st ?_ ?_, ?_, ?_⟩; exact goSubr; exact goSubp)
        · refine ⟨by omega, ?_⟩
          rw [List.take_succ_eq_append_getElem hlt', List.any_append, hno]
          simpa using he
        · omega
    · (refine goSt ?_; (repeat (refine goAl ?_; intro p hp; refine goSt ?_)))
      have hkk : m = xs.length := by simp at hlt; omega
      subst hkk
      rw [List.take_length] at hno
      (apply resK1; exact rfl; exact rfl; exact ⟨(congrArg (fun b => AV.val (Value.int .i64 b)) (fiX_none hno).symm), rfl⟩; exact goCutl)
set_option maxRecDepth 20000 in
set_option maxHeartbeats 4000000 in
theorem deleteFuncPL_con (v : Value) (xs : List Pay) (k : FuncId) (caps : List AV) (d : Pay → Bool) (Rc : HA) (hl : xs.length ≤ 100000) (hc : ∀ x, x ∈ xs → Con Tryd.prog k ([.agg (payC x)] ++ caps) [Rc] (Is (.val (.bool (d x))) [Rc])) : Con Tryd.prog 105 [.val v, .clo k caps] [.row v 53 3 payC xs, Rc] (TokP (xs.filter fun x => !d x) Rc) := by
  refine con_of Tryd.func105 rfl (enters_of Tryd.func105 (by kernel_rfl) rfl) rfl ?_; intro n w0 F0 G0
  (refine goSt ?_; (repeat (refine goAl ?_; intro p hp; refine goSt ?_)))
  (apply wl_callP (indexFuncPL_con v xs k caps d Rc (by omega) hc); exact rfl; exact goCutl; exact rfl)
  rintro _ _ ⟨rfl, rfl⟩
  cases ha : xs.any d with
  | false =>
    rw [fiX_none ha]
    have hf : (xs.filter fun x => !d x) = xs := List.filter_eq_self.2 fun x hx => by simpa using List.any_eq_false.1 ha x hx
    rw [hf]
    (refine goSt ?_; (repeat (refine goAl ?_; intro p hp; refine goSt ?_)))
    (apply resK1; exact rfl; exact rfl; exact ⟨_, rfl, rfl⟩; exact goCutl)
  | true =>
    have hlt : xs.findIdx d < xs.length := List.findIdx_lt_length_of_exists (List.any_eq_true.1 ha)
    have hget : d xs[xs.findIdx d] = true := List.findIdx_getElem (w := hlt)
    have hbef : ∀ x ∈ xs.take (xs.findIdx d), d x = false := fun x hx => by
      obtain ⟨i, hi, rfl⟩ := List.mem_iff_getElem.1 hx
      rw [List.length_take] at hi
      rw [List.getElem_take]
      simpa using List.not_of_lt_findIdx (p := d) (xs := xs) (i := i) (by omega)
    rw [show fiX d xs = (xs.findIdx d : Nat) by unfold fiX; rw [if_pos ha]]
    generalize xs.findIdx d = i0 at *
    have hft : (xs.take (i0 + 1)).filter (fun x => !d x) = xs.take i0 := by
      rw [List.take_succ_eq_append_getElem hlt, List.filter_append, List.filter_eq_self.2 (fun x hx => by simpa using hbef x hx), List.filter_cons, if_neg (by rw [hget]; simp)]; simp
    have hx0 : xs = (xs.take (i0 + 1)).filter (fun x => !d x) ++ [xs[i0]] ++ xs.drop (i0 + 1) := by
      rw [hft, List.append_assoc, List.singleton_append, ← List.drop_eq_getElem_cons hlt, List.take_append_drop]
    have hl0 : ((xs.take (i0 + 1)).filter (fun x => !d x)).length = i0 := by rw [hft, List.length_take]; omega
    have hst : ∀ {c : Cx} {rs : List (Nat × AV)} {hs r : List HA} {a : Act} {w : World}, Rm hs (.row v 53 3 payC xs) r → St c ⟨rs, hs⟩ a w → St c ⟨rs, .row v 53 3 payC ((xs.take (i0 + 1)).filter (fun x => !d x) ++ [xs[i0]] ++ xs.drop (i0 + 1)) :: r⟩ a w := fun hr st => by
      rw [← hx0]
      obtain ⟨G, F, hI, rr⟩ := st
      exact ⟨G, F, ⟨hI.gin, hI.nd, hI.own, hr.sel hI.hs⟩, rr⟩
    (refine goSt ?_; (repeat (refine goAl ?_; intro p hp; refine goSt ?_)))
    refine W_loopJ (fun (b : Nat × List Pay) => ⟨[(0, .val v), (1, .clo k caps), (5, .val (.int .i64 ((xs.take b.1).filter fun x => !d x).length)), (6, .val (.int .i64 b.1))], [.row v 53 3 payC ((xs.take b.1).filter (fun x => !d x) ++ b.2 ++ xs.drop b.1), Rc]⟩) (fun b => b.1 ≤ xs.length ∧ ((xs.take b.1).filter fun x => !d x).length + b.2.length = b.1 ∧ b.2 ≠ []) (fun b => xs.length - b.1) (i0 + 1, [xs[i0]]) (fun _ _ st => st_sub2 (hst (by exact goRm) st) (by dsimp only; rw [hl0]; exact goSubr) (by exact goSubp)) ⟨by dsimp only; omega, by dsimp only; rw [hl0]; rfl, by simp⟩ ?_
    clear hst hx0 hl0 hft hbef hget hlt ha
    rintro ⟨j, M⟩ ⟨hj, hjm, hM⟩
    dsimp only at hj hjm hM ⊢
    have hrl : ((xs.take j).filter (fun x => !d x) ++ M ++ xs.drop j).length = xs.length := by simp only [List.length_append, List.length_drop]; omega
    obtain ⟨R, hR⟩ : ∃ R, R = (xs.take j).filter (fun x => !d x) ++ M ++ xs.drop j := ⟨_, rfl⟩
    rw [← hR] at hrl ⊢
    (refine goSt ?_; (repeat (refine goAl ?_; intro p hp; refine goSt ?_)))
    rw [hrl]
    refine w_cond rfl (fun hlt => ?_) (fun hlt => ?_)
    · have hlt' : j < xs.length := by simpa using hlt
      have hjR : j < R.length := by omega
      have htk : xs.take (j + 1) = xs.take j ++ [xs[j]] := List.take_succ_eq_append_getElem hlt'
      have hdr : xs.drop j = xs[j] :: xs.drop (j + 1) := List.drop_eq_getElem_cons hlt'
      have hRj : R[j] = xs[j] := by
        have h : R[j]? = some xs[j] := by
          rw [hR, List.getElem?_append_right (by rw [List.length_append]; omega), List.length_append, hjm, Nat.sub_self, hdr]; rfl
        rw [List.getElem?_eq_getElem hjR] at h; exact Option.some.inj h
      have hxm : xs[j] ∈ xs := List.getElem_mem hlt'
      have CX := hc _ hxm
      generalize hx : xs[j] = x at *
      have hfl : ((xs.take j).filter fun x => !d x).length < R.length := by
        have : 0 < M.length := List.length_pos_iff.2 hM
        omega
      (refine goSt ?_; (repeat (refine goAl ?_; intro p hp; refine goSt ?_)))
      rw [hRj]
      refine WL_as 27 (.agg (payC x)) rfl ?_
      (apply wl_callVP CX; exact rfl; exact rfl; exact goCutl; exact rfl)
      rintro _ _ ⟨rfl, rfl⟩
      cases hdx : d x with
      | true =>
        have hfk : (xs.take (j + 1)).filter (fun x => !d x) = (xs.take j).filter (fun x => !d x) := by
          rw [htk, List.filter_append, List.filter_cons, if_neg (by rw [hdx]; simp)]; simp
        have hR2 : R = (xs.take (j + 1)).filter (fun x => !d x) ++ (M ++ [x]) ++ xs.drop (j + 1) := by
          rw [hfk, hR, hdr]; simp
        (refine goSt ?_; (repeat (refine goAl ?_; intro p hp; refine goSt ?_)))
        refine ⟨(j + 1, M ++ [x]), fun _ _ st => st_sub2 st ?_ ?_, ?_, ?_⟩
        · dsimp only; rw [hfk]; exact goSubr
        · rw [hR2]; exact goSubp
        · refine ⟨by dsimp only; omega, ?_, by simp⟩
          dsimp only; rw [hfk, List.length_append, List.length_singleton]; omega
        · dsimp only; omega
      | false =>
        have hfk : (xs.take (j + 1)).filter (fun x => !d x) = (xs.take j).filter (fun x => !d x) ++ [x] := by
          rw [htk, List.filter_append, List.filter_cons, if_pos (by rw [hdx]; rfl)]; rfl
        (refine goSt ?_; (repeat (refine goAl ?_; intro p hp; refine goSt ?_)))
        refine WL_as 32 (.agg (payC x)) rfl ?_
        apply wl_storeRNx x
        · exact rfl
        · exact goAtm
        · exact rfl
        · exact inferInstance
        · exact inferInstance
        · exact hfl
        · rfl
        cases M with
        | nil => exact absurd rfl hM
        | cons m0 M1 =>
          have hset : R.set ((xs.take j).filter fun x => !d x).length x = (xs.take (j + 1)).filter (fun x => !d x) ++ (M1 ++ [x]) ++ xs.drop (j + 1) := by
            rw [hfk, hR, hdr, List.append_assoc, List.set_append_right _ _ (Nat.le_refl _), Nat.sub_self]; simp
          rw [hset]
          have hfl2 : (((xs.take j).filter fun x => !d x).length : Int) + 1 = (((xs.take (j + 1)).filter fun x => !d x).length : Nat) := by rw [hfk, List.length_append, List.length_singleton]; omega
          (refine goSt ?_; (repeat (refine goAl ?_; intro p hp; refine goSt ?_)))
          refine ⟨(j + 1, M1 ++ [x]), fun _ _ st => st_sub2 st ?_ ?_, ?_, ?_⟩
          · dsimp only; rw [← hfl2]; exact goSubr
          · exact goSubp
          · refine ⟨by dsimp only; omega, ?_, by simp⟩
            simp only [List.length_cons] at hjm
            dsimp only; rw [hfk, List.length_append, List.length_singleton, List.length_append, List.length_singleton]; omega
          · dsimp only; omega
    · have hkk : j = xs.length := by simp at hlt; omega
      subst hkk
      rw [List.take_length] at hR hjm ⊢
      rw [List.drop_length, List.append_nil] at hR
      generalize xs.filter (fun x => !d x) = F at *
      have hRne : R ≠ [] := by
        intro e
        rw [e] at hR
        cases M with
        | nil => exact hM rfl
        | cons a t => simp at hR
      have hFR : F.length + M.length = xs.length := hjm
      have hRl : R.length = xs.length := hrl
      (refine goSt ?_; (repeat (refine goAl ?_; intro p hp; refine goSt ?_)))
      refine WL_openRow (v := v) (e := 53) (n := 3) (f := payC) (xs := R) hRne (by exact goRm) ?_
      intro b cap hv hnc hcm hlf
      subst hv
      rw [show R.flatMap payC = F.flatMap payC ++ M.flatMap payC by rw [hR, List.flatMap_append]]
      apply WL_cutCells (cs := F.flatMap payC) (ds := M.flatMap payC)
      · exact goRm
      rw [hRl] at hnc ⊢
      (apply wl_sliceV (l := F.length) (h := xs.length); exact rfl; exact inferInstance; exact .inl rfl; exact rfl; exact .inr ⟨rfl, rfl⟩; exact rfl; omega; omega; omega; exact rfl)
      rw [fromV]
      (refine goSt ?_; (repeat (refine goAl ?_; intro p hp; refine goSt ?_)))
      (apply wl_clearV (n := 3) (j := F.length) (m := xs.length - F.length); exact rfl; exact goAtm; exact inferInstance; exact inferInstance; exact rfl; (intro u hu; simp at hu; rcases hu with rfl | rfl | rfl <;> rfl); (rw [lenL (f := payC) (n := 3) (fun x hx => rfl)]); omega)
      (refine goSt ?_; (repeat (refine goAl ?_; intro p hp; refine goSt ?_)))
      (apply wl_sliceV (l := 0) (h := F.length) (li := 0); exact rfl; exact inferInstance; exact .inr ⟨rfl, rfl⟩; exact rfl; exact .inl rfl; exact rfl; omega; omega; omega; exact rfl)
      rw [toV]
      apply WL_shutRow (cap := cap) (b := b) (e := 53) (n := 3) (f := payC) F (fun x _ => rfl) (by omega) hcm
      · exact goRm
      (refine goSt ?_; (repeat (refine goAl ?_; intro p hp; refine goSt ?_)))
      (apply resK1; exact rfl; exact rfl; exact ⟨_, rfl, rfl⟩; exact goCutl)
set_option maxRecDepth 20000 in
theorem clonePy_con (xs : List Pay) (hl : xs.length ≤ 100000) : Con Tryd.prog 106 [.sl 3 payC xs] [] (Tok 53 3 payC xs) := by
  refine con_of Tryd.func106 rfl (enters_of Tryd.func106 (by kernel_rfl) rfl) rfl ?_; intro n w0 F0 G0
  (refine goSt ?_; (repeat (refine goAl ?_; intro p hp; refine goSt ?_)))
  apply wl_eqlNil
  · exact rfl
  · exact inferInstance
  · exact rfl
  intro b hb
  (refine goSt ?_; (repeat (refine goAl ?_; intro p hp; refine goSt ?_)))
  refine w_cond rfl (fun h => ?_) (fun h => ?_)
  · obtain rfl := hb h
    (refine goSt ?_; (repeat (refine goAl ?_; intro p hp; refine goSt ?_)))
    refine Res_row0 53 3 payC ?_
    (apply resK; exact rfl; exact rfl; (apply Cut.cons; exact goRm; exact Cut.nil); exact ⟨_, rfl, rfl⟩)
  · (refine goSt ?_; (repeat (refine goAl ?_; intro p hp; refine goSt ?_)))
    (apply wl_lit payC; exact inferInstance; exact inferInstance; exact inferInstance; (repeat (first | exact Elems.nil | (apply Elems.cons; exact rfl; exact inferInstance; exact rfl))); exact rfl; (first | exact (of_decide_eq_true rfl) | decide | (simp; done) | (simp; omega)); exact rfl)
    intro v0
    (refine goSt ?_; (repeat (refine goAl ?_; intro p hp; refine goSt ?_)))
    (first | (apply wl_append; exact rfl; exact rfl; exact goRm; exact inferInstance; exact inferInstance; (first | omega | (simp; omega)); exact rfl) | (apply wl_appendN; exact rfl; exact rfl; exact inferInstance; exact inferInstance; (first | omega | (simp; omega)); exact rfl))
    intro v1
    (refine goSt ?_; (repeat (refine goAl ?_; intro p hp; refine goSt ?_)))
    (apply resK; exact rfl; exact rfl; (apply Cut.cons; exact goRm; exact Cut.nil); exact ⟨_, rfl, rfl⟩)
end Go.Proofs.YtihonljdanjfmaaDoor.Sw
namespace Go.Proofs.YtihonljdanjfmaaDoor.Sw
open Go.RowKit Go Go.Shelf Go.Proofs
theorem delM_idem {κ α : Type} [DecidableEq κ] (l : List (κ × α)) (k : κ) : delM (delM l k) k = delM l k := by
  unfold delM; rw [List.filter_filter]; simp
theorem putM_put {κ α : Type} [DecidableEq κ] (l : List (κ × α)) (k : κ) (a b : α) : putM (putM l k a) k b = putM l k b := by
  unfold putM
  rw [show delM ((k, a) :: delM l k) k = delM (delM l k) k from by unfold delM; rw [List.filter_cons_of_neg (by simp)], delM_idem]
theorem W_meetB {c : Cx} {id : Nat} {s : S} {x y : Code} {Q Q' : Exit → S → Prop} (s1 : S) (h : W c x s (fun e s' => e = .normal ∧ ∀ a w, St c s' a w → St c s1 a w)) (k : W c y s1 Q') : W c x s (blockQ id (thenQ (fun s' => W c y s' Q') Q)) :=
  W_mono h fun e s' ⟨he, hs⟩ => by subst he; exact W_weak s1 hs k
/-- How often a payment was counted. -/
def cntM (m : List (Pay × Int)) (x : Pay) : Int := (getM m x).getD 0
theorem cntM_put (m : List (Pay × Int)) (x y : Pay) (n : Int) : cntM (putM m x n) y = if y = x then n else cntM m y := by
  unfold cntM
  rw [getM_put]
  split <;> rfl
/-- Counted so far. -/
structure CntJ (m : List (Pay × Int)) (L : List Pay) : Prop where
  eq : ∀ x, cntM m x = (L.count x : Nat)
  len : m.length ≤ L.length
theorem CntJ.nil : CntJ [] [] := ⟨fun x => rfl, Nat.le_refl _⟩
theorem CntJ.snoc {m : List (Pay × Int)} {L : List Pay} (h : CntJ m L) (x : Pay) : CntJ (putM m x (cntM m x + 1)) (L ++ [x]) := by
  refine ⟨fun y => ?_, by rw [List.length_append, List.length_singleton]; have := putM_len m x (cntM m x + 1); have := h.len; omega⟩
  rw [cntM_put, List.count_append, h.eq x, h.eq y, List.count_singleton]
  split
  · rename_i e; subst e; simp
  · rename_i e; simp [Ne.symm e]
theorem CntJ.le {m : List (Pay × Int)} {L : List Pay} (h : CntJ m L) (x : Pay) : 0 ≤ cntM m x ∧ cntM m x ≤ L.length := by
  rw [h.eq]; have := List.count_le_length (a := x) (l := L); omega
/-- What is in all lists. -/
def surP (xs : List (List Pay)) : List Pay := (xs.headD []).filter fun x => !decide ((xs.flatten.count x : Int) < xs.length)
set_option maxRecDepth 20000 in
set_option maxHeartbeats 4000000 in
theorem sure1_con (mv : Value) (m : List (Pay × Int)) (xs : List (List Pay)) (x : Pay) (hx : OkP x) : Con Tryd.prog 107 [.agg (payC x), .fp 1 [.val mv], .fp 1 [.sl 1 plC xs]] [mpP mv m] (Is (.val (.bool (decide (cntM m x < xs.length)))) [mpP mv m]) := by
  refine con_of Tryd.func107 rfl (enters_of Tryd.func107 (by kernel_rfl) rfl) rfl ?_; intro n w0 F0 G0
  (refine goSt ?_; (repeat (refine goAl ?_; intro p hp; refine goSt ?_)))
  refine W_run 5 [5, 6, 7, 8, 9] [0, 1, 2, 3, 4] Cut.nil rfl goFlt mixedS (by kernel_rfl) rfl ?_
  refine Run.pv [] [] rfl (fun vs => by apply ltr_pk; exact goPk; (refine ltr ?_; apply lt_loadE1'; exact rfl; exact rfl; exact rfl)) goApp ?_
  refine rpv [] [] ?_
  refine Run.pv [0, 1] [] rfl (fun vs => by apply ltr_pk; exact goPk; exact ltr_rd (h := mpP mv m) (LT_av (lt_look1 keyT_P Tryd.underlying168 (fun w => by kernel_rfl) x rfl rfl (kvP x) hx) (lkA_int _)) goAtm) goApp ?_
  refine Run.pv [] [] rfl (fun vs => by apply ltr_pk; exact goPk; (refine ltr ?_; apply lt_loadE1'; exact rfl; exact rfl; exact rfl)) goApp ?_
  refine rpv [3] [] ?_
  refine ⟨⟨by kernel_rfl, by kernel_rfl⟩, fun vs => ?_⟩
  apply WL_auto [2, 4]
  · exact goPk
  · exact goNrm
  · kernel_rfl
  · kernel_rfl
  (refine goSt ?_; (repeat (refine goAl ?_; intro p hp; refine goSt ?_)))
  (refine goSt ?_; (repeat (refine goAl ?_; intro p hp; refine goSt ?_)))
  (apply resK1; exact rfl; exact rfl; exact ⟨rfl, rfl⟩; exact goCutl)
theorem flat_le {xs : List (List Pay)} {c : Nat} (h : ∀ l ∈ xs, l.length ≤ c) : xs.flatten.length ≤ xs.length * c := by
  induction xs with
  | nil => simp
  | cons x t ih =>
    have h1 := h x (by simp)
    have h2 := ih fun l hl => h l (by simp [hl])
    rw [List.flatten_cons, List.length_append, List.length_cons, Nat.succ_mul]; omega
noncomputable def surN (f : Flo) : List Pay × Int := if errL f = 0 then (surP (lsF f), 0) else ([], errL f)
set_option maxRecDepth 20000 in
set_option maxHeartbeats 8000000 in
theorem Sure_con (f : Flo) (hS : Sml f) (hB : errL f = 0 → ∀ l ∈ lsF f, l.length ≤ 5 ∧ ∀ x ∈ l, OkP x) : Con Tryd.prog 53 [.agg (flC f)] [tab8] (Is (.tup [.sl 3 payC (surN f).1, .val (.int .i64 (surN f).2)]) [tab8]) := by
  by_cases he : errL f = 0
  · have C := askedOk_con f hS he
    have hB := hB he
    have hl := lsF_len he
    have hne := lsF_ne he
    unfold surN
    rw [if_pos he]
    unfold lsF at hl hB hne ⊢
    generalize fewP f (owed8 f) = xs at C hl hB hne ⊢
    have h0 : 0 < xs.length := List.length_pos_iff.2 hne
    have hh : xs.headD [] = xs[0] := by
      obtain ⟨x, t, rfl⟩ := List.exists_cons_of_ne_nil hne
      rfl
    have hb0 := hB _ (List.getElem_mem h0)
    unfold surP
    rw [hh]
    refine con_of Tryd.func53 rfl (enters_of Tryd.func53 (by kernel_rfl) rfl) rfl ?_; intro n w0 F0 G0
    (refine goSt ?_; (repeat (refine goAl ?_; intro p hp; refine goSt ?_)))
    (apply wl_callP (C); exact rfl; exact goCutl; exact rfl)
    rintro _ _ ⟨ph, ow, rfl, rfl⟩
    (refine goSt ?_; (repeat (refine goAl ?_; intro p hp; refine goSt ?_)))
    (apply wl_mmake keyT_P iG; exact rfl; intro mv hmv)
    (refine goSt ?_; (repeat (refine goAl ?_; intro p hp; refine goSt ?_)))
    rename_i p1 hp1 p5 hp5
    refine W_loopJ (fun (b : Nat × List (Pay × Int)) => ⟨[(5, .val p5), (7, .val p), (22, .sl 1 plC xs), (23, .val (.int .i64 xs.length)), (24, .val (.int .i64 b.1))], [.box p5 [.sl 1 plC xs] 152, .box p [.val mv] 168, mpP mv b.2, tab8]⟩) (fun b => b.1 ≤ xs.length ∧ CntJ b.2 (xs.take b.1).flatten) (fun b => xs.length - b.1) (0, []) (fun _ _ st => st_sub2 st goSubr goSubp) ⟨Nat.zero_le _, CntJ.nil⟩ ?_
    rintro ⟨i, m⟩ ⟨hi, hm⟩
    dsimp only at hi hm ⊢
    have hfl := flat_le (xs := xs.take i) (c := 5) fun l h => (hB l (List.mem_of_mem_take h)).1
    rw [List.length_take] at hfl
    (refine goSt ?_; (repeat (refine goAl ?_; intro p hp; refine goSt ?_)))
    refine w_cond rfl (fun hlt => ?_) (fun hlt => ?_)
    · have hlt' : i < xs.length := by simpa using hlt
      have hst : (xs.take (i + 1)).flatten = (xs.take i).flatten ++ xs[i] := by rw [List.take_succ_eq_append_getElem hlt', List.flatten_append]; simp
      have hbi := hB _ (List.getElem_mem hlt')
      (refine goSt ?_; (repeat (refine goAl ?_; intro p hp; refine goSt ?_)))
      generalize xs[i] = l at hst hbi ⊢
      obtain ⟨hl5, hok⟩ := hbi
      generalize (xs.take i).flatten = L at hm hfl hst
      refine W_loopJ (fun (b : Nat × List (Pay × Int)) => ⟨[(5, .val p5), (7, .val p), (22, .sl 1 plC xs), (23, .val (.int .i64 xs.length)), (24, .val (.int .i64 i)), (28, .sl 3 payC l), (29, .val (.int .i64 l.length)), (30, .val (.int .i64 b.1))], [.box p5 [.sl 1 plC xs] 152, .box p [.val mv] 168, mpP mv b.2, tab8]⟩) (fun b => b.1 ≤ l.length ∧ CntJ b.2 (L ++ l.take b.1)) (fun b => l.length - b.1) (0, m) (fun _ _ st => st_sub2 st goSubr goSubp) ⟨Nat.zero_le _, by simpa using hm⟩ ?_
      clear hm
      rintro ⟨j, m⟩ ⟨hj, hm⟩
      dsimp only at hj hm ⊢
      (refine goSt ?_; (repeat (refine goAl ?_; intro p hp; refine goSt ?_)))
      refine w_cond rfl (fun hlt2 => ?_) (fun hlt2 => ?_)
      · have hlt2' : j < l.length := by simpa using hlt2
        have hst2 : L ++ l.take (j + 1) = (L ++ l.take j) ++ [l[j]] := by rw [List.take_succ_eq_append_getElem hlt2', List.append_assoc]
        have hx := hok _ (List.getElem_mem hlt2')
        have hm1 := hm.snoc l[j]
        rw [← hst2] at hm1
        have hle := hm.le l[j]
        have hln := hm.len
        rw [List.length_append, List.length_take] at hle hln
        (refine goSt ?_; (repeat (refine goAl ?_; intro p hp; refine goSt ?_)))
        generalize l[j] = x at hx hm1 hle ⊢
        rename_i p7 hp7 _
        have hm6 : m.length ≤ 900000 := by omega
        have hc6 : 0 ≤ cntM m x ∧ cntM m x ≤ 900000 := by omega
        have hp6 := putM_len m x ((getM m x).getD 0)
        have hL1 : lkA iG (.int .i64 0) (getM m x) = .val (.int .i64 (cntM m x)) := lkA_int _
        have hL2 : lkA iG (.int .i64 0) (getM (putM m x ((getM m x).getD 0)) x) = .val (.int .i64 (cntM m x)) := by rw [getM_put, if_pos rfl]; rfl
        refine W_meetB ⟨[(5, .val p5), (7, .val p7), (22, .sl 1 plC xs), (23, .val (.int .i64 xs.length)), (24, .val (.int .i64 i)), (28, .sl 3 payC l), (29, .val (.int .i64 l.length)), (30, .val (.int .i64 j))], [.box p5 [.sl 1 plC xs] 152, .box p7 [.val mv] 168, mpP mv (putM m x (cntM m x + 1)), tab8]⟩ ?_ ?_
        · skip
          refine W_all mixedS ?_
          refine WA_go [0, 1] (by kernel_rfl) (by decide) ⟨⟨_, rfl, ?_⟩, ⟨_, rfl, ?_⟩, trivial⟩
          · (refine goSt ?_; (repeat (refine goAl ?_; intro p hp; refine goSt ?_)))
            refine nor_norm ?_
            refine WA_go [1] (by kernel_rfl) (by decide) ⟨⟨_, rfl, ?_⟩, trivial⟩
            (refine goSt ?_; (repeat (refine goAl ?_; intro p hp; refine goSt ?_)))
            refine nor_norm ?_
            refine WA_go [2, 4] (by kernel_rfl) (by decide) ⟨⟨_, rfl, ?_⟩, ⟨_, rfl, ?_⟩, trivial⟩
            · (first | (apply wl_look1 keyT_P x Tryd.underlying168 (fun w => by kernel_rfl); exact rfl; exact goAtm; exact rfl; exact kvP x; exact hx; exact rfl; rw [hL1]) | (apply wl_look1E keyT_P x Tryd.underlying168 (fun w => by kernel_rfl); exact rfl; exact goAtm; exact rfl; exact kvP x; exact hx; exact rfl; rw [hL2])); (refine goSt ?_; (repeat (refine goAl ?_; intro p hp; refine goSt ?_)))
              refine nor_norm ?_
              refine WA_go [3, 4] (by kernel_rfl) (by decide) ⟨⟨_, rfl, ?_⟩, ⟨_, rfl, ?_⟩, trivial⟩
              · (refine goSt ?_; (repeat (refine goAl ?_; intro p hp; refine goSt ?_)))
                refine nor_norm ?_
                refine WA_go [4] (by kernel_rfl) (by decide) ⟨⟨_, rfl, ?_⟩, trivial⟩
                (apply wl_ment (g := iG) keyT_P x (0 : Int) rfl Tryd.underlying168 (fun w => by kernel_rfl); exact rfl; exact goRm; exact rfl; exact kvP x; exact hx; omega; exact rfl); intro stmp; (refine goSt ?_; (repeat (refine goAl ?_; intro p hp; refine goSt ?_)))
                refine nor_norm ?_
                refine WA_go [5] (by kernel_rfl) (by decide) ⟨⟨_, rfl, ?_⟩, trivial⟩
                (refine goSt ?_; (repeat (refine goAl ?_; intro p hp; refine goSt ?_)))
                refine nor_norm ?_
                refine WA_go [6] (by kernel_rfl) (by decide) ⟨⟨_, rfl, ?_⟩, trivial⟩
                (apply wl_mstE (g := iG) keyT_P x (cntM m x + 1) Tryd.underlying168; exact rfl; exact goRm; exact rfl; exact hx; exact rfl; omega); rw [putM_put]; (refine goSt ?_; (repeat (refine goAl ?_; intro p hp; refine goSt ?_)))
                refine nor_norm ?_
                refine WA_done (by kernel_rfl) ?_
                exact ⟨rfl, fun _ _ st => st_sub2 st goSubr goSubp⟩
              · (apply wl_ment (g := iG) keyT_P x (0 : Int) rfl Tryd.underlying168 (fun w => by kernel_rfl); exact rfl; exact goRm; exact rfl; exact kvP x; exact hx; omega; exact rfl); intro stmp; (refine goSt ?_; (repeat (refine goAl ?_; intro p hp; refine goSt ?_)))
                refine nor_norm ?_
                refine WA_go [3, 5] (by kernel_rfl) (by decide) ⟨⟨_, rfl, ?_⟩, ⟨_, rfl, ?_⟩, trivial⟩
                · (refine goSt ?_; (repeat (refine goAl ?_; intro p hp; refine goSt ?_)))
                  refine nor_norm ?_
                  refine WA_go [5] (by kernel_rfl) (by decide) ⟨⟨_, rfl, ?_⟩, trivial⟩
                  (refine goSt ?_; (repeat (refine goAl ?_; intro p hp; refine goSt ?_)))
                  refine nor_norm ?_
                  refine WA_go [6] (by kernel_rfl) (by decide) ⟨⟨_, rfl, ?_⟩, trivial⟩
                  (apply wl_mstE (g := iG) keyT_P x (cntM m x + 1) Tryd.underlying168; exact rfl; exact goRm; exact rfl; exact hx; exact rfl; omega); rw [putM_put]; (refine goSt ?_; (repeat (refine goAl ?_; intro p hp; refine goSt ?_)))
                  refine nor_norm ?_
                  refine WA_done (by kernel_rfl) ?_
                  exact ⟨rfl, fun _ _ st => st_sub2 st goSubr goSubp⟩
                · (refine goSt ?_; (repeat (refine goAl ?_; intro p hp; refine goSt ?_)))
                  refine nor_norm ?_
                  refine WA_go [3] (by kernel_rfl) (by decide) ⟨⟨_, rfl, ?_⟩, trivial⟩
                  (refine goSt ?_; (repeat (refine goAl ?_; intro p hp; refine goSt ?_)))
                  refine nor_norm ?_
                  refine WA_go [6] (by kernel_rfl) (by decide) ⟨⟨_, rfl, ?_⟩, trivial⟩
                  (apply wl_mstE (g := iG) keyT_P x (cntM m x + 1) Tryd.underlying168; exact rfl; exact goRm; exact rfl; exact hx; exact rfl; omega); rw [putM_put]; (refine goSt ?_; (repeat (refine goAl ?_; intro p hp; refine goSt ?_)))
                  refine nor_norm ?_
                  refine WA_done (by kernel_rfl) ?_
                  exact ⟨rfl, fun _ _ st => st_sub2 st goSubr goSubp⟩
            · (apply wl_ment (g := iG) keyT_P x (0 : Int) rfl Tryd.underlying168 (fun w => by kernel_rfl); exact rfl; exact goRm; exact rfl; exact kvP x; exact hx; omega; exact rfl); intro stmp; (refine goSt ?_; (repeat (refine goAl ?_; intro p hp; refine goSt ?_)))
              refine nor_norm ?_
              refine WA_go [2, 5] (by kernel_rfl) (by decide) ⟨⟨_, rfl, ?_⟩, ⟨_, rfl, ?_⟩, trivial⟩
              · (first | (apply wl_look1 keyT_P x Tryd.underlying168 (fun w => by kernel_rfl); exact rfl; exact goAtm; exact rfl; exact kvP x; exact hx; exact rfl; rw [hL1]) | (apply wl_look1E keyT_P x Tryd.underlying168 (fun w => by kernel_rfl); exact rfl; exact goAtm; exact rfl; exact kvP x; exact hx; exact rfl; rw [hL2])); (refine goSt ?_; (repeat (refine goAl ?_; intro p hp; refine goSt ?_)))
                refine nor_norm ?_
                refine WA_go [3, 5] (by kernel_rfl) (by decide) ⟨⟨_, rfl, ?_⟩, ⟨_, rfl, ?_⟩, trivial⟩
                · (refine goSt ?_; (repeat (refine goAl ?_; intro p hp; refine goSt ?_)))
                  refine nor_norm ?_
                  refine WA_go [5] (by kernel_rfl) (by decide) ⟨⟨_, rfl, ?_⟩, trivial⟩
                  (refine goSt ?_; (repeat (refine goAl ?_; intro p hp; refine goSt ?_)))
                  refine nor_norm ?_
                  refine WA_go [6] (by kernel_rfl) (by decide) ⟨⟨_, rfl, ?_⟩, trivial⟩
                  (apply wl_mstE (g := iG) keyT_P x (cntM m x + 1) Tryd.underlying168; exact rfl; exact goRm; exact rfl; exact hx; exact rfl; omega); rw [putM_put]; (refine goSt ?_; (repeat (refine goAl ?_; intro p hp; refine goSt ?_)))
                  refine nor_norm ?_
                  refine WA_done (by kernel_rfl) ?_
                  exact ⟨rfl, fun _ _ st => st_sub2 st goSubr goSubp⟩
                · (refine goSt ?_; (repeat (refine goAl ?_; intro p hp; refine goSt ?_)))
                  refine nor_norm ?_
                  refine WA_go [3] (by kernel_rfl) (by decide) ⟨⟨_, rfl, ?_⟩, trivial⟩
                  (refine goSt ?_; (repeat (refine goAl ?_; intro p hp; refine goSt ?_)))
                  refine nor_norm ?_
                  refine WA_go [6] (by kernel_rfl) (by decide) ⟨⟨_, rfl, ?_⟩, trivial⟩
                  (apply wl_mstE (g := iG) keyT_P x (cntM m x + 1) Tryd.underlying168; exact rfl; exact goRm; exact rfl; exact hx; exact rfl; omega); rw [putM_put]; (refine goSt ?_; (repeat (refine goAl ?_; intro p hp; refine goSt ?_)))
                  refine nor_norm ?_
                  refine WA_done (by kernel_rfl) ?_
                  exact ⟨rfl, fun _ _ st => st_sub2 st goSubr goSubp⟩
              · (refine goSt ?_; (repeat (refine goAl ?_; intro p hp; refine goSt ?_)))
                refine nor_norm ?_
                refine WA_go [2] (by kernel_rfl) (by decide) ⟨⟨_, rfl, ?_⟩, trivial⟩
                (first | (apply wl_look1 keyT_P x Tryd.underlying168 (fun w => by kernel_rfl); exact rfl; exact goAtm; exact rfl; exact kvP x; exact hx; exact rfl; rw [hL1]) | (apply wl_look1E keyT_P x Tryd.underlying168 (fun w => by kernel_rfl); exact rfl; exact goAtm; exact rfl; exact kvP x; exact hx; exact rfl; rw [hL2])); (refine goSt ?_; (repeat (refine goAl ?_; intro p hp; refine goSt ?_)))
                refine nor_norm ?_
                refine WA_go [3] (by kernel_rfl) (by decide) ⟨⟨_, rfl, ?_⟩, trivial⟩
                (refine goSt ?_; (repeat (refine goAl ?_; intro p hp; refine goSt ?_)))
                refine nor_norm ?_
                refine WA_go [6] (by kernel_rfl) (by decide) ⟨⟨_, rfl, ?_⟩, trivial⟩
                (apply wl_mstE (g := iG) keyT_P x (cntM m x + 1) Tryd.underlying168; exact rfl; exact goRm; exact rfl; exact hx; exact rfl; omega); rw [putM_put]; (refine goSt ?_; (repeat (refine goAl ?_; intro p hp; refine goSt ?_)))
                refine nor_norm ?_
                refine WA_done (by kernel_rfl) ?_
                exact ⟨rfl, fun _ _ st => st_sub2 st goSubr goSubp⟩
          · (refine goSt ?_; (repeat (refine goAl ?_; intro p hp; refine goSt ?_)))
            refine nor_norm ?_
            refine WA_go [0] (by kernel_rfl) (by decide) ⟨⟨_, rfl, ?_⟩, trivial⟩
            (refine goSt ?_; (repeat (refine goAl ?_; intro p hp; refine goSt ?_)))
            refine nor_norm ?_
            refine WA_go [2, 4] (by kernel_rfl) (by decide) ⟨⟨_, rfl, ?_⟩, ⟨_, rfl, ?_⟩, trivial⟩
            · (first | (apply wl_look1 keyT_P x Tryd.underlying168 (fun w => by kernel_rfl); exact rfl; exact goAtm; exact rfl; exact kvP x; exact hx; exact rfl; rw [hL1]) | (apply wl_look1E keyT_P x Tryd.underlying168 (fun w => by kernel_rfl); exact rfl; exact goAtm; exact rfl; exact kvP x; exact hx; exact rfl; rw [hL2])); (refine goSt ?_; (repeat (refine goAl ?_; intro p hp; refine goSt ?_)))
              refine nor_norm ?_
              refine WA_go [3, 4] (by kernel_rfl) (by decide) ⟨⟨_, rfl, ?_⟩, ⟨_, rfl, ?_⟩, trivial⟩
              · (refine goSt ?_; (repeat (refine goAl ?_; intro p hp; refine goSt ?_)))
                refine nor_norm ?_
                refine WA_go [4] (by kernel_rfl) (by decide) ⟨⟨_, rfl, ?_⟩, trivial⟩
                (apply wl_ment (g := iG) keyT_P x (0 : Int) rfl Tryd.underlying168 (fun w => by kernel_rfl); exact rfl; exact goRm; exact rfl; exact kvP x; exact hx; omega; exact rfl); intro stmp; (refine goSt ?_; (repeat (refine goAl ?_; intro p hp; refine goSt ?_)))
                refine nor_norm ?_
                refine WA_go [5] (by kernel_rfl) (by decide) ⟨⟨_, rfl, ?_⟩, trivial⟩
                (refine goSt ?_; (repeat (refine goAl ?_; intro p hp; refine goSt ?_)))
                refine nor_norm ?_
                refine WA_go [6] (by kernel_rfl) (by decide) ⟨⟨_, rfl, ?_⟩, trivial⟩
                (apply wl_mstE (g := iG) keyT_P x (cntM m x + 1) Tryd.underlying168; exact rfl; exact goRm; exact rfl; exact hx; exact rfl; omega); rw [putM_put]; (refine goSt ?_; (repeat (refine goAl ?_; intro p hp; refine goSt ?_)))
                refine nor_norm ?_
                refine WA_done (by kernel_rfl) ?_
                exact ⟨rfl, fun _ _ st => st_sub2 st goSubr goSubp⟩
              · (apply wl_ment (g := iG) keyT_P x (0 : Int) rfl Tryd.underlying168 (fun w => by kernel_rfl); exact rfl; exact goRm; exact rfl; exact kvP x; exact hx; omega; exact rfl); intro stmp; (refine goSt ?_; (repeat (refine goAl ?_; intro p hp; refine goSt ?_)))
                refine nor_norm ?_
                refine WA_go [3, 5] (by kernel_rfl) (by decide) ⟨⟨_, rfl, ?_⟩, ⟨_, rfl, ?_⟩, trivial⟩
                · (refine goSt ?_; (repeat (refine goAl ?_; intro p hp; refine goSt ?_)))
                  refine nor_norm ?_
                  refine WA_go [5] (by kernel_rfl) (by decide) ⟨⟨_, rfl, ?_⟩, trivial⟩
                  (refine goSt ?_; (repeat (refine goAl ?_; intro p hp; refine goSt ?_)))
                  refine nor_norm ?_
                  refine WA_go [6] (by kernel_rfl) (by decide) ⟨⟨_, rfl, ?_⟩, trivial⟩
                  (apply wl_mstE (g := iG) keyT_P x (cntM m x + 1) Tryd.underlying168; exact rfl; exact goRm; exact rfl; exact hx; exact rfl; omega); rw [putM_put]; (refine goSt ?_; (repeat (refine goAl ?_; intro p hp; refine goSt ?_)))
                  refine nor_norm ?_
                  refine WA_done (by kernel_rfl) ?_
                  exact ⟨rfl, fun _ _ st => st_sub2 st goSubr goSubp⟩
                · (refine goSt ?_; (repeat (refine goAl ?_; intro p hp; refine goSt ?_)))
                  refine nor_norm ?_
                  refine WA_go [3] (by kernel_rfl) (by decide) ⟨⟨_, rfl, ?_⟩, trivial⟩
                  (refine goSt ?_; (repeat (refine goAl ?_; intro p hp; refine goSt ?_)))
                  refine nor_norm ?_
                  refine WA_go [6] (by kernel_rfl) (by decide) ⟨⟨_, rfl, ?_⟩, trivial⟩
                  (apply wl_mstE (g := iG) keyT_P x (cntM m x + 1) Tryd.underlying168; exact rfl; exact goRm; exact rfl; exact hx; exact rfl; omega); rw [putM_put]; (refine goSt ?_; (repeat (refine goAl ?_; intro p hp; refine goSt ?_)))
                  refine nor_norm ?_
                  refine WA_done (by kernel_rfl) ?_
                  exact ⟨rfl, fun _ _ st => st_sub2 st goSubr goSubp⟩
            · (apply wl_ment (g := iG) keyT_P x (0 : Int) rfl Tryd.underlying168 (fun w => by kernel_rfl); exact rfl; exact goRm; exact rfl; exact kvP x; exact hx; omega; exact rfl); intro stmp; (refine goSt ?_; (repeat (refine goAl ?_; intro p hp; refine goSt ?_)))
              refine nor_norm ?_
              refine WA_go [2, 5] (by kernel_rfl) (by decide) ⟨⟨_, rfl, ?_⟩, ⟨_, rfl, ?_⟩, trivial⟩
              · (first | (apply wl_look1 keyT_P x Tryd.underlying168 (fun w => by kernel_rfl); exact rfl; exact goAtm; exact rfl; exact kvP x; exact hx; exact rfl; rw [hL1]) | (apply wl_look1E keyT_P x Tryd.underlying168 (fun w => by kernel_rfl); exact rfl; exact goAtm; exact rfl; exact kvP x; exact hx; exact rfl; rw [hL2])); (refine goSt ?_; (repeat (refine goAl ?_; intro p hp; refine goSt ?_)))
                refine nor_norm ?_
                refine WA_go [3, 5] (by kernel_rfl) (by decide) ⟨⟨_, rfl, ?_⟩, ⟨_, rfl, ?_⟩, trivial⟩
                · (refine goSt ?_; (repeat (refine goAl ?_; intro p hp; refine goSt ?_)))
                  refine nor_norm ?_
                  refine WA_go [5] (by kernel_rfl) (by decide) ⟨⟨_, rfl, ?_⟩, trivial⟩
                  (refine goSt ?_; (repeat (refine goAl ?_; intro p hp; refine goSt ?_)))
                  refine nor_norm ?_
                  refine WA_go [6] (by kernel_rfl) (by decide) ⟨⟨_, rfl, ?_⟩, trivial⟩
                  (apply wl_mstE (g := iG) keyT_P x (cntM m x + 1) Tryd.underlying168; exact rfl; exact goRm; exact rfl; exact hx; exact rfl; omega); rw [putM_put]; (refine goSt ?_; (repeat (refine goAl ?_; intro p hp; refine goSt ?_)))
                  refine nor_norm ?_
                  refine WA_done (by kernel_rfl) ?_
                  exact ⟨rfl, fun _ _ st => st_sub2 st goSubr goSubp⟩
                · (refine goSt ?_; (repeat (refine goAl ?_; intro p hp; refine goSt ?_)))
                  refine nor_norm ?_
                  refine WA_go [3] (by kernel_rfl) (by decide) ⟨⟨_, rfl, ?_⟩, trivial⟩
                  (refine goSt ?_; (repeat (refine goAl ?_; intro p hp; refine goSt ?_)))
                  refine nor_norm ?_
                  refine WA_go [6] (by kernel_rfl) (by decide) ⟨⟨_, rfl, ?_⟩, trivial⟩
                  (apply wl_mstE (g := iG) keyT_P x (cntM m x + 1) Tryd.underlying168; exact rfl; exact goRm; exact rfl; exact hx; exact rfl; omega); rw [putM_put]; (refine goSt ?_; (repeat (refine goAl ?_; intro p hp; refine goSt ?_)))
                  refine nor_norm ?_
                  refine WA_done (by kernel_rfl) ?_
                  exact ⟨rfl, fun _ _ st => st_sub2 st goSubr goSubp⟩
              · (refine goSt ?_; (repeat (refine goAl ?_; intro p hp; refine goSt ?_)))
                refine nor_norm ?_
                refine WA_go [2] (by kernel_rfl) (by decide) ⟨⟨_, rfl, ?_⟩, trivial⟩
                (first | (apply wl_look1 keyT_P x Tryd.underlying168 (fun w => by kernel_rfl); exact rfl; exact goAtm; exact rfl; exact kvP x; exact hx; exact rfl; rw [hL1]) | (apply wl_look1E keyT_P x Tryd.underlying168 (fun w => by kernel_rfl); exact rfl; exact goAtm; exact rfl; exact kvP x; exact hx; exact rfl; rw [hL2])); (refine goSt ?_; (repeat (refine goAl ?_; intro p hp; refine goSt ?_)))
                refine nor_norm ?_
                refine WA_go [3] (by kernel_rfl) (by decide) ⟨⟨_, rfl, ?_⟩, trivial⟩
                (refine goSt ?_; (repeat (refine goAl ?_; intro p hp; refine goSt ?_)))
                refine nor_norm ?_
                refine WA_go [6] (by kernel_rfl) (by decide) ⟨⟨_, rfl, ?_⟩, trivial⟩
                (apply wl_mstE (g := iG) keyT_P x (cntM m x + 1) Tryd.underlying168; exact rfl; exact goRm; exact rfl; exact hx; exact rfl; omega); rw [putM_put]; (refine goSt ?_; (repeat (refine goAl ?_; intro p hp; refine goSt ?_)))
                refine nor_norm ?_
                refine WA_done (by kernel_rfl) ?_
                exact ⟨rfl, fun _ _ st => st_sub2 st goSubr goSubp⟩
        · (refine goSt ?_; (repeat (refine goAl ?_; intro p hp; refine goSt ?_)))
          (refine ⟨(j + 1, putM m x (cntM m x + 1)), fun _ _ st => st_sub2 st ?_ ?_, ?_, ?_⟩; exact goSubr; exact goSubp)
          · exact ⟨hlt2', hm1⟩
          · dsimp only; omega
      · have hjj : j = l.length := by simp at hlt2; omega
        subst hjj
        rw [List.take_length, ← hst] at hm
        (refine goSt ?_; (repeat (refine goAl ?_; intro p hp; refine goSt ?_)))
        (refine ⟨(i + 1, m), fun _ _ st => st_sub2 st ?_ ?_, ?_, ?_⟩; exact goSubr; exact goSubp)
        · exact ⟨hlt', hm⟩
        · dsimp only; omega
    · have hii : i = xs.length := by simp at hlt; omega
      subst hii
      rw [List.take_length] at hm
      have hfil : (fun x => !decide ((xs.flatten.count x : Int) < xs.length)) = fun x => !decide (cntM m x < xs.length) := by funext x; rw [hm.eq]
      rw [hfil]
      (refine goSt ?_; (repeat (refine goAl ?_; intro p hp; refine goSt ?_)))
      generalize xs[0] = l0 at hb0 ⊢
      obtain ⟨hl5, hok⟩ := hb0
      (apply wl_callC (clonePy_con l0 (by omega)); exact rfl; exact Cut.nil; exact rfl)
      rintro _ _ ⟨u, rfl, rfl⟩
      (refine goSt ?_; (repeat (refine goAl ?_; intro p hp; refine goSt ?_)))
      (apply WL_frzC 46 0 1; exact rfl; exact rfl; exact goRm)
      (apply WL_frzC 46 1 1; exact rfl; exact rfl; exact goRm)
      (apply wl_callP (deleteFuncPL_con u l0 _ _ (fun x => decide (cntM m x < xs.length)) (mpP mv m) (by omega) (fun x hx => sure1_con mv m xs x (hok x hx))); exact rfl; exact goCutl; exact rfl)
      rintro _ _ ⟨u2, rfl, rfl⟩
      (refine goSt ?_; (repeat (refine goAl ?_; intro p hp; refine goSt ?_)))
      (apply Res_frz 2; exact rfl; exact goRm)
      (apply resK2; exact rfl; exact rfl; exact rfl; exact ⟨rfl, rfl⟩; exact goCutl)
  · have C := askedErr_con f hS he
    unfold surN
    rw [if_neg he]
    generalize errL f = e at C he ⊢
    refine con_of Tryd.func53 rfl (enters_of Tryd.func53 (by kernel_rfl) rfl) rfl ?_; intro n w0 F0 G0
    (refine goSt ?_; (repeat (refine goAl ?_; intro p hp; refine goSt ?_)))
    (apply wl_callP (C); exact rfl; exact goCutl; exact rfl)
    rintro _ _ ⟨rfl, rfl⟩
    (refine goSt ?_; (repeat (refine goAl ?_; intro p hp; refine goSt ?_)))
    refine w_cond rfl (fun h => ?_) (fun h => ?_)
    · (refine goSt ?_; (repeat (refine goAl ?_; intro p hp; refine goSt ?_)))
      refine Res_nil 2 3 payC rfl ?_
      (apply resK2; exact rfl; exact rfl; exact rfl; exact ⟨rfl, rfl⟩; exact goCutl)
    · exact absurd (by simpa using h) he
end Go.Proofs.YtihonljdanjfmaaDoor.Sw
namespace Go.Proofs.YtihonljdanjfmaaDoor.Sw
open Go.RowKit Go Go.Shelf Go.Proofs
open Go.Proofs.YtihonljdanjfmaaDoor.Gr (Ok Ord Forest Zr lf headsR hf Lab payLt payLt_iff payLt_no payLt_anti SortedP sorted_uniq amt payE treeR treeR_iff pick Side)
theorem ids_inj {ids : List Int} (h : rises 0 ids = true) {i j : Nat} (hi : i < ids.length) (hj : j < ids.length) (e : ids.getD i 0 = ids.getD j 0) : i = j := by
  rw [List.getD_eq_getElem?_getD, List.getD_eq_getElem?_getD, List.getElem?_eq_getElem hi, List.getElem?_eq_getElem hj] at e
  simp only [Option.getD_some] at e
  rcases Nat.lt_trichotomy i j with k | k | k
  · have := rises_sorted h i j hi hj k; omega
  · exact k
  · have := rises_sorted h j i hj hi k; omega
theorem payE_ends (ids : List Int) (x : Nat → Int) (L : List (Nat × Nat)) (e : Nat × Nat) : ((payE ids x L e).a = ids.getD e.1 0 ∧ (payE ids x L e).b = ids.getD e.2 0) ∨ ((payE ids x L e).a = ids.getD e.2 0 ∧ (payE ids x L e).b = ids.getD e.1 0) := by
  unfold payE
  split
  · exact .inr ⟨rfl, rfl⟩
  · exact .inl ⟨rfl, rfl⟩
theorem payE_inj {f : Flo} (hr : rises 0 f.ids = true) {x : Nat → Int} {L M : List (Nat × Nat)} {e e' : Nat × Nat} (h : PrS f e) (h' : PrS f e') (k : payE f.ids x L e = payE f.ids x M e') : e = e' := by
  have a1 := payE_ends f.ids x L e
  have a2 := payE_ends f.ids x M e'
  rw [k] at a1
  obtain ⟨h1, h2, _⟩ := h
  obtain ⟨h3, h4, _⟩ := h'
  have inj := fun i j hi hj => ids_inj hr (i := i) (j := j) hi hj
  rcases a1 with ⟨b1, b2⟩ | ⟨b1, b2⟩ <;> rcases a2 with ⟨c1, c2⟩ | ⟨c1, c2⟩
  · exact Prod.ext (inj _ _ (by omega) (by omega) (b1.symm.trans c1)) (inj _ _ (by omega) (by omega) (b2.symm.trans c2))
  · have := inj _ _ (by omega) (by omega) (b1.symm.trans c1)
    have := inj _ _ (by omega) (by omega) (b2.symm.trans c2)
    omega
  · have := inj _ _ (by omega) (by omega) (b1.symm.trans c1)
    have := inj _ _ (by omega) (by omega) (b2.symm.trans c2)
    omega
  · exact Prod.ext (inj _ _ (by omega) (by omega) (b2.symm.trans c2)) (inj _ _ (by omega) (by omega) (b1.symm.trans c1))
theorem SetL.sub {f : Flo} {cu : List Int} (hr : rises 0 f.ids = true) {k k' : Nat} {L M : List (Nat × Nat)} {out : List Pay} (h : SetL f.ids cu (PrS f) k L out) (h' : SetL f.ids cu (PrS f) k' M out) {e : Nat × Nat} (he : e ∈ L) : e ∈ M := by
  have h1 : payE f.ids (lf cu) L e ∈ out := h.pe.mem_iff.2 (List.mem_map.2 ⟨e, he, rfl⟩)
  obtain ⟨e', he', h2⟩ := List.mem_map.1 (h'.pe.mem_iff.1 h1)
  rw [← payE_inj hr (h'.mem e' he') (h.mem e he) h2]; exact he'
theorem leafG_nodup (f : Flo) (cu : List Int) (l : List (Nat × Nat)) : (leafG f cu l).Nodup := by
  unfold leafG
  split
  · cases lstR f.ids l cu <;> simp
  · simp
theorem chG_nodup {f : Flo} {cu : List Int} {many : Nat} (hr : rises 0 f.ids = true) : ∀ {t l : List (Nat × Nat)}, (l ++ t).Nodup → (∀ p ∈ l ++ t, PrS f p) → Forest l → l.length ≤ many → (chG f cu many t l).Nodup
  | [], l, hn, hl, hf, hle => by
    rw [chG]
    split
    · exact leafG_nodup _ _ _
    · simp
  | p :: t, l, hn, hl, hf, hle => by
    by_cases hm : l.length = many
    · rw [chG_yes hm]; exact leafG_nodup _ _ _
    · rw [chG_cons hm]
      have e1 : l ++ p :: t = (l ++ [p]) ++ t := by simp
      have hn1 : ((l ++ [p]) ++ t).Nodup := by rw [← e1]; exact hn
      have hl1 : ∀ q ∈ (l ++ [p]) ++ t, PrS f q := by rw [← e1]; exact hl
      have hn2 : (l ++ t).Nodup := hn.sublist ((List.sublist_cons_self p t).append_left l)
      have hl2 : ∀ q ∈ l ++ t, PrS f q := fun q hq => hl q (by simp at hq ⊢; rcases hq with h | h <;> simp [h])
      have bd : ∀ {l : List (Nat × Nat)}, (∀ q ∈ l, PrS f q) → ∀ q ∈ l, q.1 < f.ids.length ∧ q.2 < f.ids.length := fun h q hq => ⟨Nat.lt_trans (h q hq).1 (h q hq).2.1, (h q hq).2.1⟩
      have hnp : (l ++ [p]).Nodup := (List.nodup_append.1 hn1).1
      have hp := bd hl p (by simp)
      have hap : Forest (l ++ [p]) ↔ apB f.ids.length l p = true := by
        rw [Gr.forest_snoc hnp, ← Gr.lab_apart (Gr.lab_all (fun q hq => bd hl q (by simp [hq]))) hp.1 hp.2]
        unfold apB
        simp [hf]
      have ih2 := chG_nodup hr (cu := cu) hn2 hl2 hf hle
      split
      · rename_i ha
        have hlp : (l ++ [p]).length ≤ many := by rw [List.length_append, List.length_singleton]; omega
        refine List.nodup_append.2 ⟨chG_nodup hr hn1 hl1 (hap.2 ha) hlp, ih2, fun a hA b hB e => ?_⟩
        subst e
        obtain ⟨s, h1, h2, h3, h4, h5⟩ := (chG_mem hn1 (bd hl1) (hap.2 ha) hlp).1 hA
        obtain ⟨s', k1, k2, k3, k4, k5⟩ := (chG_mem hn2 (bd hl2) hf hle).1 hB
        obtain ⟨h6, h7, h8⟩ := lstR_iff.1 h5
        obtain ⟨k6, k7, k8⟩ := lstR_iff.1 k5
        have S1 : SetL f.ids cu (PrS f) many ((l ++ [p]) ++ s) a := ⟨hn1.sublist (h1.append_left _), fun e he => hl1 e ((h1.append_left _).subset he), h2, h3, h4, h6, h7, h8⟩
        have S2 : SetL f.ids cu (PrS f) many (l ++ s') a := ⟨hn2.sublist (k1.append_left _), fun e he => hl2 e ((k1.append_left _).subset he), k2, k3, k4, k6, k7, k8⟩
        have hpm : p ∈ l ++ s' := S1.sub hr S2 (by simp)
        have hpt : p ∈ l ++ t := (k1.append_left _).subset hpm
        have hn3 : (p :: (l ++ t)).Nodup := (List.perm_middle.nodup_iff).1 hn
        exact (List.nodup_cons.1 hn3).1 hpt
      · simpa using ih2
theorem lstsR_nodup {f : Flo} (hr : rises 0 f.ids = true) (k : Nat) : (lstsR f (owed8 f) k).Nodup :=
  chG_nodup hr (by simpa using prP_nodup _ _) (fun p hp => prP_mem.1 (by simpa using hp)) forest_nil (Nat.zero_le _)
theorem pick_inj {α : Type} : ∀ {l : List α} {s s' : Nat}, l.Nodup → s < 2 ^ l.length → s' < 2 ^ l.length → (∀ e, e ∈ pick l s ↔ e ∈ pick l s') → s = s'
  | [], s, s', _, h, h', _ => by simp at h h'; omega
  | p :: l, s, s', hn, h, h', hm => by
    obtain ⟨n1, n2⟩ := List.nodup_cons.1 hn
    rw [List.length_cons, Nat.pow_succ] at h h'
    have no : ∀ s, p ∉ pick l s := fun s hp => n1 ((Gr.pick_sub l s).subset hp)
    unfold pick at hm
    have hpar : s % 2 = s' % 2 := by
      have := hm p
      by_cases a : s % 2 = 1 <;> by_cases b : s' % 2 = 1
      · omega
      · rw [if_pos a, if_neg b] at this; exact absurd (this.1 (by simp)) (no _)
      · rw [if_neg a, if_pos b] at this; exact absurd (this.2 (by simp)) (no _)
      · omega
    have ih : s / 2 = s' / 2 := pick_inj n2 (by omega) (by omega) fun e => by
      have he := hm e
      by_cases a : s % 2 = 1
      · have b : s' % 2 = 1 := by omega
        rw [if_pos a, if_pos b] at he
        by_cases hep : e = p
        · subst hep; exact ⟨fun h => absurd h (no _), fun h => absurd h (no _)⟩
        · simpa [hep] using he
      · have b : ¬ s' % 2 = 1 := by omega
        rw [if_neg a, if_neg b] at he; exact he
    omega
theorem allR_nodup {f : Flo} (hr : rises 0 f.ids = true) (k : Nat) : (allR f k).Nodup := by
  have hok := prR_ok (spk f) f.ids.length
  unfold allR allTo
  have h0 : (List.range (2 ^ (prR (spk f) f.ids.length f.ids.length).length)).Pairwise (fun a b => ∀ x ∈ (if (pick (prR (spk f) f.ids.length f.ids.length) a).length = k then treeR f.ids (pick (prR (spk f) f.ids.length f.ids.length) a) (owed8 f) else none), ∀ y ∈ (if (pick (prR (spk f) f.ids.length f.ids.length) b).length = k then treeR f.ids (pick (prR (spk f) f.ids.length f.ids.length) b) (owed8 f) else none), x ≠ y) := by
    refine List.Pairwise.imp_of_mem ?_ (List.nodup_range (n := 2 ^ (prR (spk f) f.ids.length f.ids.length).length))
    intro a b ha hb hne x hx y hy e
    subst e
    have toS : ∀ {s}, x ∈ (if (pick (prR (spk f) f.ids.length f.ids.length) s).length = k then treeR f.ids (pick (prR (spk f) f.ids.length f.ids.length) s) (owed8 f) else none) → SetL f.ids (owed8 f) (PrS f) k (pick (prR (spk f) f.ids.length f.ids.length) s) x := fun {s} h => by
      split at h
      · rename_i hk
        have hsub := Gr.pick_sub (prR (spk f) f.ids.length f.ids.length) s
        have hoS := hok.sub hsub
        obtain ⟨h1, h2, h3, h4, h5⟩ := (treeR_iff hoS (owed8_len f)).1 h
        exact ⟨hoS.nd, fun e he => by have := (prR_mem (Nat.le_refl _)).1 (hsub.subset he); exact ⟨this.2.1, this.2.2.1, this.2.2.2⟩, hk, h1, h2, h3, h4, h5⟩
      · cases h
    exact hne (pick_inj hok.nd (List.mem_range.1 ha) (List.mem_range.1 hb) fun e => ⟨fun he => (toS hx).sub hr (toS hy) he, fun he => (toS hy).sub hr (toS hx) he⟩)
  exact List.pairwise_filterMap.2 h0
/-- Both list the same. -/
theorem lists_perm {f : Flo} (hr : rises 0 f.ids = true) (k : Nat) : (lstsR f (owed8 f) k).Perm (allR f k) :=
  (List.perm_ext_iff_of_nodup (lstsR_nodup hr k) (allR_nodup hr k)).2 fun out => lstsR_mem.trans allR_mem.symm
theorem SetL.small {f : Flo} {k : Nat} {L : List (Nat × Nat)} {out : List Pay} (h : SetL f.ids (owed8 f) (PrS f) k L out) : k < max 1 f.ids.length := by
  have hok : Ok f.ids.length L := ⟨h.nd, fun p hp => by have := h.mem p hp; exact ⟨Nat.lt_trans this.1 this.2.1, this.2.1, Nat.ne_of_lt this.1⟩⟩
  have hm : Gr.Min f.ids.length L (lf (owed8 f)) := fun e he hz => by
    obtain ⟨Q, hQ⟩ := Gr.side_of h.fo he (.inr ⟨rfl, rfl⟩ : Gr.Ends e e.2 e.1)
    exact h.nz e he (by rw [Gr.amt_side h.nd h.zr hQ]; exact hz Q hQ.cl)
  have := Gr.Min.small hok h.zr hm
  rw [h.len] at this
  omega
theorem fewTo_ext {α : Type} {g : Nat → List α} {m : Nat} (h : ∀ k, m ≤ k → g k = []) : ∀ j, fewTo g (m + j) = fewTo g m
  | 0 => rfl
  | j + 1 => by
    have ih := fewTo_ext h j
    rw [← Nat.add_assoc, fewTo]
    split
    · rename_i he
      rw [h _ (by omega), ← ih]
      rcases hq : fewTo g (m + j) with _ | ⟨x, t⟩
      · rfl
      · rw [hq] at he; cases he
    · exact ih
theorem fewTo_perm {α : Type} {g g' : Nat → List α} (h : ∀ k, (g k).Perm (g' k)) : ∀ m, (fewTo g m).Perm (fewTo g' m)
  | 0 => .refl _
  | m + 1 => by
    have ih := fewTo_perm h m
    rw [fewTo, fewTo]
    have e : (fewTo g m).isEmpty = (fewTo g' m).isEmpty := by
      have hl := ih.length_eq
      generalize fewTo g m = A at hl
      generalize fewTo g' m = B at hl
      cases A <;> cases B <;> first | rfl | (simp at hl)
    rw [e]
    split
    · exact h m
    · exact ih
theorem few_perm {f : Flo} (hF : FloF f) (hr : rises 0 f.ids = true) : (lsF f).Perm (fewTo (allR f) 6) := by
  have hn := hF.ids
  have hz : ∀ k, max 1 f.ids.length ≤ k → allR f k = [] := fun k hk => by
    rcases hq : allR f k with _ | ⟨x, t⟩
    · rfl
    · have : x ∈ allR f k := by rw [hq]; simp
      obtain ⟨L, hL⟩ := allR_mem.1 this
      have := hL.small
      omega
  have e := fewTo_ext hz (6 - max 1 f.ids.length)
  rw [show max 1 f.ids.length + (6 - max 1 f.ids.length) = 6 by omega] at e
  rw [e]
  exact fewTo_perm (fun k => lists_perm hr k) _
end Go.Proofs.YtihonljdanjfmaaDoor.Sw
namespace Go.Proofs.YtihonljdanjfmaaDoor.Sw
open Go.RowKit Go Go.Shelf Go.Proofs
open Go.Proofs.YtihonljdanjfmaaDoor.Gr (payLt payLt_iff payLt_no payLt_anti SortedP sorted_uniq payE lf)
theorem fewTo_one {α : Type} {g : Nat → List α} : ∀ m, fewTo g m = [] ∨ ∃ k, k < m ∧ fewTo g m = g k
  | 0 => .inl rfl
  | m + 1 => by
    rw [fewTo]
    split
    · exact .inr ⟨m, by omega, rfl⟩
    · rcases fewTo_one (g := g) m with h | ⟨k, h1, h2⟩
      · exact .inl h
      · exact .inr ⟨k, by omega, h2⟩
/-- What holds of a list that is told. -/
structure Told (f : Flo) (k : Nat) (l : List Pay) : Prop where
  len : l.length = k
  so : SortedP l
  nd : l.Nodup
  ok : ∀ x ∈ l, OkP x ∧ 1 ≤ x.p
theorem told {f : Flo} (hF : FloF f) (hS : Sml f) (hr : rises 0 f.ids = true) {k : Nat} {l : List Pay} (h : l ∈ allR f k) : Told f k l := by
  obtain ⟨L, hL⟩ := allR_mem.1 h
  have hp := allTo_pays (prR_ok (spk f) f.ids.length) (owed8_len f) (by omega) (owed8_btw hF hS) h
  have hn := hF.ids
  refine ⟨hp.1, hL.so, (hL.pe.nodup_iff).2 ?_, fun x hx => ?_⟩
  · rw [List.Nodup, List.pairwise_map]
    exact hL.nd.imp_of_mem fun {a b} ha hb hne e => hne (payE_inj hr (hL.mem a ha) (hL.mem b hb) e)
  · have h2 := hp.2 x hx
    have h3 : (f.ids.length : Int) * 200000000 ≤ 6 * 200000000 := Int.mul_le_mul_of_nonneg_right (by omega) (by omega)
    obtain ⟨e, he, rfl⟩ := List.mem_map.1 (hL.pe.mem_iff.1 hx)
    have hb : ∀ i, i < f.ids.length → 1 ≤ f.ids.getD i 0 ∧ f.ids.getD i 0 ≤ 9999 := fun i hi => by
      rw [List.getD_eq_getElem?_getD, List.getElem?_eq_getElem hi]
      have := rises_all hr _ (List.getElem_mem hi)
      simp only [Option.getD_some]; omega
    have hm := hL.mem e he
    have b1 := hb e.1 (Nat.lt_trans hm.1 hm.2.1)
    have b2 := hb e.2 hm.2.1
    rcases payE_ends f.ids (lf (owed8 f)) L e with ⟨c1, c2⟩ | ⟨c1, c2⟩
    · exact ⟨⟨by rw [c1]; omega, by rw [c2]; omega, by omega⟩, h2.1⟩
    · exact ⟨⟨by rw [c1]; omega, by rw [c2]; omega, by omega⟩, h2.1⟩
theorem Told.payB {f : Flo} {k : Nat} {l : List Pay} (h : Told f k l) (hk : k ≤ 1000) : PayB l := ⟨by rw [h.len]; exact hk, fun x hx => (h.ok x hx).1.p⟩
theorem askR_err {f : Flo} (h : floOk f = true) : errL f = (askR f).2.2 := by
  have hp := few_perm (flo_f h) (rises_of_ok h)
  unfold errL askR
  rw [if_pos h, if_pos h]
  have e : (fewP f (owed8 f)).isEmpty = (fewTo (allR f) 6).isEmpty := by
    have hl := hp.length_eq
    unfold lsF at hl
    generalize fewP f (owed8 f) = A at hl
    generalize fewTo (allR f) 6 = B at hl
    cases A <;> cases B <;> first | rfl | (simp at hl)
  rw [e]
  split <;> rfl
theorem askR_no {f : Flo} (h : floOk f = false) : errL f = 80 ∧ askR f = ([], 0, 80) := by
  unfold errL askR
  rw [h]
  exact ⟨rfl, rfl⟩
theorem askR_ls {f : Flo} (h : floOk f = true) (he : errL f = 0) : (askR f).1 = fewTo (allR f) 6 ∧ (askR f).2.1 = chTo (allR f) 6 := by
  rw [askR_err h] at he
  unfold askR at he ⊢
  rw [if_pos h] at he ⊢
  split
  · rename_i h2
    rw [if_pos h2] at he
    exact absurd he (by decide)
  · exact ⟨rfl, rfl⟩
/-- What both have found, by name. -/
structure Both (f : Flo) (k : Nat) (A B : List (List Pay)) : Prop where
  pe : A.Perm B
  to : ∀ l ∈ B, Told f k l
  neA : A ≠ []
  neB : B ≠ []
theorem both {f : Flo} (hS : Sml f) (h : floOk f = true) (he : errL f = 0) : ∃ k, k < 6 ∧ Both f k (lsF f) (askR f).1 := by
  have hF := flo_f h
  have hr := rises_of_ok h
  rw [(askR_ls h he).1]
  have hp := few_perm hF hr
  have hA := lsF_ne he
  have hB : fewTo (allR f) 6 ≠ [] := fun e => hA (by rw [e] at hp; exact List.perm_nil.1 hp)
  rcases fewTo_one (g := allR f) 6 with e | ⟨k, hk, e⟩
  · exact absurd e hB
  · exact ⟨k, hk, hp, fun l hl => told hF hS hr (by rw [← e]; exact hl), hA, hB⟩
theorem Both.toA {f : Flo} {k : Nat} {A B : List (List Pay)} (h : Both f k A B) : ∀ l ∈ A, Told f k l := fun l hl => h.to l (h.pe.mem_iff.1 hl)
theorem head_mem {α : Type} {l : List (List α)} (h : l ≠ []) : l.headD [] ∈ l := by
  obtain ⟨x, t, rfl⟩ := List.exists_cons_of_ne_nil h
  simp
theorem few_eq {f : Flo} (hS : Sml f) : fewN f = fewN8 f := by
  unfold fewN fewN8
  cases h : floOk f with
  | false => rw [(askR_no h).1, (askR_no h).2]; rfl
  | true =>
    rw [← askR_err h]
    split
    · rename_i he
      obtain ⟨k, _, hb⟩ := both hS h he
      rw [(hb.toA _ (head_mem hb.neA)).len, (hb.to _ (head_mem hb.neB)).len]
    · rfl
theorem cnt_eq {f : Flo} (hS : Sml f) : cntN f = cntN8 f := by
  unfold cntN cntN8
  cases h : floOk f with
  | false => rw [(askR_no h).1, (askR_no h).2]; rfl
  | true =>
    rw [← askR_err h]
    split
    · rename_i he
      obtain ⟨k, _, hb⟩ := both hS h he
      rw [hb.pe.length_eq, he]
    · rename_i he
      have he2 : (askR f).1 = [] := by
        rw [askR_err h] at he
        unfold askR at he ⊢
        rw [if_pos h] at he ⊢
        split
        · rfl
        · rename_i h2; rw [if_neg h2] at he; exact absurd rfl he
      rw [he2]; rfl
end Go.Proofs.YtihonljdanjfmaaDoor.Sw
namespace Go.Proofs.YtihonljdanjfmaaDoor.Sw
open Go.RowKit Go Go.Shelf Go.Proofs
open Go.Proofs.YtihonljdanjfmaaDoor.Gr (payLt payLt_iff payLt_no payLt_anti SortedP sorted_uniq payE lf)
theorem sumPay_nn : ∀ {l : List Pay}, (∀ x ∈ l, 1 ≤ x.p) → 0 ≤ sumPay l
  | [], _ => by simp [sumPay]
  | x :: t, h => by
    have h1 := h x (by simp)
    have h2 := sumPay_nn (l := t) fun y hy => h y (by simp [hy])
    rw [sumPay_cons]; omega
/-- The least of several numbers. -/
structure Lst (p : Int → Prop) (m : Int) : Prop where
  is : p m
  le : ∀ x, p x → m ≤ x
theorem Lst.uniq {p : Int → Prop} {m m' : Int} (h : Lst p m) (h' : Lst p m') : m = m' := by
  have := h.le _ h'.is
  have := h'.le _ h.is
  omega
theorem bstJ_some : ∀ (xs : List Int) (b : Int), ∃ m, xs.foldl bstJ (some b) = some m ∧ Lst (fun x => x = b ∨ x ∈ xs) m
  | [], b => ⟨b, rfl, .inl rfl, fun x h => by rcases h with rfl | h; exact Int.le_refl _; cases h⟩
  | x :: t, b => by
    have e : bstJ (some b) x = some (if x < b then x else b) := by
      unfold bstJ cmpR
      dsimp only
      by_cases h : x < b
      · simp [h]
      · by_cases h2 : b < x <;> simp [h, h2]
    rw [List.foldl_cons, e]
    obtain ⟨m, h1, h2⟩ := bstJ_some t (if x < b then x else b)
    refine ⟨m, h1, ?_, fun y hy => ?_⟩
    · rcases h2.is with h | h
      · split at h
        · exact .inr (by simp [h])
        · exact .inl h
      · exact .inr (by simp [h])
    · have hb := h2.le _ (.inl rfl)
      rcases hy with rfl | hy
      · split at hb <;> omega
      · rcases List.mem_cons.1 hy with rfl | hy
        · split at hb <;> omega
        · exact h2.le _ (.inr hy)
theorem bstJ_lst {xs : List Int} (h : xs ≠ []) : Lst (fun x => x ∈ xs) ((xs.foldl bstJ none).getD 0) := by
  obtain ⟨x, t, rfl⟩ := List.exists_cons_of_ne_nil h
  obtain ⟨m, h1, h2⟩ := bstJ_some t x
  rw [List.foldl_cons, show bstJ none x = some x from rfl, h1]
  exact ⟨by rcases h2.is with h | h <;> simp [h], fun y hy => h2.le y (List.mem_cons.1 hy)⟩
theorem sumsTo_mem {f : Flo} {cu : List Int} {s : Int} : ∀ {m : Nat}, s ∈ sumsTo f cu m ↔ ∃ k, k < m ∧ ∃ l ∈ lstsR f cu k, sumPay l = s
  | 0 => by simp [sumsTo]
  | m + 1 => by
    rw [sumsTo, List.mem_append, sumsTo_mem, List.mem_map]
    constructor
    · rintro (⟨k, h1, h2⟩ | h)
      · exact ⟨k, by omega, h2⟩
      · exact ⟨m, by omega, h⟩
    · rintro ⟨k, h1, h2⟩
      by_cases hk : k = m
      · subst hk; exact .inr h2
      · exact .inl ⟨k, by omega, h2⟩
theorem chS_fold : ∀ (l : List (List Pay)) (c : Int), (∀ x ∈ l, 0 ≤ sumPay x) → (c < 0 ∧ l = [] ∧ l.foldl chS c = c) ∨ Lst (fun s => (0 ≤ c ∧ s = c) ∨ ∃ x ∈ l, sumPay x = s) (l.foldl chS c)
  | [], c, _ => by
    by_cases h : c < 0
    · exact .inl ⟨h, rfl, rfl⟩
    · exact .inr ⟨.inl ⟨by omega, rfl⟩, fun s hs => by rcases hs with ⟨_, rfl⟩ | ⟨x, hx, _⟩; exact Int.le_refl _; cases hx⟩
  | x :: t, c, h => by
    have hx := h x (by simp)
    rw [List.foldl_cons]
    have e : chS c x = if c < 0 ∨ sumPay x < c then sumPay x else c := rfl
    have h0 : 0 ≤ chS c x := by rw [e]; split <;> omega
    rcases chS_fold t (chS c x) fun y hy => h y (by simp [hy]) with ⟨h1, _⟩ | h1
    · omega
    · refine .inr ⟨?_, fun s hs => ?_⟩
      · rcases h1.is with ⟨_, h2⟩ | ⟨y, hy, h2⟩
        · rw [h2, e]
          split
          · exact .inr ⟨x, by simp, rfl⟩
          · exact .inl ⟨by omega, rfl⟩
        · exact .inr ⟨y, by simp [hy], h2⟩
      · have hb := h1.le _ (.inl ⟨h0, rfl⟩)
        rcases hs with ⟨h2, rfl⟩ | ⟨y, hy, rfl⟩
        · generalize t.foldl chS (chS s x) = M at hb ⊢
          rw [e] at hb; split at hb <;> omega
        · rcases List.mem_cons.1 hy with rfl | hy
          · generalize t.foldl chS (chS c y) = M at hb ⊢
            rw [e] at hb; split at hb <;> omega
          · exact h1.le _ (.inr ⟨y, hy, rfl⟩)
theorem chTo_lst {g : Nat → List (List Pay)} (h : ∀ k, ∀ x ∈ g k, 0 ≤ sumPay x) : ∀ m, (chTo g m = -1 ∧ ∀ k, k < m → g k = []) ∨ Lst (fun s => ∃ k, k < m ∧ ∃ x ∈ g k, sumPay x = s) (chTo g m)
  | 0 => .inl ⟨rfl, fun k hk => by omega⟩
  | m + 1 => by
    rw [chTo]
    have hx := chS_fold (g m) (chTo g m) (h m)
    rcases chTo_lst h m with ⟨h1, h2⟩ | h1
    · rcases hx with ⟨_, h4, h5⟩ | h3
      · refine .inl ⟨by rw [h5, h1], fun k hk => ?_⟩
        by_cases e : k = m
        · subst e; exact h4
        · exact h2 k (by omega)
      · refine .inr ⟨?_, fun s hs => ?_⟩
        · rcases h3.is with ⟨h4, _⟩ | ⟨x, hx, e⟩
          · omega
          · exact ⟨m, by omega, x, hx, e⟩
        · obtain ⟨k, hk, x, hx, e⟩ := hs
          by_cases ek : k = m
          · subst ek; exact h3.le _ (.inr ⟨x, hx, e⟩)
          · rw [h2 k (by omega)] at hx; cases hx
    · have h0 : 0 ≤ chTo g m := by
        obtain ⟨k, _, x, hx, e⟩ := h1.is
        rw [← e]; exact h k x hx
      rcases hx with ⟨h4, _⟩ | h3
      · omega
      · refine .inr ⟨?_, fun s hs => ?_⟩
        · rcases h3.is with ⟨_, e⟩ | ⟨x, hx, e⟩
          · rw [e]
            obtain ⟨k, hk, r⟩ := h1.is
            exact ⟨k, by omega, r⟩
          · exact ⟨m, by omega, x, hx, e⟩
        · obtain ⟨k, hk, x, hx, e⟩ := hs
          by_cases ek : k = m
          · subst ek; exact h3.le _ (.inr ⟨x, hx, e⟩)
          · exact Int.le_trans (h3.le _ (.inl ⟨h0, rfl⟩)) (h1.le _ ⟨k, by omega, x, hx, e⟩)
theorem chp_eq {f : Flo} (hS : Sml f) : chpN f = chpN8 f := by
  unfold chpN chpN8
  cases h : floOk f with
  | false => rw [(askR_no h).1, (askR_no h).2]; rfl
  | true =>
    rw [← askR_err h]
    split
    · rename_i he
      have hF := flo_f h
      have hr := rises_of_ok h
      have hn := hF.ids
      rw [(askR_ls h he).2]
      have hnn : ∀ k, ∀ x ∈ allR f k, 0 ≤ sumPay x := fun k x hx => sumPay_nn fun y hy => ((told hF hS hr hx).ok y hy).2
      have hB : fewTo (allR f) 6 ≠ [] := by
        obtain ⟨k, _, hb⟩ := both hS h he
        rw [← (askR_ls h he).1]; exact hb.neB
      rcases chTo_lst hnn 6 with ⟨_, h2⟩ | h1
      · exact absurd (fewTo_nil.2 h2) hB
      · have hiff : ∀ s, s ∈ sumsTo f (owed8 f) (max 1 f.ids.length) ↔ ∃ k, k < 6 ∧ ∃ x ∈ allR f k, sumPay x = s := fun s => by
          rw [sumsTo_mem]
          constructor
          · rintro ⟨k, hk, l, hl, e⟩
            exact ⟨k, by omega, l, (lists_perm hr k).mem_iff.1 hl, e⟩
          · rintro ⟨k, hk, l, hl, e⟩
            obtain ⟨L, hL⟩ := allR_mem.1 hl
            exact ⟨k, hL.small, l, (lists_perm hr k).mem_iff.2 hl, e⟩
        have hne : sumsTo f (owed8 f) (max 1 f.ids.length) ≠ [] := fun e => by
          have := (hiff _).2 h1.is
          rw [e] at this; cases this
        have h2 := bstJ_lst hne
        have h3 : Lst (fun s => ∃ k, k < 6 ∧ ∃ x ∈ allR f k, sumPay x = s) (((sumsTo f (owed8 f) (max 1 f.ids.length)).foldl bstJ none).getD 0) := ⟨(hiff _).1 h2.is, fun x hx => h2.le x ((hiff _).2 hx)⟩
        rw [h3.uniq h1]
    · rfl
theorem pyCmp_zero {x y : Pay} : pyCmp x y = 0 ↔ x = y := by
  constructor
  · intro h
    have h1 : payLt x y = false := by rw [← pyCmp_lt, h]; rfl
    refine payLt_anti h1 ?_
    rw [payLt_no] at h1 ⊢
    unfold pyCmp firstNZ firstNZ firstNZ firstNZ cmpR at h
    repeat (split at h)
    all_goals omega
  · rintro rfl
    unfold pyCmp firstNZ firstNZ firstNZ firstNZ cmpR
    simp
theorem cmpL_lt : ∀ {a b : List Pay}, a.length = b.length → (cmpL a b < 0 ↔ ltL a b = true)
  | [], [], _ => by simp [cmpL_0, ltL_1]
  | [], _ :: _, h => by cases h
  | _ :: _, [], h => by cases h
  | x :: s, y :: t, h => by
    rw [cmpL_2, ltL_2]
    by_cases e : x = y
    · rw [if_neg (by rw [pyCmp_zero.2 e]; simp), if_neg (by simp [e])]
      exact cmpL_lt (by simpa using h)
    · rw [if_pos (fun h => e (pyCmp_zero.1 h)), if_pos e, ← pyCmp_lt, decide_eq_true_iff]
theorem befI_lt {a b : List Pay} (h : a.length = b.length) : befI a b < 0 ↔ befR a b = true := by
  unfold befI befR
  rw [firstNZ, firstNZ, firstNZ]
  by_cases e : sumPay a = sumPay b
  · have c0 : cmpR (sumPay a) (sumPay b) = 0 := by unfold cmpR; simp [e]
    have hR : (if sumPay a ≠ sumPay b then decide (sumPay a < sumPay b) else ltL a b) = ltL a b := if_neg (by simp [e])
    rw [if_pos c0, hR, ← cmpL_lt h]
    split <;> omega
  · rw [if_pos e]
    by_cases l : sumPay a < sumPay b
    · have c1 : cmpR (sumPay a) (sumPay b) = -1 := by unfold cmpR; simp [l]
      rw [c1]; simp [l]
    · have c1 : cmpR (sumPay a) (sumPay b) = 1 := by unfold cmpR; rw [if_neg l, if_pos (by omega)]
      rw [c1]; simp [l]
theorem payLt_tri {x y : Pay} (h : x ≠ y) : payLt x y = true ∨ payLt y x = true := by
  cases h1 : payLt x y with
  | true => exact .inl rfl
  | false =>
    cases h2 : payLt y x with
    | true => exact .inr rfl
    | false => exact absurd (payLt_anti h1 h2) h
theorem payLt_nt {x y z : Pay} (h : payLt x z = true) : payLt x y = true ∨ payLt y z = true := by
  rw [payLt_iff] at h
  rw [payLt_iff, payLt_iff]
  omega
theorem payLt_asym {x y : Pay} (h : payLt x y = true) : payLt y x = false := by
  rw [payLt_iff] at h
  rw [payLt_no]; omega
theorem ltL_asym : ∀ {a b : List Pay}, ltL a b = true → ltL b a = false
  | [], [], _ => rfl
  | [], _ :: _, _ => rfl
  | _ :: _, [], _ => rfl
  | x :: s, y :: t, h => by
    rw [ltL_2] at h ⊢
    by_cases e : x = y
    · rw [if_neg (by simp [e])] at h
      rw [if_neg (by simp [e])]
      exact ltL_asym h
    · rw [if_pos e] at h
      rw [if_pos (Ne.symm e)]
      exact payLt_asym h
theorem ltL_nt : ∀ {a b c : List Pay}, a.length = b.length → b.length = c.length → ltL a c = true → ltL a b = true ∨ ltL b c = true
  | [], _, _, _, _, h => by rw [ltL_1] at h; cases h
  | x :: s, [], _, e, _, _ => by cases e
  | x :: s, y :: t, [], _, e, _ => by cases e
  | x :: s, y :: t, z :: u, e1, e2, h => by
    rw [ltL_2] at h
    rw [ltL_2, ltL_2]
    by_cases hxz : x = z
    · rw [if_neg (by simp [hxz])] at h
      by_cases hxy : x = y
      · have hyz : y = z := hxy.symm.trans hxz
        rw [if_neg (by simp [hxy]), if_neg (by simp [hyz])]
        exact ltL_nt (by simpa using e1) (by simpa using e2) h
      · have hyz : y ≠ z := fun e => hxy (hxz.trans e.symm)
        rw [if_pos hxy, if_pos hyz]
        rw [← hxz]
        exact payLt_tri hxy
    · rw [if_pos hxz] at h
      by_cases hxy : x = y
      · have hyz : y ≠ z := fun e => hxz (hxy.trans e)
        rw [if_pos hyz]
        exact .inr (by rw [← hxy]; exact h)
      · rw [if_pos hxy]
        by_cases hyz : y = z
        · exact .inl (by rw [hyz]; exact h)
        · rw [if_pos hyz]; exact payLt_nt h
theorem ltL_eq : ∀ {a b : List Pay}, a.length = b.length → ltL a b = false → ltL b a = false → a = b
  | [], [], _, _, _ => rfl
  | [], _ :: _, e, _, _ => by cases e
  | _ :: _, [], e, _, _ => by cases e
  | x :: s, y :: t, e, h, h' => by
    rw [ltL_2] at h h'
    by_cases hxy : x = y
    · rw [if_neg (by simp [hxy])] at h
      rw [if_neg (by simp [hxy])] at h'
      rw [hxy, ltL_eq (by simpa using e) h h']
    · rw [if_pos hxy] at h
      rw [if_pos (Ne.symm hxy)] at h'
      exact absurd (payLt_anti h h') hxy
theorem befR_asym {a b : List Pay} (h : befR a b = true) : befR b a = false := by
  unfold befR at h ⊢
  by_cases e : sumPay a = sumPay b
  · rw [if_neg (by simp [e])] at h
    rw [if_neg (by simp [e])]
    exact ltL_asym h
  · rw [if_pos e] at h
    rw [if_pos (Ne.symm e)]
    have := of_decide_eq_true h
    exact decide_eq_false (by omega)
theorem befR_nt {a b c : List Pay} (e1 : a.length = b.length) (e2 : b.length = c.length) (h : befR a c = true) : befR a b = true ∨ befR b c = true := by
  unfold befR at h ⊢
  by_cases e : sumPay a = sumPay c
  · rw [if_neg (by simp [e])] at h
    by_cases e3 : sumPay a = sumPay b
    · rw [if_neg (by simp [e3]), if_neg (by simp [← e3, e])]
      exact ltL_nt e1 e2 h
    · rw [if_pos e3, if_pos (fun k => e3 (e.trans k.symm)), decide_eq_true_iff, decide_eq_true_iff]
      omega
  · rw [if_pos e] at h
    have h1 := of_decide_eq_true h
    by_cases e3 : sumPay a = sumPay b
    · exact .inr (by rw [if_pos (by omega)]; exact decide_eq_true (by omega))
    · by_cases e4 : sumPay b = sumPay c
      · exact .inl (by rw [if_pos e3]; exact decide_eq_true (by omega))
      · rw [if_pos e3, if_pos e4, decide_eq_true_iff, decide_eq_true_iff]; omega
theorem befR_eq {a b : List Pay} (e : a.length = b.length) (h : befR a b = false) (h' : befR b a = false) : a = b := by
  unfold befR at h h'
  by_cases e3 : sumPay a = sumPay b
  · rw [if_neg (by simp [e3])] at h
    rw [if_neg (by simp [e3])] at h'
    exact ltL_eq e h h'
  · rw [if_pos e3] at h
    rw [if_pos (Ne.symm e3)] at h'
    have := of_decide_eq_false h
    have := of_decide_eq_false h'
    omega
/-- The best of several lists of as many payments. -/
structure Bst (p : List Pay → Prop) (y : List Pay) : Prop where
  is : p y
  le : ∀ x, p x → befR x y = false
theorem Bst.uniq {k : Nat} {p : List Pay → Prop} (hp : ∀ x, p x → x.length = k) {y y' : List Pay} (h : Bst p y) (h' : Bst p y') : y = y' :=
  befR_eq ((hp _ h.is).trans (hp _ h'.is).symm) (h'.le _ h.is) (h.le _ h'.is)
theorem befR_irr (a : List Pay) : befR a a = false := by
  cases h : befR a a with
  | false => rfl
  | true => have := befR_asym h; rw [h] at this; cases this
theorem bst_fold {k : Nat} : ∀ (xs : List (List Pay)) (b : List Pay), (∀ x ∈ xs, x.length = k) → b.length = k → Bst (fun x => x = b ∨ x ∈ xs) (xs.foldl (fun b x => if befR x b = true then x else b) b)
  | [], b, _, _ => ⟨.inl rfl, fun x h => by rcases h with rfl | h; exact befR_irr _; cases h⟩
  | x :: t, b, hx, hb => by
    have hxk := hx x (by simp)
    have ht : ∀ x ∈ t, x.length = k := fun y hy => hx y (by simp [hy])
    rw [List.foldl_cons]
    have ih := bst_fold t (if befR x b = true then x else b) ht (by split <;> assumption)
    have hm : ∀ y, (y = (if befR x b = true then x else b) ∨ y ∈ t) → y.length = k := fun y hy => by
      rcases hy with rfl | hy
      · split <;> assumption
      · exact ht y hy
    have hyk := hm _ ih.is
    generalize t.foldl (fun b x => if befR x b = true then x else b) (if befR x b = true then x else b) = y at ih hyk ⊢
    have hle := ih.le _ (.inl rfl)
    refine ⟨?_, fun z hz => ?_⟩
    · rcases ih.is with h | h
      · split at h
        · exact .inr (by simp [h])
        · exact .inl h
      · exact .inr (by simp [h])
    · have key : befR b y = false ∧ befR x y = false := by
        split at hle
        · rename_i hg
          refine ⟨?_, hle⟩
          cases hq : befR b y with
          | false => rfl
          | true =>
            rcases befR_nt (b := x) (hb.trans hxk.symm) (hxk.trans hyk.symm) hq with h | h
            · rw [befR_asym hg] at h; cases h
            · rw [hle] at h; cases h
        · rename_i hg
          refine ⟨hle, ?_⟩
          cases hq : befR x y with
          | false => rfl
          | true =>
            rcases befR_nt (b := b) (hxk.trans hb.symm) (hb.trans hyk.symm) hq with h | h
            · exact absurd h hg
            · rw [hle] at h; cases h
      rcases hz with rfl | hz
      · exact key.1
      · rcases List.mem_cons.1 hz with rfl | hz
        · exact key.2
        · exact ih.le _ (.inr hz)
theorem bstS_fold {k : Nat} : ∀ (xs : List (List Pay)) (b : List Pay), (∀ x ∈ xs, x.length = k) → b.length = k → xs.foldl bstS (some b) = some (xs.foldl (fun b x => if befR x b = true then x else b) b)
  | [], _, _, _ => rfl
  | x :: t, b, hx, hb => by
    have hxk := hx x (by simp)
    rw [List.foldl_cons, List.foldl_cons]
    have e : bstS (some b) x = some (if befR x b = true then x else b) := by
      unfold bstS
      dsimp only
      by_cases h : befR x b = true
      · rw [if_pos h, if_pos ((befI_lt (hxk.trans hb.symm)).2 h)]
      · rw [if_neg h, if_neg (fun k => h ((befI_lt (hxk.trans hb.symm)).1 k))]
    rw [e]
    exact bstS_fold t _ (fun y hy => hx y (by simp [hy])) (by split <;> assumption)
theorem stl_eq {f : Flo} (hS : Sml f) : stlN f = stlN8 f := by
  unfold stlN stlN8
  cases h : floOk f with
  | false => rw [(askR_no h).1, (askR_no h).2]; rfl
  | true =>
    rw [← askR_err h]
    split
    · rename_i he
      obtain ⟨k, _, hb⟩ := both hS h he
      generalize lsF f = A at hb ⊢
      generalize (askR f).1 = B at hb ⊢
      have lA : ∀ x ∈ A, x.length = k := fun x hx => (hb.toA x hx).len
      have lB : ∀ x ∈ B, x.length = k := fun x hx => (hb.to x hx).len
      obtain ⟨x, t, rfl⟩ := List.exists_cons_of_ne_nil hb.neA
      have b1 := bst_fold t x (fun y hy => lA y (by simp [hy])) (lA x (by simp))
      have b2 := bst_fold B (B.headD []) lB (lB _ (head_mem hb.neB))
      rw [List.foldl_cons, show bstS none x = some x from rfl, bstS_fold t x (fun y hy => lA y (by simp [hy])) (lA x (by simp)), Option.getD_some]
      have c1 : Bst (fun z => z ∈ B) (t.foldl (fun b x => if befR x b = true then x else b) x) := ⟨hb.pe.mem_iff.1 (by rcases b1.is with h | h <;> simp [h]), fun z hz => b1.le z (List.mem_cons.1 (hb.pe.mem_iff.2 hz))⟩
      have c2 : Bst (fun z => z ∈ B) (B.foldl (fun b x => if befR x b = true then x else b) (B.headD [])) := ⟨by rcases b2.is with h | h; (rw [h]; exact head_mem hb.neB); exact h, fun z hz => b2.le z (.inr hz)⟩
      unfold bst8
      rw [c1.uniq lB c2]
    · rfl
/-- A payment's count tells whether it is in all. -/
theorem count_all {x : Pay} : ∀ {A : List (List Pay)}, (∀ l ∈ A, l.Nodup) → A.flatten.count x ≤ A.length ∧ (A.flatten.count x = A.length ↔ ∀ l ∈ A, x ∈ l)
  | [], _ => by simp
  | l :: A, h => by
    have ih := count_all (x := x) (A := A) fun l hl => h l (by simp [hl])
    have hn := h l (by simp)
    rw [List.flatten_cons, List.count_append, List.length_cons]
    have hc : l.count x = if x ∈ l then 1 else 0 := by
      split
      · rename_i hx
        have h1 := List.count_pos_iff.2 hx
        have h2 := List.nodup_iff_count.1 hn x
        omega
      · rename_i hx; exact List.count_eq_zero.2 hx
    rw [hc]
    refine ⟨by split <;> omega, ?_⟩
    by_cases hx : x ∈ l
    · rw [if_pos hx]
      constructor
      · intro e k hk
        rcases List.mem_cons.1 hk with rfl | hk
        · exact hx
        · exact ih.2.1 (by omega) k hk
      · intro e
        have := ih.2.2 fun k hk => e k (by simp [hk])
        omega
    · rw [if_neg hx]
      constructor
      · intro e; omega
      · intro e; exact absurd (e l (by simp)) hx
theorem hasP_iff {l : List Pay} {x : Pay} : hasP l x = true ↔ x ∈ l := by
  unfold hasP
  rw [List.any_eq_true]
  constructor
  · rintro ⟨y, hy, e⟩; rw [of_decide_eq_true e]; exact hy
  · intro h; exact ⟨x, h, decide_eq_true rfl⟩
theorem sur_eq {f : Flo} (hS : Sml f) : surN f = surN8 f := by
  unfold surN surN8
  cases h : floOk f with
  | false => rw [(askR_no h).1, (askR_no h).2]; rfl
  | true =>
    rw [← askR_err h]
    split
    · rename_i he
      obtain ⟨k, _, hb⟩ := both hS h he
      generalize lsF f = A at hb ⊢
      generalize (askR f).1 = B at hb ⊢
      have hA := hb.toA _ (head_mem hb.neA)
      have hB := hb.to _ (head_mem hb.neB)
      have mA : ∀ x, x ∈ surP A ↔ ∀ l ∈ B, x ∈ l := fun x => by
        unfold surP
        have hc := count_all (x := x) fun l hl => (hb.toA l hl).nd
        rw [List.mem_filter, Bool.not_eq_true', decide_eq_false_iff_not]
        constructor
        · rintro ⟨_, h2⟩ l hl
          exact hc.2.1 (by have := hc.1; omega) l (hb.pe.mem_iff.2 hl)
        · intro h1
          have h2 : ∀ l ∈ A, x ∈ l := fun l hl => h1 l (hb.pe.mem_iff.1 hl)
          have := hc.2.2 h2
          exact ⟨h2 _ (head_mem hb.neA), by omega⟩
      have mB : ∀ x, x ∈ sur8 B ↔ ∀ l ∈ B, x ∈ l := fun x => by
        unfold sur8
        rw [List.mem_filter, List.all_eq_true]
        constructor
        · rintro ⟨_, h2⟩ l hl; exact hasP_iff.1 (h2 l hl)
        · intro h1; exact ⟨h1 _ (head_mem hb.neB), fun l hl => hasP_iff.2 (h1 l hl)⟩
      have e : surP A = sur8 B := sorted_uniq (List.Pairwise.filter _ hA.so) (List.Pairwise.filter _ hB.so) ((List.perm_ext_iff_of_nodup (hA.nd.filter _) (hB.nd.filter _)).2 fun x => (mA x).trans (mB x).symm)
      rw [e]
    · rfl
end Go.Proofs.YtihonljdanjfmaaDoor.Sw
