/- Proofs for one card: FloorDd, FloorDe, FloorBills, CardFloorBills. No condition of its own. -/
import Derived.Test.YtihonljdanjfmaaDoorZb6
namespace Go.Proofs.YtihonljdanjfmaaDoor.Sw
open Go.RowKit Go Go.Shelf Go.Proofs
set_option maxRecDepth 20000 in
theorem strike1_con (x : MB) (m : Int) : Con Tryd.prog 87 [.agg (tkC x), .fp 1 [.val (.int .i64 m)]] [] (Is (.val (.bool (decide (x.1.no = m)))) []) := by
  refine con_of Tryd.func87 rfl (enters_of Tryd.func87 (by kernel_rfl) rfl) rfl ?_; intro n w0 F0 G0
  (refine goSt ?_; (repeat (refine goAl ?_; intro p hp; refine goSt ?_)))
  (apply res1; exact rfl; exact rfl; exact ⟨rfl, rfl⟩)
set_option maxRecDepth 20000 in
set_option maxHeartbeats 4000000 in
theorem indexFuncM_con (v : Value) (xs : List MB) (k : FuncId) (caps : List AV) (p : MB → Bool) (hl : xs.length ≤ 1000000) (hc : ∀ x, Con Tryd.prog k ([.agg (tkC x)] ++ caps) [] (Is (.val (.bool (p x))) [])) : Con Tryd.prog 66 [.val v, .clo k caps] [.row v 66 4 tkC xs] (Is (.val (.int .i64 (fiX p xs))) [.row v 66 4 tkC xs]) := by
  refine con_of Tryd.func66 rfl (enters_of Tryd.func66 (by kernel_rfl) rfl) rfl ?_; intro n w0 F0 G0
  (refine goSt ?_; (repeat (refine goAl ?_; intro p hp; refine goSt ?_)))
  refine W_loopJ (fun (m : Nat) => ⟨[(0, .val v), (1, .clo k caps), (7, .val (.int .i64 xs.length)), (8, .val (.int .i64 m))], [.row v 66 4 tkC xs]⟩) (fun m => m ≤ xs.length ∧ (xs.take m).any p = false) (fun m => xs.length - m) 0 (fun _ _ st => st_sub2 st goSubr goSubp) ?hj0 ?round
  case hj0 => simp
  case round =>
    rintro m ⟨hk, hno⟩
    (refine goSt ?_; (repeat (refine goAl ?_; intro p hp; refine goSt ?_)))
    refine w_cond rfl (fun hlt => ?_) (fun hlt => ?_)
    · have hlt' : m < xs.length := by simpa using hlt
      (refine goSt ?_; (repeat (refine goAl ?_; intro p hp; refine goSt ?_)))
      (apply wl_callV (hc xs[m]); exact rfl; exact rfl; exact rfl)
      (refine goSt ?_; (repeat (refine goAl ?_; intro p hp; refine goSt ?_)))
      refine w_cond rfl (fun he => ?_) (fun he => ?_)
      · (refine goSt ?_; (repeat (refine goAl ?_; intro p hp; refine goSt ?_)))
        (apply resK1; exact rfl; exact rfl; exact ⟨(congrArg (fun b => AV.val (Value.int .i64 b)) (fiX_at hlt' hno he).symm), rfl⟩; exact goCutl)
      · (refine goSt ?_; (repeat (refine goAl ?_; intro p hp; refine goSt ?_)))
        (refine ⟨m + 1, fun _ _ st => st_sub2 st ?_ ?_, ?_, ?_⟩; exact goSubr; exact goSubp)
        · refine ⟨by omega, ?_⟩
          rw [List.take_succ_eq_append_getElem hlt', List.any_append, hno]
          simpa using he
        · omega
    · (refine goSt ?_; (repeat (refine goAl ?_; intro p hp; refine goSt ?_)))
      have hkk : m = xs.length := by simp at hlt; omega
      subst hkk
      rw [List.take_length] at hno
      (apply resK1; exact rfl; exact rfl; exact ⟨(congrArg (fun b => AV.val (Value.int .i64 b)) (fiX_none hno).symm), rfl⟩; exact goCutl)
theorem Fits.front {G : Nat → Option Obj} : ∀ {cs ds : List AV} {vs : List Value}, Fits G (cs ++ ds) vs → ∃ us ws, vs = us ++ ws ∧ Fits G cs us
  | [], ds, vs, h => ⟨[], vs, rfl, trivial⟩
  | c :: cs, ds, [], h => h.elim
  | c :: cs, ds, v :: vs, h => by
    obtain ⟨us, ws, e, k⟩ := Fits.front (cs := cs) (ds := ds) h.2
    exact ⟨v :: us, ws, by rw [e]; rfl, h.1, k⟩
/-- Fewer cells of a block told. -/
theorem WL_cutCells {c : Cx} {rs : List (Nat × AV)} {hs r : List HA} {Q : Exit → S → Prop} {ops : Array Oper} {tl : List Oper} {b tot : Nat} {e : TypeId} {cs ds : List AV} (hr : Rm hs (.cells b e (cs ++ ds) tot) r) (k : WL c ops tl ⟨rs, .cells b e cs tot :: r⟩ Q) : WL c ops tl ⟨rs, hs⟩ Q := ⟨fun a w st => by
  obtain ⟨G, F, hI, rr⟩ := st
  obtain ⟨F1, F2, ep, ⟨vs, rest, e1, e2, e3, e4, e5⟩, h2⟩ := hr.sel hI.hs
  obtain ⟨us, ws, hv, hf⟩ := Fits.front e2
  subst hv
  exact k.out a w ⟨G, F, ⟨hI.gin, hI.nd, hI.own, F1, F2, ep, ⟨us, ws ++ rest, e1, hf, fun u hu => e3 u (by simp [hu]), by rw [e4, List.append_assoc], by rw [← e5, List.append_assoc]⟩, h2⟩, rr⟩⟩
instance tyzB : TyZ Tryd.prog 66 [.int .i64 0, .int .i64 0, .int .i64 0, .slice none 0 0] := inferInstance
set_option maxRecDepth 20000 in
set_option maxHeartbeats 4000000 in
theorem deleteFuncM_con (v : Value) (xs : List MB) (k : FuncId) (caps : List AV) (d : MB → Bool) (hl : xs.length ≤ 100000) (hc : ∀ x, Con Tryd.prog k ([.agg (tkC x)] ++ caps) [] (Is (.val (.bool (d x))) [])) : Con Tryd.prog 86 [.val v, .clo k caps] [.row v 66 4 tkC xs] (Tok 66 4 tkC (xs.filter fun x => !d x)) := by
  refine con_of Tryd.func86 rfl (enters_of Tryd.func86 (by kernel_rfl) rfl) rfl ?_; intro n w0 F0 G0
  (refine goSt ?_; (repeat (refine goAl ?_; intro p hp; refine goSt ?_)))
  (apply wl_callP (indexFuncM_con v xs k caps d (by omega) hc); exact rfl; exact goCutl; exact rfl)
  rintro _ _ ⟨rfl, rfl⟩
  cases ha : xs.any d with
  | false =>
    rw [fiX_none ha]
    have hf : (xs.filter fun x => !d x) = xs := List.filter_eq_self.2 fun x hx => by simpa using List.any_eq_false.1 ha x hx
    rw [hf]
    (refine goSt ?_; (repeat (refine goAl ?_; intro p hp; refine goSt ?_)))
    (apply resK1; exact rfl; exact rfl; exact ⟨_, rfl, rfl⟩; exact goCutl)
  | true =>
    have hlt : xs.findIdx d < xs.length := List.findIdx_lt_length_of_exists (List.any_eq_true.1 ha)
    have hget : d xs[xs.findIdx d] = true := List.findIdx_getElem (w := hlt)
    have hbef : ∀ x ∈ xs.take (xs.findIdx d), d x = false := fun x hx => by
      obtain ⟨i, hi, rfl⟩ := List.mem_iff_getElem.1 hx
      rw [List.length_take] at hi
      rw [List.getElem_take]
      simpa using List.not_of_lt_findIdx (p := d) (xs := xs) (i := i) (by omega)
    rw [show fiX d xs = (xs.findIdx d : Nat) by unfold fiX; rw [if_pos ha]]
    generalize xs.findIdx d = i0 at *
    have hft : (xs.take (i0 + 1)).filter (fun x => !d x) = xs.take i0 := by
      rw [List.take_succ_eq_append_getElem hlt, List.filter_append, List.filter_eq_self.2 (fun x hx => by simpa using hbef x hx), List.filter_cons, if_neg (by rw [hget]; simp)]; simp
    have hx0 : xs = (xs.take (i0 + 1)).filter (fun x => !d x) ++ [xs[i0]] ++ xs.drop (i0 + 1) := by
      rw [hft, List.append_assoc, List.singleton_append, ← List.drop_eq_getElem_cons hlt, List.take_append_drop]
    have hl0 : ((xs.take (i0 + 1)).filter (fun x => !d x)).length = i0 := by rw [hft, List.length_take]; omega
    have hst : ∀ {c : Cx} {rs : List (Nat × AV)} {hs r : List HA} {a : Act} {w : World}, Rm hs (.row v 66 4 tkC xs) r → St c ⟨rs, hs⟩ a w → St c ⟨rs, .row v 66 4 tkC ((xs.take (i0 + 1)).filter (fun x => !d x) ++ [xs[i0]] ++ xs.drop (i0 + 1)) :: r⟩ a w := fun hr st => by
      rw [← hx0]
      obtain ⟨G, F, hI, rr⟩ := st
      exact ⟨G, F, ⟨hI.gin, hI.nd, hI.own, hr.sel hI.hs⟩, rr⟩
    (refine goSt ?_; (repeat (refine goAl ?_; intro p hp; refine goSt ?_)))
    refine W_loopJ (fun (b : Nat × List MB) => ⟨[(0, .val v), (1, .clo k caps), (5, .val (.int .i64 ((xs.take b.1).filter fun x => !d x).length)), (6, .val (.int .i64 b.1))], [.row v 66 4 tkC ((xs.take b.1).filter (fun x => !d x) ++ b.2 ++ xs.drop b.1)]⟩) (fun b => b.1 ≤ xs.length ∧ ((xs.take b.1).filter fun x => !d x).length + b.2.length = b.1 ∧ b.2 ≠ []) (fun b => xs.length - b.1) (i0 + 1, [xs[i0]]) (fun _ _ st => st_sub2 (hst (by exact goRm) st) (by dsimp only; rw [hl0]; exact goSubr) (by exact goSubp)) ⟨by dsimp only; omega, by dsimp only; rw [hl0]; rfl, by simp⟩ ?_
    clear hst hx0 hl0 hft hbef hget hlt ha
    rintro ⟨j, M⟩ ⟨hj, hjm, hM⟩
    dsimp only at hj hjm hM ⊢
    have hrl : ((xs.take j).filter (fun x => !d x) ++ M ++ xs.drop j).length = xs.length := by simp only [List.length_append, List.length_drop]; omega
    obtain ⟨R, hR⟩ : ∃ R, R = (xs.take j).filter (fun x => !d x) ++ M ++ xs.drop j := ⟨_, rfl⟩
    rw [← hR] at hrl ⊢
    (refine goSt ?_; (repeat (refine goAl ?_; intro p hp; refine goSt ?_)))
    rw [hrl]
    refine w_cond rfl (fun hlt => ?_) (fun hlt => ?_)
    · have hlt' : j < xs.length := by simpa using hlt
      have hjR : j < R.length := by omega
      have htk : xs.take (j + 1) = xs.take j ++ [xs[j]] := List.take_succ_eq_append_getElem hlt'
      have hdr : xs.drop j = xs[j] :: xs.drop (j + 1) := List.drop_eq_getElem_cons hlt'
      have hRj : R[j] = xs[j] := by
        have h : R[j]? = some xs[j] := by
          rw [hR, List.getElem?_append_right (by rw [List.length_append]; omega), List.length_append, hjm, Nat.sub_self, hdr]; rfl
        rw [List.getElem?_eq_getElem hjR] at h; exact Option.some.inj h
      generalize hx : xs[j] = x at *
      have hfl : ((xs.take j).filter fun x => !d x).length < R.length := by
        have : 0 < M.length := List.length_pos_iff.2 hM
        omega
      (refine goSt ?_; (repeat (refine goAl ?_; intro p hp; refine goSt ?_)))
      rw [hRj]
      refine WL_as 27 (.agg (tkC x)) rfl ?_
      (apply wl_callV (hc x); exact rfl; exact rfl; exact rfl)
      cases hdx : d x with
      | true =>
        have hfk : (xs.take (j + 1)).filter (fun x => !d x) = (xs.take j).filter (fun x => !d x) := by
          rw [htk, List.filter_append, List.filter_cons, if_neg (by rw [hdx]; simp)]; simp
        have hR2 : R = (xs.take (j + 1)).filter (fun x => !d x) ++ (M ++ [x]) ++ xs.drop (j + 1) := by
          rw [hfk, hR, hdr]; simp
        (refine goSt ?_; (repeat (refine goAl ?_; intro p hp; refine goSt ?_)))
        refine ⟨(j + 1, M ++ [x]), fun _ _ st => st_sub2 st ?_ ?_, ?_, ?_⟩
        · dsimp only; rw [hfk]; exact goSubr
        · rw [hR2]; exact goSubp
        · refine ⟨by dsimp only; omega, ?_, by simp⟩
          dsimp only; rw [hfk, List.length_append, List.length_singleton]; omega
        · dsimp only; omega
      | false =>
        have hfk : (xs.take (j + 1)).filter (fun x => !d x) = (xs.take j).filter (fun x => !d x) ++ [x] := by
          rw [htk, List.filter_append, List.filter_cons, if_pos (by rw [hdx]; rfl)]; rfl
        (refine goSt ?_; (repeat (refine goAl ?_; intro p hp; refine goSt ?_)))
        refine WL_as 32 (.agg (tkC x)) rfl ?_
        apply wl_storeRNx x
        · exact rfl
        · exact goAtm
        · exact rfl
        · exact inferInstance
        · exact inferInstance
        · exact hfl
        · rfl
        cases M with
        | nil => exact absurd rfl hM
        | cons m0 M1 =>
          have hset : R.set ((xs.take j).filter fun x => !d x).length x = (xs.take (j + 1)).filter (fun x => !d x) ++ (M1 ++ [x]) ++ xs.drop (j + 1) := by
            rw [hfk, hR, hdr, List.append_assoc, List.set_append_right _ _ (Nat.le_refl _), Nat.sub_self]; simp
          rw [hset]
          have hfl2 : (((xs.take j).filter fun x => !d x).length : Int) + 1 = (((xs.take (j + 1)).filter fun x => !d x).length : Nat) := by rw [hfk, List.length_append, List.length_singleton]; omega
          (refine goSt ?_; (repeat (refine goAl ?_; intro p hp; refine goSt ?_)))
          refine ⟨(j + 1, M1 ++ [x]), fun _ _ st => st_sub2 st ?_ ?_, ?_, ?_⟩
          · dsimp only; rw [← hfl2]; exact goSubr
          · exact goSubp
          · refine ⟨by dsimp only; omega, ?_, by simp⟩
            simp only [List.length_cons] at hjm
            dsimp only; rw [hfk, List.length_append, List.length_singleton, List.length_append, List.length_singleton]; omega
          · dsimp only; omega
    · have hkk : j = xs.length := by simp at hlt; omega
      subst hkk
      rw [List.take_length] at hR hjm ⊢
      rw [List.drop_length, List.append_nil] at hR
      generalize xs.filter (fun x => !d x) = F at *
      have hRne : R ≠ [] := by
        intro e
        rw [e] at hR
        cases M with
        | nil => exact hM rfl
        | cons a t => simp at hR
      have hFR : F.length + M.length = xs.length := hjm
      have hRl : R.length = xs.length := hrl
      (refine goSt ?_; (repeat (refine goAl ?_; intro p hp; refine goSt ?_)))
      refine WL_openRow (v := v) (e := 66) (n := 4) (f := tkC) (xs := R) hRne (by exact goRm) ?_
      intro b cap hv hnc hcm hlf
      subst hv
      rw [show R.flatMap tkC = F.flatMap tkC ++ M.flatMap tkC by rw [hR, List.flatMap_append]]
      apply WL_cutCells (cs := F.flatMap tkC) (ds := M.flatMap tkC)
      · exact goRm
      rw [hRl] at hnc ⊢
      (apply wl_sliceV (l := F.length) (h := xs.length); exact rfl; exact inferInstance; exact .inl rfl; exact rfl; exact .inr ⟨rfl, rfl⟩; exact rfl; omega; omega; omega; exact rfl)
      rw [fromV]
      (refine goSt ?_; (repeat (refine goAl ?_; intro p hp; refine goSt ?_)))
      (apply wl_clearV (n := 4) (j := F.length) (m := xs.length - F.length); exact rfl; exact goAtm; exact inferInstance; exact inferInstance; exact rfl; (intro u hu; simp at hu; rcases hu with rfl | rfl | rfl | rfl <;> rfl); (rw [lenL (f := tkC) (n := 4) (fun x hx => rfl)]); omega)
      (refine goSt ?_; (repeat (refine goAl ?_; intro p hp; refine goSt ?_)))
      (apply wl_sliceV (l := 0) (h := F.length) (li := 0); exact rfl; exact inferInstance; exact .inr ⟨rfl, rfl⟩; exact rfl; exact .inl rfl; exact rfl; omega; omega; omega; exact rfl)
      rw [toV]
      apply WL_shutRow (cap := cap) (b := b) (e := 66) (n := 4) (f := tkC) F (fun x _ => rfl) (by omega) hcm
      · exact goRm
      (refine goSt ?_; (repeat (refine goAl ?_; intro p hp; refine goSt ?_)))
      (apply resK1; exact rfl; exact rfl; exact ⟨_, rfl, rfl⟩; exact goCutl)
theorem WL_packSub {c : Cx} {rs : List (Nat × AV)} {hs r l a' b' : List HA} {Q : Exit → S → Prop} {ops : Array Oper} {tl : List Oper} (hp : l.Perm (a' ++ b')) (hr : Rm hs (.pack l) r) (k : WL c ops tl ⟨rs, .pack a' :: .pack b' :: r⟩ Q) : WL c ops tl ⟨rs, hs⟩ Q := ⟨fun a w st => by
  obtain ⟨G, F, hI, rr⟩ := st
  obtain ⟨F1, F2, e, h1, h2⟩ := hr.sel hI.hs
  obtain ⟨F3, F4, e2, h3, h4⟩ := hsP.split (hsP.permL hp h1)
  exact k.out a w ⟨G, F, ⟨hI.gin, hI.nd, hI.own, F3, F4 ++ F2, e.trans ((e2.append_right F2).trans (by rw [List.append_assoc])), h3, F4, F2, .refl _, h4, h2⟩, rr⟩⟩
def strikeR (f : Flo) (m : Int) : Flo × Int :=
  if floOk f = true then (if (f.bs.filter (fun y => !decide (y.no = m))).length = f.bs.length then (floE, 6) else ({ f with bs := f.bs.filter (fun y => !decide (y.no = m)) }, 0)) else (floE, 80)
theorem filter_map_fst (m : Int) (L : List MB) : (L.filter (fun p => !decide (p.1.no = m))).map (·.1) = (L.map (·.1)).filter (fun y => !decide (y.no = m)) := by
  rw [List.filter_map]; rfl
set_option maxRecDepth 20000 in
set_option maxHeartbeats 4000000 in
theorem strike_con (f : Flo) (m : Int) (hS : Sml f) : Con Tryd.prog 37 [.agg (flC f), .val (.int .i64 m)] [tab8] (FlP (strikeR f m)) := by
  have C := check_con f hS
  cases hok : floOk f with
  | false =>
    rw [show errF f = 80 by unfold errF; rw [hok]; rfl] at C
    rw [show strikeR f m = (floE, 80) by unfold strikeR; rw [hok]; rfl]
    refine con_of Tryd.func37 rfl (enters_of Tryd.func37 (by kernel_rfl) rfl) rfl ?_; intro n w0 F0 G0
    (refine goSt ?_; (repeat (refine goAl ?_; intro p hp; refine goSt ?_)))
    (first | (apply wl_call (C); exact rfl; exact rfl) | (apply wl_callR (C); exact rfl; exact goAtm; exact rfl))
    (refine goSt ?_; (repeat (refine goAl ?_; intro p hp; refine goSt ?_)))
    (refine Res_add _ floE_own ?_; apply resKN1; exact rfl; exact rfl; exact goAtm; exact inferInstance; exact rfl; exact rfl; exact flP_nil _; exact goCutl)
  | true =>
    rw [show errF f = 0 by unfold errF; rw [hok]; rfl] at C
    have hbl := (flo_f hok).bs
    have hW : strikeR f m = if (f.bs.filter (fun y => !decide (y.no = m))).length = f.bs.length then (floE, 6) else ({ f with bs := f.bs.filter (fun y => !decide (y.no = m)) }, 0) := by unfold strikeR; rw [if_pos hok]
    rw [hW]
    refine con_of Tryd.func37 rfl (enters_of Tryd.func37 (by kernel_rfl) rfl) rfl ?_; intro n w0 F0 G0
    (refine goSt ?_; (repeat (refine goAl ?_; intro p hp; refine goSt ?_)))
    (first | (apply wl_call (C); exact rfl; exact rfl) | (apply wl_callR (C); exact rfl; exact goAtm; exact rfl))
    (refine goSt ?_; (repeat (refine goAl ?_; intro p hp; refine goSt ?_)))
    (apply wl_callP (copied_con f hS); exact rfl; exact goCutl; exact rfl)
    rintro _ _ ⟨vi, vq, vb, vp, ⟨o1, o2, o3, o4⟩, rfl, rfl⟩
    apply WL_exs
    · exact goRm
    intro us
    apply WL_fact
    · exact goRm
    intro hus
    apply WL_packFact (l := stkR f.bs us) (p := ∀ u ∈ us, One (.val u)) (fun _ _ _ h => stkR_one hus h)
    · exact goRm
    intro hone
    obtain ⟨L, hL1, hL2⟩ := marry hus hone
    have e1 : HA.row vb 66 4 mbC (mixL f.bs us) = HA.row vb 66 4 tkC L := by
      rw [show f.bs = L.map (·.1) from hL1, hL2, row_tk]
    have e2 : stkR f.bs us = L.map stkH := by rw [show f.bs = L.map (·.1) from hL1, hL2, stkR_map]
    have hLl : L.length = f.bs.length := by have := congrArg List.length hL1; simp at this; omega
    rw [e1, e2]
    (refine goSt ?_; (repeat (refine goAl ?_; intro p hp; refine goSt ?_)))
    (apply WL_frzC 21 0 1; exact rfl; exact rfl; exact goRm)
    (refine goSt ?_; (repeat (refine goAl ?_; intro p hp; refine goSt ?_)))
    (apply wl_callP (deleteFuncM_con vb L 87 [.fp 1 [.val (.int .i64 m)]] (fun y => decide (y.1.no = m)) (by omega) (fun y => strike1_con y m)); exact rfl; exact goCutl; exact rfl)
    rintro _ _ ⟨v', rfl, rfl⟩
    refine WL_one At.here (fun o5 => ?_)
    have hLm : (L.filter (fun p => !decide (p.1.no = m))).map (·.1) = f.bs.filter (fun y => !decide (y.no = m)) := by rw [hL1, filter_map_fst]
    have hLp : (L.map stkH).Perm ((L.filter (fun p => !decide (p.1.no = m))).map stkH ++ (L.filter (fun p => !!decide (p.1.no = m))).map stkH) := by
      rw [← List.map_append]; exact (List.filter_append_perm (fun p : MB => !decide (p.1.no = m)) L).symm.map stkH
    generalize L.filter (fun p => !decide (p.1.no = m)) = L' at hLm hLp ⊢
    clear hW
    generalize f.bs.filter (fun y => !decide (y.no = m)) = bs' at hLm ⊢
    apply WL_packSub hLp
    · exact goRm
    have e3 : HA.row v' 66 4 tkC L' = HA.row v' 66 4 mbC (mixL bs' (L'.map (·.2.1))) := by rw [← hLm, row_tk]
    have e4 : L'.map stkH = stkR bs' (L'.map (·.2.1)) := by rw [← hLm, stkR_map]
    have hus' : (L'.map (·.2.1)).length = bs'.length := by rw [← hLm]; simp
    have hll : (L'.length : Int) = bs'.length := by rw [← hLm]; simp
    (refine goSt ?_; (repeat (refine goAl ?_; intro p hp; refine goSt ?_)))
    rw [hll, e3, e4]
    refine w_cond rfl (fun hc => ?_) (fun hc => ?_)
    · rw [if_pos (by simp at hc; omega)]
      (refine goSt ?_; (repeat (refine goAl ?_; intro p hp; refine goSt ?_)))
      (refine Res_add _ floE_own ?_; apply resKN1; exact rfl; exact rfl; exact goAtm; exact inferInstance; exact rfl; exact rfl; exact flP_nil _; exact goCutl)
    · rw [if_neg (by simp at hc; omega)]
      refine W_mkFact hus' ?_
      refine W_mkExs (h := fun us : List Value => [.fact (us.length = bs'.length), .row vi 3 1 iC f.ids, .row vq 55 2 quC f.qs, .row v' 66 4 mbC (mixL bs' us), .row vp 53 3 payC f.ps, .pack (stkR bs' us)]) (L'.map (·.2.1)) (by exact goCutl) ?_
      rw [show HA.exs (fun us : List Value => [.fact (us.length = bs'.length), .row vi 3 1 iC f.ids, .row vq 55 2 quC f.qs, .row v' 66 4 mbC (mixL bs' us), .row vp 53 3 payC f.ps, .pack (stkR bs' us)]) = floOwn vi vq v' vp { f with bs := bs' } from rfl]
      (refine goSt ?_; (repeat (refine goAl ?_; intro p hp; refine goSt ?_)))
      (apply resKN1; exact rfl; exact rfl; exact goAtm; exact inferInstance; exact rfl; exact rfl; exact ⟨vi, vq, v', vp, ⟨inferInstance, inferInstance, inferInstance, inferInstance⟩, rfl, rfl⟩; exact goCutl)
end Go.Proofs.YtihonljdanjfmaaDoor.Sw
namespace Go.Proofs.YtihonljdanjfmaaDoor.Sw
open Go.RowKit Go Go.Shelf Go.Proofs
set_option maxRecDepth 20000 in
theorem lt_fieldBs {rs : List (Nat × AV)} {d : Option Nat} {ty : TypeId} {pos : String} {af : Array Edge} {g : Option (Nat × Bool)} {x : Operand} {c0 c1 c2 c3 : AV} (hx : opv rs x = some (.agg [c0, c1, c2, c3])) : LT Tryd.prog ⟨d, .field 27 x 2, ty, pos, af, g⟩ rs [] (Is c2 []) :=
  LT_val (fun _ e => by cases e) fun a w G hR _ => by
    obtain ⟨vs, e1, hf⟩ : (AV.agg [c0, c1, c2, c3]).P G (a.eval x) := opv_ok hR hx
    match vs, hf with
    | [v0, v1, v2, v3], ⟨h0, h1, h2, h3, _⟩ =>
      refine ⟨v2, h2, ?_⟩
      have k : (Instr.field 27 (.agg #[v0, v1, v2, v3]) 2).run Tryd.prog w = .ok v2 w := by kernel_rfl
      simp only [execOp, e1]
      first | exact k | (simp only [Sem.run_bind, k]; rfl) | (trace_state; simp [k])
set_option maxRecDepth 20000 in
set_option maxHeartbeats 4000000 in
theorem strike8_con (f : Flo) (m : Int) (hS : Sml f) : Con Tryd.prog 38 [.agg (flC f), .val (.int .i64 m)] [] (Is (flT (strikeR f m)) []) := by
  have C := floors_con f hS
  have hbsl := hS.bs
  cases hok : floOk f with
  | false =>
    rw [hok] at C
    rw [show strikeR f m = (floE, 80) by unfold strikeR; rw [hok]; rfl]
    refine con_of Tryd.func38 rfl (enters_of Tryd.func38 (by kernel_rfl) rfl) rfl ?_; intro n w0 F0 G0
    (refine goSt ?_; (repeat (refine goAl ?_; intro p hp; refine goSt ?_)))
    (first | (apply wl_call (C); exact rfl; exact rfl) | (apply wl_callR (C); exact rfl; exact goAtm; exact rfl))
    (refine goSt ?_; (repeat (refine goAl ?_; intro p hp; refine goSt ?_)))
    refine Res_imp (floE_imp _) ?_
    (apply resN1; exact rfl; exact rfl; exact goAtm; exact inferInstance; exact rfl; exact rfl; exact ⟨rfl, rfl⟩)
  | true =>
    rw [hok] at C
    refine con_of Tryd.func38 rfl (enters_of Tryd.func38 (by kernel_rfl) rfl) rfl ?_; intro n w0 F0 G0
    (refine goSt ?_; (repeat (refine goAl ?_; intro p hp; refine goSt ?_)))
    rename_i p2 hp2
    (first | (apply wl_call (C); exact rfl; exact rfl) | (apply wl_callR (C); exact rfl; exact goAtm; exact rfl))
    (refine goSt ?_; (repeat (refine goAl ?_; intro p hp; refine goSt ?_)))
    (first | (apply wl_call (twin8_con f hS); exact rfl; exact rfl) | (apply wl_callR (twin8_con f hS); exact rfl; exact goAtm; exact rfl))
    (refine goSt ?_; (repeat (refine goAl ?_; intro p hp; refine goSt ?_)))
    rename_i p4 hp4
    (first | (apply wl_call (twin8_con f hS); exact rfl; exact rfl) | (apply wl_callR (twin8_con f hS); exact rfl; exact goAtm; exact rfl))
    (apply wl_ex (lt_fieldBs (c2 := .sl 4 biC f.bs) rfl); exact rfl)
    (refine goSt ?_; (repeat (refine goAl ?_; intro p hp; refine goSt ?_)))
    refine W_loopJ (fun (b : Nat × Value) => ⟨[(1, .val (.int .i64 m)), (2, .val p2), (4, .val p4), (6, .val p), (18, .sl 4 biC f.bs), (19, .val (.int .i64 f.bs.length)), (20, .val (.int .i64 b.1))], [.row b.2 66 4 biC ((f.bs.take b.1).filter (fun y => !decide (y.no = m))), .box p [.sl 1 iC f.ids, .sl 2 quC f.qs, .val b.2, .sl 3 payC f.ps] 27, .box p2 (flC f) 27, .box p4 [.val (.slice none 0 0), .val (.slice none 0 0), .val (.slice none 0 0), .val (.slice none 0 0)] 27]⟩) (fun b => b.1 ≤ f.bs.length) (fun b => f.bs.length - b.1) (0, .slice none 0 0) (fun _ _ st => st_sub2 (st_nil 66 4 biC st) (by exact goSubr) (by exact goSubp)) (Nat.zero_le _) ?_
    rintro ⟨k, v⟩ hk
    dsimp only at hk ⊢
    (refine goSt ?_; (repeat (refine goAl ?_; intro p hp; refine goSt ?_)))
    refine w_cond rfl (fun hlt => ?_) (fun hlt => ?_)
    · have hlt' : k < f.bs.length := by simpa using hlt
      have htk : f.bs.take (k + 1) = f.bs.take k ++ [f.bs[k]] := List.take_succ_eq_append_getElem hlt'
      (refine goSt ?_; (repeat (refine goAl ?_; intro p hp; refine goSt ?_)))
      refine w_cond rfl (fun g => ?_) (fun g => ?_)
      · have g' : (!decide (f.bs[k].no = m)) = true := g
        have hfk : (f.bs.take (k + 1)).filter (fun y => !decide (y.no = m)) = (f.bs.take k).filter (fun y => !decide (y.no = m)) ++ [f.bs[k]] := by
          rw [htk, List.filter_append, List.filter_cons, if_pos g']; rfl
        have hfl := List.length_filter_le (fun y : Bil => !decide (y.no = m)) (f.bs.take k)
        have htl := List.length_take_le k f.bs
        (refine goSt ?_; (repeat (refine goAl ?_; intro p hp; refine goSt ?_)))
        refine WL_as 30 (.agg (biC f.bs[k])) rfl ?_
        (apply wl_litF biC; exact inferInstance; exact inferInstance; exact inferInstance; (repeat (first | exact Elems.nil | (apply Elems.cons; exact rfl; exact inferInstance; exact rfl))); exact rfl; (first | exact (of_decide_eq_true rfl) | decide | (simp; done) | (simp; omega)); exact rfl)
        (first | (apply wl_append; exact rfl; exact rfl; exact goRm; exact inferInstance; exact inferInstance; (first | omega | (simp; omega)); exact rfl) | (apply wl_appendN; exact rfl; exact rfl; exact inferInstance; exact inferInstance; (first | omega | (simp; omega)); exact rfl))
        intro v'
        rw [← hfk]
        refine WL_one At.here (fun hone => ?_)
        (refine goSt ?_; (repeat (refine goAl ?_; intro p hp; refine goSt ?_)))
        (refine ⟨(k + 1, v'), fun _ _ st => st_sub2 st ?_ ?_, ?_, ?_⟩; exact goSubr; exact goSubp)
        · dsimp only; omega
        · dsimp only; omega
      · have g' : (!decide (f.bs[k].no = m)) = false := g
        have hfk : (f.bs.take (k + 1)).filter (fun y => !decide (y.no = m)) = (f.bs.take k).filter (fun y => !decide (y.no = m)) := by
          rw [htk, List.filter_append, List.filter_cons, if_neg (by rw [g']; simp)]; simp
        rw [← hfk]
        (refine goSt ?_; (repeat (refine goAl ?_; intro p hp; refine goSt ?_)))
        (refine ⟨(k + 1, v), fun _ _ st => st_sub2 st ?_ ?_, ?_, ?_⟩; exact goSubr; exact goSubp)
        · dsimp only; omega
        · dsimp only; omega
    · have hkk : k = f.bs.length := by simp at hlt; omega
      subst hkk
      rw [List.take_length]
      have hW : strikeR f m = if (f.bs.filter (fun y => !decide (y.no = m))).length = f.bs.length then (floE, 6) else ({ f with bs := f.bs.filter (fun y => !decide (y.no = m)) }, 0) := by unfold strikeR; rw [if_pos hok]
      rw [hW]
      generalize f.bs.filter (fun y => !decide (y.no = m)) = g
      (refine goSt ?_; (repeat (refine goAl ?_; intro p hp; refine goSt ?_)))
      refine w_cond rfl (fun hc => ?_) (fun hc => ?_)
      · have hc' : g.length = f.bs.length := by simp at hc; omega
        rw [if_pos hc']
        (refine goSt ?_; (repeat (refine goAl ?_; intro p hp; refine goSt ?_)))
        refine Res_imp (floE_imp _) ?_
        (apply resN1; exact rfl; exact rfl; exact goAtm; exact inferInstance; exact rfl; exact rfl; exact ⟨rfl, rfl⟩)
      · have hc' : ¬ g.length = f.bs.length := by simp at hc; omega
        rw [if_neg hc']
        (refine goSt ?_; (repeat (refine goAl ?_; intro p hp; refine goSt ?_)))
        (apply WL_frzA 43 2; exact rfl; exact rfl; exact goRm)
        refine WL_as 43 (.agg (flC { f with bs := g })) rfl ?_
        (refine goSt ?_; (repeat (refine goAl ?_; intro p hp; refine goSt ?_)))
        (apply resN1; exact rfl; exact rfl; exact goAtm; exact inferInstance; exact rfl; exact rfl; exact ⟨rfl, rfl⟩)
end Go.Proofs.YtihonljdanjfmaaDoor.Sw
namespace Go.Proofs.YtihonljdanjfmaaDoor.Sw
open Go.RowKit Go Go.Shelf Go.Proofs
theorem WL_himp {c : Cx} {rs : List (Nat × AV)} {hs r : List HA} {Q : Exit → S → Prop} {ops : Array Oper} {l : List Oper} {h h' : HA} (hr : Rm hs h r) (hi : ∀ G F w, h.P G F w → h'.P G F w) (k : WL c ops l ⟨rs, h' :: r⟩ Q) : WL c ops l ⟨rs, hs⟩ Q := ⟨fun a w st => by
  obtain ⟨G, F, hI, e⟩ := st
  obtain ⟨F1, F2, p, h1, h2⟩ := hr.sel hI.hs
  exact k.out a w ⟨G, F, ⟨hI.gin, hI.nd, hI.own, F1, F2, p, hi _ _ _ h1, h2⟩, e⟩⟩
def flX (x : Bil) : Flo := ⟨[], [], [x], []⟩
theorem flX_imp (x : Bil) (G : Nat → Option Obj) (vs : List Value) (h : Fits G [.val (.slice none 0 0), .val (.slice none 0 0), .sl 4 biC [x], .val (.slice none 0 0)] vs) : Fits G (flC (flX x)) vs := by
  match vs, h with
  | [a, b, c, d], ⟨ha, hb, hc, hd, _⟩ => exact ⟨nil_sl _ _ ha, nil_sl _ _ hb, hc, nil_sl _ _ hd, trivial⟩
theorem box_imp {p : Value} {cs cs' : List AV} {t : TypeId} (h : ∀ G vs, Fits G cs vs → Fits G cs' vs) (G : Nat → Option Obj) (F : List Nat) (w : World) (k : (HA.box p cs t).P G F w) : (HA.box p cs' t).P G F w := by
  obtain ⟨b, vs, e1, e2, e3, e4⟩ := k
  exact ⟨b, vs, e1, e2, h _ _ e3, e4⟩
theorem sml_add (f : Flo) (x : Bil) (hS : Sml f) (hx : x.st.length ≤ 1000) : Sml (addR f x).1 := by
  rw [add_eq]
  unfold add8R
  split
  · rename_i h
    split
    · exact sml_E
    · split
      · have := (flo_f h).bs
        refine ⟨hS.ids, hS.qs, by show (insB f.bs x).length ≤ 1000; rw [insB_len]; omega, hS.ps, fun b hb => ?_⟩
        rcases insB_mem hb with h | h
        · exact hS.st b h
        · rw [h]; exact hx
      · exact sml_E
  · exact sml_E
theorem sml_of2 (f : Flo) (x : Bil) (t : Tl) (r : Rt) (hS : Sml f) (hx : x.st.length ≤ 1000) : Sml (ofTR f x t r).1 := by
  unfold ofTR
  split
  · split
    · split
      · exact sml_add f _ hS hx
      · exact sml_E
    · exact sml_E
  · exact sml_E
theorem sml_strike (f : Flo) (m : Int) (hS : Sml f) : Sml (strikeR f m).1 := by
  unfold strikeR
  split
  · split
    · exact sml_E
    · exact ⟨hS.ids, hS.qs, Nat.le_trans (List.length_filter_le _ _) hS.bs, hS.ps, fun b hb => hS.st b (List.mem_filter.1 hb).1⟩
  · exact sml_E
set_option maxRecDepth 40000 in
set_option maxHeartbeats 4000000 in
theorem floorBills_con (f : Flo) (x : Bil) (t : Tl) (r : Rt) (m : Int) : Con Tryd.prog 6 [.agg (flC f), .agg (biC x), .agg (tC t), .agg (rC r), .val (.int .i64 m)] [tab8, HA.tab] (Is (.val (.bool true)) []) := by
  refine con_of Tryd.func6 rfl (enters_of Tryd.func6 (by kernel_rfl) rfl) rfl ?_; intro n w0 F0 G0
  (refine goSt ?_; (repeat (refine goAl ?_; intro p hp; refine goSt ?_)))
  (apply wl_litF biC; exact inferInstance; exact inferInstance; exact inferInstance; (repeat (first | exact Elems.nil | (apply Elems.cons; exact rfl; exact inferInstance; exact rfl))); exact rfl; (first | exact (of_decide_eq_true rfl) | decide | (simp; done) | (simp; omega)); exact rfl)
  (refine goSt ?_; (repeat (refine goAl ?_; intro p hp; refine goSt ?_)))
  refine WL_himp (h' := .box p (flC (flX x)) 27) Rm.here (fun G F w => box_imp (flX_imp x) G F w) ?_
  (first | (apply wl_call (great8_con f); exact rfl; exact rfl) | (apply wl_callR (great8_con f); exact rfl; exact goAtm; exact rfl))
  (refine goSt ?_; (repeat (refine goAl ?_; intro p hp; refine goSt ?_)))
  refine wl_part rfl rfl (fun g1 => ?_) (fun g1 => ?_)
  · (refine goSt ?_; (repeat (refine goAl ?_; intro p hp; refine goSt ?_)))
    (apply res1; exact rfl; exact rfl; exact ⟨rfl, rfl⟩)
  · rw [g1]
    (refine goSt ?_; (repeat (refine goAl ?_; intro p hp; refine goSt ?_)))
    (first | (apply wl_call (great8_con (flX x)); exact rfl; exact rfl) | (apply wl_callR (great8_con (flX x)); exact rfl; exact goAtm; exact rfl))
    (refine goSt ?_; (repeat (refine goAl ?_; intro p hp; refine goSt ?_)))
    refine wl_part rfl rfl (fun g2 => ?_) (fun g2 => ?_)
    · (refine goSt ?_; (repeat (refine goAl ?_; intro p hp; refine goSt ?_)))
      (apply res1; exact rfl; exact rfl; exact ⟨rfl, rfl⟩)
    · rw [g2]
      (refine goSt ?_; (repeat (refine goAl ?_; intro p hp; refine goSt ?_)))
      (first | (apply wl_call (great_con t); exact rfl; exact rfl) | (apply wl_callR (great_con t); exact rfl; exact goAtm; exact rfl))
      (refine goSt ?_; (repeat (refine goAl ?_; intro p hp; refine goSt ?_)))
      refine w_cond rfl (fun g3 => ?_) (fun g3 => ?_)
      · (refine goSt ?_; (repeat (refine goAl ?_; intro p hp; refine goSt ?_)))
        (apply res1; exact rfl; exact rfl; exact ⟨rfl, rfl⟩)
      · have hS := sml_small g1
        have hSX := sml_small g2
        have hx : x.st.length ≤ 1000 := hSX.st x (by simp [flX])
        have hst : t.st.length ≤ 1000 := by simp at g3; omega
        have hfo : t.fo.length ≤ 1000 := by simp at g3; omega
        rename_i p1 hp1 p2 hp2 p3 hp3 p4 hp4
        have h01 : 0 < (flX x).bs.length := Nat.one_pos
        have CA := add_con f x hS hx
        have CA8 := add8_con f x hS hx
        rw [← add_eq] at CA8
        have CO := ofTally_con f x t r hS hx hst hfo
        have CO8 := ofTally8_con f x t r hS hx hst hfo
        have CS := strike_con f m hS
        have CS8 := strike8_con f m hS
        have SA := sml_add f x hS hx
        have SO := sml_of2 f x t r hS hx
        have SS := sml_strike f m hS
        generalize addR f x = ra at CA CA8 SA
        generalize ofTR f x t r = ro at CO CO8 SO
        generalize strikeR f m = rs at CS CS8 SS
        obtain ⟨fa, ea⟩ := ra
        obtain ⟨fo, eo⟩ := ro
        obtain ⟨fs, es⟩ := rs
        unfold flT at CA8 CO8 CS8
        dsimp only at SA SO SS CA8 CO8 CS8
        have h02 : (flX x).bs[0]? = some x := rfl
        (refine goSt ?_; (repeat (refine goAl ?_; intro p hp; refine goSt ?_)))
        refine W_run 9 [41, 42, 43, 44, 45, 46, 12, 13, 14] [0, 1, 2, 3, 4, 5, 6, 7, 8] Cut.nil rfl goFlt mixedS (by kernel_rfl) rfl ?_
        refine rpv [] [] ?_
        refine Run.pv [0] [] rfl (fun vs => by apply ltr_pk; exact goPk; (refine ltr ?_; refine lt_call ?_ ((twin8_con f hS)); exact rfl)) goApp ?_
        refine rpv [] [] ?_
        refine Run.pv [2] [] rfl (fun vs => by apply ltr_pk; exact goPk; (refine ltr ?_; refine lt_call ?_ ((twin8_con (flX x) hSX)); exact rfl)) goApp ?_
        refine rpv [] [] ?_
        refine Run.pv [4] [] rfl (fun vs => by apply ltr_pk; exact goPk; (refine ltr ?_; refine lt_call ?_ ((twin_con t hst hfo)); exact rfl)) goApp ?_
        refine Run.tok [] [] rfl (fun vs => by apply ltr_pk; exact goPk; exact goLtr) goApp ?_
        refine Run.tok [] [] rfl (fun vs => by apply ltr_pk; exact goPk; exact goLtr) goApp ?_
        refine Run.tok [] [] rfl (fun vs => by apply ltr_pk; exact goPk; exact goLtr) goApp ?_
        refine ⟨⟨by kernel_rfl, by kernel_rfl⟩, fun vs => ?_⟩
        apply WL_auto [1, 3, 5, 6, 7, 8]
        · exact goPk
        · exact goNrm
        · kernel_rfl
        · kernel_rfl
        (refine goSt ?_; (repeat (refine goAl ?_; intro p hp; refine goSt ?_)))
        refine W_run 11 [48, 49, 50, 51, 52, 53, 47, 54, 55, 15, 1000010] [0, 1, 2, 3, 4, 7, 8, 10] (Cut.cons (h := tab8) goRm (Cut.nil)) rfl goFlt mixedS (by kernel_rfl) rfl ?_
        refine rpv [] [] ?_
        refine rpv [] [] ?_
        refine rpv [1] [] ?_
        refine rpv [2] [] ?_
        refine rpv [3] [] ?_
        refine Run.tk [0, 4] [1000] rfl (fun vs => by apply ltr_pk; exact goPk; (refine ltr ?_; refine LT_flP (r := (fa, ea)) (l := [tab8]) ?_; refine lt_call ?_ CA; exact rfl)) goApp ?_
        refine Run.tk [5] [5] rfl (fun vs => by apply ltr_pk; exact goPk; (refine ltr ?_; exact LT_moveFl (e := ea) (u0 := vs 5) (f := fa) (l := [tab8]) rfl)) goApp ?_
        refine Run.tk [6] [6] rfl (fun vs => by apply ltr_pk; exact goPk; (refine ltr ?_; exact LT_extFl (e := ea) (u0 := vs 6) (f := fa) (l := [tab8]) rfl)) goApp ?_
        refine Run.pv [6] [] rfl (fun vs => by apply ltr_pk; exact goPk; (refine ltr ?_; refine lt_extractB (i := 1) (av := .val (.int .i64 ea)) rfl rfl)) goApp ?_
        refine Run.tok [] [] rfl (fun vs => by apply ltr_pk; exact goPk; exact goLtr) goApp ?_
        refine Run.fy [7, 9] [9] 9 7 (fun q u => [.box q [.val (cellA 0 u), .val (cellA 1 u), .val (cellA 2 u), .val (cellA 3 u)] 27]) rfl (fun vs => by apply ltr_pk; exact goPk; (refine ltr ?_; apply LT.fx; apply lt_store (av := .both (flA (vs 7)) (vs 7)); (first | exact .inl rfl | exact .inr ⟨rfl, rfl⟩); exact rfl; exact rfl; exact (of_decide_eq_true rfl); exact rfl)) goApp ?_
        refine ⟨⟨by kernel_rfl, by kernel_rfl⟩, fun vs => ?_⟩
        apply WL_auto [8, 9]
        · exact goPk
        · exact goNrm
        · kernel_rfl
        · kernel_rfl
        (refine goSt ?_; (repeat (refine goAl ?_; intro p hp; refine goSt ?_)))
        rename_i vs0
        (first | (apply wl_call (CA8); exact rfl; exact rfl) | (apply wl_callR (CA8); exact rfl; exact goAtm; exact rfl))
        (refine goSt ?_; (repeat (refine goAl ?_; intro p hp; refine goSt ?_)))
        refine W_run 13 [63, 64, 65, 66, 67, 68, 69, 70, 62, 71, 72, 19, 1000012] [0, 1, 2, 3, 4, 5, 6, 9, 10, 12] (Cut.cons (h := tab8) goRm (Cut.cons (h := HA.tab) goRm (Cut.nil))) rfl goFlt mixedS (by kernel_rfl) rfl ?_
        refine rpv [] [] ?_
        refine rpv [] [] ?_
        refine rpv [1] [] ?_
        refine rpv [2] [] ?_
        refine rpv [3] [] ?_
        refine rpv [] [] ?_
        refine rpv [] [] ?_
        refine Run.tk [0, 4, 5, 6] [1000, 1001] rfl (fun vs => by apply ltr_pk; exact goPk; (refine ltr ?_; refine LT_flP (r := (fo, eo)) (l := [tab8, HA.tab]) ?_; refine lt_call ?_ CO; exact rfl)) goApp ?_
        refine Run.tk [7] [7] rfl (fun vs => by apply ltr_pk; exact goPk; (refine ltr ?_; exact LT_moveFl (e := eo) (u0 := vs 7) (f := fo) (l := [tab8, HA.tab]) rfl)) goApp ?_
        refine Run.tk [8] [8] rfl (fun vs => by apply ltr_pk; exact goPk; (refine ltr ?_; exact LT_extFl (e := eo) (u0 := vs 8) (f := fo) (l := [tab8, HA.tab]) rfl)) goApp ?_
        refine Run.pv [8] [] rfl (fun vs => by apply ltr_pk; exact goPk; (refine ltr ?_; refine lt_extractB (i := 1) (av := .val (.int .i64 eo)) rfl rfl)) goApp ?_
        refine Run.tok [] [] rfl (fun vs => by apply ltr_pk; exact goPk; exact goLtr) goApp ?_
        refine Run.fy [9, 11] [11] 11 9 (fun q u => [.box q [.val (cellA 0 u), .val (cellA 1 u), .val (cellA 2 u), .val (cellA 3 u)] 27]) rfl (fun vs => by apply ltr_pk; exact goPk; (refine ltr ?_; apply LT.fx; apply lt_store (av := .both (flA (vs 9)) (vs 9)); (first | exact .inl rfl | exact .inr ⟨rfl, rfl⟩); exact rfl; exact rfl; exact (of_decide_eq_true rfl); exact rfl)) goApp ?_
        refine ⟨⟨by kernel_rfl, by kernel_rfl⟩, fun vs => ?_⟩
        apply WL_auto [10, 11]
        · exact goPk
        · exact goNrm
        · kernel_rfl
        · kernel_rfl
        (refine goSt ?_; (repeat (refine goAl ?_; intro p hp; refine goSt ?_)))
        rename_i vs1
        (first | (apply wl_call (CO8); exact rfl; exact rfl) | (apply wl_callR (CO8); exact rfl; exact goAtm; exact rfl))
        (refine goSt ?_; (repeat (refine goAl ?_; intro p hp; refine goSt ?_)))
        (apply wl_callP (CS); exact rfl; exact goCutl; exact rfl)
        rintro _ _ ⟨ui, uq, ub, up, ⟨q1, q2, q3, q4⟩, rfl, rfl⟩
        (refine goSt ?_; (repeat (refine goAl ?_; intro p hp; refine goSt ?_)))
        (first | (apply wl_call (CS8); exact rfl; exact rfl) | (apply wl_callR (CS8); exact rfl; exact goAtm; exact rfl))
        (refine goSt ?_; (repeat (refine goAl ?_; intro p hp; refine goSt ?_)))
        (apply wl_borrow 93 (flo_thaw (cellA 0 (vs1 7)) (cellA 1 (vs1 7)) (cellA 2 (vs1 7)) (cellA 3 (vs1 7)) fa) (same8_con fa fa SA SA); exact rfl; exact rfl; exact goCutl; exact Pers.nil; exact rfl)
        simp only [eq_self, decide_true]
        (refine goSt ?_; (repeat (refine goAl ?_; intro p hp; refine goSt ?_)))
        simp only [eq_self, decide_true]
        (refine goSt ?_; (repeat (refine goAl ?_; intro p hp; refine goSt ?_)))
        (apply wl_borrow 102 (flo_thaw (cellA 0 (vs 9)) (cellA 1 (vs 9)) (cellA 2 (vs 9)) (cellA 3 (vs 9)) fo) (same8_con fo fo SO SO); exact rfl; exact rfl; exact goCutl; exact Pers.nil; exact rfl)
        simp only [eq_self, decide_true]
        (refine goSt ?_; (repeat (refine goAl ?_; intro p hp; refine goSt ?_)))
        simp only [eq_self, decide_true]
        (refine goSt ?_; (repeat (refine goAl ?_; intro p hp; refine goSt ?_)))
        (apply wl_borrow 112 (flo_thaw ui uq ub up fs) (same8_con fs fs SS SS); exact rfl; exact rfl; exact goCutl; exact Pers.nil; exact rfl)
        simp only [eq_self, decide_true]
        (refine goSt ?_; (repeat (refine goAl ?_; intro p hp; refine goSt ?_)))
        simp only [eq_self, decide_true]
        (refine goSt ?_; (repeat (refine goAl ?_; intro p hp; refine goSt ?_)))
        (apply wl_callP (spoil_con (cellA 0 (vs1 7)) (cellA 1 (vs1 7)) (cellA 2 (vs1 7)) (cellA 3 (vs1 7)) fa SA); exact rfl; exact goCutl; exact rfl)
        rintro _ _ ⟨rfl, rfl⟩
        (refine goSt ?_; (repeat (refine goAl ?_; intro p hp; refine goSt ?_)))
        (apply wl_callP (spoil_con (cellA 0 (vs 9)) (cellA 1 (vs 9)) (cellA 2 (vs 9)) (cellA 3 (vs 9)) fo SO); exact rfl; exact goCutl; exact rfl)
        rintro _ _ ⟨rfl, rfl⟩
        (refine goSt ?_; (repeat (refine goAl ?_; intro p hp; refine goSt ?_)))
        (apply wl_callP (spoil_con ui uq ub up fs SS); exact rfl; exact goCutl; exact rfl)
        rintro _ _ ⟨rfl, rfl⟩
        (refine goSt ?_; (repeat (refine goAl ?_; intro p hp; refine goSt ?_)))
        (first | (apply wl_call (same8_con f f hS hS); exact rfl; exact rfl) | (apply wl_callR (same8_con f f hS hS); exact rfl; exact goAtm; exact rfl))
        simp only [eq_self, decide_true]
        (refine goSt ?_; (repeat (refine goAl ?_; intro p hp; refine goSt ?_)))
        (first | (apply wl_call (same8_con (flX x) (flX x) hSX hSX); exact rfl; exact rfl) | (apply wl_callR (same8_con (flX x) (flX x) hSX hSX); exact rfl; exact goAtm; exact rfl))
        simp only [eq_self, decide_true]
        (refine goSt ?_; (repeat (refine goAl ?_; intro p hp; refine goSt ?_)))
        have CT := same_con t t hst hfo
        rw [sameTl_self] at CT
        (first | (apply wl_call (CT); exact rfl; exact rfl) | (apply wl_callR (CT); exact rfl; exact goAtm; exact rfl))
        (refine goSt ?_; (repeat (refine goAl ?_; intro p hp; refine goSt ?_)))
        (apply res1; exact rfl; exact rfl; exact ⟨rfl, rfl⟩)
end Go.Proofs.YtihonljdanjfmaaDoor.Sw
namespace Go.Proofs.YtihonljdanjfmaaDoor
open Go.Proofs.YtihonljdanjfmaaDoor.Sw Go Go.ChangeShapes Go.WideShapes Go.ChangeAt Go.RowKit
set_option maxRecDepth 100000 in
theorem floorBills_lifted (os : Os) (started : os.Started) (H : Type) (enc : TypeId × Value → H) :
    ReturnsInHanded {} Tryd.checked os 6 .any (fun w args => (Rows.floorBillsSpec.pre enc Tryd.prog Tryd.f6 [] false w args ∧ laidMetH Tryd.prog laidB w) ∧ sizedMet enc Tryd.prog Tryd.f6 (OpenSpec.ofChange Rows.floorBillsSpec) false w args)
      (Rows.floorBillsSpec.post enc Tryd.prog Tryd.f6 false true false false) := by
  refine returnsInHanded_of_change_and (C := Tryd.checked) (X := fun w _ => laidMetH Tryd.prog laidB w) (fun _ _ _ hh h => h.of_heap hh) own started (by kernel_rfl) Tryd.func6
    (ChangeSpec.witness_shaped (enc := enc) (C := Tryd.checked) (os := os) (X := fun w _ => laidMetH Tryd.prog laidB w) false (World.doorLaid Tryd.prog 400 os) #[.agg #[.slice none 0 0, .slice none 0 0, .slice none 0 0, .slice none 0 0], .agg #[.int .i64 0, .int .i64 0, .int .i64 0, .slice none 0 0], .agg #[.int .i64 0, .int .i64 0, .slice none 0 0, .slice none 0 0], .agg #[.int .i64 0, .int .i64 0, .int .i64 0, .int .i64 0], .int .i64 0] 8 rfl (World.shaped_of_RefB (by kernel_rfl) (by kernel_rfl)) (by kernel_rfl) (by kernel_rfl) (by kernel_rfl) (door_metB os _)) ?_
  intro W base args ds gs before hval0 hW _ _ hL _
  have hval : ∀ (j : Nat) t v, Tryd.f6.params[j]? = some t → args[j]? = some v → Value.okWide Tryd.prog W .any base t v := hval0
  have hW' := hW
  obtain ⟨p, q, hA0, hV, rfl, hfz, hnd⟩ := hW
  have hA : DataW.TrodAll enc Tryd.prog W 0 (fun _ => true) true Tryd.f6.params.toList args.toList ds p := hA0
  rw [Tryd.params6] at hA hval
  obtain ⟨v0, vs0, d0, ds0, p0, q0, hargs, rfl, rfl, h0, r0⟩ := trodAll_cons hA
  obtain ⟨v1, vs1, d1, ds1, p1, q1, rfl, rfl, rfl, h1, r1⟩ := trodAll_cons r0
  obtain ⟨v2, vs2, d2, ds2, p2, q2, rfl, rfl, rfl, h2, r2⟩ := trodAll_cons r1
  obtain ⟨v3, vs3, d3, ds3, p3, q3, rfl, rfl, rfl, h3, r3⟩ := trodAll_cons r2
  obtain ⟨v4, vs4, d4, ds4, p4, q4, rfl, rfl, rfl, h4, r4⟩ := trodAll_cons r3
  obtain ⟨rfl, rfl, rfl⟩ := trodAll_nil r4
  obtain rfl : args = #[v0, v1, v2, v3, v4] := by cases args; simp_all
  obtain ⟨rfl, rfl⟩ := trodVars_none hV
  have k0 := h0
  have lt0 : ∀ x ∈ p0, x.block < W.heap.size := by obtain ⟨m, hm⟩ := k0; exact DataW.trod_lt m _ _ _ hm
  have k1 := h1
  have lt1 : ∀ x ∈ p1, x.block < W.heap.size := by obtain ⟨m, hm⟩ := k1; exact DataW.trod_lt m _ _ _ hm
  have k2 := h2
  have lt2 : ∀ x ∈ p2, x.block < W.heap.size := by obtain ⟨m, hm⟩ := k2; exact DataW.trod_lt m _ _ _ hm
  have k3 := h3
  have lt3 : ∀ x ∈ p3, x.block < W.heap.size := by obtain ⟨m, hm⟩ := k3; exact DataW.trod_lt m _ _ _ hm
  have k4 := h4
  have lt4 : ∀ x ∈ p4, x.block < W.heap.size := by obtain ⟨m, hm⟩ := k4; exact DataW.trod_lt m _ _ _ hm
  obtain ⟨x0, f0⟩ := arg_agg reads_f Tryd.underlying27 (hval 0 27 v0 rfl rfl) h0
  obtain ⟨x1, f1⟩ := arg_agg reads_b Tryd.underlying66 (hval 1 66 v1 rfl rfl) h1
  obtain ⟨x2, f2⟩ := arg_agg reads_t Tryd.underlying68 (hval 2 68 v2 rfl rfl) h2
  obtain ⟨x3, f3⟩ := arg_agg reads_r Tryd.underlying70 (hval 3 70 v3 rfl rfl) h3
  obtain ⟨x4, f4, wk4⟩ := arg_int Tryd.underlying3 (hval 4 3 v4 rfl rfl) h4
  clear hA0 hval0
  have walk : Calls Tryd.prog 6 #[v0, v1, v2, v3, v4] W fun e w' => e = .returned (.bool true) ∧ Below W.heap.size W w' := by
    exact law_of (vs := [v0, v1, v2, v3, v4]) (floorBills_con x0 x1 x2 x3 x4) (tabs_of hL) ⟨f0, f1, f2, f3, f4, trivial⟩
  refine walk.mono fun e W' ⟨he, bel⟩ => ?_
  subst he
  exact ⟨_, rfl, _, _, _, [], _, [], hW', trodAll_mk1 (shut_bool Tryd.underlying4 _), (trodAll_cons_mk (Below.trod laidOut (by kernel_rfl) (of_decide_eq_true (by kernel_rfl)) k0 bel lt0) (trodAll_cons_mk (Below.trod laidOut (by kernel_rfl) (of_decide_eq_true (by kernel_rfl)) k1 bel lt1) (trodAll_cons_mk (Below.trod laidOut (by kernel_rfl) (of_decide_eq_true (by kernel_rfl)) k2 bel lt2) (trodAll_cons_mk (Below.trod laidOut (by kernel_rfl) (of_decide_eq_true (by kernel_rfl)) k3 bel lt3) (trodAll_cons_mk (Below.trod laidOut (by kernel_rfl) (of_decide_eq_true (by kernel_rfl)) k4 bel lt4) trodAll_mk0))))), rfl, bel.frame _, fun h => by cases h⟩
theorem floorBills_holds : Rows.FloorBillsSaid :=
  OpenClaim.holds_of_wide 6 Tryd.f6 rfl rfl rfl rfl rfl rfl rfl ⟨rfl, rfl, rfl, rfl, rfl⟩ rfl rfl rfl rfl rfl (by kernel_rfl) Tryd.func6 (by kernel_rfl)
    (of_decide_eq_true (by kernel_rfl)) (by unfold Func.isWrapper; first | (rw [if_pos (by decide +kernel)]; kernel_rfl) | (rw [if_neg (by decide +kernel)]; exact ⟨rfl, rfl⟩))
    (fun os started H enc _ => floorBills_lifted os started H enc)
theorem floorBills_plain (f : FuncId) (fn : Func) (hf : Tryd.pinned.checked.prog.funcNamed "aguador/aguadorlaw08.FloorBills" = some f) (hfn : Tryd.pinned.checked.prog.funcs[f]? = some fn) :
    false = Tryd.pinned.checked.prog.looks [] ∧ ∀ (j : Nat) t, fn.params[j]? = some t → Tryd.pinned.checked.prog.wantsStandIn t = false := by
  obtain rfl : f = 6 := Option.some.inj ((show Tryd.prog.funcNamed "aguador/aguadorlaw08.FloorBills" = some 6 by kernel_rfl).symm.trans hf) |>.symm
  obtain rfl : fn = Tryd.f6 := (Option.some.inj (Tryd.func6.symm.trans hfn)).symm
  refine ⟨by kernel_rfl, fun j t ht => ?_⟩
  rw [Tryd.params6] at ht
  have hm : t ∈ [27, 66, 68, 70, 3] := by simpa using Array.mem_of_getElem? ht
  have hall : ([27, 66, 68, 70, 3].all fun u => !Tryd.prog.wantsStandIn u) = true := by kernel_rfl
  exact (show Tryd.prog.wantsStandIn t = false by simpa using List.all_eq_true.1 hall t hm)
/-- The card. -/
theorem floorBills_card : Rows.FloorBillsCardSaid :=
  Claim7.holds_tied_plain_at .later [] _ _ _ _ floorBills_holds (fun _ h => by cases h) (by kernel_rfl) (fun _ h => by cases h) floorBills_row_tie rfl ⟨rfl, rfl⟩ (by kernel_rfl) rfl floorBills_plain (by kernel_rfl)
#print axioms floorBills_card
end Go.Proofs.YtihonljdanjfmaaDoor
