/- Proofs for one card: FloorLists, CardFloorLists. No condition of its own. -/
import Derived.Test.YtihonljdanjfmaaDoorZl8
namespace Go.Proofs.YtihonljdanjfmaaDoor.Sw
open Go.RowKit Go Go.Shelf Go.Proofs
theorem asked_told {f : Flo} (hS : Sml f) : ∃ k, k ≤ 1000 ∧ ∀ l ∈ (askR f).1, Told f k l := by
  cases h : floOk f with
  | false => exact ⟨0, by omega, fun l hl => by rw [(askR_no h).2] at hl; cases hl⟩
  | true =>
    by_cases he : errL f = 0
    · obtain ⟨k, hk, hb⟩ := both hS h he
      exact ⟨k, by omega, hb.to⟩
    · refine ⟨0, by omega, fun l hl => ?_⟩
      rw [askR_err h] at he
      unfold askR at he hl
      rw [if_pos h] at he hl
      split at hl
      · cases hl
      · rename_i h2; rw [if_neg h2] at he; exact absurd rfl he
theorem lsF_told {f : Flo} (hS : Sml f) (he : errL f = 0) : ∃ k, k ≤ 5 ∧ ∀ l ∈ lsF f, Told f k l := by
  obtain ⟨k, hk, hb⟩ := both hS (errL_ok he) he
  exact ⟨k, by omega, hb.toA⟩
theorem surP_len (xs : List (List Pay)) (h : ∀ l ∈ xs, l.length ≤ 1000) : (surP xs).length ≤ 1000 := by
  unfold surP
  refine Nat.le_trans (List.length_filter_le _ _) ?_
  cases xs with
  | nil => simp
  | cons x t => exact h x (by simp)
theorem stlN_len {f : Flo} (hS : Sml f) : (stlN f).1.length ≤ 1000 := by
  unfold stlN
  split
  · rename_i he
    obtain ⟨k, hk, hb⟩ := lsF_told hS he
    cases hq : (lsF f).foldl bstS none with
    | none => simp
    | some y =>
      rcases bstS_mem hq with h | h
      · rw [Option.getD_some, (hb y h).len]; omega
      · cases h
  · simp
theorem surN_len {f : Flo} (hS : Sml f) : (surN f).1.length ≤ 1000 := by
  unfold surN
  split
  · rename_i he
    obtain ⟨k, hk, hb⟩ := lsF_told hS he
    exact surP_len _ fun l hl => by rw [(hb l hl).len]; omega
  · simp
set_option maxRecDepth 20000 in
set_option maxHeartbeats 8000000 in
theorem floorLists_con (f : Flo) : Con Tryd.prog 8 [.agg (flC f)] [tab8] (Is (.val (.bool true)) []) := by
  refine con_of Tryd.func8 rfl (enters_of Tryd.func8 (by kernel_rfl) rfl) rfl ?_; intro n w0 F0 G0
  (refine goSt ?_; (repeat (refine goAl ?_; intro p hp; refine goSt ?_)))
  (first | (apply wl_call (great8_con f); exact rfl; exact rfl) | (apply wl_callR (great8_con f); exact rfl; exact goAtm; exact rfl))
  (refine goSt ?_; (repeat (refine goAl ?_; intro p hp; refine goSt ?_)))
  refine w_cond rfl (fun hg => ?_) (fun hg => ?_)
  · (refine goSt ?_; (repeat (refine goAl ?_; intro p hp; refine goSt ?_)))
    (apply res1; exact rfl; exact rfl; exact ⟨rfl, rfl⟩)
  · have hS := sml_small hg
    obtain ⟨k, hk, hT⟩ := asked_told hS
    have hA : errL f = 0 → ∀ x ∈ lsF f, PayB x := fun he x hx => by
      obtain ⟨k, hk, hb⟩ := lsF_told hS he
      exact (hb x hx).payB (by omega)
    have hC : errL f = 0 → ∀ m, m ≤ 5 → ∀ l ∈ lstsR f (owed8 f) m, PayB l := fun he m hm l hl => by
      have hok := errL_ok he
      exact (told (flo_f hok) hS (rises_of_ok hok) ((lists_perm (rises_of_ok hok) m).mem_iff.1 hl)).payB (by omega)
    have hD : errL f = 0 → ∀ l ∈ lsF f, l.length ≤ 5 ∧ ∀ x ∈ l, OkP x := fun he l hl => by
      obtain ⟨k, hk, hb⟩ := lsF_told hS he
      exact ⟨by rw [(hb l hl).len]; omega, fun x hx => ((hb l hl).ok x hx).1⟩
    have C1 := Fewest_con f hS
    have D1 := Fewest8_con f hS
    have C2 := Settle_con f hS hA
    have D2 := Settle8_con f hS (fun l hl => (hT l hl).payB hk) fun a ha b hb => (hT a ha).len.trans (hT b hb).len.symm
    have C3 := Cheapest_con f hS hC
    have D3 := Cheapest8_con f hS
    have C4 := Count_con f hS
    have D4 := Count8_con f hS
    have C5 := Sure_con f hS hD
    have D5 := Sure8_con f hS fun l hl => (hT l hl).payB hk
    have l2 := stlN_len hS
    have l5 := surN_len hS
    rw [← few_eq hS] at D1
    rw [← stl_eq hS] at D2
    rw [← chp_eq hS] at D3
    rw [← cnt_eq hS] at D4
    rw [← sur_eq hS] at D5
    generalize fewN f = r1 at *
    generalize stlN f = r2 at *
    generalize chpN f = r3 at *
    generalize cntN f = r4 at *
    generalize surN f = r5 at *
    have q1 : ∀ n : Int, (!decide (n = n)) = false := fun n => by simp
    have q2 : ∀ n : Int, decide (n = n) = true := fun n => by simp
    have q3 : ∀ l : List Pay, (!decide (l = l)) = false := fun l => by simp
    have q4 : ∀ l : List Pay, decide (l = l) = true := fun l => by simp
    clear hA hC hD hT
    (refine goSt ?_; (repeat (refine goAl ?_; intro p hp; refine goSt ?_)))
    (first | (apply wl_call (twin8_con f hS); exact rfl; exact rfl) | (apply wl_callR (twin8_con f hS); exact rfl; exact goAtm; exact rfl))
    (refine goSt ?_; (repeat (refine goAl ?_; intro p hp; refine goSt ?_)))
    (first | (apply wl_call (C1); exact rfl; exact rfl) | (apply wl_callR (C1); exact rfl; exact goAtm; exact rfl))
    (refine goSt ?_; (repeat (refine goAl ?_; intro p hp; refine goSt ?_)))
    (first | (apply wl_call (D1); exact rfl; exact rfl) | (apply wl_callR (D1); exact rfl; exact goAtm; exact rfl))
    (refine goSt ?_; (repeat (refine goAl ?_; intro p hp; refine goSt ?_)))
    (first | (apply wl_call (C2); exact rfl; exact rfl) | (apply wl_callR (C2); exact rfl; exact goAtm; exact rfl))
    (refine goSt ?_; (repeat (refine goAl ?_; intro p hp; refine goSt ?_)))
    (first | (apply wl_call (D2); exact rfl; exact rfl) | (apply wl_callR (D2); exact rfl; exact goAtm; exact rfl))
    (refine goSt ?_; (repeat (refine goAl ?_; intro p hp; refine goSt ?_)))
    rw [q1]
    (refine goSt ?_; (repeat (refine goAl ?_; intro p hp; refine goSt ?_)))
    rw [q1]
    (refine goSt ?_; (repeat (refine goAl ?_; intro p hp; refine goSt ?_)))
    (first | (apply wl_call (samePays_con r2.1 r2.1 (by omega) (by omega)); exact rfl; exact rfl) | (apply wl_callR (samePays_con r2.1 r2.1 (by omega) (by omega)); exact rfl; exact goAtm; exact rfl))
    (refine goSt ?_; (repeat (refine goAl ?_; intro p hp; refine goSt ?_)))
    rw [q3 r2.1]
    (refine goSt ?_; (repeat (refine goAl ?_; intro p hp; refine goSt ?_)))
    rw [q1]
    (refine goSt ?_; (repeat (refine goAl ?_; intro p hp; refine goSt ?_)))
    (first | (apply wl_call (C3); exact rfl; exact rfl) | (apply wl_callR (C3); exact rfl; exact goAtm; exact rfl))
    (refine goSt ?_; (repeat (refine goAl ?_; intro p hp; refine goSt ?_)))
    (first | (apply wl_call (D3); exact rfl; exact rfl) | (apply wl_callR (D3); exact rfl; exact goAtm; exact rfl))
    (refine goSt ?_; (repeat (refine goAl ?_; intro p hp; refine goSt ?_)))
    (first | (apply wl_call (C4); exact rfl; exact rfl) | (apply wl_callR (C4); exact rfl; exact goAtm; exact rfl))
    (refine goSt ?_; (repeat (refine goAl ?_; intro p hp; refine goSt ?_)))
    (first | (apply wl_call (D4); exact rfl; exact rfl) | (apply wl_callR (D4); exact rfl; exact goAtm; exact rfl))
    (refine goSt ?_; (repeat (refine goAl ?_; intro p hp; refine goSt ?_)))
    (first | (apply wl_call (C5); exact rfl; exact rfl) | (apply wl_callR (C5); exact rfl; exact goAtm; exact rfl))
    (refine goSt ?_; (repeat (refine goAl ?_; intro p hp; refine goSt ?_)))
    (first | (apply wl_call (D5); exact rfl; exact rfl) | (apply wl_callR (D5); exact rfl; exact goAtm; exact rfl))
    (refine goSt ?_; (repeat (refine goAl ?_; intro p hp; refine goSt ?_)))
    rw [q2]
    (refine goSt ?_; (repeat (refine goAl ?_; intro p hp; refine goSt ?_)))
    rw [q2]
    (refine goSt ?_; (repeat (refine goAl ?_; intro p hp; refine goSt ?_)))
    rw [q2]
    (refine goSt ?_; (repeat (refine goAl ?_; intro p hp; refine goSt ?_)))
    rw [q2]
    (refine goSt ?_; (repeat (refine goAl ?_; intro p hp; refine goSt ?_)))
    (first | (apply wl_call (samePays_con r5.1 r5.1 (by omega) (by omega)); exact rfl; exact rfl) | (apply wl_callR (samePays_con r5.1 r5.1 (by omega) (by omega)); exact rfl; exact goAtm; exact rfl))
    (refine goSt ?_; (repeat (refine goAl ?_; intro p hp; refine goSt ?_)))
    rw [q4 r5.1]
    (refine goSt ?_; (repeat (refine goAl ?_; intro p hp; refine goSt ?_)))
    rw [q2]
    (refine goSt ?_; (repeat (refine goAl ?_; intro p hp; refine goSt ?_)))
    (first | (apply wl_call (same8_con f f hS hS); exact rfl; exact rfl) | (apply wl_callR (same8_con f f hS hS); exact rfl; exact goAtm; exact rfl))
    (refine goSt ?_; (repeat (refine goAl ?_; intro p hp; refine goSt ?_)))
    (apply res1; exact rfl; exact rfl; exact ⟨(congrArg (fun b => AV.val (Value.bool b)) (by simp)), rfl⟩)
end Go.Proofs.YtihonljdanjfmaaDoor.Sw
namespace Go.Proofs.YtihonljdanjfmaaDoor
open Go.Proofs.YtihonljdanjfmaaDoor.Sw Go Go.ChangeShapes Go.WideShapes Go.ChangeAt Go.RowKit
set_option maxRecDepth 100000 in
theorem floorLists_lifted (os : Os) (started : os.Started) (H : Type) (enc : TypeId × Value → H) :
    ReturnsInHanded {} Tryd.checked os 8 .any (fun w args => (Rows.floorListsSpec.pre enc Tryd.prog Tryd.f8 [] false w args ∧ laidMetH Tryd.prog laidL w) ∧ sizedMet enc Tryd.prog Tryd.f8 (OpenSpec.ofChange Rows.floorListsSpec) false w args)
      (Rows.floorListsSpec.post enc Tryd.prog Tryd.f8 false true false false) := by
  refine returnsInHanded_of_change_and (C := Tryd.checked) (X := fun w _ => laidMetH Tryd.prog laidL w) (fun _ _ _ hh h => h.of_heap hh) own started (by kernel_rfl) Tryd.func8
    (ChangeSpec.witness_shaped (enc := enc) (C := Tryd.checked) (os := os) (X := fun w _ => laidMetH Tryd.prog laidL w) false (World.doorLaid Tryd.prog 400 os) #[.agg #[.slice none 0 0, .slice none 0 0, .slice none 0 0, .slice none 0 0]] 8 rfl (World.shaped_of_RefB (by kernel_rfl) (by kernel_rfl)) (by kernel_rfl) (by kernel_rfl) (by kernel_rfl) (door_met os _)) ?_
  intro W base args ds gs before hval0 hW _ _ hL _
  have hval : ∀ (j : Nat) t v, Tryd.f8.params[j]? = some t → args[j]? = some v → Value.okWide Tryd.prog W .any base t v := hval0
  have hW' := hW
  obtain ⟨p, q, hA0, hV, rfl, hfz, hnd⟩ := hW
  have hA : DataW.TrodAll enc Tryd.prog W 0 (fun _ => true) true Tryd.f8.params.toList args.toList ds p := hA0
  rw [Tryd.params8] at hA hval
  obtain ⟨v0, vs0, d0, ds0, p0, q0, hargs, rfl, rfl, h0, r0⟩ := trodAll_cons hA
  obtain ⟨rfl, rfl, rfl⟩ := trodAll_nil r0
  obtain rfl : args = #[v0] := by cases args; simp_all
  obtain ⟨rfl, rfl⟩ := trodVars_none hV
  have k0 := h0
  have lt0 : ∀ x ∈ p0, x.block < W.heap.size := by obtain ⟨m, hm⟩ := k0; exact DataW.trod_lt m _ _ _ hm
  obtain ⟨x0, f0⟩ := arg_agg reads_f Tryd.underlying27 (hval 0 27 v0 rfl rfl) h0
  clear hA0 hval0
  have walk : Calls Tryd.prog 8 #[v0] W fun e w' => e = .returned (.bool true) ∧ Below W.heap.size W w' := by
    exact law_of (vs := [v0]) (floorLists_con x0) (tab_of8 (List.mem_cons_self ..) hL) ⟨f0, trivial⟩
  refine walk.mono fun e W' ⟨he, bel⟩ => ?_
  subst he
  exact ⟨_, rfl, _, _, _, [], _, [], hW', trodAll_mk1 (shut_bool Tryd.underlying4 _), (trodAll_cons_mk (Below.trod laidOut (by kernel_rfl) (of_decide_eq_true (by kernel_rfl)) k0 bel lt0) trodAll_mk0), rfl, bel.frame _, fun h => by cases h⟩
theorem floorLists_holds : Rows.FloorListsSaid :=
  OpenClaim.holds_of_wide 8 Tryd.f8 rfl rfl rfl rfl rfl rfl rfl ⟨rfl, rfl, rfl, rfl, rfl⟩ rfl rfl rfl rfl rfl (by kernel_rfl) Tryd.func8 (by kernel_rfl)
    (of_decide_eq_true (by kernel_rfl)) (by unfold Func.isWrapper; first | (rw [if_pos (by decide +kernel)]; kernel_rfl) | (rw [if_neg (by decide +kernel)]; exact ⟨rfl, rfl⟩))
    (fun os started H enc _ => floorLists_lifted os started H enc)
theorem floorLists_plain (f : FuncId) (fn : Func) (hf : Tryd.pinned.checked.prog.funcNamed "aguador/aguadorlaw08.FloorLists" = some f) (hfn : Tryd.pinned.checked.prog.funcs[f]? = some fn) :
    false = Tryd.pinned.checked.prog.looks [] ∧ ∀ (j : Nat) t, fn.params[j]? = some t → Tryd.pinned.checked.prog.wantsStandIn t = false := by
  obtain rfl : f = 8 := Option.some.inj ((show Tryd.prog.funcNamed "aguador/aguadorlaw08.FloorLists" = some 8 by kernel_rfl).symm.trans hf) |>.symm
  obtain rfl : fn = Tryd.f8 := (Option.some.inj (Tryd.func8.symm.trans hfn)).symm
  refine ⟨by kernel_rfl, fun j t ht => ?_⟩
  rw [Tryd.params8] at ht
  have hm : t ∈ [27] := by simpa using Array.mem_of_getElem? ht
  have hall : ([27].all fun u => !Tryd.prog.wantsStandIn u) = true := by kernel_rfl
  exact (show Tryd.prog.wantsStandIn t = false by simpa using List.all_eq_true.1 hall t hm)
/-- The card. -/
theorem floorLists_card : Rows.FloorListsCardSaid :=
  Claim7.holds_tied_plain_at .later [] _ _ _ _ floorLists_holds (fun _ h => by cases h) (by kernel_rfl) (fun _ h => by cases h) floorLists_row_tie rfl ⟨rfl, rfl⟩ (by kernel_rfl) rfl floorLists_plain (by kernel_rfl)
#print axioms floorLists_card
end Go.Proofs.YtihonljdanjfmaaDoor
