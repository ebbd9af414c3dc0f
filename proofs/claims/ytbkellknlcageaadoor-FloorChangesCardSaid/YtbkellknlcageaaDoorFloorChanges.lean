/- The law FloorChanges: walked. -/
import Derived.Test.YtbkellknlcageaaDoorFloorCm
import Derived.Test.YtbkellknlcageaaDoorFloorCi
import Derived.Test.YtbkellknlcageaaDoorFloorJudges
namespace Go.Proofs.YtbkellknlcageaaDoor.Sw
open Go.RowKit Go Go.Shelf Go.Proofs
theorem ltr_borrow {P : Program} {rs : List (Nat × AV)} {hsR : List HA} {d : Option Nat} {ty : TypeId} {pos : String} {af : Array Edge} {g : Option (Nat × Bool)} {k : FuncId} {xs : List Operand} {ts : Array TypeId} {avs : List AV} {h : HA} {av av' : AV} {cv : Value} {f : HA → List HA} (i : Nat) (ht : Thaw h av av') (hc : Con P k avs [] (Is (.val cv) [])) (hl : look rs i = some av) (hx : opvs ((i, av') :: rs) xs = some avs) (hat : At hsR h f) : LTr P ⟨d, .call { callee := .value (.func k), args := xs.toArray, argTypes := ts }, ty, pos, af, g⟩ rs hsR [] (Is (.val cv) []) :=
  ltr_rd (lt_borrow (pers := []) hl ht Pers.nil (lt_call hx hc)) hat
theorem sml_E : Sml floE := ⟨Nat.zero_le _, Nat.zero_le _, Nat.zero_le _, Nat.zero_le _, fun b h => (by cases h)⟩
theorem sml_pay (f : Flo) (x : Pay) (hS : Sml f) : Sml (payR f x).1 := by
  unfold payR
  split
  · rename_i h
    split
    · exact sml_E
    · split
      · have := (flo_f h).ps
        exact ⟨hS.ids, hS.qs, hS.bs, by simp; omega, hS.st⟩
      · exact sml_E
  · exact sml_E
theorem sml_split (f : Flo) (x : Qu) (hS : Sml f) : Sml (split8R f x).1 := by
  unfold split8R
  split
  · rename_i h
    split
    · have := qs_le h
      exact ⟨hS.ids, by rw [insQ_len]; omega, hS.bs, hS.ps, hS.st⟩
    · exact sml_E
  · exact sml_E
theorem sml_mend (f : Flo) (x : Qu) (hS : Sml f) : Sml (mend8R f x).1 := by
  unfold mend8R
  split
  · split
    · exact sml_E
    · exact ⟨hS.ids, Nat.le_trans (List.length_filter_le _ _) hS.qs, hS.bs, hS.ps, hS.st⟩
  · exact sml_E
set_option maxRecDepth 40000 in
set_option maxHeartbeats 4000000 in
theorem floorChanges_con (f : Flo) (x : Pay) (q : Qu) : Con Tryd.prog 5 [.agg (flC f), .agg (payC x), .agg (quC q)] [tab8] (Is (.val (.bool true)) []) := by
  refine con_of Tryd.func5 rfl (enters_of Tryd.func5 (by kernel_rfl) rfl) rfl ?_; intro n w0 F0 G0
  (refine W_seq ?_; refine W_region ?_; (apply wl_boxv; exact rfl; exact inferInstance; exact rfl; intro p hp); (apply wl_boxv; exact rfl; exact inferInstance; exact rfl; intro p hp); (apply wl_boxv; exact rfl; exact inferInstance; exact rfl; intro p hp); (apply wl_assign; exact rfl; exact rfl); refine WL_nil ?_; refine th_norm ?_; refine W_seq ?_; refine W_seq ?_; refine W_region ?_; (apply wl_loadN; (first | exact .inl rfl | exact .inr ⟨rfl, rfl⟩); (repeat (first | exact At.here | apply At.there)); exact rfl; exact rfl))
  (first | (apply wl_call (great8_con f); exact rfl; exact rfl) | (apply wl_callR (great8_con f); exact rfl; (repeat (first | exact At.here | apply At.there)); exact rfl))
  by_cases hg : greatF f = true
  · rw [hg]
    (refine WL_nil ?_; refine th_norm ?_; (apply w_true; exact rfl); refine W_seq ?_; refine W_region ?_; (apply wl_assign; exact rfl; exact rfl); refine WL_nil ?_; refine th_norm ?_; refine W_ret ?_; refine th_ret ?_; refine rt_norm ?_)
    (apply res1; exact rfl; exact rfl; exact ⟨rfl, rfl⟩)
  · have hg' : greatF f = false := by simpa using hg
    rw [hg']
    have hS := sml_small hg'
    have CP := pay_con f x hS
    have CP8 := pay8_con f x hS
    have CS := split_con f q hS qs_le
    have CS8 := split8_con f q hS (fun h => Nat.le_trans (qs_le h) (by omega))
    have CM := mend_con f q hS
    have CM8 := mend8_con f q hS
    have SP := sml_pay f x hS
    have SS := sml_split f q hS
    have SM := sml_mend f q hS
    rw [split_eq] at CS
    rw [mend_eq] at CM
    generalize payR f x = rp at CP CP8 SP
    generalize split8R f q = rs at CS CS8 SS
    generalize mend8R f q = rm at CM CM8 SM
    obtain ⟨fp, ep⟩ := rp
    obtain ⟨fs, es⟩ := rs
    obtain ⟨fm, em⟩ := rm
    unfold flT at CP8 CS8 CM8
    dsimp only at SP SS SM CP8 CS8 CM8
    (refine WL_nil ?_; refine th_norm ?_; (apply w_false; exact rfl); refine W_skip ?_; refine th_norm ?_; refine W_seq ?_; refine W_region ?_; (apply wl_loadN; (first | exact .inl rfl | exact .inr ⟨rfl, rfl⟩); (repeat (first | exact At.here | apply At.there)); exact rfl; exact rfl))
    (first | (apply wl_call (twin8_con f hS); exact rfl; exact rfl) | (apply wl_callR (twin8_con f hS); exact rfl; (repeat (first | exact At.here | apply At.there)); exact rfl))
    ((apply wl_alloc; exact rfl; intro p hp); (apply wl_store; (first | exact .inl rfl | exact .inr ⟨rfl, rfl⟩); (repeat (first | exact At.here | apply At.there)); exact rfl; exact inferInstance; exact inferInstance; exact inferInstance; exact rfl; (first | exact (of_decide_eq_true rfl) | (simp; omega) | decide)); refine WL_nil ?_; refine th_norm ?_; refine W_seq ?_; refine W_region ?_; (apply wl_loadN; (first | exact .inl rfl | exact .inr ⟨rfl, rfl⟩); (repeat (first | exact At.here | apply At.there)); exact rfl; exact rfl); (apply wl_loadN; (first | exact .inl rfl | exact .inr ⟨rfl, rfl⟩); (repeat (first | exact At.here | apply At.there)); exact rfl; exact rfl))
    (apply wl_callP (CP); exact rfl; (repeat (first | exact Cut.nil | (apply Cut.cons; (repeat (first | exact Rm.here | apply Rm.there))))); exact rfl)
    rintro _ _ ⟨vi, vq, vb, vp, ⟨o1, o2, o3, o4⟩, rfl, rfl⟩
    ((apply wl_move; exact rfl; exact rfl); (apply wl_extract; exact rfl; exact rfl; exact rfl); (apply wl_extract; exact rfl; exact rfl; exact rfl); (apply wl_alloc; exact rfl; intro p hp); (apply wl_store; (first | exact .inl rfl | exact .inr ⟨rfl, rfl⟩); (repeat (first | exact At.here | apply At.there)); exact rfl; exact inferInstance; exact inferInstance; exact inferInstance; exact rfl; (first | exact (of_decide_eq_true rfl) | (simp; omega) | decide)); (apply wl_assign; exact rfl; exact rfl); refine WL_nil ?_; refine th_norm ?_; refine W_seq ?_; refine W_region ?_; (apply wl_loadN; (first | exact .inl rfl | exact .inr ⟨rfl, rfl⟩); (repeat (first | exact At.here | apply At.there)); exact rfl; exact rfl); (apply wl_loadN; (first | exact .inl rfl | exact .inr ⟨rfl, rfl⟩); (repeat (first | exact At.here | apply At.there)); exact rfl; exact rfl))
    (first | (apply wl_call (CP8); exact rfl; exact rfl) | (apply wl_callR (CP8); exact rfl; (repeat (first | exact At.here | apply At.there)); exact rfl))
    ((apply wl_move; exact rfl; exact rfl); (apply wl_extract; exact rfl; exact rfl; exact rfl); (apply wl_extract; exact rfl; exact rfl; exact rfl); (apply wl_alloc; exact rfl; intro p hp); (apply wl_store; (first | exact .inl rfl | exact .inr ⟨rfl, rfl⟩); (repeat (first | exact At.here | apply At.there)); exact rfl; exact inferInstance; exact inferInstance; exact inferInstance; exact rfl; (first | exact (of_decide_eq_true rfl) | (simp; omega) | decide)); (apply wl_assign; exact rfl; exact rfl); refine WL_nil ?_; refine th_norm ?_; refine W_seq ?_; refine W_region ?_; (apply wl_loadN; (first | exact .inl rfl | exact .inr ⟨rfl, rfl⟩); (repeat (first | exact At.here | apply At.there)); exact rfl; exact rfl); (apply wl_loadN; (first | exact .inl rfl | exact .inr ⟨rfl, rfl⟩); (repeat (first | exact At.here | apply At.there)); exact rfl; exact rfl))
    (apply wl_callP (CS); exact rfl; (repeat (first | exact Cut.nil | (apply Cut.cons; (repeat (first | exact Rm.here | apply Rm.there))))); exact rfl)
    rintro _ _ ⟨wi, wq, wb, wp, ⟨p1, p2, p3, p4⟩, rfl, rfl⟩
    ((apply wl_move; exact rfl; exact rfl); (apply wl_extract; exact rfl; exact rfl; exact rfl); (apply wl_extract; exact rfl; exact rfl; exact rfl); (apply wl_alloc; exact rfl; intro p hp); (apply wl_store; (first | exact .inl rfl | exact .inr ⟨rfl, rfl⟩); (repeat (first | exact At.here | apply At.there)); exact rfl; exact inferInstance; exact inferInstance; exact inferInstance; exact rfl; (first | exact (of_decide_eq_true rfl) | (simp; omega) | decide)); (apply wl_assign; exact rfl; exact rfl); refine WL_nil ?_; refine th_norm ?_; refine W_seq ?_; refine W_region ?_; (apply wl_loadN; (first | exact .inl rfl | exact .inr ⟨rfl, rfl⟩); (repeat (first | exact At.here | apply At.there)); exact rfl; exact rfl); (apply wl_loadN; (first | exact .inl rfl | exact .inr ⟨rfl, rfl⟩); (repeat (first | exact At.here | apply At.there)); exact rfl; exact rfl))
    (first | (apply wl_call (CS8); exact rfl; exact rfl) | (apply wl_callR (CS8); exact rfl; (repeat (first | exact At.here | apply At.there)); exact rfl))
    ((apply wl_move; exact rfl; exact rfl); (apply wl_extract; exact rfl; exact rfl; exact rfl); (apply wl_extract; exact rfl; exact rfl; exact rfl); (apply wl_alloc; exact rfl; intro p hp); (apply wl_store; (first | exact .inl rfl | exact .inr ⟨rfl, rfl⟩); (repeat (first | exact At.here | apply At.there)); exact rfl; exact inferInstance; exact inferInstance; exact inferInstance; exact rfl; (first | exact (of_decide_eq_true rfl) | (simp; omega) | decide)); (apply wl_assign; exact rfl; exact rfl); refine WL_nil ?_; refine th_norm ?_; refine W_seq ?_; refine W_region ?_; (apply wl_loadN; (first | exact .inl rfl | exact .inr ⟨rfl, rfl⟩); (repeat (first | exact At.here | apply At.there)); exact rfl; exact rfl); (apply wl_loadN; (first | exact .inl rfl | exact .inr ⟨rfl, rfl⟩); (repeat (first | exact At.here | apply At.there)); exact rfl; exact rfl))
    (apply wl_callP (CM); exact rfl; (repeat (first | exact Cut.nil | (apply Cut.cons; (repeat (first | exact Rm.here | apply Rm.there))))); exact rfl)
    rintro _ _ ⟨ui, uq, ub, up, ⟨q1, q2, q3, q4⟩, rfl, rfl⟩
    ((apply wl_move; exact rfl; exact rfl); (apply wl_extract; exact rfl; exact rfl; exact rfl); (apply wl_extract; exact rfl; exact rfl; exact rfl); (apply wl_alloc; exact rfl; intro p hp); (apply wl_store; (first | exact .inl rfl | exact .inr ⟨rfl, rfl⟩); (repeat (first | exact At.here | apply At.there)); exact rfl; exact inferInstance; exact inferInstance; exact inferInstance; exact rfl; (first | exact (of_decide_eq_true rfl) | (simp; omega) | decide)); (apply wl_assign; exact rfl; exact rfl); refine WL_nil ?_; refine th_norm ?_; refine W_seq ?_; refine W_region ?_; (apply wl_loadN; (first | exact .inl rfl | exact .inr ⟨rfl, rfl⟩); (repeat (first | exact At.here | apply At.there)); exact rfl; exact rfl); (apply wl_loadN; (first | exact .inl rfl | exact .inr ⟨rfl, rfl⟩); (repeat (first | exact At.here | apply At.there)); exact rfl; exact rfl))
    (first | (apply wl_call (CM8); exact rfl; exact rfl) | (apply wl_callR (CM8); exact rfl; (repeat (first | exact At.here | apply At.there)); exact rfl))
    ((apply wl_move; exact rfl; exact rfl); (apply wl_extract; exact rfl; exact rfl; exact rfl); (apply wl_extract; exact rfl; exact rfl; exact rfl); (apply wl_alloc; exact rfl; intro p hp); (apply wl_store; (first | exact .inl rfl | exact .inr ⟨rfl, rfl⟩); (repeat (first | exact At.here | apply At.there)); exact rfl; exact inferInstance; exact inferInstance; exact inferInstance; exact rfl; (first | exact (of_decide_eq_true rfl) | (simp; omega) | decide)); (apply wl_assign; exact rfl; exact rfl); refine WL_nil ?_; refine th_norm ?_; refine W_seq ?_; refine W_region ?_; (apply wl_loadN; (first | exact .inl rfl | exact .inr ⟨rfl, rfl⟩); (repeat (first | exact At.here | apply At.there)); exact rfl; exact rfl); (apply wl_loadN; (first | exact .inl rfl | exact .inr ⟨rfl, rfl⟩); (repeat (first | exact At.here | apply At.there)); exact rfl; exact rfl))
    (apply wl_borrow 61 (flo_thaw vi vq vb vp fp) (same8_con fp fp SP SP); exact rfl; exact rfl; (repeat (first | exact Cut.nil | (apply Cut.cons; (repeat (first | exact Rm.here | apply Rm.there))))); exact Pers.nil; exact rfl)
    simp only [eq_self, decide_true]
    ((apply wl_move; exact rfl; exact rfl); (apply wl_yes; exact rfl; exact rfl; exact rfl); (apply wl_move; exact rfl; exact rfl); (apply wl_yes; exact rfl; exact rfl; exact rfl); (apply wl_move; exact rfl; exact rfl); (apply wl_yes; exact rfl; exact rfl; exact rfl); (apply wl_eql; exact rfl; exact rfl; exact rfl); (apply wl_pick_t; exact rfl; exact rfl; exact rfl); (apply wl_move; exact rfl; exact rfl))
    simp only [eq_self, decide_true]
    ((apply wl_yes; exact rfl; exact rfl; exact rfl); (apply wl_loadN; (first | exact .inl rfl | exact .inr ⟨rfl, rfl⟩); (repeat (first | exact At.here | apply At.there)); exact rfl; exact rfl); (apply wl_yes; exact rfl; exact rfl; exact rfl); (apply wl_loadN; (first | exact .inl rfl | exact .inr ⟨rfl, rfl⟩); (repeat (first | exact At.here | apply At.there)); exact rfl; exact rfl); (apply wl_yes; exact rfl; exact rfl; exact rfl))
    (apply wl_borrow 70 (flo_thaw wi wq wb wp fs) (same8_con fs fs SS SS); exact rfl; exact rfl; (repeat (first | exact Cut.nil | (apply Cut.cons; (repeat (first | exact Rm.here | apply Rm.there))))); exact Pers.nil; exact rfl)
    simp only [eq_self, decide_true]
    ((apply wl_pick_t; exact rfl; exact rfl; exact rfl); (apply wl_move; exact rfl; exact rfl); (apply wl_yes; exact rfl; exact rfl; exact rfl); (apply wl_move; exact rfl; exact rfl); (apply wl_yes; exact rfl; exact rfl; exact rfl); (apply wl_move; exact rfl; exact rfl); (apply wl_yes; exact rfl; exact rfl; exact rfl); (apply wl_eql; exact rfl; exact rfl; exact rfl); (apply wl_pick_t; exact rfl; exact rfl; exact rfl); (apply wl_move; exact rfl; exact rfl))
    simp only [eq_self, decide_true]
    ((apply wl_yes; exact rfl; exact rfl; exact rfl); (apply wl_loadN; (first | exact .inl rfl | exact .inr ⟨rfl, rfl⟩); (repeat (first | exact At.here | apply At.there)); exact rfl; exact rfl); (apply wl_yes; exact rfl; exact rfl; exact rfl); (apply wl_loadN; (first | exact .inl rfl | exact .inr ⟨rfl, rfl⟩); (repeat (first | exact At.here | apply At.there)); exact rfl; exact rfl); (apply wl_yes; exact rfl; exact rfl; exact rfl))
    (apply wl_borrow 80 (flo_thaw ui uq ub up fm) (same8_con fm fm SM SM); exact rfl; exact rfl; (repeat (first | exact Cut.nil | (apply Cut.cons; (repeat (first | exact Rm.here | apply Rm.there))))); exact Pers.nil; exact rfl)
    simp only [eq_self, decide_true]
    ((apply wl_pick_t; exact rfl; exact rfl; exact rfl); (apply wl_move; exact rfl; exact rfl); (apply wl_yes; exact rfl; exact rfl; exact rfl); (apply wl_move; exact rfl; exact rfl); (apply wl_yes; exact rfl; exact rfl; exact rfl); (apply wl_move; exact rfl; exact rfl); (apply wl_yes; exact rfl; exact rfl; exact rfl); (apply wl_eql; exact rfl; exact rfl; exact rfl); (apply wl_pick_t; exact rfl; exact rfl; exact rfl); (apply wl_assign; exact rfl; exact rfl); refine WL_nil ?_; refine th_norm ?_; refine W_seq ?_; refine W_region ?_; (apply wl_loadN; (first | exact .inl rfl | exact .inr ⟨rfl, rfl⟩); (repeat (first | exact At.here | apply At.there)); exact rfl; exact rfl))
    simp only [eq_self, decide_true]
    skip
    (apply wl_callP (spoil_con vi vq vb vp fp SP); exact rfl; (repeat (first | exact Cut.nil | (apply Cut.cons; (repeat (first | exact Rm.here | apply Rm.there))))); exact rfl)
    rintro _ _ ⟨rfl, rfl⟩
    (refine WL_nil ?_; refine th_norm ?_; refine W_seq ?_; refine W_region ?_; (apply wl_loadN; (first | exact .inl rfl | exact .inr ⟨rfl, rfl⟩); (repeat (first | exact At.here | apply At.there)); exact rfl; exact rfl))
    (apply wl_callP (spoil_con wi wq wb wp fs SS); exact rfl; (repeat (first | exact Cut.nil | (apply Cut.cons; (repeat (first | exact Rm.here | apply Rm.there))))); exact rfl)
    rintro _ _ ⟨rfl, rfl⟩
    (refine WL_nil ?_; refine th_norm ?_; refine W_seq ?_; refine W_region ?_; (apply wl_loadN; (first | exact .inl rfl | exact .inr ⟨rfl, rfl⟩); (repeat (first | exact At.here | apply At.there)); exact rfl; exact rfl))
    (apply wl_callP (spoil_con ui uq ub up fm SM); exact rfl; (repeat (first | exact Cut.nil | (apply Cut.cons; (repeat (first | exact Rm.here | apply Rm.there))))); exact rfl)
    rintro _ _ ⟨rfl, rfl⟩
    (refine WL_nil ?_; refine th_norm ?_; refine W_seq ?_; refine W_region ?_; (apply wl_move; exact rfl; exact rfl); (apply wl_move; exact rfl; exact rfl); (apply wl_yes; exact rfl; exact rfl; exact rfl); (apply wl_loadN; (first | exact .inl rfl | exact .inr ⟨rfl, rfl⟩); (repeat (first | exact At.here | apply At.there)); exact rfl; exact rfl); (apply wl_yes; exact rfl; exact rfl; exact rfl); (apply wl_loadN; (first | exact .inl rfl | exact .inr ⟨rfl, rfl⟩); (repeat (first | exact At.here | apply At.there)); exact rfl; exact rfl); (apply wl_yes; exact rfl; exact rfl; exact rfl))
    (first | (apply wl_call (same8_con f f hS hS); exact rfl; exact rfl) | (apply wl_callR (same8_con f f hS hS); exact rfl; (repeat (first | exact At.here | apply At.there)); exact rfl))
    simp only [eq_self, decide_true]
    ((apply wl_pick_t; exact rfl; exact rfl; exact rfl); (apply wl_assign; exact rfl; exact rfl); refine WL_nil ?_; refine th_norm ?_; refine W_ret ?_; refine rt_norm ?_)
    (apply res1; exact rfl; exact rfl; exact ⟨rfl, rfl⟩)
end Go.Proofs.YtbkellknlcageaaDoor.Sw
