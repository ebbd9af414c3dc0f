/- The floors of stakes. -/
import Derived.Test.YtbkellknlcageaaDoorFloorG
namespace Go.Proofs.YtbkellknlcageaaDoor.Sw
open Go.RowKit Go Go.Shelf Go.Proofs
set_option maxRecDepth 20000 in
theorem floorsOf_con (l : List Stk) (hl : l.length ≤ 100000) : Con Tryd.prog 218 [.sl 2 stC l] [] (Is (.sl 1 iC (l.map Stk.fl)) []) := by
  refine con_of Tryd.func218 rfl (enters_of Tryd.func218 (by kernel_rfl) rfl) rfl ?_; intro n w0 F0 G0
  (refine W_seq ?_; refine W_region ?_; (apply wl_assign; exact rfl; exact rfl); refine WL_nil ?_; refine th_norm ?_; refine W_seq ?_; refine W_region ?_; (apply wl_assign; exact rfl; exact rfl); refine WL_nil ?_; refine th_norm ?_; refine W_seq ?_; refine W_seq ?_; refine W_region ?_; (apply wl_move; exact rfl; exact rfl); (apply wl_lenSl; exact rfl; exact rfl); (apply wl_move; exact rfl; exact rfl); refine WL_nil ?_; refine th_norm ?_; refine W_block ?_)
  refine W_loopJ (fun (b : Nat × Value) => ⟨[(3, .val b.2), (6, .sl 2 stC l), (7, .val (.int .i64 l.length)), (8, .val (.int .i64 b.1))], [.row b.2 3 1 iC ((l.map Stk.fl).take b.1)]⟩) (fun b => b.1 ≤ l.length) (fun b => l.length - b.1) (0, .slice none 0 0) (fun _ _ st => st_sub2 (st_nil 3 1 iC st) (by (repeat (first | exact trivial | refine ⟨rfl, ?_⟩))) (by (repeat (first | exact SubP.nil | (apply SubP.cons; (repeat (first | exact Rm.here | apply Rm.there))))))) (Nat.zero_le _) ?_
  rintro ⟨k, v⟩ hk
  dsimp only at hk ⊢
  have hll : ((l.map Stk.fl).take k).length ≤ 100000 := by rw [List.length_take, List.length_map]; omega
  (refine W_seq ?_; refine W_region ?_; (apply wl_lss; exact rfl; exact rfl; exact rfl); refine WL_nil ?_; refine th_norm ?_; refine W_seq ?_)
  refine w_cond rfl (fun hlt => ?_) (fun hlt => ?_)
  · have hlt' : k < l.length := by simpa using hlt
    have htk : (l.map Stk.fl).take (k + 1) = (l.map Stk.fl).take k ++ [l[k].fl] := by rw [List.take_succ_eq_append_getElem (by simpa using hlt'), List.getElem_map]
    (refine W_skip ?_; refine th_norm ?_; refine W_seq ?_; refine W_block ?_; refine W_seq ?_; refine W_region ?_; (apply wl_indexSl; exact rfl; exact rfl; exact rfl; (first | assumption | omega | (simp; omega)); exact rfl); (apply wl_loadEN; exact rfl; (case hk => first | assumption | omega | exact Nat.one_pos | (simp; omega)); exact rfl; exact rfl); (apply wl_alloc; exact rfl; intro p hp); (apply wl_store; (first | exact .inl rfl | exact .inr ⟨rfl, rfl⟩); (repeat (first | exact At.here | apply At.there)); exact rfl; exact inferInstance; exact inferInstance; exact inferInstance; exact rfl; (first | exact (of_decide_eq_true rfl) | (simp; omega) | decide)); refine WL_nil ?_; refine th_norm ?_; refine W_region ?_; (apply wl_move; exact rfl; exact rfl); (apply wl_field; exact rfl; (repeat (first | exact At.here | apply At.there)); exact rfl); (apply wl_load1; (first | exact .inl rfl | exact .inr ⟨rfl, rfl⟩); (repeat (first | exact At.here | apply At.there)); exact rfl; exact rfl))
    (apply wl_litF iC; exact inferInstance; exact inferInstance; exact inferInstance; (repeat (first | exact Elems.nil | (apply Elems.cons; exact rfl; exact inferInstance; exact rfl))); exact rfl; (first | exact (of_decide_eq_true rfl) | decide | (simp; done) | (simp; omega)); exact rfl)
    (first | (apply wl_append; exact rfl; exact rfl; (repeat (first | exact Rm.here | apply Rm.there)); exact inferInstance; exact inferInstance; (first | omega | (simp; omega)); exact rfl) | (apply wl_appendN; exact rfl; exact rfl; exact inferInstance; exact inferInstance; (first | omega | (simp; omega)); exact rfl))
    intro v'
    rw [← htk]
    ((apply wl_assign; exact rfl; exact rfl); refine WL_nil ?_; refine bl_norm ?_; refine th_norm ?_; refine W_region ?_; (apply wl_add; exact rfl; exact rfl; omega; omega; exact rfl); (apply wl_move; exact rfl; exact rfl); refine WL_nil ?_; refine th_norm ?_)
    (refine ⟨(k + 1, v'), fun _ _ st => st_sub2 st ?_ ?_, ?_, ?_⟩; (repeat (first | exact trivial | refine ⟨rfl, ?_⟩)); (repeat (first | exact SubP.nil | (apply SubP.cons; (repeat (first | exact Rm.here | apply Rm.there))))))
    · dsimp only; omega
    · dsimp only; omega
  · have hkk : k = l.length := by simp at hlt; omega
    subst hkk
    rw [List.take_of_length_le (by simp)]
    (apply W_frz 3; exact rfl; (repeat (first | exact Rm.here | apply Rm.there)))
    (refine W_exit ?_; refine th_exit ?_; refine th_exit ?_; refine bl_eq ?_; refine th_norm ?_; refine W_seq ?_; refine W_region ?_; (apply wl_move; exact rfl; exact rfl); (apply wl_assign; exact rfl; exact rfl); refine WL_nil ?_; refine th_norm ?_; refine W_ret ?_; refine rt_norm ?_)
    (apply res1; exact rfl; exact rfl; exact ⟨rfl, rfl⟩)
end Go.Proofs.YtbkellknlcageaaDoor.Sw
