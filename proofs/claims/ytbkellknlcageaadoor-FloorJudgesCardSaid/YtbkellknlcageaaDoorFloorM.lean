/- The program's house at work: 'index', 'shares', 'paid'. -/
import Derived.Test.YtbkellknlcageaaDoorFloorL
import Derived.Test.YtbkellknlcageaaDoorFloorY
namespace Go.Proofs.YtbkellknlcageaaDoor.Sw
open Go.RowKit Go Go.Shelf Go.Proofs
/-- A house at work, with what it is owed. -/
abbrev hsB (ph : Value) (f : Flo) (v : Value) : HA := .box ph (flC f ++ [.val v]) 108
set_option maxRecDepth 20000 in
theorem index_con (ph v : Value) (f : Flo) (id : Int) (hl : f.ids.length ≤ 1000000) : Con Tryd.prog 58 [.val ph, .val (.int .i64 id)] [hsB ph f v] (Is (.val (.int .i64 (ixOf f.ids id))) [hsB ph f v]) := by
  refine con_of Tryd.func58 rfl (enters_of Tryd.func58 (by kernel_rfl) rfl) rfl ?_; intro n w0 F0 G0
  (refine W_seq ?_; refine W_region ?_; (apply wl_assign; exact rfl; exact rfl); refine WL_nil ?_; refine th_norm ?_; refine W_seq ?_; refine W_region ?_; (apply wl_move; exact rfl; exact rfl); (apply wl_nilCheck; exact rfl; (repeat (first | exact At.here | apply At.there)); exact rfl); (apply wl_field; exact rfl; (repeat (first | exact At.here | apply At.there)); exact rfl); (apply wl_fieldAt; exact rfl; exact rfl; exact rfl); (apply wl_load1; (first | exact .inl rfl | exact .inr ⟨rfl, rfl⟩); (repeat (first | exact At.here | apply At.there)); exact rfl; exact rfl); (apply wl_move; exact rfl; exact rfl))
  (first | (apply wl_call (indexI_con f.ids id hl); exact rfl; exact rfl) | (apply wl_callR (indexI_con f.ids id hl); exact rfl; (repeat (first | exact At.here | apply At.there)); exact rfl))
  ((apply wl_assign; exact rfl; exact rfl); refine WL_nil ?_; refine th_norm ?_; refine W_ret ?_; refine rt_norm ?_)
  (apply resK; exact rfl; exact rfl; (apply Cut.cons (h := hsB ph f v); (repeat (first | exact Rm.here | apply Rm.there)); exact Cut.nil); exact ⟨rfl, rfl⟩)
theorem indexAt_con (ph v : Value) (f : Flo) (id : Int) (hl : f.ids.length ≤ 1000000) (hm : id ∈ f.ids) : Con Tryd.prog 58 [.val ph, .val (.int .i64 id)] [hsB ph f v] (Is (.val (.int .i64 ((f.ids.idxOf id : Nat) : Int))) [hsB ph f v]) := by
  have := index_con ph v f id hl
  rwa [show ixOf f.ids id = ((f.ids.idxOf id : Nat) : Int) from if_pos hm] at this
end Go.Proofs.YtbkellknlcageaaDoor.Sw
