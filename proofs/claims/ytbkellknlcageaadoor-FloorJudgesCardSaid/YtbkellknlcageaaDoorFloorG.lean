/- The program's check of payments. -/
import Derived.Test.YtbkellknlcageaaDoorFloorF
namespace Go.Proofs.YtbkellknlcageaaDoor.Sw
open Go.RowKit Go Go.Shelf Go.Proofs
theorem paysOk_any (ids : List Int) : ∀ (l : List Pay), (!l.any fun x => !payOk ids x) = paysOk ids l
  | [] => rfl
  | x :: t => by
    rw [paysOk, ← paysOk_any ids t, List.any_cons]
    cases payOk ids x <;> simp
set_option maxRecDepth 20000 in
theorem check4_con (f : Flo) (hS : Sml f) : Con Tryd.prog 221 [.agg (flC f)] [] (Is (.val (.bool (paysOk f.ids f.ps))) []) := by
  have hidsl := hS.ids
  have hpsl := hS.ps
  refine con_of Tryd.func221 rfl (enters_of Tryd.func221 (by kernel_rfl) rfl) rfl ?_; intro n w0 F0 G0
  (refine W_seq ?_; refine W_region ?_; (apply wl_boxv; exact rfl; exact inferInstance; exact rfl; intro p hp); (apply wl_assign; exact rfl; exact rfl); refine WL_nil ?_; refine th_norm ?_; refine W_seq ?_; refine W_region ?_; (apply wl_field; exact rfl; (repeat (first | exact At.here | apply At.there)); exact rfl); (apply wl_load1; (first | exact .inl rfl | exact .inr ⟨rfl, rfl⟩); (repeat (first | exact At.here | apply At.there)); exact rfl; exact rfl); (apply wl_makeClo; exact rfl; exact rfl))
  (apply WL_frzC 5 0 4; exact rfl; exact rfl; (repeat (first | exact Rm.here | apply Rm.there)))
  (first | (apply wl_call (containsFuncP_con f.ps _ _ _ (by omega) (fun x _ => chk41_con f x (by omega))); exact rfl; exact rfl) | (apply wl_callR (containsFuncP_con f.ps _ _ _ (by omega) (fun x _ => chk41_con f x (by omega))); exact rfl; (repeat (first | exact At.here | apply At.there)); exact rfl))
  ((apply wl_not; exact rfl; exact rfl); (apply wl_assign; exact rfl; exact rfl); refine WL_nil ?_; refine th_norm ?_; refine W_ret ?_; refine rt_norm ?_)
  (apply res1; exact rfl; exact rfl; exact ⟨(congrArg (fun b => AV.val (Value.bool b)) (paysOk_any _ _)), rfl⟩)
end Go.Proofs.YtbkellknlcageaaDoor.Sw
