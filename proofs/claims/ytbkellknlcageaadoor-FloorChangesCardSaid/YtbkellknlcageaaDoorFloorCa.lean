/- FloorCa: several parts in one text. -/
import Derived.Test.YtbkellknlcageaaDoorFloorOc
import Derived.Test.YtbkellknlcageaaDoorSwI
/- Slices in new memory. -/
namespace Go.Proofs.YtbkellknlcageaaDoor.Sw
open Go.RowKit Go Go.Shelf Go.Proofs
set_option maxRecDepth 20000 in
theorem cloneI_con (xs : List Int) (hl : xs.length ≤ 100000) : Con Tryd.prog 116 [.sl 1 iC xs] [] (Tok 3 1 iC xs) := by
  refine con_of Tryd.func116 rfl (enters_of Tryd.func116 (by kernel_rfl) rfl) rfl ?_; intro n w0 F0 G0
  (refine W_seq ?_; refine W_region ?_; (apply wl_assign; exact rfl; exact rfl); refine WL_nil ?_; refine th_norm ?_; refine W_seq ?_; refine W_seq ?_; refine W_region ?_; (apply wl_move; exact rfl; exact rfl))
  apply wl_eqlNil
  · exact rfl
  · exact inferInstance
  · exact rfl
  intro b hb
  (refine WL_nil ?_; refine th_norm ?_)
  refine w_cond rfl (fun h => ?_) (fun h => ?_)
  · obtain rfl := hb h
    (refine W_seq ?_; refine W_region ?_; (apply wl_assign; exact rfl; exact rfl); refine WL_nil ?_; refine th_norm ?_; refine W_ret ?_; refine th_ret ?_; refine rt_norm ?_)
    refine Res_row0 3 1 iC ?_
    (apply resK1; exact rfl; exact rfl; exact ⟨_, rfl, rfl⟩; (repeat (first | exact Cut.nil | (apply Cut.cons; (repeat (first | exact Rm.here | apply Rm.there))))))
  · (refine W_skip ?_; refine th_norm ?_; refine W_seq ?_; refine W_region ?_)
    (apply wl_lit iC; exact inferInstance; exact inferInstance; exact inferInstance; (repeat (first | exact Elems.nil | (apply Elems.cons; exact rfl; exact inferInstance; exact rfl))); exact rfl; (first | exact (of_decide_eq_true rfl) | decide | (simp; done) | (simp; omega)); exact rfl)
    intro v0
    ((apply wl_move; exact rfl; exact rfl))
    (first | (apply wl_append; exact rfl; exact rfl; (repeat (first | exact Rm.here | apply Rm.there)); exact inferInstance; exact inferInstance; (first | omega | (simp; omega)); exact rfl) | (apply wl_appendN; exact rfl; exact rfl; exact inferInstance; exact inferInstance; (first | omega | (simp; omega)); exact rfl))
    intro v1
    rw [List.nil_append]
    ((apply wl_assign; exact rfl; exact rfl); refine WL_nil ?_; refine th_norm ?_; refine W_ret ?_; refine rt_norm ?_)
    (apply resK1; exact rfl; exact rfl; exact ⟨_, rfl, rfl⟩; (repeat (first | exact Cut.nil | (apply Cut.cons; (repeat (first | exact Rm.here | apply Rm.there))))))
set_option maxRecDepth 20000 in
theorem cloneQ_con (xs : List Qu) (hl : xs.length ≤ 100000) : Con Tryd.prog 117 [.sl 2 quC xs] [] (Tok 55 2 quC xs) := by
  refine con_of Tryd.func117 rfl (enters_of Tryd.func117 (by kernel_rfl) rfl) rfl ?_; intro n w0 F0 G0
  (refine W_seq ?_; refine W_region ?_; (apply wl_assign; exact rfl; exact rfl); refine WL_nil ?_; refine th_norm ?_; refine W_seq ?_; refine W_seq ?_; refine W_region ?_; (apply wl_move; exact rfl; exact rfl))
  apply wl_eqlNil
  · exact rfl
  · exact inferInstance
  · exact rfl
  intro b hb
  (refine WL_nil ?_; refine th_norm ?_)
  refine w_cond rfl (fun h => ?_) (fun h => ?_)
  · obtain rfl := hb h
    (refine W_seq ?_; refine W_region ?_; (apply wl_assign; exact rfl; exact rfl); refine WL_nil ?_; refine th_norm ?_; refine W_ret ?_; refine th_ret ?_; refine rt_norm ?_)
    refine Res_row0 55 2 quC ?_
    (apply resK1; exact rfl; exact rfl; exact ⟨_, rfl, rfl⟩; (repeat (first | exact Cut.nil | (apply Cut.cons; (repeat (first | exact Rm.here | apply Rm.there))))))
  · (refine W_skip ?_; refine th_norm ?_; refine W_seq ?_; refine W_region ?_)
    (apply wl_lit quC; exact inferInstance; exact inferInstance; exact inferInstance; (repeat (first | exact Elems.nil | (apply Elems.cons; exact rfl; exact inferInstance; exact rfl))); exact rfl; (first | exact (of_decide_eq_true rfl) | decide | (simp; done) | (simp; omega)); exact rfl)
    intro v0
    ((apply wl_move; exact rfl; exact rfl))
    (first | (apply wl_append; exact rfl; exact rfl; (repeat (first | exact Rm.here | apply Rm.there)); exact inferInstance; exact inferInstance; (first | omega | (simp; omega)); exact rfl) | (apply wl_appendN; exact rfl; exact rfl; exact inferInstance; exact inferInstance; (first | omega | (simp; omega)); exact rfl))
    intro v1
    rw [List.nil_append]
    ((apply wl_assign; exact rfl; exact rfl); refine WL_nil ?_; refine th_norm ?_; refine W_ret ?_; refine rt_norm ?_)
    (apply resK1; exact rfl; exact rfl; exact ⟨_, rfl, rfl⟩; (repeat (first | exact Cut.nil | (apply Cut.cons; (repeat (first | exact Rm.here | apply Rm.there))))))
set_option maxRecDepth 20000 in
theorem cloneB_con (xs : List Bil) (hl : xs.length ≤ 100000) : Con Tryd.prog 78 [.sl 4 biC xs] [] (Tok 66 4 biC xs) := by
  refine con_of Tryd.func78 rfl (enters_of Tryd.func78 (by kernel_rfl) rfl) rfl ?_; intro n w0 F0 G0
  (refine W_seq ?_; refine W_region ?_; (apply wl_assign; exact rfl; exact rfl); refine WL_nil ?_; refine th_norm ?_; refine W_seq ?_; refine W_seq ?_; refine W_region ?_; (apply wl_move; exact rfl; exact rfl))
  apply wl_eqlNil
  · exact rfl
  · exact inferInstance
  · exact rfl
  intro b hb
  (refine WL_nil ?_; refine th_norm ?_)
  refine w_cond rfl (fun h => ?_) (fun h => ?_)
  · obtain rfl := hb h
    (refine W_seq ?_; refine W_region ?_; (apply wl_assign; exact rfl; exact rfl); refine WL_nil ?_; refine th_norm ?_; refine W_ret ?_; refine th_ret ?_; refine rt_norm ?_)
    refine Res_row0 66 4 biC ?_
    (apply resK1; exact rfl; exact rfl; exact ⟨_, rfl, rfl⟩; (repeat (first | exact Cut.nil | (apply Cut.cons; (repeat (first | exact Rm.here | apply Rm.there))))))
  · (refine W_skip ?_; refine th_norm ?_; refine W_seq ?_; refine W_region ?_)
    (apply wl_lit biC; exact inferInstance; exact inferInstance; exact inferInstance; (repeat (first | exact Elems.nil | (apply Elems.cons; exact rfl; exact inferInstance; exact rfl))); exact rfl; (first | exact (of_decide_eq_true rfl) | decide | (simp; done) | (simp; omega)); exact rfl)
    intro v0
    ((apply wl_move; exact rfl; exact rfl))
    (first | (apply wl_append; exact rfl; exact rfl; (repeat (first | exact Rm.here | apply Rm.there)); exact inferInstance; exact inferInstance; (first | omega | (simp; omega)); exact rfl) | (apply wl_appendN; exact rfl; exact rfl; exact inferInstance; exact inferInstance; (first | omega | (simp; omega)); exact rfl))
    intro v1
    rw [List.nil_append]
    ((apply wl_assign; exact rfl; exact rfl); refine WL_nil ?_; refine th_norm ?_; refine W_ret ?_; refine rt_norm ?_)
    (apply resK1; exact rfl; exact rfl; exact ⟨_, rfl, rfl⟩; (repeat (first | exact Cut.nil | (apply Cut.cons; (repeat (first | exact Rm.here | apply Rm.there))))))
set_option maxRecDepth 20000 in
theorem cloneP_con (xs : List Pay) (hl : xs.length ≤ 100000) : Con Tryd.prog 118 [.sl 3 payC xs] [] (Tok 53 3 payC xs) := by
  refine con_of Tryd.func118 rfl (enters_of Tryd.func118 (by kernel_rfl) rfl) rfl ?_; intro n w0 F0 G0
  (refine W_seq ?_; refine W_region ?_; (apply wl_assign; exact rfl; exact rfl); refine WL_nil ?_; refine th_norm ?_; refine W_seq ?_; refine W_seq ?_; refine W_region ?_; (apply wl_move; exact rfl; exact rfl))
  apply wl_eqlNil
  · exact rfl
  · exact inferInstance
  · exact rfl
  intro b hb
  (refine WL_nil ?_; refine th_norm ?_)
  refine w_cond rfl (fun h => ?_) (fun h => ?_)
  · obtain rfl := hb h
    (refine W_seq ?_; refine W_region ?_; (apply wl_assign; exact rfl; exact rfl); refine WL_nil ?_; refine th_norm ?_; refine W_ret ?_; refine th_ret ?_; refine rt_norm ?_)
    refine Res_row0 53 3 payC ?_
    (apply resK1; exact rfl; exact rfl; exact ⟨_, rfl, rfl⟩; (repeat (first | exact Cut.nil | (apply Cut.cons; (repeat (first | exact Rm.here | apply Rm.there))))))
  · (refine W_skip ?_; refine th_norm ?_; refine W_seq ?_; refine W_region ?_)
    (apply wl_lit payC; exact inferInstance; exact inferInstance; exact inferInstance; (repeat (first | exact Elems.nil | (apply Elems.cons; exact rfl; exact inferInstance; exact rfl))); exact rfl; (first | exact (of_decide_eq_true rfl) | decide | (simp; done) | (simp; omega)); exact rfl)
    intro v0
    ((apply wl_move; exact rfl; exact rfl))
    (first | (apply wl_append; exact rfl; exact rfl; (repeat (first | exact Rm.here | apply Rm.there)); exact inferInstance; exact inferInstance; (first | omega | (simp; omega)); exact rfl) | (apply wl_appendN; exact rfl; exact rfl; exact inferInstance; exact inferInstance; (first | omega | (simp; omega)); exact rfl))
    intro v1
    rw [List.nil_append]
    ((apply wl_assign; exact rfl; exact rfl); refine WL_nil ?_; refine th_norm ?_; refine W_ret ?_; refine rt_norm ?_)
    (apply resK1; exact rfl; exact rfl; exact ⟨_, rfl, rfl⟩; (repeat (first | exact Cut.nil | (apply Cut.cons; (repeat (first | exact Rm.here | apply Rm.there))))))
set_option maxRecDepth 20000 in
theorem cloneS_con (xs : List Stk) (hl : xs.length ≤ 100000) : Con Tryd.prog 119 [.sl 2 stC xs] [] (Tok 113 2 stC xs) := by
  refine con_of Tryd.func119 rfl (enters_of Tryd.func119 (by kernel_rfl) rfl) rfl ?_; intro n w0 F0 G0
  (refine W_seq ?_; refine W_region ?_; (apply wl_assign; exact rfl; exact rfl); refine WL_nil ?_; refine th_norm ?_; refine W_seq ?_; refine W_seq ?_; refine W_region ?_; (apply wl_move; exact rfl; exact rfl))
  apply wl_eqlNil
  · exact rfl
  · exact inferInstance
  · exact rfl
  intro b hb
  (refine WL_nil ?_; refine th_norm ?_)
  refine w_cond rfl (fun h => ?_) (fun h => ?_)
  · obtain rfl := hb h
    (refine W_seq ?_; refine W_region ?_; (apply wl_assign; exact rfl; exact rfl); refine WL_nil ?_; refine th_norm ?_; refine W_ret ?_; refine th_ret ?_; refine rt_norm ?_)
    refine Res_row0 113 2 stC ?_
    (apply resK1; exact rfl; exact rfl; exact ⟨_, rfl, rfl⟩; (repeat (first | exact Cut.nil | (apply Cut.cons; (repeat (first | exact Rm.here | apply Rm.there))))))
  · (refine W_skip ?_; refine th_norm ?_; refine W_seq ?_; refine W_region ?_)
    (apply wl_lit stC; exact inferInstance; exact inferInstance; exact inferInstance; (repeat (first | exact Elems.nil | (apply Elems.cons; exact rfl; exact inferInstance; exact rfl))); exact rfl; (first | exact (of_decide_eq_true rfl) | decide | (simp; done) | (simp; omega)); exact rfl)
    intro v0
    ((apply wl_move; exact rfl; exact rfl))
    (first | (apply wl_append; exact rfl; exact rfl; (repeat (first | exact Rm.here | apply Rm.there)); exact inferInstance; exact inferInstance; (first | omega | (simp; omega)); exact rfl) | (apply wl_appendN; exact rfl; exact rfl; exact inferInstance; exact inferInstance; (first | omega | (simp; omega)); exact rfl))
    intro v1
    rw [List.nil_append]
    ((apply wl_assign; exact rfl; exact rfl); refine WL_nil ?_; refine th_norm ?_; refine W_ret ?_; refine rt_norm ?_)
    (apply resK1; exact rfl; exact rfl; exact ⟨_, rfl, rfl⟩; (repeat (first | exact Cut.nil | (apply Cut.cons; (repeat (first | exact Rm.here | apply Rm.there))))))
end Go.Proofs.YtbkellknlcageaaDoor.Sw
/- Floors in own memory; 'copied'. -/
namespace Go.Proofs.YtbkellknlcageaaDoor.Sw
open Go.RowKit Go Go.Shelf Go.Proofs
/-- A bill, its stakes frozen or by a value of the call's own. -/
def mbC (p : Bil × Option Value) : List AV := [.val (.int .i64 p.1.no), .val (.int .i64 p.1.py), .val (.int .i64 p.1.pe), match p.2 with | none => .sl 2 stC p.1.st | some u => .val u]
instance : LenF mbC 4 := ⟨fun _ => rfl⟩
def mixL : List Bil → List Value → List (Bil × Option Value)
  | [], _ => []
  | x :: t, [] => (x, none) :: mixL t []
  | x :: t, u :: us => (x, some u) :: mixL t us
def stkR : List Bil → List Value → List HA
  | x :: t, u :: us => .row u 113 2 stC x.st :: stkR t us
  | _, _ => []
theorem mixL_nil : ∀ (l : List Bil), mixL l [] = l.map fun x => (x, none)
  | [] => rfl
  | x :: t => by rw [mixL, mixL_nil t]; rfl
theorem mixL_len : ∀ (l : List Bil) (us : List Value), (mixL l us).length = l.length
  | [], _ => rfl
  | x :: t, [] => by rw [mixL, List.length_cons, mixL_len t, List.length_cons]
  | x :: t, u :: us => by rw [mixL, List.length_cons, mixL_len t, List.length_cons]
theorem mixL_at : ∀ (l : List Bil) (us : List Value) (h : us.length < l.length), (mixL l us)[us.length]? = some (l[us.length], none)
  | x :: t, [], h => by rw [mixL]; rfl
  | x :: t, u :: us, h => by
    simp only [mixL, List.length_cons, List.getElem?_cons_succ, List.getElem_cons_succ]
    exact mixL_at t us (by simpa using h)
  | [], us, h => by simp at h
theorem mixL_set : ∀ (l : List Bil) (us : List Value) (h : us.length < l.length) (u : Value), (mixL l us).set us.length (l[us.length], some u) = mixL l (us ++ [u])
  | x :: t, [], h, u => rfl
  | x :: t, y :: us, h, u => by
    simp only [mixL, List.cons_append, List.length_cons, List.set_cons_succ, List.getElem_cons_succ]
    rw [mixL_set t us (by simpa using h) u]
  | [], us, h, u => by simp at h
theorem stkR_snoc : ∀ (l : List Bil) (us : List Value) (h : us.length < l.length) (u : Value), stkR l (us ++ [u]) = stkR l us ++ [.row u 113 2 stC l[us.length].st]
  | x :: t, [], h, u => by cases t <;> rfl
  | x :: t, y :: us, h, u => by
    simp only [stkR, List.cons_append, List.length_cons, List.getElem_cons_succ]
    rw [stkR_snoc t us (by simpa using h) u]
  | [], us, h, u => by simp at h
/-- Floors in memory of the call's own. -/
def floOwn (vi vq vb vp : Value) (f : Flo) : HA := .exs fun us : List Value => [.fact (us.length = f.bs.length), .row vi 3 1 iC f.ids, .row vq 55 2 quC f.qs, .row vb 66 4 mbC (mixL f.bs us), .row vp 53 3 payC f.ps, .pack (stkR f.bs us)]
theorem mixL_full : ∀ (l : List Bil) (us : List Value) (i : Nat) (h1 : i < (mixL l us).length) (h2 : i < l.length), ((mixL l us)[i]).1 = l[i] ∧ ∀ u, us[i]? = some u → ((mixL l us)[i]).2 = some u
  | [], _, i, _, h2 => by simp at h2
  | x :: t, [], 0, _, _ => ⟨rfl, fun u h => by simp at h⟩
  | x :: t, u :: us, 0, _, _ => ⟨rfl, fun u' h => by simpa [mixL] using h⟩
  | x :: t, [], i + 1, h1, h2 => by
    simp only [mixL, List.getElem_cons_succ]
    exact ⟨(mixL_full t [] i _ _).1, fun u h => by simp at h⟩
  | x :: t, u :: us, i + 1, h1, h2 => by
    have k := mixL_full t us i (by simpa [mixL] using h1) (by simpa using h2)
    simp only [mixL, List.getElem_cons_succ]
    exact ⟨k.1, fun u' h => k.2 u' (by simpa using h)⟩
theorem stk_view {G : Nat → Option Obj} {F : List Nat} {w : World} (hle : Gle G (gall G F w)) : ∀ (l : List Bil) (us : List Value) (F1 : List Nat), hsP (stkR l us) G F1 w → (∀ b ∈ F1, b ∈ F) → ∀ i (h : i < l.length) u, us[i]? = some u → (AV.sl 2 stC l[i].st).P (gall G F w) u
  | [], _, _, _, _, i, h, _, _ => by simp at h
  | x :: t, [], _, _, _, i, _, u, e => by simp at e
  | x :: t, y :: us, F1, ⟨A, B, ep, hA, hB⟩, hs, 0, _, u, e => by
    simp at e; subst e
    exact row_view1 hA (fun b hb => hs b (ep.mem_iff.2 (by simp [hb]))) hle
  | x :: t, y :: us, F1, ⟨A, B, ep, hA, hB⟩, hs, i + 1, h, u, e => by
    exact stk_view hle t us B hB (fun b hb => hs b (ep.mem_iff.2 (by simp [hb]))) i (by simpa using h) u (by simpa using e)
theorem flo_thaw (vi vq vb vp : Value) (f : Flo) : Thaw (floOwn vi vq vb vp f) (.agg [.val vi, .val vq, .val vb, .val vp]) (.agg (flC f)) := ⟨fun G F w h hle v hv => by
  obtain ⟨us, h⟩ := h
  obtain ⟨hlen, h⟩ := hsP.fact.1 h
  obtain ⟨A1, R1, e1, a1, A2, R2, e2, a2, A3, R3, e3, a3, A4, R4, e4, a4, A5, R5, e5, a5, hn⟩ := h
  have hR5 : R5 = [] := hn
  subst hR5
  have m1 : ∀ b ∈ A1, b ∈ F := fun b hb => e1.mem_iff.2 (by simp [hb])
  have n1 : ∀ b ∈ R1, b ∈ F := fun b hb => e1.mem_iff.2 (by simp [hb])
  have m2 : ∀ b ∈ A2, b ∈ F := fun b hb => n1 b (e2.mem_iff.2 (by simp [hb]))
  have n2 : ∀ b ∈ R2, b ∈ F := fun b hb => n1 b (e2.mem_iff.2 (by simp [hb]))
  have m3 : ∀ b ∈ A3, b ∈ F := fun b hb => n2 b (e3.mem_iff.2 (by simp [hb]))
  have n3 : ∀ b ∈ R3, b ∈ F := fun b hb => n2 b (e3.mem_iff.2 (by simp [hb]))
  have m4 : ∀ b ∈ A4, b ∈ F := fun b hb => n3 b (e4.mem_iff.2 (by simp [hb]))
  have n4 : ∀ b ∈ R4, b ∈ F := fun b hb => n3 b (e4.mem_iff.2 (by simp [hb]))
  have m5 : ∀ b ∈ A5, b ∈ F := fun b hb => n4 b (e5.mem_iff.2 (by simp [hb]))
  obtain ⟨vs, rfl, hf⟩ := hv
  match vs, hf with
  | [x0, x1, x2, x3], ⟨h0, h1, h2, h3, _⟩ =>
    have h0' : x0 = vi := h0
    have h1' : x1 = vq := h1
    have h2' : x2 = vb := h2
    have h3' : x3 = vp := h3
    subst h0' h1' h2' h3'
    refine ⟨_, rfl, show Fits _ [_, _, _, _] _ from ⟨row_view1 a1 m1 hle, row_view1 a2 m2 hle, ?_, row_view1 a4 m4 hle, trivial⟩⟩
    refine row_view a3 m3 (by rw [mixL_len]) fun i h1 h2 j av' ej => ?_
    obtain ⟨k1, k2⟩ := mixL_full f.bs us i h1 h2
    have hi : i < us.length := by omega
    have k3 := k2 us[i] (List.getElem?_eq_getElem hi)
    have hst := stk_view hle f.bs us A5 a5 m5 i h2 us[i] (List.getElem?_eq_getElem hi)
    match j, ej with
    | 0, ej => simp only [biC, List.getElem?_cons_zero, Option.some.injEq] at ej; subst ej; exact ⟨_, rfl, fun u hu => by rw [k1] at hu; exact hu⟩
    | 1, ej => simp only [biC, List.getElem?_cons_succ, List.getElem?_cons_zero, Option.some.injEq] at ej; subst ej; exact ⟨_, rfl, fun u hu => by rw [k1] at hu; exact hu⟩
    | 2, ej => simp only [biC, List.getElem?_cons_succ, List.getElem?_cons_zero, Option.some.injEq] at ej; subst ej; exact ⟨_, rfl, fun u hu => by rw [k1] at hu; exact hu⟩
    | 3, ej =>
      simp only [biC, List.getElem?_cons_succ, List.getElem?_cons_zero, Option.some.injEq] at ej; subst ej
      refine ⟨_, rfl, fun u hu => ?_⟩
      rw [k3] at hu
      have hu' : u = us[i] := hu
      rw [hu']; exact hst
    | j + 4, ej => simp [biC] at ej⟩
end Go.Proofs.YtbkellknlcageaaDoor.Sw
/- The program's 'copied'. -/
namespace Go.Proofs.YtbkellknlcageaaDoor.Sw
open Go.RowKit Go Go.Shelf Go.Proofs
/-- What 'copied' hands back: floors in memory of the call's own. -/
def CopP (f : Flo) : AV → List HA → Prop := fun x y => ∃ vi vq vb vp, (One (.val vi) ∧ One (.val vq) ∧ One (.val vb) ∧ One (.val vp)) ∧ x = .agg [.val vi, .val vq, .val vb, .val vp] ∧ y = [floOwn vi vq vb vp f]
set_option maxRecDepth 20000 in
set_option maxHeartbeats 4000000 in
theorem copied_con (f : Flo) (hS : Sml f) : Con Tryd.prog 72 [.agg (flC f)] [] (CopP f) := by
  have hidsl := hS.ids
  have hqsl := hS.qs
  have hbsl := hS.bs
  have hpsl := hS.ps
  refine con_of Tryd.func72 rfl (enters_of Tryd.func72 (by kernel_rfl) rfl) rfl ?_; intro n w0 F0 G0
  (refine W_seq ?_; refine W_region ?_; (apply wl_boxv; exact rfl; exact inferInstance; exact rfl; intro p hp); (apply wl_alloc; exact rfl; intro p hp); refine WL_nil ?_; refine th_norm ?_; refine W_seq ?_)
  rename_i pf hpf
  refine W_run 13 [4, 5, 6, 7, 8, 9, 10, 11, 12, 13, 14, 15, 16] [0, 1, 2, 3, 4, 5, 6, 7, 8, 9, 10, 11, 12] Cut.nil rfl (by repeat (first | exact Flt.nil | (apply Flt.keep; exact rfl) | (apply Flt.drop; exact rfl))) mixedS (by kernel_rfl) rfl ?_
  apply Run.pv [] []
  · exact rfl
  · intro vs; apply ltr_pk; (repeat (first | exact Pk.nil | (apply Pk.pv; exact rfl; exact rfl) | (apply Pk.tok; exact rfl; exact rfl)))
    (first | (refine ltr ?_; apply lt_fieldAt; exact rfl; exact rfl) | (apply ltr_field; exact rfl; (repeat (first | exact At.here | apply At.there))) | (refine ltr ?_; apply lt_fieldEl; exact rfl; exact rfl) | (refine ltr ?_; apply lt_fieldRat; exact rfl; exact rfl))
  · repeat (first | exact App.nil | apply App.cons)
  apply Run.pv [0] []
  · exact rfl
  · intro vs; apply ltr_pk; (repeat (first | exact Pk.nil | (apply Pk.pv; exact rfl; exact rfl) | (apply Pk.tok; exact rfl; exact rfl)))
    (first | (apply ltr_load1; (first | exact .inl rfl | exact .inr ⟨rfl, rfl⟩); (repeat (first | exact At.here | apply At.there)); exact rfl) | (refine ltr ?_; apply lt_loadE1'; exact rfl; assumption; exact rfl) | (refine ltr ?_; apply lt_loadEN'; exact rfl; assumption; exact rfl) | (apply ltr_loadN; (first | exact .inl rfl | exact .inr ⟨rfl, rfl⟩); (repeat (first | exact At.here | apply At.there)); exact rfl) | (apply ltr_loadR1; exact rfl; (repeat (first | exact At.here | apply At.there)); assumption; exact rfl) | (apply ltr_loadRN; exact rfl; (repeat (first | exact At.here | apply At.there)); assumption))
  · repeat (first | exact App.nil | apply App.cons)
  apply Run.tok [1] []
  · exact rfl
  · intro vs; apply ltr_pk; (repeat (first | exact Pk.nil | (apply Pk.pv; exact rfl; exact rfl) | (apply Pk.tok; exact rfl; exact rfl)))
    (refine ltr ?_; refine lt_call ?_ (cloneI_con f.ids (by omega)); exact rfl)
  · repeat (first | exact App.nil | apply App.cons)
  apply Run.pv [] []
  · exact rfl
  · intro vs; apply ltr_pk; (repeat (first | exact Pk.nil | (apply Pk.pv; exact rfl; exact rfl) | (apply Pk.tok; exact rfl; exact rfl)))
    (first | (refine ltr ?_; apply lt_fieldAt; exact rfl; exact rfl) | (apply ltr_field; exact rfl; (repeat (first | exact At.here | apply At.there))) | (refine ltr ?_; apply lt_fieldEl; exact rfl; exact rfl) | (refine ltr ?_; apply lt_fieldRat; exact rfl; exact rfl))
  · repeat (first | exact App.nil | apply App.cons)
  apply Run.pv [3] []
  · exact rfl
  · intro vs; apply ltr_pk; (repeat (first | exact Pk.nil | (apply Pk.pv; exact rfl; exact rfl) | (apply Pk.tok; exact rfl; exact rfl)))
    (first | (apply ltr_load1; (first | exact .inl rfl | exact .inr ⟨rfl, rfl⟩); (repeat (first | exact At.here | apply At.there)); exact rfl) | (refine ltr ?_; apply lt_loadE1'; exact rfl; assumption; exact rfl) | (refine ltr ?_; apply lt_loadEN'; exact rfl; assumption; exact rfl) | (apply ltr_loadN; (first | exact .inl rfl | exact .inr ⟨rfl, rfl⟩); (repeat (first | exact At.here | apply At.there)); exact rfl) | (apply ltr_loadR1; exact rfl; (repeat (first | exact At.here | apply At.there)); assumption; exact rfl) | (apply ltr_loadRN; exact rfl; (repeat (first | exact At.here | apply At.there)); assumption))
  · repeat (first | exact App.nil | apply App.cons)
  apply Run.tok [4] []
  · exact rfl
  · intro vs; apply ltr_pk; (repeat (first | exact Pk.nil | (apply Pk.pv; exact rfl; exact rfl) | (apply Pk.tok; exact rfl; exact rfl)))
    (refine ltr ?_; refine lt_call ?_ (cloneQ_con f.qs (by omega)); exact rfl)
  · repeat (first | exact App.nil | apply App.cons)
  apply Run.pv [] []
  · exact rfl
  · intro vs; apply ltr_pk; (repeat (first | exact Pk.nil | (apply Pk.pv; exact rfl; exact rfl) | (apply Pk.tok; exact rfl; exact rfl)))
    (first | (refine ltr ?_; apply lt_fieldAt; exact rfl; exact rfl) | (apply ltr_field; exact rfl; (repeat (first | exact At.here | apply At.there))) | (refine ltr ?_; apply lt_fieldEl; exact rfl; exact rfl) | (refine ltr ?_; apply lt_fieldRat; exact rfl; exact rfl))
  · repeat (first | exact App.nil | apply App.cons)
  apply Run.pv [6] []
  · exact rfl
  · intro vs; apply ltr_pk; (repeat (first | exact Pk.nil | (apply Pk.pv; exact rfl; exact rfl) | (apply Pk.tok; exact rfl; exact rfl)))
    (first | (apply ltr_load1; (first | exact .inl rfl | exact .inr ⟨rfl, rfl⟩); (repeat (first | exact At.here | apply At.there)); exact rfl) | (refine ltr ?_; apply lt_loadE1'; exact rfl; assumption; exact rfl) | (refine ltr ?_; apply lt_loadEN'; exact rfl; assumption; exact rfl) | (apply ltr_loadN; (first | exact .inl rfl | exact .inr ⟨rfl, rfl⟩); (repeat (first | exact At.here | apply At.there)); exact rfl) | (apply ltr_loadR1; exact rfl; (repeat (first | exact At.here | apply At.there)); assumption; exact rfl) | (apply ltr_loadRN; exact rfl; (repeat (first | exact At.here | apply At.there)); assumption))
  · repeat (first | exact App.nil | apply App.cons)
  apply Run.tok [7] []
  · exact rfl
  · intro vs; apply ltr_pk; (repeat (first | exact Pk.nil | (apply Pk.pv; exact rfl; exact rfl) | (apply Pk.tok; exact rfl; exact rfl)))
    (refine ltr ?_; refine lt_call ?_ (cloneB_con f.bs (by omega)); exact rfl)
  · repeat (first | exact App.nil | apply App.cons)
  apply Run.pv [] []
  · exact rfl
  · intro vs; apply ltr_pk; (repeat (first | exact Pk.nil | (apply Pk.pv; exact rfl; exact rfl) | (apply Pk.tok; exact rfl; exact rfl)))
    (first | (refine ltr ?_; apply lt_fieldAt; exact rfl; exact rfl) | (apply ltr_field; exact rfl; (repeat (first | exact At.here | apply At.there))) | (refine ltr ?_; apply lt_fieldEl; exact rfl; exact rfl) | (refine ltr ?_; apply lt_fieldRat; exact rfl; exact rfl))
  · repeat (first | exact App.nil | apply App.cons)
  apply Run.pv [9] []
  · exact rfl
  · intro vs; apply ltr_pk; (repeat (first | exact Pk.nil | (apply Pk.pv; exact rfl; exact rfl) | (apply Pk.tok; exact rfl; exact rfl)))
    (first | (apply ltr_load1; (first | exact .inl rfl | exact .inr ⟨rfl, rfl⟩); (repeat (first | exact At.here | apply At.there)); exact rfl) | (refine ltr ?_; apply lt_loadE1'; exact rfl; assumption; exact rfl) | (refine ltr ?_; apply lt_loadEN'; exact rfl; assumption; exact rfl) | (apply ltr_loadN; (first | exact .inl rfl | exact .inr ⟨rfl, rfl⟩); (repeat (first | exact At.here | apply At.there)); exact rfl) | (apply ltr_loadR1; exact rfl; (repeat (first | exact At.here | apply At.there)); assumption; exact rfl) | (apply ltr_loadRN; exact rfl; (repeat (first | exact At.here | apply At.there)); assumption))
  · repeat (first | exact App.nil | apply App.cons)
  apply Run.tok [10] []
  · exact rfl
  · intro vs; apply ltr_pk; (repeat (first | exact Pk.nil | (apply Pk.pv; exact rfl; exact rfl) | (apply Pk.tok; exact rfl; exact rfl)))
    (refine ltr ?_; refine lt_call ?_ (cloneP_con f.ps (by omega)); exact rfl)
  · repeat (first | exact App.nil | apply App.cons)
  apply Run.pv [] []
  · exact rfl
  · intro vs; apply ltr_pk; (repeat (first | exact Pk.nil | (apply Pk.pv; exact rfl; exact rfl) | (apply Pk.tok; exact rfl; exact rfl)))
    (first | (refine ltr ?_; apply lt_fieldAt; exact rfl; exact rfl) | (apply ltr_field; exact rfl; (repeat (first | exact At.here | apply At.there))) | (refine ltr ?_; apply lt_fieldEl; exact rfl; exact rfl) | (refine ltr ?_; apply lt_fieldRat; exact rfl; exact rfl))
  · repeat (first | exact App.nil | apply App.cons)
  refine ⟨⟨by kernel_rfl, by kernel_rfl⟩, fun vs => ?_⟩
  apply WL_auto [2, 5, 8, 11, 12]
  · repeat (first | exact Pk.nil | (apply Pk.pv; exact rfl; exact rfl) | (apply Pk.tok; exact rfl; exact rfl))
  · repeat (first | exact Nrm.nil | apply Nrm.cons)
  · kernel_rfl
  · kernel_rfl
  generalize vs 2 = vi
  generalize vs 5 = vq
  generalize vs 8 = vb
  generalize vs 11 = vp
  refine WL_one (v := vi) (by repeat (first | exact At.here | apply At.there)) (fun one1 => ?_)
  refine WL_one (v := vq) (by repeat (first | exact At.here | apply At.there)) (fun one2 => ?_)
  refine WL_one (v := vb) (by repeat (first | exact At.here | apply At.there)) (fun one3 => ?_)
  refine WL_one (v := vp) (by repeat (first | exact At.here | apply At.there)) (fun one4 => ?_)
  ((apply wl_store; (first | exact .inl rfl | exact .inr ⟨rfl, rfl⟩); (repeat (first | exact At.here | apply At.there)); exact rfl; exact inferInstance; exact inferInstance; exact inferInstance; exact rfl; (first | exact (of_decide_eq_true rfl) | (simp; omega) | decide)); (apply wl_field; exact rfl; (repeat (first | exact At.here | apply At.there)); exact rfl); (apply wl_store; (first | exact .inl rfl | exact .inr ⟨rfl, rfl⟩); (repeat (first | exact At.here | apply At.there)); exact rfl; exact inferInstance; exact inferInstance; exact inferInstance; exact rfl; (first | exact (of_decide_eq_true rfl) | (simp; omega) | decide)); (apply wl_field; exact rfl; (repeat (first | exact At.here | apply At.there)); exact rfl); (apply wl_store; (first | exact .inl rfl | exact .inr ⟨rfl, rfl⟩); (repeat (first | exact At.here | apply At.there)); exact rfl; exact inferInstance; exact inferInstance; exact inferInstance; exact rfl; (first | exact (of_decide_eq_true rfl) | (simp; omega) | decide)); (apply wl_field; exact rfl; (repeat (first | exact At.here | apply At.there)); exact rfl); (apply wl_store; (first | exact .inl rfl | exact .inr ⟨rfl, rfl⟩); (repeat (first | exact At.here | apply At.there)); exact rfl; exact inferInstance; exact inferInstance; exact inferInstance; exact rfl; (first | exact (of_decide_eq_true rfl) | (simp; omega) | decide)); refine WL_nil ?_; refine th_norm ?_; refine W_seq ?_; refine W_seq ?_; refine W_region ?_; (apply wl_field; exact rfl; (repeat (first | exact At.here | apply At.there)); exact rfl); (apply wl_load1; (first | exact .inl rfl | exact .inr ⟨rfl, rfl⟩); (repeat (first | exact At.here | apply At.there)); exact rfl; exact rfl); (apply wl_lenRow; exact rfl; (repeat (first | exact At.here | apply At.there)); exact rfl); (apply wl_move; exact rfl; exact rfl); refine WL_nil ?_; refine th_norm ?_; refine W_block ?_)
  have hrow : HA.row vb 66 4 biC f.bs = HA.row vb 66 4 mbC (mixL f.bs []) := by rw [mixL_nil, row_map]; rfl
  rw [hrow]
  refine W_loopJ (fun (us : List Value) => ⟨[(1, .val pf), (2, .val p), (22, .val (.int .i64 f.bs.length)), (23, .val (.int .i64 us.length))], [.pack (stkR f.bs us), .row vi 3 1 iC f.ids, .row vq 55 2 quC f.qs, .row vb 66 4 mbC (mixL f.bs us), .row vp 53 3 payC f.ps, .box pf [.val vi, .val vq, .val vb, .val vp] 27, .box p [.val (.slice none 0 0), .val (.slice none 0 0), .val (.slice none 0 0), .val (.slice none 0 0)] 27]⟩)
    (fun us => us.length ≤ f.bs.length) (fun us => f.bs.length - us.length) [] (fun _ _ st => st_sub2 (st_pack0 st) (by (repeat (first | exact trivial | refine ⟨rfl, ?_⟩))) (by cases f.bs <;> (repeat (first | exact SubP.nil | (apply SubP.cons; (repeat (first | exact Rm.here | apply Rm.there))))))) (Nat.zero_le _) ?_
  intro us hus
  have hml := mixL_len f.bs us
  (refine W_seq ?_; refine W_region ?_; (apply wl_lss; exact rfl; exact rfl; exact rfl); refine WL_nil ?_; refine th_norm ?_; refine W_seq ?_)
  refine w_cond rfl (fun hlt => ?_) (fun hlt => ?_)
  · have hlt' : us.length < f.bs.length := by simpa using hlt
    have hm := mixL_at f.bs us hlt'
    have hix : us.length < (mixL f.bs us).length := by omega
    have hget : (mixL f.bs us)[us.length] = (f.bs[us.length], none) := by
      rw [List.getElem?_eq_getElem hix] at hm; exact Option.some.inj hm
    have hsl := hS.st _ (List.getElem_mem hlt')
    (refine W_skip ?_; refine th_norm ?_; refine W_seq ?_; refine W_block ?_; refine W_seq ?_; refine W_region ?_; (apply wl_move; exact rfl; exact rfl); (apply wl_assign; exact rfl; exact rfl); refine WL_nil ?_; refine th_norm ?_)
    refine W_run 10 [26, 27, 28, 29, 30, 31, 32, 33, 34, 35] [0, 1, 2, 3, 4, 5, 6, 7, 8, 9] Cut.nil rfl (by repeat (first | exact Flt.nil | (apply Flt.keep; exact rfl) | (apply Flt.drop; exact rfl))) mixedS (by kernel_rfl) rfl ?_
    apply Run.pv [] []
    · exact rfl
    · intro vs; apply ltr_pk; (repeat (first | exact Pk.nil | (apply Pk.pv; exact rfl; exact rfl) | (apply Pk.tok; exact rfl; exact rfl)))
      (first | (refine ltr ?_; apply lt_fieldAt; exact rfl; exact rfl) | (apply ltr_field; exact rfl; (repeat (first | exact At.here | apply At.there))) | (refine ltr ?_; apply lt_fieldEl; exact rfl; exact rfl) | (refine ltr ?_; apply lt_fieldRat; exact rfl; exact rfl))
    · repeat (first | exact App.nil | apply App.cons)
    apply Run.pv [0] []
    · exact rfl
    · intro vs; apply ltr_pk; (repeat (first | exact Pk.nil | (apply Pk.pv; exact rfl; exact rfl) | (apply Pk.tok; exact rfl; exact rfl)))
      (first | (apply ltr_load1; (first | exact .inl rfl | exact .inr ⟨rfl, rfl⟩); (repeat (first | exact At.here | apply At.there)); exact rfl) | (refine ltr ?_; apply lt_loadE1'; exact rfl; assumption; exact rfl) | (refine ltr ?_; apply lt_loadEN'; exact rfl; assumption; exact rfl) | (apply ltr_loadN; (first | exact .inl rfl | exact .inr ⟨rfl, rfl⟩); (repeat (first | exact At.here | apply At.there)); exact rfl) | (apply ltr_loadR1; exact rfl; (repeat (first | exact At.here | apply At.there)); assumption; exact rfl) | (apply ltr_loadRN; exact rfl; (repeat (first | exact At.here | apply At.there)); assumption))
    · repeat (first | exact App.nil | apply App.cons)
    apply Run.pv [] []
    · exact rfl
    · intro vs; apply ltr_pk; (repeat (first | exact Pk.nil | (apply Pk.pv; exact rfl; exact rfl) | (apply Pk.tok; exact rfl; exact rfl)))
      (first | (refine ltr ?_; apply lt_move; exact rfl))
    · repeat (first | exact App.nil | apply App.cons)
    apply Run.pv [] []
    · exact rfl
    · intro vs; apply ltr_pk; (repeat (first | exact Pk.nil | (apply Pk.pv; exact rfl; exact rfl) | (apply Pk.tok; exact rfl; exact rfl)))
      (first | (refine ltr ?_; apply lt_fieldAt; exact rfl; exact rfl) | (apply ltr_field; exact rfl; (repeat (first | exact At.here | apply At.there))) | (refine ltr ?_; apply lt_fieldEl; exact rfl; exact rfl) | (refine ltr ?_; apply lt_fieldRat; exact rfl; exact rfl))
    · repeat (first | exact App.nil | apply App.cons)
    apply Run.pv [3] []
    · exact rfl
    · intro vs; apply ltr_pk; (repeat (first | exact Pk.nil | (apply Pk.pv; exact rfl; exact rfl) | (apply Pk.tok; exact rfl; exact rfl)))
      (first | (apply ltr_load1; (first | exact .inl rfl | exact .inr ⟨rfl, rfl⟩); (repeat (first | exact At.here | apply At.there)); exact rfl) | (refine ltr ?_; apply lt_loadE1'; exact rfl; assumption; exact rfl) | (refine ltr ?_; apply lt_loadEN'; exact rfl; assumption; exact rfl) | (apply ltr_loadN; (first | exact .inl rfl | exact .inr ⟨rfl, rfl⟩); (repeat (first | exact At.here | apply At.there)); exact rfl) | (apply ltr_loadR1; exact rfl; (repeat (first | exact At.here | apply At.there)); assumption; exact rfl) | (apply ltr_loadRN; exact rfl; (repeat (first | exact At.here | apply At.there)); assumption))
    · repeat (first | exact App.nil | apply App.cons)
    apply Run.pv [] []
    · exact rfl
    · intro vs; apply ltr_pk; (repeat (first | exact Pk.nil | (apply Pk.pv; exact rfl; exact rfl) | (apply Pk.tok; exact rfl; exact rfl)))
      (first | (refine ltr ?_; apply lt_move; exact rfl))
    · repeat (first | exact App.nil | apply App.cons)
    apply Run.pv [4, 5] []
    · exact rfl
    · intro vs; apply ltr_pk; (repeat (first | exact Pk.nil | (apply Pk.pv; exact rfl; exact rfl) | (apply Pk.tok; exact rfl; exact rfl)))
      (first | (refine ltr ?_; apply lt_indexSl; exact rfl; exact rfl; exact rfl; (first | assumption | omega | (simp; omega))) | (apply ltr_indexRow; exact rfl; (repeat (first | exact At.here | apply At.there)); exact rfl; exact rfl; (first | assumption | omega | (simp; omega))) | (apply ltr_indexArr; exact rfl; (repeat (first | exact At.here | apply At.there)); exact rfl; exact rfl; (first | assumption | omega | decide)))
    · repeat (first | exact App.nil | apply App.cons)
    apply Run.pv [6] []
    · exact rfl
    · intro vs; apply ltr_pk; (repeat (first | exact Pk.nil | (apply Pk.pv; exact rfl; exact rfl) | (apply Pk.tok; exact rfl; exact rfl)))
      (first | (refine ltr ?_; apply lt_fieldAt; exact rfl; exact rfl) | (apply ltr_field; exact rfl; (repeat (first | exact At.here | apply At.there))) | (refine ltr ?_; apply lt_fieldEl; exact rfl; exact rfl) | (refine ltr ?_; apply lt_fieldRat; exact rfl; exact rfl))
    · repeat (first | exact App.nil | apply App.cons)
    apply Run.pv [7] []
    · exact rfl
    · intro vs; apply ltr_pk; (repeat (first | exact Pk.nil | (apply Pk.pv; exact rfl; exact rfl) | (apply Pk.tok; exact rfl; exact rfl)))
      (first | (apply ltr_load1; (first | exact .inl rfl | exact .inr ⟨rfl, rfl⟩); (repeat (first | exact At.here | apply At.there)); exact rfl) | (refine ltr ?_; apply lt_loadE1'; exact rfl; assumption; exact rfl) | (refine ltr ?_; apply lt_loadEN'; exact rfl; assumption; exact rfl) | (apply ltr_loadN; (first | exact .inl rfl | exact .inr ⟨rfl, rfl⟩); (repeat (first | exact At.here | apply At.there)); exact rfl) | (apply ltr_loadR1; exact rfl; (repeat (first | exact At.here | apply At.there)); assumption; exact rfl) | (apply ltr_loadRN; exact rfl; (repeat (first | exact At.here | apply At.there)); assumption))
    · repeat (first | exact App.nil | apply App.cons)
    apply Run.tok [8] []
    · exact rfl
    · intro vs; apply ltr_pk; (repeat (first | exact Pk.nil | (apply Pk.pv; exact rfl; exact rfl) | (apply Pk.tok; exact rfl; exact rfl)))
      (refine ltr ?_; refine lt_call ?_ (cloneS_con f.bs[us.length].st (by omega)); exact rfl)
    · repeat (first | exact App.nil | apply App.cons)
    refine ⟨⟨by kernel_rfl, by kernel_rfl⟩, fun vs => ?_⟩
    apply WL_auto [1, 2, 9]
    · repeat (first | exact Pk.nil | (apply Pk.pv; exact rfl; exact rfl) | (apply Pk.tok; exact rfl; exact rfl))
    · repeat (first | exact Nrm.nil | apply Nrm.cons)
    · kernel_rfl
    · kernel_rfl
    generalize vs 9 = u
    refine WL_one (v := u) (by repeat (first | exact At.here | apply At.there)) (fun oneu => ?_)
    ((apply wl_indexRow; exact rfl; (repeat (first | exact At.here | apply At.there)); exact rfl; exact rfl; (first | assumption | omega | (simp; omega)); exact rfl); (apply wl_fieldRat; exact rfl; exact rfl; exact rfl))
    apply wl_storeRx (f.bs[us.length], some u)
    · exact rfl
    · (repeat (first | exact At.here | apply At.there))
    · exact rfl
    · exact inferInstance
    · exact inferInstance
    case hk => exact hix
    · decide
    · rw [hget]; rfl
    rw [mixL_set f.bs us hlt' u]
    apply WL_snoc (l := stkR f.bs us) (h := HA.row u 113 2 stC f.bs[us.length].st)
    · (repeat (first | exact Rm.here | apply Rm.there))
    · (repeat (first | exact Rm.here | apply Rm.there))
    rw [← stkR_snoc f.bs us hlt' u]
    (refine WL_nil ?_; refine bl_norm ?_; refine th_norm ?_; refine W_region ?_; (apply wl_add; exact rfl; exact rfl; omega; omega; exact rfl); (apply wl_move; exact rfl; exact rfl); refine WL_nil ?_; refine th_norm ?_)
    refine ⟨us ++ [u], fun _ _ st => st_sub2 st ?_ ?_, ?_, ?_⟩
    · rw [List.length_append, List.length_singleton]; (repeat (first | exact trivial | refine ⟨rfl, ?_⟩))
    · (repeat (first | exact SubP.nil | (apply SubP.cons; (repeat (first | exact Rm.here | apply Rm.there)))))
    · simp; omega
    · simp; omega
  · have hkk : us.length = f.bs.length := by simp at hlt; omega
    refine W_mkFact hkk ?_
    refine W_mkExs (h := fun us : List Value => [.fact (us.length = f.bs.length), .row vi 3 1 iC f.ids, .row vq 55 2 quC f.qs, .row vb 66 4 mbC (mixL f.bs us), .row vp 53 3 payC f.ps, .pack (stkR f.bs us)]) us (by (repeat (first | exact Cut.nil | (apply Cut.cons; (repeat (first | exact Rm.here | apply Rm.there)))))) ?_
    (refine W_exit ?_; refine th_exit ?_; refine th_exit ?_; refine bl_eq ?_; refine th_norm ?_; refine W_seq ?_; refine W_region ?_; (apply wl_loadN; (first | exact .inl rfl | exact .inr ⟨rfl, rfl⟩); (repeat (first | exact At.here | apply At.there)); exact rfl; exact rfl); (apply wl_store; (first | exact .inl rfl | exact .inr ⟨rfl, rfl⟩); (repeat (first | exact At.here | apply At.there)); exact rfl; exact inferInstance; exact inferInstance; exact inferInstance; exact rfl; (first | exact (of_decide_eq_true rfl) | (simp; omega) | decide)); refine WL_nil ?_; refine th_norm ?_; refine W_ret ?_; refine rt_norm ?_)
    apply resKN
    · exact rfl
    · exact rfl
    · (repeat (first | exact At.here | apply At.there))
    · exact inferInstance
    · exact rfl
    · exact ⟨vi, vq, vb, vp, ⟨one1, one2, one3, one4⟩, rfl, rfl⟩
    · (repeat (first | exact Cut.nil | (apply Cut.cons; (repeat (first | exact Rm.here | apply Rm.there)))))
end Go.Proofs.YtbkellknlcageaaDoor.Sw
