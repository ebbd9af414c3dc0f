/- Proofs for the seat's cards: FloorCa, FloorCd, FloorLb, FloorLc, SwS, FloorLd, FloorLe, FloorLf, FloorCe, FloorDa, FloorCg, FloorDb, FloorLp, FloorLg, FloorLh, FloorLi, FloorLj, FloorLk, SwN, FloorLm, FloorDd, FloorLo, FloorLq, FloorLr. No condition of its own. -/
import Derived.Scope
import Derived.WideKeyEntry
import Derived.Test.YtihonljdanjfmaaGreatDoorZk7
set_option linter.unusedVariables false
set_option linter.unusedSimpArgs false
set_option maxRecDepth 40000
set_option maxHeartbeats 32000000
namespace Go.Proofs.YtihonljdanjfmaaGreatDoor.Sw
open Go.RowKit Go Go.Shelf Go.Proofs
theorem cloneI_con (xs : List Int) (hl : xs.length ≤ 100000) : Con Tryz.prog 130 [.sl 1 iC xs] [] (Tok 3 1 iC xs) := by
 refine con_of Tryz.func130 rfl (enters_of Tryz.func130 (by kernel_rfl) rfl) rfl ?_; intro n w0 F0 G0
 refine zS ?_
 apply wl_eqlNil
 ·exact rfl
 ·exact inferInstance
 ·exact rfl
 intro b hb
 refine zS ?_
 refine w_cond rfl (fun h => ?_) (fun h => ?_)
 ·obtain rfl := hb h
  refine zS ?_
  refine Res_row0 3 1 iC ?_
  (apply resK1; exact rfl; exact rfl; exact ⟨_, rfl, rfl⟩; exact yC)
 ·refine zS ?_
  (apply wl_lit iC; exact inferInstance; exact inferInstance; exact inferInstance; exact zE; exact rfl; (first | exact (of_decide_eq_true rfl) | decide | (simp; done) | (simp; omega)); exact rfl)
  intro v0
  refine zS ?_
  (first | (apply wl_append; exact rfl; exact rfl; exact zN; exact inferInstance; exact inferInstance; (first | omega | (simp; omega)); exact rfl) | (apply wl_appendN; exact rfl; exact rfl; exact inferInstance; exact inferInstance; (first | omega | (simp; omega)); exact rfl))
  intro v1
  rw [List.nil_append]
  refine zS ?_
  (apply resK1; exact rfl; exact rfl; exact ⟨_, rfl, rfl⟩; exact yC)
theorem cloneQ_con (xs : List Qu) (hl : xs.length ≤ 100000) : Con Tryz.prog 131 [.sl 2 quC xs] [] (Tok 87 2 quC xs) := by
 refine con_of Tryz.func131 rfl (enters_of Tryz.func131 (by kernel_rfl) rfl) rfl ?_; intro n w0 F0 G0
 refine zS ?_
 apply wl_eqlNil
 ·exact rfl
 ·exact inferInstance
 ·exact rfl
 intro b hb
 refine zS ?_
 refine w_cond rfl (fun h => ?_) (fun h => ?_)
 ·obtain rfl := hb h
  refine zS ?_
  refine Res_row0 87 2 quC ?_
  (apply resK1; exact rfl; exact rfl; exact ⟨_, rfl, rfl⟩; exact yC)
 ·refine zS ?_
  (apply wl_lit quC; exact inferInstance; exact inferInstance; exact inferInstance; exact zE; exact rfl; (first | exact (of_decide_eq_true rfl) | decide | (simp; done) | (simp; omega)); exact rfl)
  intro v0
  refine zS ?_
  (first | (apply wl_append; exact rfl; exact rfl; exact zN; exact inferInstance; exact inferInstance; (first | omega | (simp; omega)); exact rfl) | (apply wl_appendN; exact rfl; exact rfl; exact inferInstance; exact inferInstance; (first | omega | (simp; omega)); exact rfl))
  intro v1
  rw [List.nil_append]
  refine zS ?_
  (apply resK1; exact rfl; exact rfl; exact ⟨_, rfl, rfl⟩; exact yC)
theorem cloneB_con (xs : List Bil) (hl : xs.length ≤ 100000) : Con Tryz.prog 99 [.sl 4 biC xs] [] (Tok 49 4 biC xs) := by
 refine con_of Tryz.func99 rfl (enters_of Tryz.func99 (by kernel_rfl) rfl) rfl ?_; intro n w0 F0 G0
 refine zS ?_
 apply wl_eqlNil
 ·exact rfl
 ·exact inferInstance
 ·exact rfl
 intro b hb
 refine zS ?_
 refine w_cond rfl (fun h => ?_) (fun h => ?_)
 ·obtain rfl := hb h
  refine zS ?_
  refine Res_row0 49 4 biC ?_
  (apply resK1; exact rfl; exact rfl; exact ⟨_, rfl, rfl⟩; exact yC)
 ·refine zS ?_
  (apply wl_lit biC; exact inferInstance; exact inferInstance; exact inferInstance; exact zE; exact rfl; (first | exact (of_decide_eq_true rfl) | decide | (simp; done) | (simp; omega)); exact rfl)
  intro v0
  refine zS ?_
  (first | (apply wl_append; exact rfl; exact rfl; exact zN; exact inferInstance; exact inferInstance; (first | omega | (simp; omega)); exact rfl) | (apply wl_appendN; exact rfl; exact rfl; exact inferInstance; exact inferInstance; (first | omega | (simp; omega)); exact rfl))
  intro v1
  rw [List.nil_append]
  refine zS ?_
  (apply resK1; exact rfl; exact rfl; exact ⟨_, rfl, rfl⟩; exact yC)
theorem cloneP_con (xs : List Pay) (hl : xs.length ≤ 100000) : Con Tryz.prog 132 [.sl 3 payC xs] [] (Tok 42 3 payC xs) := by
 refine con_of Tryz.func132 rfl (enters_of Tryz.func132 (by kernel_rfl) rfl) rfl ?_; intro n w0 F0 G0
 refine zS ?_
 apply wl_eqlNil
 ·exact rfl
 ·exact inferInstance
 ·exact rfl
 intro b hb
 refine zS ?_
 refine w_cond rfl (fun h => ?_) (fun h => ?_)
 ·obtain rfl := hb h
  refine zS ?_
  refine Res_row0 42 3 payC ?_
  (apply resK1; exact rfl; exact rfl; exact ⟨_, rfl, rfl⟩; exact yC)
 ·refine zS ?_
  (apply wl_lit payC; exact inferInstance; exact inferInstance; exact inferInstance; exact zE; exact rfl; (first | exact (of_decide_eq_true rfl) | decide | (simp; done) | (simp; omega)); exact rfl)
  intro v0
  refine zS ?_
  (first | (apply wl_append; exact rfl; exact rfl; exact zN; exact inferInstance; exact inferInstance; (first | omega | (simp; omega)); exact rfl) | (apply wl_appendN; exact rfl; exact rfl; exact inferInstance; exact inferInstance; (first | omega | (simp; omega)); exact rfl))
  intro v1
  rw [List.nil_append]
  refine zS ?_
  (apply resK1; exact rfl; exact rfl; exact ⟨_, rfl, rfl⟩; exact yC)
theorem cloneS_con (xs : List Stk) (hl : xs.length ≤ 100000) : Con Tryz.prog 133 [.sl 2 stC xs] [] (Tok 52 2 stC xs) := by
 refine con_of Tryz.func133 rfl (enters_of Tryz.func133 (by kernel_rfl) rfl) rfl ?_; intro n w0 F0 G0
 refine zS ?_
 apply wl_eqlNil
 ·exact rfl
 ·exact inferInstance
 ·exact rfl
 intro b hb
 refine zS ?_
 refine w_cond rfl (fun h => ?_) (fun h => ?_)
 ·obtain rfl := hb h
  refine zS ?_
  refine Res_row0 52 2 stC ?_
  (apply resK1; exact rfl; exact rfl; exact ⟨_, rfl, rfl⟩; exact yC)
 ·refine zS ?_
  (apply wl_lit stC; exact inferInstance; exact inferInstance; exact inferInstance; exact zE; exact rfl; (first | exact (of_decide_eq_true rfl) | decide | (simp; done) | (simp; omega)); exact rfl)
  intro v0
  refine zS ?_
  (first | (apply wl_append; exact rfl; exact rfl; exact zN; exact inferInstance; exact inferInstance; (first | omega | (simp; omega)); exact rfl) | (apply wl_appendN; exact rfl; exact rfl; exact inferInstance; exact inferInstance; (first | omega | (simp; omega)); exact rfl))
  intro v1
  rw [List.nil_append]
  refine zS ?_
  (apply resK1; exact rfl; exact rfl; exact ⟨_, rfl, rfl⟩; exact yC)
def mbC (p : Bil × Option Value) : List AV := [.val (.int .i64 p.1.no), .val (.int .i64 p.1.py), .val (.int .i64 p.1.pe), match p.2 with | none => .sl 2 stC p.1.st | some u => .val u]
def mixL : List Bil → List Value → List (Bil × Option Value)
 | [], _ => []
 | x :: t, [] => (x, none) :: mixL t []
 | x :: t, u :: us => (x, some u) :: mixL t us
def stkR : List Bil → List Value → List HA
 | x :: t, u :: us => .row u 52 2 stC x.st :: stkR t us
 | _, _ => []
theorem mixL_nil : ∀ (l : List Bil), mixL l [] = l.map fun x => (x, none)
 | [] => rfl
 | x :: t => by rw [mixL, mixL_nil t]; rfl
theorem mixL_len : ∀ (l : List Bil) (us : List Value), (mixL l us).length = l.length
 | [], _ => rfl
 | x :: t, [] => by rw [mixL, List.length_cons, mixL_len t, List.length_cons]
 | x :: t, u :: us => by rw [mixL, List.length_cons, mixL_len t, List.length_cons]
theorem mixL_at : ∀ (l : List Bil) (us : List Value) (h : us.length < l.length), (mixL l us)[us.length]? = some (l[us.length], none)
 | x :: t, [], h => by rw [mixL]; rfl
 | x :: t, u :: us, h => by
  simp only [mixL, List.length_cons, List.getElem?_cons_succ, List.getElem_cons_succ]
  exact mixL_at t us (by simpa using h)
 | [], us, h => by simp at h
theorem mixL_set : ∀ (l : List Bil) (us : List Value) (h : us.length < l.length) (u : Value), (mixL l us).set us.length (l[us.length], some u) = mixL l (us ++ [u])
 | x :: t, [], h, u => rfl
 | x :: t, y :: us, h, u => by
  simp only [mixL, List.cons_append, List.length_cons, List.set_cons_succ, List.getElem_cons_succ]
  rw [mixL_set t us (by simpa using h) u]
 | [], us, h, u => by simp at h
theorem stkR_snoc : ∀ (l : List Bil) (us : List Value) (h : us.length < l.length) (u : Value), stkR l (us ++ [u]) = stkR l us ++ [.row u 52 2 stC l[us.length].st]
 | x :: t, [], h, u => by cases t <;> rfl
 | x :: t, y :: us, h, u => by
  simp only [stkR, List.cons_append, List.length_cons, List.getElem_cons_succ]
  rw [stkR_snoc t us (by simpa using h) u]
 | [], us, h, u => by simp at h
def floOwn (vi vq vb vp : Value) (f : Flo) : HA := .exs fun us : List Value => [.fact (us.length = f.bs.length), .row vi 3 1 iC f.ids, .row vq 87 2 quC f.qs, .row vb 49 4 mbC (mixL f.bs us), .row vp 42 3 payC f.ps, .pack (stkR f.bs us)]
theorem mixL_full : ∀ (l : List Bil) (us : List Value) (i : Nat) (h1 : i < (mixL l us).length) (h2 : i < l.length), ((mixL l us)[i]).1 = l[i] ∧ ∀ u, us[i]? = some u → ((mixL l us)[i]).2 = some u
 | [], _, i, _, h2 => by simp at h2
 | x :: t, [], 0, _, _ => ⟨rfl, fun u h => by simp at h⟩
 | x :: t, u :: us, 0, _, _ => ⟨rfl, fun u' h => by simpa [mixL] using h⟩
 | x :: t, [], i + 1, h1, h2 => by
  simp only [mixL, List.getElem_cons_succ]
  exact ⟨(mixL_full t [] i _ _).1, fun u h => by simp at h⟩
 | x :: t, u :: us, i + 1, h1, h2 => by
  have k := mixL_full t us i (by simpa [mixL] using h1) (by simpa using h2)
  simp only [mixL, List.getElem_cons_succ]
  exact ⟨k.1, fun u' h => k.2 u' (by simpa using h)⟩
theorem stk_view {G : Nat → Option Obj} {F : List Nat} {w : World} (hle : Gle G (gall G F w)) : ∀ (l : List Bil) (us : List Value) (F1 : List Nat), hsP (stkR l us) G F1 w → (∀ b ∈ F1, b ∈ F) → ∀ i (h : i < l.length) u, us[i]? = some u → (AV.sl 2 stC l[i].st).P (gall G F w) u
 | [], _, _, _, _, i, h, _, _ => by simp at h
 | x :: t, [], _, _, _, i, _, u, e => by simp at e
 | x :: t, y :: us, F1, ⟨A, B, ep, hA, hB⟩, hs, 0, _, u, e => by
  simp at e; subst e
  exact row_view1 hA (fun b hb => hs b (ep.mem_iff.2 (by simp [hb]))) hle
 | x :: t, y :: us, F1, ⟨A, B, ep, hA, hB⟩, hs, i + 1, h, u, e => by
  exact stk_view hle t us B hB (fun b hb => hs b (ep.mem_iff.2 (by simp [hb]))) i (by simpa using h) u (by simpa using e)
theorem flo_thaw (vi vq vb vp : Value) (f : Flo) : Thaw (floOwn vi vq vb vp f) (.agg [.val vi, .val vq, .val vb, .val vp]) (.agg (flC f)) := ⟨fun G F w h hle v hv => by
 obtain ⟨us, h⟩ := h
 obtain ⟨hlen, h⟩ := hsP.fact.1 h
 obtain ⟨A1, R1, e1, a1, A2, R2, e2, a2, A3, R3, e3, a3, A4, R4, e4, a4, A5, R5, e5, a5, hn⟩ := h
 have hR5 : R5 = [] := hn
 subst hR5
 have m1 : ∀ b ∈ A1, b ∈ F := fun b hb => e1.mem_iff.2 (by simp [hb])
 have n1 : ∀ b ∈ R1, b ∈ F := fun b hb => e1.mem_iff.2 (by simp [hb])
 have m2 : ∀ b ∈ A2, b ∈ F := fun b hb => n1 b (e2.mem_iff.2 (by simp [hb]))
 have n2 : ∀ b ∈ R2, b ∈ F := fun b hb => n1 b (e2.mem_iff.2 (by simp [hb]))
 have m3 : ∀ b ∈ A3, b ∈ F := fun b hb => n2 b (e3.mem_iff.2 (by simp [hb]))
 have n3 : ∀ b ∈ R3, b ∈ F := fun b hb => n2 b (e3.mem_iff.2 (by simp [hb]))
 have m4 : ∀ b ∈ A4, b ∈ F := fun b hb => n3 b (e4.mem_iff.2 (by simp [hb]))
 have n4 : ∀ b ∈ R4, b ∈ F := fun b hb => n3 b (e4.mem_iff.2 (by simp [hb]))
 have m5 : ∀ b ∈ A5, b ∈ F := fun b hb => n4 b (e5.mem_iff.2 (by simp [hb]))
 obtain ⟨vs, rfl, hf⟩ := hv
 match vs, hf with
 | [x0, x1, x2, x3], ⟨h0, h1, h2, h3, _⟩ =>
  have h0' : x0 = vi := h0
  have h1' : x1 = vq := h1
  have h2' : x2 = vb := h2
  have h3' : x3 = vp := h3
  subst h0' h1' h2' h3'
  refine ⟨_, rfl, show Fits _ [_, _, _, _] _ from ⟨row_view1 a1 m1 hle, row_view1 a2 m2 hle, ?_, row_view1 a4 m4 hle, trivial⟩⟩
  refine row_view a3 m3 (by rw [mixL_len]) fun i h1 h2 j av' ej => ?_
  obtain ⟨k1, k2⟩ := mixL_full f.bs us i h1 h2
  have hi : i < us.length := by omega
  have k3 := k2 us[i] (List.getElem?_eq_getElem hi)
  have hst := stk_view hle f.bs us A5 a5 m5 i h2 us[i] (List.getElem?_eq_getElem hi)
  match j, ej with
  | 0, ej => simp only [biC, List.getElem?_cons_zero, Option.some.injEq] at ej; subst ej; exact ⟨_, rfl, fun u hu => by rw [k1] at hu; exact hu⟩
  | 1, ej => simp only [biC, List.getElem?_cons_succ, List.getElem?_cons_zero, Option.some.injEq] at ej; subst ej; exact ⟨_, rfl, fun u hu => by rw [k1] at hu; exact hu⟩
  | 2, ej => simp only [biC, List.getElem?_cons_succ, List.getElem?_cons_zero, Option.some.injEq] at ej; subst ej; exact ⟨_, rfl, fun u hu => by rw [k1] at hu; exact hu⟩
  | 3, ej =>
   simp only [biC, List.getElem?_cons_succ, List.getElem?_cons_zero, Option.some.injEq] at ej; subst ej
   refine ⟨_, rfl, fun u hu => ?_⟩
   rw [k3] at hu
   have hu' : u = us[i] := hu
   rw [hu']; exact hst
  | j + 4, ej => simp [biC] at ej⟩
def CopP (f : Flo) : AV → List HA → Prop := fun x y => ∃ vi vq vb vp, (One (.val vi) ∧ One (.val vq) ∧ One (.val vb) ∧ One (.val vp)) ∧ x = .agg [.val vi, .val vq, .val vb, .val vp] ∧ y = [floOwn vi vq vb vp f]
theorem copied_con (f : Flo) (hS : Sml f) : Con Tryz.prog 85 [.agg (flC f)] [] (CopP f) := by
 have hidsl := hS.ids
 have hqsl := hS.qs
 have hbsl := hS.bs
 have hpsl := hS.ps
 refine con_of Tryz.func85 rfl (enters_of Tryz.func85 (by kernel_rfl) rfl) rfl ?_; intro n w0 F0 G0
 refine zS ?_;repeat(refine yA ?_;intro p hp;refine zS ?_)
 rename_i pf hpf
 refine W_run 13 [4, 5, 6, 7, 8, 9, 10, 11, 12, 13, 14, 15, 16] [0, 1, 2, 3, 4, 5, 6, 7, 8, 9, 10, 11, 12] Cut.nil rfl goFlt mixedS (by kernel_rfl) rfl ?_
 refine rpv [] [] ?_
 refine rpv [0] [] ?_
 refine Run.tok [1] [] rfl (fun vs => by apply ltr_pk; exact goPk; (refine ltr ?_; refine lt_call ?_ (cloneI_con f.ids (by omega)); exact rfl)) goApp ?_
 refine rpv [] [] ?_
 refine rpv [3] [] ?_
 refine Run.tok [4] [] rfl (fun vs => by apply ltr_pk; exact goPk; (refine ltr ?_; refine lt_call ?_ (cloneQ_con f.qs (by omega)); exact rfl)) goApp ?_
 refine rpv [] [] ?_
 refine rpv [6] [] ?_
 refine Run.tok [7] [] rfl (fun vs => by apply ltr_pk; exact goPk; (refine ltr ?_; refine lt_call ?_ (cloneB_con f.bs (by omega)); exact rfl)) goApp ?_
 refine rpv [] [] ?_
 refine rpv [9] [] ?_
 refine Run.tok [10] [] rfl (fun vs => by apply ltr_pk; exact goPk; (refine ltr ?_; refine lt_call ?_ (cloneP_con f.ps (by omega)); exact rfl)) goApp ?_
 refine rpv [] [] ?_
 refine ⟨⟨by kernel_rfl, by kernel_rfl⟩, fun vs => ?_⟩
 apply WL_auto [2, 5, 8, 11, 12]
 ·exact goPk
 ·exact goNrm
 ·kernel_rfl
 ·kernel_rfl
 generalize vs 2 = vi
 generalize vs 5 = vq
 generalize vs 8 = vb
 generalize vs 11 = vp
 refine WL_one (v := vi) (by repeat (first | exact At.here | apply At.there)) (fun one1 => ?_)
 refine WL_one (v := vq) (by repeat (first | exact At.here | apply At.there)) (fun one2 => ?_)
 refine WL_one (v := vb) (by repeat (first | exact At.here | apply At.there)) (fun one3 => ?_)
 refine WL_one (v := vp) (by repeat (first | exact At.here | apply At.there)) (fun one4 => ?_)
 refine zS ?_
 have hrow : HA.row vb 49 4 biC f.bs = HA.row vb 49 4 mbC (mixL f.bs []) := by rw [mixL_nil, row_map]; rfl
 rw [hrow]
 refine W_loopJ (fun (us : List Value) => ⟨[(1, .val pf), (2, .val p), (22, .val (.int .i64 f.bs.length)), (23, .val (.int .i64 us.length))], [.pack (stkR f.bs us), .row vi 3 1 iC f.ids, .row vq 87 2 quC f.qs, .row vb 49 4 mbC (mixL f.bs us), .row vp 42 3 payC f.ps, .box pf [.val vi, .val vq, .val vb, .val vp] 27, .box p [.val (.slice none 0 0), .val (.slice none 0 0), .val (.slice none 0 0), .val (.slice none 0 0)] 27]⟩)
  (fun us => us.length ≤ f.bs.length) (fun us => f.bs.length - us.length) [] (fun _ _ st => st_sub2 (st_pack0 st) (by exact zR) (by cases f.bs <;> exact zP)) (Nat.zero_le _) ?_
 intro us hus
 have hml := mixL_len f.bs us
 refine zS ?_
 refine w_cond rfl (fun hlt => ?_) (fun hlt => ?_)
 ·have hlt' : us.length < f.bs.length := by simpa using hlt
  have hm := mixL_at f.bs us hlt'
  have hix : us.length < (mixL f.bs us).length := by omega
  have hget : (mixL f.bs us)[us.length] = (f.bs[us.length], none) := by
   rw [List.getElem?_eq_getElem hix] at hm; exact Option.some.inj hm
  have hsl := hS.st _ (List.getElem_mem hlt')
  refine zS ?_
  refine W_run 10 [26, 27, 28, 29, 30, 31, 32, 33, 34, 35] [0, 1, 2, 3, 4, 5, 6, 7, 8, 9] Cut.nil rfl goFlt mixedS (by kernel_rfl) rfl ?_
  refine rpv [] [] ?_
  refine rpv [0] [] ?_
  refine rpv [] [] ?_
  refine rpv [] [] ?_
  refine rpv [3] [] ?_
  refine rpv [] [] ?_
  refine rpv [4, 5] [] ?_
  refine rpv [6] [] ?_
  refine rpv [7] [] ?_
  refine Run.tok [8] [] rfl (fun vs => by apply ltr_pk; exact goPk; (refine ltr ?_; refine lt_call ?_ (cloneS_con f.bs[us.length].st (by omega)); exact rfl)) goApp ?_
  refine ⟨⟨by kernel_rfl, by kernel_rfl⟩, fun vs => ?_⟩
  apply WL_auto [1, 2, 9]
  ·exact goPk
  ·exact goNrm
  ·kernel_rfl
  ·kernel_rfl
  generalize vs 9 = u
  refine WL_one (v := u) (by repeat (first | exact At.here | apply At.there)) (fun oneu => ?_)
  refine zS ?_
  apply wl_storeRx (f.bs[us.length], some u)
  ·exact rfl
  ·exact zM
  ·exact rfl
  ·exact inferInstance
  ·exact inferInstance
  case hk => exact hix
  ·decide
  ·rw [hget]; rfl
  rw [mixL_set f.bs us hlt' u]
  apply WL_snoc (l := stkR f.bs us) (h := HA.row u 52 2 stC f.bs[us.length].st)
  ·exact zN
  ·exact zN
  rw [← stkR_snoc f.bs us hlt' u]
  refine zS ?_
  refine ⟨us ++ [u], fun _ _ st => st_sub2 st ?_ ?_, ?_, ?_⟩
  ·rw [List.length_append, List.length_singleton]; exact zR
  ·exact zP
  ·simp; omega
  ·simp; omega
 ·have hkk : us.length = f.bs.length := by simp at hlt; omega
  refine W_mkFact hkk ?_
  refine W_mkExs (h := fun us : List Value => [.fact (us.length = f.bs.length), .row vi 3 1 iC f.ids, .row vq 87 2 quC f.qs, .row vb 49 4 mbC (mixL f.bs us), .row vp 42 3 payC f.ps, .pack (stkR f.bs us)]) us (by exact yC) ?_
  refine zS ?_
  apply resKN
  ·exact rfl
  ·exact rfl
  ·exact zM
  ·exact inferInstance
  ·exact rfl
  ·exact ⟨vi, vq, vb, vp, ⟨one1, one2, one3, one4⟩, rfl, rfl⟩
  ·exact yC
def insR {α : Type} (lt : α → α → Bool) (x : α) : List α → List α
 | [] => [x]
 | a :: t => if lt x a = true then a :: insR lt x t else x :: a :: t
def insE {α : Type} (lt : α → α → Bool) (l : List α) (x : α) : List α := (insR lt x l.reverse).reverse
theorem insE_nil {α : Type} (lt : α → α → Bool) (x : α) : insE lt [] x = [x] := rfl
theorem insE_yes {α : Type} {lt : α → α → Bool} {l : List α} {a x : α} (h : lt x a = true) : insE lt (l ++ [a]) x = insE lt l x ++ [a] := by
 unfold insE; rw [List.reverse_append, List.reverse_singleton, List.singleton_append, insR, if_pos h, List.reverse_cons]
theorem insE_no {α : Type} {lt : α → α → Bool} {l : List α} {a x : α} (h : lt x a = false) : insE lt (l ++ [a]) x = l ++ [a] ++ [x] := by
 unfold insE; rw [List.reverse_append, List.reverse_singleton, List.singleton_append, insR, if_neg (by rw [h]; simp)]; simp
def srt {α : Type} (lt : α → α → Bool) (l : List α) : List α := l.foldl (insE lt) []
theorem srt_snoc {α : Type} (lt : α → α → Bool) (l : List α) (x : α) : srt lt (l ++ [x]) = insE lt (srt lt l) x := by unfold srt; rw [List.foldl_append]; rfl
theorem insR_len {α : Type} (lt : α → α → Bool) (x : α) : ∀ l : List α, (insR lt x l).length = l.length + 1
 | [] => rfl
 | a :: t => by rw [insR]; split <;> simp [insR_len lt x t]
theorem insE_len {α : Type} (lt : α → α → Bool) (l : List α) (x : α) : (insE lt l x).length = l.length + 1 := by unfold insE; rw [List.length_reverse, insR_len]; simp
theorem srt_len {α : Type} (lt : α → α → Bool) (l : List α) : (srt lt l).length = l.length := by
 have : ∀ (l acc : List α), (l.foldl (insE lt) acc).length = acc.length + l.length := by
  intro l
  induction l with
  | nil => intro acc; simp
  | cons x t ih => intro acc; rw [List.foldl_cons, ih, insE_len, List.length_cons]; omega
 unfold srt; rw [this]; simp
def snk {α : Type} (pre suf : List α) (x : α) (j : Nat) : List α := pre.take j ++ x :: (pre.drop j ++ suf)
theorem snk_len {α : Type} {pre suf : List α} {x : α} {j : Nat} (h : j ≤ pre.length) : (snk pre suf x j).length = pre.length + 1 + suf.length := by
 unfold snk; simp only [List.length_append, List.length_take, List.length_cons, List.length_drop]; omega
theorem snk_at {α : Type} {pre suf : List α} {x : α} {j : Nat} (h : j ≤ pre.length) : (snk pre suf x j)[j]? = some x := by
 unfold snk
 rw [List.getElem?_append_right (by rw [List.length_take]; omega), List.length_take, Nat.min_eq_left h, Nat.sub_self]; rfl
theorem snk_before {α : Type} {pre suf : List α} {x : α} {j : Nat} (h : j + 1 ≤ pre.length) : (snk pre suf x (j + 1))[j]? = some pre[j] := by
 unfold snk
 rw [List.getElem?_append_left (by rw [List.length_take]; omega), List.getElem?_take, if_pos (by omega), List.getElem?_eq_getElem (by omega)]
theorem snk_swap {α : Type} {pre suf : List α} {x : α} {j : Nat} (h : j + 1 ≤ pre.length) : ((snk pre suf x (j + 1)).set (j + 1) pre[j]).set j x = snk pre suf x j := by
 unfold snk
 have e : pre.take (j + 1) = pre.take j ++ [pre[j]] := List.take_succ_eq_append_getElem (by omega)
 have l1 : (pre.take j).length = j := by rw [List.length_take]; omega
 rw [e, List.append_assoc, List.singleton_append, List.set_append_right _ _ (by omega), l1, show j + 1 - j = 1 by omega, List.set_cons_succ, List.set_cons_zero, List.set_append_right _ _ (by omega), l1, Nat.sub_self, List.set_cons_zero, List.drop_eq_getElem_cons (show j < pre.length by omega), List.cons_append]
theorem snk_full {α : Type} (pre suf : List α) (x : α) : snk pre suf x pre.length = pre ++ x :: suf := by unfold snk; simp
theorem isortP_con (v : Value) (xs : List Pay) (k : FuncId) (caps : List AV) (cmp : Pay → Pay → Int) (hl : xs.length ≤ 100000) (hc : ∀ x y, Con Tryz.prog k ([.agg (payC x), .agg (payC y)] ++ caps) [] (Is (.val (.int .i64 (cmp x y))) [])) : Con Tryz.prog 163 [.val v, .val (.int .i64 0), .val (.int .i64 xs.length), .clo k caps] [.row v 42 3 payC xs] (Is (.tup []) [.row v 42 3 payC (srt (fun x y => decide (cmp x y < 0)) xs)]) := by
 generalize hlt0 : (fun x y => decide (cmp x y < 0)) = lt
 have hlt : ∀ x y, decide (cmp x y < 0) = lt x y := fun x y => by rw [← hlt0]
 refine con_of Tryz.func163 rfl (enters_of Tryz.func163 (by kernel_rfl) rfl) rfl ?_; intro n w0 F0 G0
 refine zS ?_
 refine W_loopJ (fun (i : Nat) => ⟨[(0, .val v), (1, .val (.int .i64 0)), (2, .val (.int .i64 xs.length)), (3, .clo k caps), (8, .val (.int .i64 i))], [.row v 42 3 payC (srt lt (xs.take i) ++ xs.drop i)]⟩) (fun i => 1 ≤ i ∧ (i ≤ xs.length ∨ i = 1)) (fun i => xs.length - i) 1 (fun _ _ st => st_sub2 st (by exact zR) (by rw [show srt lt (xs.take 1) ++ xs.drop 1 = xs from by cases xs <;> rfl]; exact zP)) ⟨Nat.le_refl _, .inr rfl⟩ ?_
 rintro i ⟨hi1, hi2⟩
 refine zS ?_
 refine w_cond rfl (fun hin => ?_) (fun hin => ?_)
 ·have hin' : i < xs.length := by simp at hin; omega
  have hpl : (srt lt (xs.take i)).length = i := by rw [srt_len, List.length_take]; omega
  have hnx : srt lt (xs.take (i + 1)) = insE lt (srt lt (xs.take i)) xs[i] := by rw [List.take_succ_eq_append_getElem hin', srt_snoc]
  have hdr : xs.drop i = xs[i] :: xs.drop (i + 1) := List.drop_eq_getElem_cons hin'
  have hsl : (xs.drop (i + 1)).length + i + 1 = xs.length := by rw [List.length_drop]; omega
  generalize srt lt (xs.take i) = pre at *
  generalize hsuf : xs.drop (i + 1) = suf at *
  generalize hx : xs[i] = x at *
  rw [hdr]
  refine zS ?_
  refine W_loopJ (fun (j : Nat) => ⟨[(0, .val v), (1, .val (.int .i64 0)), (2, .val (.int .i64 xs.length)), (3, .clo k caps), (8, .val (.int .i64 i)), (9, .val (.int .i64 j))], [.row v 42 3 payC (snk pre suf x j)]⟩) (fun j => j ≤ i ∧ insE lt pre x = insE lt (pre.take j) x ++ pre.drop j) (fun j => j) i (fun _ _ st => st_sub2 st (by exact zR) (by rw [show snk pre suf x i = pre ++ x :: suf from by rw [← hpl]; exact snk_full _ _ _]; exact zP)) ⟨Nat.le_refl _, by rw [← hpl]; simp⟩ ?_
  rintro j ⟨hj, hins⟩
  have hdl : (snk pre suf x j).length = xs.length := by rw [snk_len (by omega)]; omega
  have hq1 : (snk pre suf x j)[j]? = some x := snk_at (by omega)
  refine zS ?_
  cases j with
  | zero =>
   have hend : snk pre suf x 0 = insE lt pre x ++ suf := by rw [hins]; simp [snk, insE_nil]
   refine W_run 14 [18, 19, 20, 21, 22, 23, 24, 25, 26, 27, 28, 29, 30, 31] [0, 1, 2, 3, 4, 5, 6, 7, 8, 9, 10, 11, 12, 13] Cut.nil rfl goFlt mixedS (by kernel_rfl) rfl ?_
   refine rpv [] [] ?_
   refine rpv [] [] ?_
   refine Run.pv [0, 1] [] rfl (fun vs => by apply ltr_pk; exact goPk; (refine ltr ?_; apply LT_bool false; apply lt_gtr; exact rfl; exact rfl; simp)) goApp ?_
   refine rpv [2] [] ?_
   refine rno [3] ?_
   refine rno [3] ?_
   refine rno [3] ?_
   refine rno [3, 5, 6] ?_
   refine rno [3, 7] ?_
   refine rno [3] ?_
   refine rno [3] ?_
   refine rno [3, 10] ?_
   refine rno [3, 9, 11] ?_
   refine rno [3, 12] ?_
   refine ⟨⟨by kernel_rfl, by kernel_rfl⟩, fun vs => ?_⟩
   apply WL_auto [3, 4, 8, 13]
   ·exact goPk
   ·exact goNrm
   ·kernel_rfl
   ·kernel_rfl
   refine zS ?_
   refine ⟨i + 1, fun _ _ st => st_sub2 st ?_ ?_, ?_, ?_⟩
   ·exact zR
   ·rw [hnx, hsuf, ← hend]; exact zP
   ·omega
   ·omega
  | succ j =>
   have hjp : j < pre.length := by omega
   have hq2 : (snk pre suf x (j + 1))[j]? = some pre[j] := snk_before (by omega)
   have htk : pre.take (j + 1) = pre.take j ++ [pre[j]] := List.take_succ_eq_append_getElem hjp
   have hdp : pre.drop j = pre[j] :: pre.drop (j + 1) := List.drop_eq_getElem_cons hjp
   refine W_run 14 [18, 19, 20, 21, 22, 23, 24, 25, 26, 27, 28, 29, 30, 31] [0, 1, 2, 3, 4, 5, 6, 7, 8, 9, 10, 11, 12, 13] Cut.nil rfl goFlt mixedS (by kernel_rfl) rfl ?_
   refine rpv [] [] ?_
   refine rpv [] [] ?_
   refine Run.pv [0, 1] [] rfl (fun vs => by apply ltr_pk; exact goPk; (refine ltr ?_; apply LT_bool true; apply lt_gtr; exact rfl; exact rfl; (first | (simp; done) | (simp; omega)))) goApp ?_
   refine rpv [2] [] ?_
   refine ryv [3] ?_
   refine ryv [3] ?_
   refine ryv [3] ?_
   refine ryv [3, 5, 6] ?_
   refine ryv [3, 7] ?_
   refine ryv [3] ?_
   refine ryv [3] ?_
   refine ryx [3, 10] (fun vs => by apply ltr_pk; exact goPk; (refine ltr ?_; apply LT_int (j : Int); apply lt_sub; exact rfl; exact rfl; omega; omega; omega)) ?_
   refine ryv [3, 9, 11] ?_
   refine ryv [3, 12] ?_
   refine ⟨⟨by kernel_rfl, by kernel_rfl⟩, fun vs => ?_⟩
   apply WL_auto [3, 4, 8, 13]
   ·exact goPk
   ·exact goNrm
   ·kernel_rfl
   ·kernel_rfl
   refine zS ?_
   (apply wl_callV (hc x pre[j]); exact rfl; exact rfl; exact rfl)
   refine zS ?_
   rw [hlt]
   cases hb : lt x pre[j] with
   | false =>
    have hend : snk pre suf x (j + 1) = insE lt pre x ++ suf := by
     rw [hins, htk, insE_no hb, ← htk]; simp [snk]
    refine zS ?_
    refine ⟨i + 1, fun _ _ st => st_sub2 st ?_ ?_, ?_, ?_⟩
    ·exact zR
    ·rw [hnx, hsuf, ← hend]; exact zP
    ·omega
    ·omega
   | true =>
    have hins2 : insE lt pre x = insE lt (pre.take j) x ++ pre.drop j := by
     rw [hins, htk, insE_yes hb, hdp]; simp
    refine zS ?_
    refine W_run 16 [37, 38, 39, 40, 41, 42, 43, 44, 45, 46, 47, 48, 49, 50, 51, 1000015] [0, 1, 2, 3, 4, 5, 6, 7, 8, 9, 10, 11, 12, 13, 14, 15] (Cut.cons (h := HA.row v 42 3 payC (snk pre suf x (j + 1))) zN (Cut.nil)) rfl goFlt mixedS (by kernel_rfl) rfl ?_
    refine rpv [] [] ?_
    refine rpv [] [] ?_
    refine rpv [] [] ?_
    refine rpv [] [] ?_
    refine Run.pv [3] [] rfl (fun vs => by apply ltr_pk; exact goPk; (refine ltr ?_; apply LT_int (j : Int); apply lt_sub; exact rfl; exact rfl; omega; omega; omega)) goApp ?_
    refine rpv [] [] ?_
    refine rpv [] [] ?_
    refine Run.pv [6] [] rfl (fun vs => by apply ltr_pk; exact goPk; (refine ltr ?_; apply LT_int (j : Int); apply lt_sub; exact rfl; exact rfl; omega; omega; omega)) goApp ?_
    refine Run.rd [5, 7] [] [1000] rfl (fun vs => by apply ltr_pk; exact goPk; exact goLtr) goApp ?_
    refine Run.rd [8] [] [1000] rfl (fun vs => by apply ltr_pk; exact goPk; exact goLtr) goApp ?_
    refine rpv [] [] ?_
    refine rpv [] [] ?_
    refine Run.rd [10, 11] [] [1000] rfl (fun vs => by apply ltr_pk; exact goPk; exact goLtr) goApp ?_
    refine Run.rd [12] [] [1000] rfl (fun vs => by apply ltr_pk; exact goPk; exact goLtr) goApp ?_
    refine Run.rd [0, 1] [] [1000] rfl (fun vs => by apply ltr_pk; exact goPk; exact goLtr) goApp ?_
    refine Run.fx [9, 14] [1000] 14 (fun _ => [HA.row v 42 3 payC ((snk pre suf x (j + 1)).set (j + 1) pre[j])]) rfl (fun vs => by apply ltr_pk; exact goPk; (refine ltr ?_; refine LT.fx (lt_storeRN (n := 3) (f := payC) (xs := snk pre suf x (j + 1)) (k := j + 1) (x' := pre[j]) rfl rfl (by omega) rfl) rfl)) goApp ?_
    refine ⟨⟨by kernel_rfl, by kernel_rfl⟩, fun vs => ?_⟩
    apply WL_auto [2, 4, 13]
    ·exact goPk
    ·exact goNrm
    ·kernel_rfl
    ·kernel_rfl
    refine zS ?_
    apply wl_storeRNx x
    ·exact rfl
    ·exact zM
    ·exact rfl
    ·exact inferInstance
    ·exact inferInstance
    ·rw [List.length_set]; omega
    ·rfl
    rw [snk_swap (by omega)]
    refine zS ?_
    rw [show (((j + 1 : Nat) : Int) - 1) = (j : Int) by omega]
    refine ⟨j, fun _ _ st => st_sub2 st ?_ ?_, ?_, ?_⟩
    ·exact zR
    ·exact zP
    ·exact ⟨by omega, hins2⟩
    ·omega
 ·have hkk : xs.length ≤ i := by simp at hin; omega
  rw [List.take_of_length_le hkk, List.drop_of_length_le hkk, List.append_nil]
  refine zS ?_
  (apply resK0; exact rfl; exact ⟨rfl, rfl⟩; exact yC)
end Go.Proofs.YtihonljdanjfmaaGreatDoor.Sw
namespace Go.Proofs.YtihonljdanjfmaaGreatDoor.Sw
open Go.RowKit Go Go.Shelf Go.Proofs
open Go.Proofs.YtihonljdanjfmaaGreatDoor.Gr (payLt)
instance tyeL : TyE Tryz.prog 108 42 3 := tyE (z := .agg #[.int .i64 0, .int .i64 0, .int .i64 0]) (b := 24) (by kernel_rfl) (by kernel_rfl) (by decide) rfl (by decide)
section
variable {P : Program} {rs : List (Nat × AV)} {d : Option Nat} {ty : TypeId} {pos : String} {af : Array Edge} {g : Option (Nat × Bool)}
theorem lt_convC {x : Operand} {u v : Value} {s t : TypeId} (hx : opv rs x = some (.val u)) (h : ∀ w, (convert s t u).run P w = .ok v w) : LT P ⟨d, .convert s t x, ty, pos, af, g⟩ rs [] (Is (.val v) []) :=
 LT_val (fun _ e => by cases e) fun a w G hR _ => ⟨_, rfl, by
  have e1 : a.eval x = _ := opv_ok hR hx
  simp only [execOp, e1, Sem.run_bind, h w, Result.andThen_ok]
  rfl⟩
theorem lt_idxC {x y : Operand} {u u2 v : Value} {t : TypeId} (hx : opv rs x = some (.val u)) (hy : opv rs y = some (.val u2)) (h : ∀ w, (Instr.index t u u2).run P w = .ok v w) : LT P ⟨d, .index t x y, ty, pos, af, g⟩ rs [] (Is (.val v) []) :=
 LT_val (fun _ e => by cases e) fun a w G hR _ => ⟨_, rfl, by
  have e1 : a.eval x = _ := opv_ok hR hx
  have e2 : a.eval y = _ := opv_ok hR hy
  simp only [execOp, e1, e2, Sem.run_bind, h w, Result.andThen_ok]
  rfl⟩
end
section
variable {c : Cx} {rs : List (Nat × AV)} {hs : List HA} {Q : Exit → S → Prop} {ops : Array Oper} {tl : List Oper} {d : Nat} {ty : TypeId} {pos : String} {af : Array Edge}
theorem wl_convC {x : Operand} {u : Value} (v : Value) {s t : TypeId} (hx : opv rs x = some (.val u)) (h : ∀ w, (convert s t u).run c.P w = .ok v w) (hd : Nat.blt d c.nt = true) (k : WL c ops tl ⟨(d, .val v) :: rs, hs⟩ Q) : WL c ops (⟨some d, .convert s t x, ty, pos, af, none⟩ :: tl) ⟨rs, hs⟩ Q := wl_ex (lt_convC hx h) hd k
theorem wl_idxC {x y : Operand} {u u2 : Value} (v : Value) {t : TypeId} (hx : opv rs x = some (.val u)) (hy : opv rs y = some (.val u2)) (h : ∀ w, (Instr.index t u u2).run c.P w = .ok v w) (hd : Nat.blt d c.nt = true) (k : WL c ops tl ⟨(d, .val v) :: rs, hs⟩ Q) : WL c ops (⟨some d, .index t x y, ty, pos, af, none⟩ :: tl) ⟨rs, hs⟩ Q := wl_ex (lt_idxC hx hy h) hd k
end
def lenB (n : Nat) : Int := if n = 0 then 0 else if n = 1 then 1 else if n ≤ 3 then 2 else 3
theorem len64_con (n : Nat) (hn : n ≤ 5) : Con Tryz.prog 172 [.val (.int .u64 n)] [] (Is (.val (.int .i64 (lenB n))) []) := by
 have hk : n = 0 ∨ n = 1 ∨ n = 2 ∨ n = 3 ∨ n = 4 ∨ n = 5 := by omega
 rcases hk with rfl | rfl | rfl | rfl | rfl | rfl
 ·refine con_of Tryz.func172 rfl (enters_of Tryz.func172 (by kernel_rfl) rfl) rfl ?_; intro n w0 F0 G0
  refine zS ?_
  (apply wl_convC (.int .u8 0); exact rfl; exact (fun w => by kernel_rfl); exact rfl)
  (apply wl_idxC (.int .u8 0); exact rfl; exact rfl; exact (fun w => by kernel_rfl); exact rfl)
  (apply wl_convC (.int .i64 0); exact rfl; exact (fun w => by kernel_rfl); exact rfl)
  refine zS ?_
  (apply res1; exact rfl; exact rfl; exact ⟨rfl, rfl⟩)
 ·refine con_of Tryz.func172 rfl (enters_of Tryz.func172 (by kernel_rfl) rfl) rfl ?_; intro n w0 F0 G0
  refine zS ?_
  (apply wl_convC (.int .u8 1); exact rfl; exact (fun w => by kernel_rfl); exact rfl)
  (apply wl_idxC (.int .u8 1); exact rfl; exact rfl; exact (fun w => by kernel_rfl); exact rfl)
  (apply wl_convC (.int .i64 1); exact rfl; exact (fun w => by kernel_rfl); exact rfl)
  refine zS ?_
  (apply res1; exact rfl; exact rfl; exact ⟨rfl, rfl⟩)
 ·refine con_of Tryz.func172 rfl (enters_of Tryz.func172 (by kernel_rfl) rfl) rfl ?_; intro n w0 F0 G0
  refine zS ?_
  (apply wl_convC (.int .u8 2); exact rfl; exact (fun w => by kernel_rfl); exact rfl)
  (apply wl_idxC (.int .u8 2); exact rfl; exact rfl; exact (fun w => by kernel_rfl); exact rfl)
  (apply wl_convC (.int .i64 2); exact rfl; exact (fun w => by kernel_rfl); exact rfl)
  refine zS ?_
  (apply res1; exact rfl; exact rfl; exact ⟨rfl, rfl⟩)
 ·refine con_of Tryz.func172 rfl (enters_of Tryz.func172 (by kernel_rfl) rfl) rfl ?_; intro n w0 F0 G0
  refine zS ?_
  (apply wl_convC (.int .u8 3); exact rfl; exact (fun w => by kernel_rfl); exact rfl)
  (apply wl_idxC (.int .u8 2); exact rfl; exact rfl; exact (fun w => by kernel_rfl); exact rfl)
  (apply wl_convC (.int .i64 2); exact rfl; exact (fun w => by kernel_rfl); exact rfl)
  refine zS ?_
  (apply res1; exact rfl; exact rfl; exact ⟨rfl, rfl⟩)
 ·refine con_of Tryz.func172 rfl (enters_of Tryz.func172 (by kernel_rfl) rfl) rfl ?_; intro n w0 F0 G0
  refine zS ?_
  (apply wl_convC (.int .u8 4); exact rfl; exact (fun w => by kernel_rfl); exact rfl)
  (apply wl_idxC (.int .u8 3); exact rfl; exact rfl; exact (fun w => by kernel_rfl); exact rfl)
  (apply wl_convC (.int .i64 3); exact rfl; exact (fun w => by kernel_rfl); exact rfl)
  refine zS ?_
  (apply res1; exact rfl; exact rfl; exact ⟨rfl, rfl⟩)
 ·refine con_of Tryz.func172 rfl (enters_of Tryz.func172 (by kernel_rfl) rfl) rfl ?_; intro n w0 F0 G0
  refine zS ?_
  (apply wl_convC (.int .u8 5); exact rfl; exact (fun w => by kernel_rfl); exact rfl)
  (apply wl_idxC (.int .u8 3); exact rfl; exact rfl; exact (fun w => by kernel_rfl); exact rfl)
  (apply wl_convC (.int .i64 3); exact rfl; exact (fun w => by kernel_rfl); exact rfl)
  refine zS ?_
  (apply res1; exact rfl; exact rfl; exact ⟨rfl, rfl⟩)
theorem w_constF {c : Cx} {s : S} {x y : Code} {Q : Exit → S → Prop} (h : W c y s Q) : W c (.cond (.const (.bool false)) x y) s Q := ⟨fun a w st => wpIn_cond (show a.eval (.const (.bool false)) = .bool false from rfl) (h.out a w st)⟩
theorem lenBits_con (m : Nat) (hm : m ≤ 5) : Con Tryz.prog 157 [.val (.int .u64 m)] [] (Is (.val (.int .i64 (lenB m))) []) := by
 refine con_of Tryz.func157 rfl (enters_of Tryz.func157 (by kernel_rfl) rfl) rfl ?_; intro n w0 F0 G0
 refine zS ?_
 refine w_constF ?_
 refine zS ?_
 (first | (apply wl_call (len64_con m hm); exact rfl; exact rfl) | (apply wl_callR (len64_con m hm); exact rfl; exact zM; exact rfl))
 refine zS ?_
 (apply res1; exact rfl; exact rfl; exact ⟨rfl, rfl⟩)
theorem cvU : ∀ (m : Nat), m ≤ 5 → ∀ w : World, (convert 3 219 (.int .i64 (m : Int))).run Tryz.prog w = .ok (.int .u64 (m : Int)) w
 | 0, _ => fun w => by kernel_rfl
 | 1, _ => fun w => by kernel_rfl
 | 2, _ => fun w => by kernel_rfl
 | 3, _ => fun w => by kernel_rfl
 | 4, _ => fun w => by kernel_rfl
 | 5, _ => fun w => by kernel_rfl
 | m + 6, h => absurd h (by omega)
theorem pdqP_con (v : Value) (xs : List Pay) (k : FuncId) (caps : List AV) (cmp : Pay → Pay → Int) (lim : Int) (hl : xs.length ≤ 12) (hc : ∀ x y, Con Tryz.prog k ([.agg (payC x), .agg (payC y)] ++ caps) [] (Is (.val (.int .i64 (cmp x y))) [])) : Con Tryz.prog 156 [.val v, .val (.int .i64 0), .val (.int .i64 xs.length), .val (.int .i64 lim), .clo k caps] [.row v 42 3 payC xs] (Is (.tup []) [.row v 42 3 payC (srt (fun x y => decide (cmp x y < 0)) xs)]) := by
 refine con_of Tryz.func156 rfl (enters_of Tryz.func156 (by kernel_rfl) rfl) rfl ?_; intro n w0 F0 G0
 refine zS ?_
 refine W_rounds 1 ?_
 refine WR_step ?_
 refine zS ?_
 refine w_cond rfl (fun h12 => ?_) (fun h12 => ?_)
 ·refine zS ?_
  (apply wl_callP (isortP_con v xs k caps cmp (by omega) hc); exact rfl; exact yC; exact rfl)
  rintro _ _ ⟨rfl, rfl⟩
  refine zS ?_
  (apply resK0; exact rfl; exact ⟨rfl, rfl⟩; exact yC)
 ·exfalso; simp at h12; omega
theorem sortP_con (v : Value) (xs : List Pay) (k : FuncId) (caps : List AV) (cmp : Pay → Pay → Int) (hl : xs.length ≤ 5) (hc : ∀ x y, Con Tryz.prog k ([.agg (payC x), .agg (payC y)] ++ caps) [] (Is (.val (.int .i64 (cmp x y))) [])) : Con Tryz.prog 141 [.val v, .clo k caps] [.row v 42 3 payC xs] (Is (.tup []) [.row v 42 3 payC (srt (fun x y => decide (cmp x y < 0)) xs)]) := by
 have hcv : ∀ w, (convert 3 219 (.int .i64 (xs.length : Int))).run Tryz.prog w = .ok (.int .u64 (xs.length : Int)) w := fun w => cvU xs.length hl w
 refine con_of Tryz.func141 rfl (enters_of Tryz.func141 (by kernel_rfl) rfl) rfl ?_; intro n w0 F0 G0
 refine zS ?_
 (apply wl_convC (.int .u64 (xs.length : Int)); exact rfl; exact hcv; exact rfl)
 refine zS ?_
 (first | (apply wl_call (lenBits_con xs.length hl); exact rfl; exact rfl) | (apply wl_callR (lenBits_con xs.length hl); exact rfl; exact zM; exact rfl))
 refine zS ?_
 (apply wl_callP (pdqP_con v xs k caps cmp (lenB xs.length) (by omega) hc); exact rfl; exact yC; exact rfl)
 rintro _ _ ⟨rfl, rfl⟩
 refine zS ?_
 (apply resK0; exact rfl; exact ⟨rfl, rfl⟩; exact yC)
def pyCmp (x y : Pay) : Int := firstNZ [cmpR x.a y.a, cmpR x.b y.b, cmpR x.p y.p]
theorem pyCmp_lt (x y : Pay) : decide (pyCmp x y < 0) = payLt x y := by
 unfold pyCmp firstNZ firstNZ firstNZ firstNZ cmpR payLt
 by_cases h1 : x.a = y.a
 ·by_cases h2 : x.b = y.b
  ·simp only [h1, h2]
   by_cases h3 : x.p < y.p
   ·simp [h3]
   ·by_cases h4 : y.p < x.p
    ·simp [h3, h4]
    ·simp [h3, h4]
  ·simp only [h1]
   by_cases h3 : x.b < y.b
   ·simp [h2, h3]
   ·have h4 : y.b < x.b := by omega
    simp [h2, h3, h4]
 ·by_cases h3 : x.a < y.a
  ·simp [h1, h3]
  ·have h4 : y.a < x.a := by omega
   simp [h1, h3, h4]
theorem payments_con (x y : Pay) : Con Tryz.prog 112 [.agg (payC x), .agg (payC y)] [] (Is (.val (.int .i64 (pyCmp x y))) []) := by
 refine con_of Tryz.func112 rfl (enters_of Tryz.func112 (by kernel_rfl) rfl) rfl ?_; intro n w0 F0 G0
 refine zS ?_;repeat(refine yA ?_;intro p hp;refine zS ?_)
 refine W_run 14 [5, 6, 7, 8, 9, 10, 11, 12, 13, 14, 15, 16, 17, 18] [0, 1, 2, 3, 4, 5, 6, 7, 8, 9, 10, 11, 12, 13] Cut.nil rfl goFlt mixedS (by kernel_rfl) rfl ?_
 refine rpv [] [] ?_
 refine rpv [0] [] ?_
 refine rpv [] [] ?_
 refine rpv [2] [] ?_
 refine Run.pv [1, 3] [] rfl (fun vs => by apply ltr_pk; exact goPk; (refine ltr ?_; refine lt_call ?_ ((compare_con x.a y.a)); exact rfl)) goApp ?_
 refine rpv [] [] ?_
 refine rpv [5] [] ?_
 refine rpv [] [] ?_
 refine rpv [7] [] ?_
 refine Run.pv [6, 8] [] rfl (fun vs => by apply ltr_pk; exact goPk; (refine ltr ?_; refine lt_call ?_ ((compare_con x.b y.b)); exact rfl)) goApp ?_
 refine rpv [] [] ?_
 refine rpv [10] [] ?_
 refine rpv [] [] ?_
 refine rpv [12] [] ?_
 refine ⟨⟨by kernel_rfl, by kernel_rfl⟩, fun vs => ?_⟩
 apply WL_auto [4, 9, 11, 13]
 ·exact goPk
 ·exact goNrm
 ·kernel_rfl
 ·kernel_rfl
 refine zS ?_
 (first | (apply wl_call (compare_con x.p y.p); exact rfl; exact rfl) | (apply wl_callR (compare_con x.p y.p); exact rfl; exact zM; exact rfl))
 refine zS ?_
 (apply wl_litF iC; exact inferInstance; exact inferInstance; exact inferInstance; exact zE; exact rfl; (first | exact (of_decide_eq_true rfl) | decide | (simp; done) | (simp; omega)); exact rfl)
 refine zS ?_
 (first | (apply wl_call (or_con [cmpR x.a y.a, cmpR x.b y.b, cmpR x.p y.p] (by simp)); exact rfl; exact rfl) | (apply wl_callR (or_con [cmpR x.a y.a, cmpR x.b y.b, cmpR x.p y.p] (by simp)); exact rfl; exact zM; exact rfl))
 refine zS ?_
 (apply res1; exact rfl; exact rfl; exact ⟨rfl, rfl⟩)
end Go.Proofs.YtihonljdanjfmaaGreatDoor.Sw
namespace Go.Proofs.YtihonljdanjfmaaGreatDoor.Sw
open Go.RowKit Go Go.Shelf Go.Proofs
open Go.Proofs.YtihonljdanjfmaaGreatDoor.Gr (behR behS Ok Ord Forest Zr lf amt payE payLt)
theorem Rm.perm {hs r : List HA} {h : HA} (k : Rm hs h r) : hs.Perm (h :: r) := by
 induction k with
 | here => exact .refl _
 | there k ih => exact (ih.cons _).trans (List.Perm.swap _ _ _)
theorem ltr_call2 {P : Program} {rs : List (Nat × AV)} {hsR r1 r2 : List HA} {d : Option Nat} {ty : TypeId} {pos : String} {af : Array Edge} {g : Option (Nat × Bool)} {k : FuncId} {xs : List Operand} {ts : Array TypeId} {avs : List AV} {av : AV} {h1 h2 : HA} (hc : Con P k avs [h1, h2] (Is av [h1, h2])) (hx : opvs rs xs = some avs) (hr1 : Rm hsR h1 r1) (hr2 : Rm r1 h2 r2) :
  LTr P ⟨d, .call { callee := .value (.func k), args := xs.toArray, argTypes := ts }, ty, pos, af, g⟩ rs hsR [] (Is av []) := by
 have hp : hsR.Perm (h1 :: h2 :: r2) := hr1.perm.trans (hr2.perm.cons _)
 refine ⟨?_⟩
 intro F n hF a w G Fp K Q hR hI hk
 have hI' : Inv G Fp ([h1, h2] ++ r2) w := ⟨hI.gin, hI.nd, hI.own, hsP.permL hp hI.hs⟩
 obtain ⟨F1, k1, k2⟩ := Inv.frame hI'
 refine (lt_call hx hc).go F n hF a w G F1 K Q hR k1 fun v av' prod G' F' w' ⟨e1, e2⟩ hfr hi hv => ?_
 subst e1 e2
 obtain ⟨F'', h3, h4⟩ := k2 hfr hi
 exact hk v _ hsR G' F'' w' ⟨[], rfl, rfl, rfl⟩ h4 ⟨h3.gin, h3.nd, h3.own, hsP.permL hp.symm h3.hs⟩ hv
noncomputable def lstR (ids : List Int) (L : List (Nat × Nat)) (cu : List Int) : Option (List Pay) :=
 if L.all (fun e => decide (amt ids.length (lf cu) L e ≠ 0)) = true then some (srt (fun x y => decide (pyCmp x y < 0)) (L.map (payE ids (lf cu) L))) else none
theorem amt_bound {n : Nat} {x : Nat → Int} {L : List (Nat × Nat)} (hn : n ≤ 10) (hok : Ok n L) (hf : Forest L) (hz : Zr n L x) (hb : ∀ v, v < n → -1000000000 ≤ x v ∧ x v ≤ 1000000000) {e : Nat × Nat} (he : e ∈ L) : -10000000000 ≤ amt n x L e ∧ amt n x L e ≤ 10000000000 := by
 obtain ⟨Q, hQ⟩ := Gr.side_of hf he (.inr ⟨rfl, rfl⟩ : Gr.Ends e e.2 e.1)
 have := sumP_bound (by omega) hb Q
 rw [Gr.amt_side hok.nd hz hQ]; omega
theorem list_con (ph ow : Value) (f : Flo) (cu : List Int) (L : List (Nat × Nat)) (hn : f.ids.length ≤ 10) (hl : L.length ≤ 5) (hcl : cu.length = f.ids.length) (hbt : Btw (-1000000000) 1000000000 cu)
  (hok : Ok f.ids.length L) (ho : Ord L) (hf : Forest L) (hz : Zr f.ids.length L (lf cu)) : Con Tryz.prog 121 [.val ph, .sl 2 pnC L] [hsB ph f ow, .row ow 3 1 iC cu] (Is (treeA (lstR f.ids L cu)) [hsB ph f ow, .row ow 3 1 iC cu]) := by
 have hbb : ∀ v, v < f.ids.length → -1000000000 ≤ lf cu v ∧ lf cu v ≤ 1000000000 := fun v hv => by
  have hv' : v < cu.length := by omega
  rw [lf_at hv']; exact hbt.at hv'
 unfold lstR
 refine con_of Tryz.func121 rfl (enters_of Tryz.func121 (by kernel_rfl) rfl) rfl ?_; intro n w0 F0 G0
 refine zS ?_;repeat(refine yA ?_;intro p hp;refine zS ?_)
 refine W_loopJ (fun (b : Nat × Value) => ⟨[(0, .val ph), (1, .sl 2 pnC L), (6, .val b.2), (10, .sl 2 pnC L), (11, .val (.int .i64 L.length)), (12, .val (.int .i64 b.1))], [.row b.2 42 3 payC ((L.take b.1).map (payE f.ids (lf cu) L)), hsB ph f ow, .row ow 3 1 iC cu]⟩) (fun b => b.1 ≤ L.length ∧ (L.take b.1).all (fun e => decide (amt f.ids.length (lf cu) L e ≠ 0)) = true) (fun b => L.length - b.1) (0, .slice none 0 0) (fun _ _ st => st_sub2 (st_nil 42 3 payC st) zR zP) ⟨Nat.zero_le _, rfl⟩ ?_
 rintro ⟨j, v⟩ ⟨hj, hal⟩
 dsimp only at hj hal ⊢
 refine zS ?_;repeat(refine yA ?_;intro p hp;refine zS ?_)
 refine w_cond rfl (fun hlt => ?_) (fun hlt => ?_)
 ·have hj' : j < L.length := by simpa using hlt
  have hpL := List.getElem_mem hj'
  have hp := hok.lt _ hpL
  have hq1 : f.ids[L[j].1]? = some f.ids[L[j].1] := List.getElem?_eq_getElem hp.1
  have hq2 : f.ids[L[j].2]? = some f.ids[L[j].2] := List.getElem?_eq_getElem hp.2.1
  have hg1 : f.ids.getD L[j].1 0 = f.ids[L[j].1] := by simp [List.getD_eq_getElem?_getD, hq1]
  have hg2 : f.ids.getD L[j].2 0 = f.ids[L[j].2] := by simp [List.getD_eq_getElem?_getD, hq2]
  have hE : Gr.Ends L[j] L[j].2 L[j].1 := .inr ⟨rfl, rfl⟩
  obtain ⟨Q, hQ⟩ := Gr.side_of hf hpL hE
  have B := behind_con ph ow f cu L hn (by omega) hcl hbt hok ho hf hz f.ids.length L[j].2 L[j].1 ⟨L[j], hpL, hE, Q, hQ, Gr.cnt_le _ _⟩
  rw [Gr.beh_amt hok ho hf hz hpL] at B
  have hab := amt_bound hn hok hf hz hbb hpL
  have hmap : (L.take (j + 1)).map (payE f.ids (lf cu) L) = (L.take j).map (payE f.ids (lf cu) L) ++ [payE f.ids (lf cu) L L[j]] := by rw [List.take_succ_eq_append_getElem hj', List.map_append]; rfl
  have hall : (L.take (j + 1)).all (fun e => decide (amt f.ids.length (lf cu) L e ≠ 0)) = decide (amt f.ids.length (lf cu) L L[j] ≠ 0) := by rw [List.take_succ_eq_append_getElem hj', List.all_append, hal]; simp
  have hpy : payE f.ids (lf cu) L L[j] = if amt f.ids.length (lf cu) L L[j] < 0 then ⟨f.ids[L[j].2], f.ids[L[j].1], - amt f.ids.length (lf cu) L L[j]⟩ else ⟨f.ids[L[j].1], f.ids[L[j].2], amt f.ids.length (lf cu) L L[j]⟩ := by unfold payE; rw [hg1, hg2]
  have hno : amt f.ids.length (lf cu) L L[j] = 0 → ¬ L.all (fun e => decide (amt f.ids.length (lf cu) L e ≠ 0)) = true := fun h0 h => by
   have := List.all_eq_true.1 h _ hpL
   simp [h0] at this
  have hlt2 : (L.take j).length ≤ 10 := by rw [List.length_take]; omega
  refine zS ?_;repeat(refine yA ?_;intro p hp;refine zS ?_)
  refine W_run 27 [16, 17, 18, 19, 20, 21, 22, 23, 24, 25, 26, 27, 28, 29, 30, 31, 32, 33, 34, 35, 36, 37, 38, 39, 40, 41, 9] [0, 1, 2, 3, 4, 5, 6, 7, 8, 9, 10, 11, 12, 13, 14, 15, 16, 17, 18, 19, 20, 21, 22, 23, 24, 25, 26] Cut.nil rfl goFlt mixedS (by kernel_rfl) rfl ?_
  refine rpv [] [] ?_
  refine rpv [0] [] ?_
  refine rpv [1] [] ?_
  refine rpv [2] [] ?_
  refine rpv [3] [] ?_
  refine rpv [] [] ?_
  refine rpv [5] [] ?_
  refine rpv [4, 6] [] ?_
  refine rpv [7] [] ?_
  refine rpv [] [] ?_
  refine rpv [9] [] ?_
  refine rpv [10] [] ?_
  refine rpv [11] [] ?_
  refine rpv [12] [] ?_
  refine rpv [] [] ?_
  refine rpv [14] [] ?_
  refine rpv [13, 15] [] ?_
  refine rpv [16] [] ?_
  refine rpv [] [] ?_
  refine rpv [] [] ?_
  refine rpv [] [] ?_
  refine rpv [20] [] ?_
  refine rpv [] [] ?_
  refine rpv [22] [] ?_
  refine Run.pv [18, 19, 21, 23] [] rfl (fun vs => by apply ltr_pk; exact goPk; (refine ltr_call2 B ?_ zN zN; exact rfl)) goApp ?_
  refine rpv [8, 17, 24] [] ?_
  refine Run.tok [] [] rfl (fun vs => by apply ltr_pk; exact goPk; exact goLtr) goApp ?_
  refine ⟨⟨by kernel_rfl, by kernel_rfl⟩, fun vs => ?_⟩
  apply WL_auto [25, 26]
  ·exact goPk
  ·exact goNrm
  ·kernel_rfl
  ·kernel_rfl
  refine zS ?_;repeat(refine yA ?_;intro p hp;refine zS ?_)
  refine W_meet ⟨[(0, .val ph), (1, .sl 2 pnC L), (6, .val v), (10, .sl 2 pnC L), (11, .val (.int .i64 L.length)), (12, .val (.int .i64 j)), (9, .val (vs 26))], [.box (vs 26) (payC (payE f.ids (lf cu) L L[j])) 42, .row v 42 3 payC ((L.take j).map (payE f.ids (lf cu) L)), hsB ph f ow, .row ow 3 1 iC cu]⟩ ?_ ?_
  ·refine w_cond rfl (fun hneg => ?_) (fun hneg => ?_)
   ·rw [hpy, if_pos (by simpa using hneg)]
    refine zS ?_;repeat(refine yA ?_;intro p hp;refine zS ?_)
    exact ⟨rfl, fun _ _ st => st_sub2 st zR zP⟩
   ·rw [hpy, if_neg (by simpa using hneg)]
    refine zS ?_;repeat(refine yA ?_;intro p hp;refine zS ?_)
    exact ⟨rfl, fun _ _ st => st_sub2 st zR zP⟩
  ·have hz0 : (payE f.ids (lf cu) L L[j]).p = 0 ↔ amt f.ids.length (lf cu) L L[j] = 0 := by rw [hpy]; split <;> simp
   generalize payE f.ids (lf cu) L L[j] = py at hmap hz0 ⊢
   refine zS ?_;repeat(refine yA ?_;intro p hp;refine zS ?_)
   refine w_cond rfl (fun he => ?_) (fun he => ?_)
   ·have h0 : py.p = 0 := by have := of_decide_eq_true he; simpa using this
    rw [if_neg (hno (hz0.1 h0))]
    refine zS ?_;repeat(refine yA ?_;intro p hp;refine zS ?_)
    refine Res_nil 4 3 payC rfl ?_
    unfold treeA
    (apply resK2; exact rfl; exact rfl; exact rfl; exact ⟨rfl, rfl⟩; exact yC)
   ·have h0 : py.p ≠ 0 := fun h => by rw [h] at he; simp at he
    refine zS ?_;repeat(refine yA ?_;intro p hp;refine zS ?_)
    (apply wl_litF payC; exact inferInstance; exact inferInstance; exact inferInstance; exact zE; exact rfl; (first | exact (of_decide_eq_true rfl) | decide | (simp; done) | (simp; omega)); exact rfl)
    (first | (apply wl_append; exact rfl; exact rfl; exact zN; exact inferInstance; exact inferInstance; (first | omega | (simp; omega)); exact rfl) | (apply wl_appendN; exact rfl; exact rfl; exact inferInstance; exact inferInstance; (first | omega | (simp; omega)); exact rfl))
    intro v2
    rw [← hmap]
    refine zS ?_;repeat(refine yA ?_;intro p hp;refine zS ?_)
    (refine ⟨(j + 1, v2), fun _ _ st => st_sub2 st ?_ ?_, ?_, ?_⟩; exact zR; exact zP)
    ·exact ⟨hj', by rw [hall]; exact decide_eq_true fun h => h0 (hz0.2 h)⟩
    ·dsimp only; omega
 ·have hjj : j = L.length := by simp at hlt; omega
  subst hjj
  rw [List.take_length] at hal ⊢
  rw [if_pos hal]
  have hml : (L.map (payE f.ids (lf cu) L)).length ≤ 5 := by rw [List.length_map]; exact hl
  refine zS ?_;repeat(refine yA ?_;intro p hp;refine zS ?_)
  (apply wl_callP (sortP_con v (L.map (payE f.ids (lf cu) L)) 112 [] pyCmp hml (fun x y => payments_con x y)); exact rfl; exact yC; exact rfl)
  rintro _ _ ⟨rfl, rfl⟩
  refine zS ?_;repeat(refine yA ?_;intro p hp;refine zS ?_)
  (apply Res_frz 4; exact rfl; exact zN)
  unfold treeA
  (apply resK2; exact rfl; exact rfl; exact rfl; exact ⟨rfl, rfl⟩; exact yC)
end Go.Proofs.YtihonljdanjfmaaGreatDoor.Sw
namespace Go.Proofs.YtihonljdanjfmaaGreatDoor.Sw
open Go.RowKit Go
def scQ (Q : Exit → S → Prop) : Exit → S → Prop
 | .goto _, _ => False
 | e, s => Q e s
theorem W_scope {n : Nat} {P : Program} {w0 : World} {F0 : List Nat} {G0 : Nat → Option Obj} {nt : Nat} {wd : Wd Fence.wide} {s : S} {x : Code} {Q : Exit → S → Prop} (h : W (Cx.mk Fence.wide n P w0 F0 G0 nt wd) x s (scQ Q)) : W (Cx.mk Fence.wide n P w0 F0 G0 nt wd) (.scope x) s Q := ⟨fun a w st => by
 refine wpIn_wide.2 (wp_scope_straight (wpIn_wide.1 (Go.wpIn_mono (h.out a w st) fun e a' w' ⟨s', st', q⟩ => ?_)))
 cases e with
 | goto l => exact q
 | _ => exact ⟨s', st', q⟩⟩
theorem W_label {c : Cx} {s : S} {l : Nat} {Q : Exit → S → Prop} (h : Q .normal s) : W c (.label l) s Q := ⟨fun _ _ st => wpIn_label ⟨s, st, h⟩⟩
section
variable {P : Program} {rs : List (Nat × AV)} {d : Option Nat} {ty : TypeId} {pos : String} {af : Array Edge} {g : Option (Nat × Bool)}
def bndV (k : FuncId) (u : Value) : Value := .func (.func k) #[u] #[]
theorem lt_bind {k : FuncId} {x : Operand} {u : Value} (hx : opv rs x = some (.val u)) : LT P ⟨d, .makeFunc (.func k) #[x] #[], ty, pos, af, g⟩ rs [] (Is (.val (bndV k u)) []) :=
 LT_val (fun _ e => by cases e) fun a w G hR hG => ⟨_, rfl, by
  have e1 : a.eval x = _ := opv_ok hR hx
  have e2 : (#[x] : Array Operand).map a.eval = #[u] := by rw [List.map_toArray, List.map_cons, List.map_nil, e1]
  simp only [execOp, e2]
  simp [Instr.makeFunc, go_sem, bndV]⟩
theorem lt_callB {x : Operand} {k : FuncId} {u : Value} {xs : List Operand} {ts : Array TypeId} {avs : List AV} {pre : List HA} {post : AV → List HA → Prop} (hf : opv rs x = some (.val (bndV k u))) (hx : opvs rs xs = some avs) (hc : Con P k (.val u :: avs) pre post) :
  LT P ⟨d, .call { callee := .value x, args := xs.toArray, argTypes := ts }, ty, pos, af, g⟩ rs pre post := by
 refine ⟨?_⟩
 intro F n hF a w G Fp K Q hR hI hk
 have e1 : a.eval x = bndV k u := opv_ok hR hf
 have hv := opvs_ok hR hx
 have hcalls := hc.calls G Fp (u :: xs.map a.eval) w ⟨rfl, hv⟩ hI
 unfold Oper.wpIn
 refine ⟨fun f _ => hF.fn f, ?_⟩
 rw [Oper.semAt_eq _ _ _ (fun _ e => by cases e)]
 have hr : (execOp a.eval ⟨d, .call { callee := .value x, args := xs.toArray, argTypes := ts }, ty, pos, af, g⟩).run P w = .ok (.enter k (u :: xs.map a.eval).toArray) w := by
  simp [execOp, resolve, e1, bndV, Deferred.ofValue, invoke, hc.enters]
 rw [hr]
 refine ⟨fun h => (by rw [hF.depth] at h; cases h), hF.calls (hcalls.mono ?_)⟩
 rintro e w' ⟨v, av, prod, G', F', rfl, hp, hfr, hi, hv⟩
 exact hk v av prod G' F' w' hp hfr hi hv
end
section
variable {c : Cx} {rs : List (Nat × AV)} {hs r : List HA} {Q : Exit → S → Prop} {ops : Array Oper} {tl : List Oper} {d : Nat} {ty : TypeId} {pos : String} {af : Array Edge}
theorem wl_bind {k : FuncId} {x : Operand} {u : Value} (hx : opv rs x = some (.val u)) (hd : Nat.blt d c.nt = true) (kk : WL c ops tl ⟨(d, .val (bndV k u)) :: rs, hs⟩ Q) : WL c ops (⟨some d, .makeFunc (.func k) #[x] #[], ty, pos, af, none⟩ :: tl) ⟨rs, hs⟩ Q := wl_ex (lt_bind hx) hd kk
theorem wl_callB {x : Operand} {k : FuncId} {u : Value} {xs : List Operand} {ts : Array TypeId} {avs : List AV} {pre : List HA} {post : AV → List HA → Prop} (hc : Con c.P k (.val u :: avs) pre post) (hf : opv rs x = some (.val (bndV k u))) (hx : opvs rs xs = some avs) (hcut : Cut hs pre r) (hd : Nat.blt d c.nt = true) (kk : ∀ av prod, post av prod → WL c ops tl ⟨(d, av) :: rs, prod ++ r⟩ Q) : WL c ops (⟨some d, .call { callee := .value x, args := xs.toArray, argTypes := ts }, ty, pos, af, none⟩ :: tl) ⟨rs, hs⟩ Q :=
 WL_lt (cons := pre) (rest := r) hd rfl (fun _ _ _ h => hcut.sel h) (lt_callB hf hx hc) kk
theorem wl_callVP {x : Operand} {k : FuncId} {caps : List AV} {xs : List Operand} {ts : Array TypeId} {avs : List AV} {pre : List HA} {post : AV → List HA → Prop} (hc : Con c.P k (avs ++ caps) pre post) (hf : opv rs x = some (.clo k caps)) (hx : opvs rs xs = some avs) (hcut : Cut hs pre r) (hd : Nat.blt d c.nt = true) (kk : ∀ av prod, post av prod → WL c ops tl ⟨(d, av) :: rs, prod ++ r⟩ Q) : WL c ops (⟨some d, .call { callee := .value x, args := xs.toArray, argTypes := ts }, ty, pos, af, none⟩ :: tl) ⟨rs, hs⟩ Q :=
 WL_lt (cons := pre) (rest := r) hd rfl (fun _ _ _ h => hcut.sel h) (lt_callV hf hx hc) kk
theorem wl_yield {x : Operand} {y : Value} {xs : List Operand} {ts : Array TypeId} {avs : List AV} {pre : List HA} {post : AV → List HA → Prop} (hc : Yield c.P y avs pre post) (hf : opv rs x = some (.val y)) (hx : opvs rs xs = some avs) (hcut : Cut hs pre r) (hd : Nat.blt d c.nt = true) (kk : ∀ av prod, post av prod → WL c ops tl ⟨(d, av) :: rs, prod ++ r⟩ Q) : WL c ops (⟨some d, .call { callee := .value x, args := xs.toArray, argTypes := ts }, ty, pos, af, none⟩ :: tl) ⟨rs, hs⟩ Q :=
 WL_lt (cons := pre) (rest := r) hd rfl (fun _ _ _ h => hcut.sel h) (lt_yield hf hx hc) kk
end
end Go.Proofs.YtihonljdanjfmaaGreatDoor.Sw
namespace Go.Proofs.YtihonljdanjfmaaGreatDoor.Sw
open Go.RowKit Go Go.Shelf Go.Proofs
open Go.Proofs.YtihonljdanjfmaaGreatDoor.Gr (Ok Ord Forest Zr lf headsR hf Lab)
theorem clonePr_con (xs : List (Nat × Nat)) (hl : xs.length ≤ 100000) : Con Tryz.prog 122 [.sl 2 pnC xs] [] (Tok 122 2 pnC xs) := by
 refine con_of Tryz.func122 rfl (enters_of Tryz.func122 (by kernel_rfl) rfl) rfl ?_; intro n w0 F0 G0
 refine zS ?_
 apply wl_eqlNil
 ·exact rfl
 ·exact inferInstance
 ·exact rfl
 intro b hb
 refine zS ?_
 refine w_cond rfl (fun h => ?_) (fun h => ?_)
 ·obtain rfl := hb h
  refine zS ?_
  refine Res_row0 122 2 pnC ?_
  (apply resK; exact rfl; exact rfl; (apply Cut.cons; exact zN; exact Cut.nil); exact ⟨_, rfl, rfl⟩)
 ·refine zS ?_
  (apply wl_lit pnC; exact inferInstance; exact inferInstance; exact inferInstance; exact zE; exact rfl; (first | exact (of_decide_eq_true rfl) | decide | (simp; done) | (simp; omega)); exact rfl)
  intro v0
  refine zS ?_
  (first | (apply wl_append; exact rfl; exact rfl; exact zN; exact inferInstance; exact inferInstance; (first | omega | (simp; omega)); exact rfl) | (apply wl_appendN; exact rfl; exact rfl; exact inferInstance; exact inferInstance; (first | omega | (simp; omega)); exact rfl))
  intro v1
  refine zS ?_
  (apply resK; exact rfl; exact rfl; (apply Cut.cons; exact zN; exact Cut.nil); exact ⟨_, rfl, rfl⟩)
def apB (n : Nat) (l : List (Nat × Nat)) (p : Nat × Nat) : Bool := decide (hf (headsR n l) p.1 ≠ hf (headsR n l) p.2)
noncomputable def leafG (f : Flo) (cu : List Int) (l : List (Nat × Nat)) : List (List Pay) := if evB f.ids.length l cu = true then (lstR f.ids l cu).toList else []
noncomputable def chG (f : Flo) (cu : List Int) (many : Nat) : List (Nat × Nat) → List (Nat × Nat) → List (List Pay)
 | [], l => if l.length = many then leafG f cu l else []
 | p :: t, l => if l.length = many then leafG f cu l else (if apB f.ids.length l p = true then chG f cu many t (l ++ [p]) else []) ++ chG f cu many t l
theorem chG_yes {f : Flo} {cu : List Int} {many : Nat} {l : List (Nat × Nat)} (h : l.length = many) : ∀ rest, chG f cu many rest l = leafG f cu l
 | [] => by rw [chG, if_pos h]
 | _ :: _ => by rw [chG, if_pos h]
theorem chG_nil {f : Flo} {cu : List Int} {many : Nat} {l : List (Nat × Nat)} (h : l.length ≠ many) : chG f cu many [] l = [] := by rw [chG, if_neg h]
theorem chG_cons {f : Flo} {cu : List Int} {many : Nat} {p : Nat × Nat} {t l : List (Nat × Nat)} (h : l.length ≠ many) : chG f cu many (p :: t) l = (if apB f.ids.length l p = true then chG f cu many t (l ++ [p]) else []) ++ chG f cu many t l := by rw [chG, if_neg h]
structure Chs (n : Nat) (Lp : List (Nat × Nat)) (fr many : Nat) (l : List (Nat × Nat)) : Prop where
 nd : l.Nodup
 sub : ∀ q ∈ l, q ∈ Lp.take fr
 fo : Forest l
 le : l.length ≤ many
theorem Chs.props {n : Nat} {Lp : List (Nat × Nat)} {fr many : Nat} {l : List (Nat × Nat)} (h : Chs n Lp fr many l) (hL : ∀ p ∈ Lp, p.1 < p.2 ∧ p.2 < n) : Ok n l ∧ Ord l ∧ ∀ p ∈ l, p.1 < n ∧ p.2 < n := by
 have hm : ∀ p ∈ l, p.1 < p.2 ∧ p.2 < n := fun p hp => hL p (List.mem_of_mem_take (h.sub p hp))
 exact ⟨⟨h.nd, fun p hp => by have := hm p hp; omega⟩, fun p hp => (hm p hp).1, fun p hp => by have := hm p hp; omega⟩
theorem Chs.step {n : Nat} {Lp : List (Nat × Nat)} {fr many i : Nat} {l : List (Nat × Nat)} (h : Chs n Lp fr many l) (hn : Lp.Nodup) (hL : ∀ p ∈ Lp, p.1 < p.2 ∧ p.2 < n) (hfr : fr ≤ i) (hi : i < Lp.length) (hne : l.length ≠ many) (hap : apB n l Lp[i] = true) : Chs n Lp (i + 1) many (l ++ [Lp[i]]) := by
 obtain ⟨hok, _, hlt⟩ := h.props hL
 have hni : Lp[i] ∉ l := fun hm => by
  have h1 := List.mem_of_mem_take (show Lp[i] ∈ Lp.take fr from h.sub _ hm)
  obtain ⟨j, hj, e⟩ := List.getElem_of_mem (h.sub _ hm)
  rw [List.getElem_take] at e
  have hjl : j < Lp.length := by rw [List.length_take] at hj; omega
  have hj2 : j < fr := by rw [List.length_take] at hj; omega
  have := (List.getElem_inj hn).1 e
  omega
 have hnd : (l ++ [Lp[i]]).Nodup := List.nodup_append.2 ⟨h.nd, by simp, fun a ha b hb e => by
  have : b = Lp[i] := by simpa using hb
  subst e this; exact hni ha⟩
 have hp := hL _ (List.getElem_mem hi)
 refine ⟨hnd, fun q hq => ?_, (Gr.forest_snoc hnd).2 ⟨h.fo, (Gr.lab_apart (Gr.lab_all hlt) (by omega) hp.2).1 (of_decide_eq_true hap)⟩, by rw [List.length_append, List.length_singleton]; have := h.le; omega⟩
 rw [List.take_succ_eq_append_getElem hi]
 rcases List.mem_append.1 hq with hq | hq
 ·refine List.mem_append.2 (.inl ?_)
  have := h.sub q hq
  exact List.take_subset_take_left Lp hfr this
 ·exact List.mem_append.2 (.inr hq)
abbrev capC (ph yv p9 : Value) (many : Nat) (Lp : List (Nat × Nat)) : List AV := [.fp 1 [.val (.int .i64 many)], .fp 1 [.val ph], .fp 1 [.val yv], .fp 1 [.sl 2 pnC Lp], .val p9]
abbrev preC {β : Type} (ph ow yv p9 : Value) (f : Flo) (cu : List Int) (many : Nat) (Lp : List (Nat × Nat)) (H : β → List HA) (b : β) : List HA := [.box p9 [.clo 120 (capC ph yv p9 many Lp)] 172, hsB ph f ow, .row ow 3 1 iC cu, .pack (H b)]
def lsC (x : List Pay) (_ : Unit) : List AV := [.sl 3 payC x]
theorem choose_con {β βx : Type} (ph ow yv p9 : Value) (f : Flo) (cu : List Int) (many : Nat) (Lp : List (Nat × Nat)) (XS : List (List Pay)) (H : β → List HA) (Hx : βx → List HA) (I : Nat → β → Prop) (Ix : Nat → βx → Prop)
  (hF : FloF f) (hm5 : many ≤ 5) (hLn : Lp.Nodup) (hLl : Lp.length ≤ 15) (hL : ∀ p ∈ Lp, p.1 < p.2 ∧ p.2 < f.ids.length) (hcl : cu.length = f.ids.length) (hbt : Btw (-1000000000) 1000000000 cu)
  (hY : ∀ k (hk : k < XS.length) b (u : Unit), I k b → Yield Tryz.prog yv (lsC XS[k] u) (([hsB ph f ow, .row ow 3 1 iC cu] ++ []) ++ [.pack (H b)]) fun av prod => (av = .val (.bool true) ∧ ∃ b', I (k + 1) b' ∧ prod = [hsB ph f ow, .row ow 3 1 iC cu] ++ [.pack (H b')]) ∨ (av = .val (.bool false) ∧ ∃ b', Ix (k + 1) b' ∧ prod = [hsB ph f ow, .row ow 3 1 iC cu] ++ [.pack (Hx b')])) :
  ∀ (m fr : Nat) (l : List (Nat × Nat)) (k0 : Nat) (b : β), Lp.length - fr = m → fr ≤ Lp.length → Chs f.ids.length Lp fr many l → chG f cu many (Lp.drop fr) l <+: XS.drop k0 → I k0 b →
   Con Tryz.prog 120 ([.sl 2 pnC l, .val (.int .i64 fr)] ++ capC ph yv p9 many Lp) (preC ph ow yv p9 f cu many Lp H b) fun av prod =>
    (av = .val (.bool true) ∧ ∃ b', I (k0 + (chG f cu many (Lp.drop fr) l).length) b' ∧ prod = preC ph ow yv p9 f cu many Lp H b') ∨
    (av = .val (.bool false) ∧ ∃ k b', 0 < k ∧ k ≤ XS.length ∧ Ix k b' ∧ prod = preC ph ow yv p9 f cu many Lp Hx b') := by
 have hn := hF.ids
 intro m
 induction m using Nat.strongRecOn with
 | _ m ih =>
  intro fr l k0 b hfm hfr hch hpre hI
  obtain ⟨hok, hord, hlt⟩ := hch.props hL
  have hle := hch.le
  have hbb := hbt
  refine con_of Tryz.func120 rfl (enters_of Tryz.func120 (by kernel_rfl) rfl) rfl ?_; intro n w0 F0 G0
  refine zS ?_;repeat(refine yA ?_;intro p hp;refine zS ?_)
  refine W_scope ?_
  refine zS ?_;repeat(refine yA ?_;intro p hp;refine zS ?_)
  refine w_cond rfl (fun hm => ?_) (fun hm => ?_)
  ·have hm' : l.length = many := by have := of_decide_eq_true hm; omega
   rw [chG_yes hm'] at hpre ⊢
   unfold leafG at hpre ⊢
   refine zS ?_;repeat(refine yA ?_;intro p hp;refine zS ?_)
   (apply wl_callP (even_con ph ow f cu l (by omega) (by omega) hlt hcl hbt); exact rfl; exact yC; exact rfl)
   rintro _ _ ⟨rfl, rfl⟩
   refine zS ?_;repeat(refine yA ?_;intro p hp;refine zS ?_)
   cases hev : evB f.ids.length l cu with
   | false =>
    rw [if_neg (by simp)]
    refine zS ?_;repeat(refine yA ?_;intro p hp;refine zS ?_)
    (apply resK1; exact rfl; exact rfl; exact .inl ⟨rfl, b, hI, rfl⟩; exact yC)
   | true =>
    rw [if_pos rfl]
    rw [hev, if_pos rfl] at hpre
    have hz := (evB_iff hlt).1 hev
    have CL := list_con ph ow f cu l (by omega) (by omega) hcl hbt hok hord hch.fo hz
    refine zS ?_;repeat(refine yA ?_;intro p hp;refine zS ?_)
    cases hls : lstR f.ids l cu with
    | none =>
     rw [hls] at CL
     unfold treeA at CL
     (apply wl_callP (CL); exact rfl; exact yC; exact rfl)
     rintro _ _ ⟨rfl, rfl⟩
     refine zS ?_;repeat(refine yA ?_;intro p hp;refine zS ?_)
     (apply resK1; exact rfl; exact rfl; exact .inl ⟨rfl, b, hI, rfl⟩; exact yC)
    | some out =>
     rw [hls] at CL hpre
     unfold treeA at CL
     obtain ⟨s, hs⟩ := hpre
     have hk0 : k0 < XS.length := by
      have := congrArg List.length hs
      simp at this; omega
     have hx0 : XS[k0] = out := by
      have h1 : out :: s = XS[k0] :: XS.drop (k0 + 1) := hs.trans (List.drop_eq_getElem_cons hk0)
      injection h1 with h1 h2
      exact h1.symm
     have Y := hY k0 hk0 b () hI
     rw [hx0] at Y
     (apply wl_callP (CL); exact rfl; exact yC; exact rfl)
     rintro _ _ ⟨rfl, rfl⟩
     refine zS ?_;repeat(refine yA ?_;intro p hp;refine zS ?_)
     (apply wl_yield Y; exact rfl; exact rfl; exact yC; exact rfl)
     rintro _ _ (⟨rfl, b', hb', rfl⟩ | ⟨rfl, b', hb', rfl⟩)
     ·refine zS ?_;repeat(refine yA ?_;intro p hp;refine zS ?_)
      (apply resK1; exact rfl; exact rfl; exact .inl ⟨rfl, b', hb', rfl⟩; exact yC)
     ·refine zS ?_;repeat(refine yA ?_;intro p hp;refine zS ?_)
      (apply resK1; exact rfl; exact rfl; exact .inr ⟨rfl, k0 + 1, b', by omega, by omega, hb', rfl⟩; exact yC)
  ·have hm' : l.length ≠ many := fun h => by have := of_decide_eq_false hm; omega
   have hrest : chG f cu many (Lp.drop fr) l = chG f cu many (Lp.drop fr) l := rfl
   refine zS ?_;repeat(refine yA ?_;intro p hp;refine zS ?_)
   (apply wl_callP (groups_con ph ow f l (by omega) (by omega) hlt); exact rfl; exact yC; exact rfl)
   rintro _ _ ⟨u, rfl, rfl⟩
   refine zS ?_;repeat(refine yA ?_;intro p hp;refine zS ?_)
   refine W_label ?_
   refine zS ?_;repeat(refine yA ?_;intro p hp;refine zS ?_)
   have hhl := headsR_len f.ids.length l
   have hhf : ∀ v, v < f.ids.length → hf (headsR f.ids.length l) v = (headsR f.ids.length l).getD v 0 := fun v _ => rfl
   unfold preC
   refine W_loopJ (fun (b : Nat × Nat × β) => ⟨[(0, .sl 2 pnC l), (2, .fp 1 [.val (.int .i64 many)]), (3, .fp 1 [.val ph]), (4, .fp 1 [.val yv]), (5, .fp 1 [.sl 2 pnC Lp]), (6, .val p9), (12, .val u), (13, .val (.int .i64 b.1))], [.row u 3 1 nC (headsR f.ids.length l), .box p9 [.clo 120 (capC ph yv p9 many Lp)] 172, hsB ph f ow, .row ow 3 1 iC cu, .pack (H b.2.2)]⟩)
    (fun b => fr ≤ b.1 ∧ b.1 ≤ Lp.length ∧ I b.2.1 b.2.2 ∧ chG f cu many (Lp.drop b.1) l <+: XS.drop b.2.1 ∧ b.2.1 + (chG f cu many (Lp.drop b.1) l).length = k0 + (chG f cu many (Lp.drop fr) l).length) (fun b => Lp.length - b.1) (fr, k0, b) (fun _ _ st => st_sub2 st zR zP) ⟨Nat.le_refl _, hfr, hI, hpre, rfl⟩ ?_
   rintro ⟨i, k, b2⟩ ⟨hi1, hi2, hIk, hpk, hkl⟩
   dsimp only at hi1 hi2 hIk hpk hkl ⊢
   refine zS ?_;repeat(refine yA ?_;intro p hp;refine zS ?_)
   refine w_cond rfl (fun hlt2 => ?_) (fun hlt2 => ?_)
   ·have hi' : i < Lp.length := by simpa using hlt2
    have hp := hL _ (List.getElem_mem hi')
    have hq3 : Lp[i]? = some Lp[i] := List.getElem?_eq_getElem hi'
    rw [drop_step hi', chG_cons hm'] at hpk hkl
    have hq1 : (headsR f.ids.length l)[Lp[i].1]? = some (headsR f.ids.length l)[Lp[i].1] := List.getElem?_eq_getElem (by omega)
    have hq2 : (headsR f.ids.length l)[Lp[i].2]? = some (headsR f.ids.length l)[Lp[i].2] := List.getElem?_eq_getElem (by omega)
    have hap : apB f.ids.length l Lp[i] = !decide (((headsR f.ids.length l)[Lp[i].1] : Int) = (headsR f.ids.length l)[Lp[i].2]) := by
     unfold apB
     rw [hf_at (by omega), hf_at (by omega)]
     by_cases h : (headsR f.ids.length l)[Lp[i].1] = (headsR f.ids.length l)[Lp[i].2]
     ·simp [h]
     ·rw [decide_eq_true h, decide_eq_false (fun e => h (by omega))]; rfl
    refine zS ?_;repeat(refine yA ?_;intro p hp;refine zS ?_)
    refine W_run 10 [50, 51, 52, 53, 54, 55, 56, 57, 58, 59] [0, 1, 2, 3, 4, 5, 6, 7, 8, 9] Cut.nil rfl goFlt mixedS (by kernel_rfl) rfl ?_
    refine rpv [] [] ?_
    refine rpv [] [] ?_
    refine rpv [1] [] ?_
    refine rpv [0, 2] [] ?_
    refine rpv [3] [] ?_
    refine rpv [] [] ?_
    refine rpv [] [] ?_
    refine rpv [6] [] ?_
    refine rpv [5, 7] [] ?_
    refine rpv [8] [] ?_
    refine ⟨⟨by kernel_rfl, by kernel_rfl⟩, fun vs => ?_⟩
    apply WL_auto [4, 9]
    ·exact goPk
    ·exact goNrm
    ·kernel_rfl
    ·kernel_rfl
    refine zS ?_;repeat(refine yA ?_;intro p hp;refine zS ?_)
    refine w_cond rfl (fun heq => ?_) (fun heq => ?_)
    ·rw [heq] at hap
     rw [hap, if_neg (by simp), List.nil_append] at hpk hkl
     refine zS ?_;repeat(refine yA ?_;intro p hp;refine zS ?_)
     (refine ⟨(i + 1, k, b2), fun _ _ st => st_sub2 st ?_ ?_, ?_, ?_⟩; exact zR; exact zP)
     ·exact ⟨by dsimp only; omega, hi', hIk, hpk, hkl⟩
     ·dsimp only; omega
    ·rw [heq] at hap
     rw [hap, if_pos (by rfl), List.length_append] at hkl
     rw [hap, if_pos (by rfl)] at hpk
     have hch2 := hch.step hLn hL hi1 hi' hm' hap
     have IH := ih (Lp.length - (i + 1)) (by omega) (i + 1) (l ++ [Lp[i]]) k b2 rfl hi' hch2 ((List.prefix_append _ _).trans hpk) hIk
     refine zS ?_;repeat(refine yA ?_;intro p hp;refine zS ?_)
     refine W_run 11 [61, 62, 63, 64, 65, 66, 67, 68, 69, 70, 71] [0, 1, 3, 4, 5, 6, 7, 8, 9, 10] Cut.nil rfl goFlt mixedS (by kernel_rfl) rfl ?_
     refine rpv [] [] ?_
     refine rpv [] [] ?_
     refine Run.tok [1] [] rfl (fun vs => by apply ltr_pk; exact goPk; (refine ltr ?_; refine lt_call ?_ (clonePr_con l (by omega)); exact rfl)) goApp ?_
     refine Run.pv [] [] rfl (fun vs => by apply ltr_pk; exact goPk; (refine ltr ?_; apply lt_loadE1'; exact rfl; exact rfl; exact rfl)) goApp ?_
     refine rpv [] [] ?_
     refine rpv [3, 4] [] ?_
     refine rpv [5] [] ?_
     refine Run.pv [6] [] rfl (fun vs => by apply ltr_pk; exact goPk; (refine ltr ?_; apply LT_frz; apply lt_lit (f := pnC); exact zE; exact rfl; (first | exact (of_decide_eq_true rfl) | decide | (simp; done) | (simp; omega)))) goApp ?_
     refine Run.tok [2, 7] [2] rfl (fun vs => by apply ltr_pk; exact goPk; (refine ltr ?_; apply lt_append; exact rfl; exact rfl; (first | omega | (simp; omega)))) goApp ?_
     refine rpv [] [] ?_
     refine rpv [9] [] ?_
     refine ⟨⟨by kernel_rfl, by kernel_rfl⟩, fun vs => ?_⟩
     apply WL_auto [0, 8, 10]
     ·exact goPk
     ·exact goNrm
     ·kernel_rfl
     ·kernel_rfl
     refine zS ?_;repeat(refine yA ?_;intro p hp;refine zS ?_)
     (apply WL_frz 69; exact rfl; exact zN)
     refine zS ?_;repeat(refine yA ?_;intro p hp;refine zS ?_)
     (apply wl_callVP IH; exact rfl; exact rfl; exact yC; exact rfl)
     rintro _ _ (⟨rfl, b', hb', rfl⟩ | ⟨rfl, k', b', h1, h2, hb', rfl⟩)
     ·refine zS ?_;repeat(refine yA ?_;intro p hp;refine zS ?_)
      (refine ⟨(i + 1, k + (chG f cu many (Lp.drop (i + 1)) (l ++ [Lp[i]])).length, b'), fun _ _ st => st_sub2 st ?_ ?_, ?_, ?_⟩; exact zR; exact zP)
      ·refine ⟨by dsimp only; omega, hi', hb', ?_, by dsimp only; omega⟩
       obtain ⟨s, hs⟩ := hpk
       refine ⟨s, ?_⟩
       have := congrArg (List.drop (chG f cu many (Lp.drop (i + 1)) (l ++ [Lp[i]])).length) hs
       rw [List.append_assoc, List.drop_left, List.drop_drop] at this
       exact this
      ·dsimp only; omega
     ·refine zS ?_;repeat(refine yA ?_;intro p hp;refine zS ?_)
      (apply resK1; exact rfl; exact rfl; exact .inr ⟨rfl, k', b', h1, h2, hb', rfl⟩; exact yC)
   ·have hii : i = Lp.length := by simp at hlt2; omega
    subst hii
    rw [List.drop_length, chG_nil hm'] at hkl
    refine zS ?_;repeat(refine yA ?_;intro p hp;refine zS ?_)
    have hIf : I (k0 + (chG f cu many (Lp.drop fr) l).length) b2 := by rw [← hkl]; exact hIk
    (apply resK1; exact rfl; exact rfl; exact .inl ⟨rfl, b2, hIf, rfl⟩; exact yC)
theorem Con.arg {P : Program} {k : FuncId} {av av' : AV} {t : List AV} {pre : List HA} {post : AV → List HA → Prop} (h : ∀ G v, av.P G v → av'.P G v) (c : Con P k (av' :: t) pre post) : Con P k (av :: t) pre post :=
 ⟨c.enters, fun G Fp vs w hf hI => by
  match vs, hf with
  | v :: vs, ⟨h1, h2⟩ => exact c.calls G Fp (v :: vs) w ⟨h _ _ h1, h2⟩ hI⟩
noncomputable def lstsR (f : Flo) (cu : List Int) (many : Nat) : List (List Pay) := chG f cu many (prP (spk f) f.ids.length) []
theorem prI_nodup (sp : Nat → Nat → Bool) (i k : Nat) : (prI sp i k).Nodup := by
 unfold prI
 rw [List.Nodup, List.pairwise_map]
 exact (List.nodup_range.filter _).imp fun h e => h (by injection e)
theorem prP_nodup (sp : Nat → Nat → Bool) : ∀ n, (prP sp n).Nodup
 | 0 => by simp [prP]
 | n + 1 => by
  rw [prP_succ]
  refine List.nodup_append.2 ⟨prP_nodup sp n, prI_nodup sp _ _, fun a ha b hb e => ?_⟩
  subst e
  have h1 := prP_mem.1 ha
  have h2 := prI_mem.1 hb
  omega
def triP : Nat → Nat
 | 0 => 0
 | n + 1 => triP n + n
theorem prP_tri (sp : Nat → Nat → Bool) : ∀ n, (prP sp n).length ≤ triP n
 | 0 => by simp [prP, triP]
 | n + 1 => by
  have h1 := prP_tri sp n
  have h2 := prI_len sp n n
  rw [prP_succ, List.length_append, triP]; omega
theorem prP_15 (sp : Nat → Nat → Bool) {n : Nat} (h : n ≤ 6) : (prP sp n).length ≤ 15 := by
 refine Nat.le_trans (prP_tri sp n) ?_
 have : n = 0 ∨ n = 1 ∨ n = 2 ∨ n = 3 ∨ n = 4 ∨ n = 5 ∨ n = 6 := by omega
 rcases this with rfl | rfl | rfl | rfl | rfl | rfl | rfl <;> decide
theorem lists_iter (ph ow : Value) (f : Flo) (cu : List Int) (many : Nat) (hok : floOk f = true) (hql : f.qs.length ≤ 1000) (hm5 : many ≤ 5) (hcl : cu.length = f.ids.length) (hbt : Btw (-1000000000) 1000000000 cu) :
  Iter Tryz.prog 119 [.fp 1 [.val ph], .fp 1 [.val (.int .i64 many)]] [hsB ph f ow, .row ow 3 1 iC cu] lsC (fun _ _ => []) (lstsR f cu many) := by
 have hF := flo_f hok
 have hn := hF.ids
 have hr := rises_of_ok hok
 have h15 := prP_15 (spk f) hn
 have hll : ∀ n, n ≤ 6 → (prP (spk f) n).length ≤ 15 := fun n hn => prP_15 (spk f) hn
 refine ⟨fun yv β βx H Hx I Ix hone hY b0 hI0 => ?_⟩
 refine con_of Tryz.func119 rfl (enters_of Tryz.func119 (by kernel_rfl) rfl) rfl ?_; intro n w0 F0 G0
 refine zS ?_;repeat(refine yA ?_;intro p hp;refine zS ?_)
 rename_i p3 hp3
 (apply WL_frzb 3 1; exact rfl; exact zN)
 (apply wl_bind; exact rfl; exact rfl)
 refine zS ?_;repeat(refine yA ?_;intro p hp;refine zS ?_)
 refine W_loopJ (fun (b : Nat × Value) => ⟨[(1, .fp 1 [.val ph]), (2, .fp 1 [.val (.int .i64 many)]), (3, .fp 1 [.val yv]), (4, .val p), (5, .val (bndV 89 ph)), (17, .val (.int .i64 f.ids.length)), (18, .val (.int .i64 b.1))], [.box p [.val b.2] 119, .row b.2 122 2 pnC (prP (spk f) b.1), hsB ph f ow, .row ow 3 1 iC cu, .pack (H b0)]⟩) (fun b => b.1 ≤ f.ids.length) (fun b => f.ids.length - b.1) (0, .slice none 0 0) (fun _ _ st => st_sub2 (st_nil 122 2 pnC st) zR zP) (Nat.zero_le _) ?_
 rintro ⟨i, v⟩ hi
 dsimp only at hi ⊢
 refine zS ?_;repeat(refine yA ?_;intro p hp;refine zS ?_)
 refine w_cond rfl (fun hlt => ?_) (fun hlt => ?_)
 ·have hi' : i < f.ids.length := by simpa using hlt
  have hl1 := hll i (by omega)
  refine zS ?_;repeat(refine yA ?_;intro p hp;refine zS ?_)
  refine W_loopJ (fun (b : Nat × Value) => ⟨[(1, .fp 1 [.val ph]), (2, .fp 1 [.val (.int .i64 many)]), (3, .fp 1 [.val yv]), (4, .val p), (5, .val (bndV 89 ph)), (17, .val (.int .i64 f.ids.length)), (18, .val (.int .i64 i)), (6, .val (.int .i64 i)), (21, .val (.int .i64 i)), (22, .val (.int .i64 b.1))], [.box p [.val b.2] 119, .row b.2 122 2 pnC (prP (spk f) i ++ prI (spk f) i b.1), hsB ph f ow, .row ow 3 1 iC cu, .pack (H b0)]⟩) (fun b => b.1 ≤ i) (fun b => i - b.1) (0, v) (fun _ _ st => st_sub2 st zR (by rw [show prI (spk f) i 0 = [] from rfl, List.append_nil]; exact zP)) (Nat.zero_le _) ?_
  rintro ⟨k, u⟩ hk
  dsimp only at hk ⊢
  refine zS ?_;repeat(refine yA ?_;intro p hp;refine zS ?_)
  refine w_cond rfl (fun hlt2 => ?_) (fun hlt2 => ?_)
  ·have hk' : k < i := by simpa using hlt2
   have hl2 := prI_len (spk f) i k
   have hks : k < f.ids.length := by omega
   have S := speak_con ph ow f k i hks hi' hr (by omega) hql
   rw [show speakR f.qs f.ids[k] f.ids[i] = spk f k i from by simp [spk, List.getD_eq_getElem?_getD, hks, hi']] at S
   have hsu := prI_succ (spk f) i k
   refine zS ?_;repeat(refine yA ?_;intro p hp;refine zS ?_)
   (apply wl_callB S; exact rfl; exact rfl; exact yC; exact rfl)
   rintro _ _ ⟨rfl, rfl⟩
   refine zS ?_;repeat(refine yA ?_;intro p hp;refine zS ?_)
   refine w_cond rfl (fun hs => ?_) (fun hs => ?_)
   ·rw [if_pos hs] at hsu
    refine zS ?_;repeat(refine yA ?_;intro p hp;refine zS ?_)
    refine WL_as 32 (.agg (pnC (k, i))) rfl ?_
    (apply wl_litF pnC; exact inferInstance; exact inferInstance; exact inferInstance; exact zE; exact rfl; (first | exact (of_decide_eq_true rfl) | decide | (simp; done) | (simp; omega)); exact rfl)
    (first | (apply wl_append; exact rfl; exact rfl; exact zN; exact inferInstance; exact inferInstance; (first | omega | (simp; omega)); exact rfl) | (apply wl_appendN; exact rfl; exact rfl; exact inferInstance; exact inferInstance; (first | omega | (simp; omega)); exact rfl))
    intro v2
    rw [List.append_assoc, ← hsu]
    refine WL_one At.here (fun hone2 => ?_)
    refine zS ?_;repeat(refine yA ?_;intro p hp;refine zS ?_)
    (refine ⟨(k + 1, v2), fun _ _ st => st_sub2 st ?_ ?_, ?_, ?_⟩; exact zR; exact zP)
    ·dsimp only; omega
    ·dsimp only; omega
   ·rw [if_neg (by rw [hs]; simp)] at hsu
    rw [← hsu]
    refine zS ?_;repeat(refine yA ?_;intro p hp;refine zS ?_)
    (refine ⟨(k + 1, u), fun _ _ st => st_sub2 st ?_ ?_, ?_, ?_⟩; exact zR; exact zP)
    ·dsimp only; omega
    ·dsimp only; omega
  ·have hkk : k = i := by simp at hlt2; omega
   subst hkk
   rw [← prP_succ]
   refine zS ?_;repeat(refine yA ?_;intro p hp;refine zS ?_)
   (refine ⟨(k + 1, u), fun _ _ st => st_sub2 st ?_ ?_, ?_, ?_⟩; exact zR; exact zP)
   ·dsimp only; omega
   ·dsimp only; omega
 ·have hii : i = f.ids.length := by simp at hlt; omega
  subst hii
  (apply W_frzX (v := v) p 0; exact zN; exact rfl; exact zM; exact rfl)
  simp only [List.set_cons_zero]
  (apply W_frzb 4 1; exact rfl; exact zN)
  refine zS ?_;repeat(refine yA ?_;intro p hp;refine zS ?_)
  have C := choose_con ph ow yv p f cu many (prP (spk f) f.ids.length) (lstsR f cu many) H Hx I Ix hF hm5 (prP_nodup _ _) h15 (fun q hq => by have := prP_mem.1 hq; exact ⟨this.1, this.2.1⟩) hcl hbt hY ((prP (spk f) f.ids.length).length) 0 [] 0 b0 (by simp) (Nat.zero_le _) ⟨List.nodup_nil, (fun q hq => by cases hq), (fun e he => by cases he), Nat.zero_le _⟩ (by rw [List.drop_zero, List.drop_zero]; exact List.prefix_refl _) hI0
  have C' : Con Tryz.prog 120 ([.val (.slice none 0 0), .val (.int .i64 0)] ++ capC ph yv p many (prP (spk f) f.ids.length)) _ _ := Con.arg (av' := .sl 2 pnC ([] : List (Nat × Nat))) (fun G v h => ⟨none, 0, h, Nat.le_refl _, fun i hi => (by cases hi)⟩) C
  (apply wl_callVP C'; exact rfl; exact rfl; exact yC; exact rfl)
  rintro _ _ (⟨rfl, b', hb', rfl⟩ | ⟨rfl, k', b', h1, h2, hb', rfl⟩)
  ·rw [Nat.zero_add, List.drop_zero] at hb'
   refine zS ?_;repeat(refine yA ?_;intro p hp;refine zS ?_)
   (apply resK0; exact rfl; exact .inl ⟨b', hb', rfl⟩; exact yC)
  ·refine zS ?_;repeat(refine yA ?_;intro p hp;refine zS ?_)
   (apply resK0; exact rfl; exact .inr ⟨k', b', h1, h2, hb', rfl⟩; exact yC)
theorem lists_con (ph : Value) [One (.val ph)] (many : Nat) : Con Tryz.prog 74 [.val ph, .val (.int .i64 many)] [] (Is (.clo 119 [.fp 1 [.val ph], .fp 1 [.val (.int .i64 many)]]) []) := by
 refine con_of Tryz.func74 rfl (enters_of Tryz.func74 (by kernel_rfl) rfl) rfl ?_; intro n w0 F0 G0
 refine zS ?_
 refine yA ?_
 intro p1 hp1
 refine yA ?_
 intro p2 hp2
 (apply WL_frzb 2 1; exact rfl; exact zN)
 (apply WL_frzb 3 1; exact rfl; exact zN)
 refine zS ?_;repeat(refine yA ?_;intro p hp;refine zS ?_)
 (apply res1; exact rfl; exact rfl; exact ⟨rfl, rfl⟩)
theorem leafG_len (f : Flo) (cu : List Int) (l : List (Nat × Nat)) : (leafG f cu l).length ≤ 1 := by
 unfold leafG
 split
 ·cases lstR f.ids l cu <;> simp
 ·simp
theorem chG_len (f : Flo) (cu : List Int) (many : Nat) : ∀ (t l : List (Nat × Nat)), (chG f cu many t l).length ≤ 2 ^ t.length
 | [], l => by
  rw [chG]; split
  ·simpa using leafG_len f cu l
  ·simp
 | p :: t, l => by
  have h1 := chG_len f cu many t (l ++ [p])
  have h2 := chG_len f cu many t l
  have h3 := leafG_len f cu l
  have h4 : 1 ≤ 2 ^ t.length := Nat.one_le_two_pow
  rw [chG, List.length_cons, Nat.pow_succ]
  split
  ·omega
  ·rw [List.length_append]
   split
   ·omega
   ·simp; omega
theorem lsts_len {f : Flo} (cu : List Int) (many : Nat) (hn : f.ids.length ≤ 6) : (lstsR f cu many).length ≤ 32768 := Nat.le_trans (chG_len f cu many _ _) (pow15 (prP_15 (spk f) hn))
def TokL (xs : List (List Pay)) (r : List HA) : AV → List HA → Prop := fun x y => ∃ u, x = .val u ∧ y = .row u 108 1 plC xs :: r
theorem appendSeq_con (ph ow : Value) (f : Flo) (cu : List Int) (many : Nat) (hok : floOk f = true) (hql : f.qs.length ≤ 1000) (hm5 : many ≤ 5) (hcl : cu.length = f.ids.length) (hbt : Btw (-1000000000) 1000000000 cu) :
  Con Tryz.prog 155 [.val (.slice none 0 0), .clo 119 [.fp 1 [.val ph], .fp 1 [.val (.int .i64 many)]]] [hsB ph f ow, .row ow 3 1 iC cu] (TokL (lstsR f cu many) [hsB ph f ow, .row ow 3 1 iC cu]) := by
 have IT := lists_iter ph ow f cu many hok hql hm5 hcl hbt
 have hl := lsts_len cu many (flo_f hok).ids
 generalize lstsR f cu many = xs at IT hl ⊢
 refine con_of Tryz.func155 rfl (enters_of Tryz.func155 (by kernel_rfl) rfl) rfl ?_; intro n w0 F0 G0
 refine zS ?_;repeat(refine yA ?_;intro p hp;refine zS ?_)
 refine W_weak ⟨[(2, .val p), (6, .clo 119 [.fp 1 [.val ph], .fp 1 [.val (.int .i64 many)]])], [.box p [.val (.slice none 0 0)] 105, .row (.slice none 0 0) 108 1 plC [], hsB ph f ow, .row ow 3 1 iC cu]⟩ (fun _ _ st => st_sub2 (st_nil 108 1 plC st) zR zP) ?_
 refine W_range (own := [hsB ph f ow, .row ow 3 1 iC cu]) (by exact rfl) IT yC (fun k (b : Nat × Value) => b.1 = k) (fun b => [.box p [.val b.2] 105, .row b.2 108 1 plC (xs.take b.1)]) (fun _ _ => False) (fun _ _ => []) (0, .slice none 0 0) (by exact rfl) zP (by intro _ _ _; exact rfl) (by exact rfl) ?_ ?_ (fun _ _ _ h => h.elim)
 ·intro lr m w1 F1 G1 hrec k hk b u hI
  obtain ⟨j, v⟩ := b
  dsimp only at hI
  subst hI
  dsimp only [zipR, lsC, List.cons_append, List.nil_append]
  have hst : xs.take (j + 1) = xs.take j ++ [xs[j]] := by rw [List.take_succ_eq_append_getElem hk]
  have htl : (xs.take j).length ≤ 32768 := by rw [List.length_take]; omega
  refine zS ?_
  intro w2 F2 G2 hrec2
  refine zS ?_
  (apply wl_litF plC; exact inferInstance; exact inferInstance; exact inferInstance; exact zE; exact rfl; (first | exact (of_decide_eq_true rfl) | decide | (simp; done) | (simp; omega)); exact rfl)
  (first | (apply wl_append; exact rfl; exact rfl; exact zN; exact inferInstance; exact inferInstance; (first | omega | (simp; omega)); exact rfl) | (apply wl_appendN; exact rfl; exact rfl; exact inferInstance; exact inferInstance; (first | omega | (simp; omega)); exact rfl))
  intro v2
  rw [← hst]
  refine WL_one At.here (fun hone2 => ?_)
  refine zS ?_
  refine ⟨(j + 1, v2), rfl, fun a w st => st_sub2 st zR zP⟩
 ·rintro ⟨j, v⟩ hI
  dsimp only at hI
  subst hI
  dsimp only
  rw [List.take_length]
  (repeat (first | refine th_norm ?_ | refine th_exit ?_ | refine th_ret ?_ | refine bl_norm ?_ | refine bl_eq ?_ | refine bl_ne rfl ?_ | refine bl_ret ?_ | refine rt_norm ?_ | refine rt_ret ?_))
  refine zS ?_
  (apply resK1; exact rfl; exact rfl; exact ⟨_, rfl, rfl⟩; exact yC)
theorem collect_con (ph ow : Value) (f : Flo) (cu : List Int) (many : Nat) (hok : floOk f = true) (hql : f.qs.length ≤ 1000) (hm5 : many ≤ 5) (hcl : cu.length = f.ids.length) (hbt : Btw (-1000000000) 1000000000 cu) :
  Con Tryz.prog 138 [.clo 119 [.fp 1 [.val ph], .fp 1 [.val (.int .i64 many)]]] [hsB ph f ow, .row ow 3 1 iC cu] (Is (.sl 1 plC (lstsR f cu many)) [hsB ph f ow, .row ow 3 1 iC cu]) := by
 refine con_of Tryz.func138 rfl (enters_of Tryz.func138 (by kernel_rfl) rfl) rfl ?_; intro n w0 F0 G0
 refine zS ?_
 (apply wl_callP (appendSeq_con ph ow f cu many hok hql hm5 hcl hbt); exact rfl; exact yC; exact rfl)
 rintro _ _ ⟨u, rfl, rfl⟩
 refine zS ?_
 (apply Res_frz 2; exact rfl; exact zN)
 (apply resK1; exact rfl; exact rfl; exact ⟨rfl, rfl⟩; exact yC)
theorem fewTo_hit {α : Type} {g : Nat → List α} {m : Nat} (h0 : ∀ k, k < m → g k = []) (hm : g m ≠ []) : ∀ N, m < N → fewTo g N = g m
 | 0, h => by omega
 | N + 1, h => by
  rw [fewTo]
  by_cases hN : N = m
  ·subst hN
   rw [fewTo_nil.2 h0]; rfl
  ·rw [fewTo_hit h0 hm N (by omega)]
   rw [if_neg (by simp [hm])]
noncomputable def fewP (f : Flo) (cu : List Int) : List (List Pay) := fewTo (lstsR f cu) (max 1 f.ids.length)
theorem fewest_con (ph ow : Value) (f : Flo) (cu : List Int) (hok : floOk f = true) (hql : f.qs.length ≤ 1000) (hcl : cu.length = f.ids.length) (hbt : Btw (-1000000000) 1000000000 cu) :
  Con Tryz.prog 108 [.val ph] [hsB ph f ow, .row ow 3 1 iC cu] (Is (.sl 1 plC (fewP f cu)) [hsB ph f ow, .row ow 3 1 iC cu]) := by
 have hn := (flo_f hok).ids
 have hl : ∀ k, (lstsR f cu k).length ≤ 32768 := fun k => lsts_len cu k hn
 have CC := fun many h5 => collect_con ph ow f cu many hok hql h5 hcl hbt
 unfold fewP
 have hmx : (max (1 : Int) (f.ids.length : Int)) = ((max 1 f.ids.length : Nat) : Int) := by omega
 have hmx6 : max 1 f.ids.length ≤ 6 := by omega
 generalize max 1 f.ids.length = mx at hmx hmx6 ⊢
 generalize lstsR f cu = g at CC hl ⊢
 refine con_of Tryz.func108 rfl (enters_of Tryz.func108 (by kernel_rfl) rfl) rfl ?_; intro n w0 F0 G0
 refine zS ?_
 rw [hmx]
 refine W_loopJ (fun (b : Nat) => ⟨[(0, .val ph), (11, .val (.int .i64 mx)), (12, .val (.int .i64 b))], [hsB ph f ow, .row ow 3 1 iC cu]⟩) (fun b => b ≤ mx ∧ ∀ k, k < b → g k = []) (fun b => mx - b) 0 (fun _ _ st => st_sub2 st zR zP) ⟨Nat.zero_le _, fun k hk => by omega⟩ ?_
 rintro i ⟨hi, hg⟩
 refine zS ?_
 refine w_cond rfl (fun hlt => ?_) (fun hlt => ?_)
 ·have hi' : i < mx := by simpa using hlt
  have hll := hl i
  refine zS ?_
  apply WL_oneB At.here
  intro hone
  (first | (apply wl_call (lists_con ph i); exact rfl; exact rfl) | (apply wl_callR (lists_con ph i); exact rfl; exact zM; exact rfl))
  refine zS ?_
  (apply wl_callP (CC i (by omega)); exact rfl; exact yC; exact rfl)
  rintro _ _ ⟨rfl, rfl⟩
  refine zS ?_
  refine w_cond rfl (fun hne => ?_) (fun hne => ?_)
  ·have hne' : g i ≠ [] := fun e => by rw [e] at hne; simp at hne
   rw [fewTo_hit hg hne' mx hi']
   refine zS ?_
   (apply resK1; exact rfl; exact rfl; exact ⟨rfl, rfl⟩; exact yC)
  ·have hnil : g i = [] := by
    rcases hq : g i with _ | ⟨x, t⟩
    ·rfl
    ·rw [hq] at hne; simp at hne
   refine zS ?_
   (refine ⟨i + 1, fun _ _ st => st_sub2 st ?_ ?_, ?_, ?_⟩; exact zR; exact zP)
   ·exact ⟨hi', fun k hk => by
     by_cases hki : k = i
     ·rw [hki]; exact hnil
     ·exact hg k (by omega)⟩
   ·omega
 ·have hii : i = mx := by simp at hlt; omega
  subst hii
  rw [fewTo_nil.2 hg]
  refine zS ?_
  refine Res_nil 2 1 plC rfl ?_
  (apply resK1; exact rfl; exact rfl; exact ⟨rfl, rfl⟩; exact yC)
noncomputable def errL (f : Flo) : Int := if floOk f = true then (if (fewP f (owed8 f)).isEmpty = true then 8 else 0) else 80
theorem askedErr_con (f : Flo) (hS : Sml f) (he : errL f ≠ 0) : Con Tryz.prog 60 [.agg (flC f)] [tab8] (Is (.tup [.val (.pointer none), .val (.slice none 0 0), .val (.int .i64 (errL f))]) [tab8]) := by
 cases hok : floOk f with
 | false =>
  have C := openedNo_con f hS hok
  unfold errL
  rw [if_neg (by rw [hok]; simp)]
  refine con_of Tryz.func60 rfl (enters_of Tryz.func60 (by kernel_rfl) rfl) rfl ?_; intro n w0 F0 G0
  refine zS ?_;repeat(refine yA ?_;intro p hp;refine zS ?_)
  (first | (apply wl_call (C); exact rfl; exact rfl) | (apply wl_callR (C); exact rfl; exact zM; exact rfl))
  refine zS ?_
  (apply resK3; exact rfl; exact rfl; exact rfl; exact rfl; exact ⟨rfl, rfl⟩; exact yC)
 | true =>
  have C := opened_con f hS hok
  have hF := flo_f hok
  have hidl := hF.ids
  have hqsl := hS.qs
  have hnil : fewP f (owed8 f) = [] := by
   unfold errL at he
   rw [if_pos hok] at he
   rcases hq : fewP f (owed8 f) with _ | ⟨x, t⟩
   ·rfl
   ·rw [hq] at he; exact absurd rfl he
  unfold errL
  rw [if_pos hok, hnil, if_pos (show ([] : List (List Pay)).isEmpty = true from rfl)]
  refine con_of Tryz.func60 rfl (enters_of Tryz.func60 (by kernel_rfl) rfl) rfl ?_; intro n w0 F0 G0
  refine zS ?_;repeat(refine yA ?_;intro p hp;refine zS ?_)
  (apply wl_callP (C); exact rfl; exact yC; exact rfl)
  rintro _ _ ⟨ph, ow, rfl, rfl⟩
  have CF := fewest_con ph ow f (owed8 f) hok (by omega) (owed8_len f) ((owed8_btw hF hS).mono (by omega) (by omega))
  rw [hnil] at CF
  refine zS ?_
  (apply wl_callP (CF); exact rfl; exact yC; exact rfl)
  rintro _ _ ⟨rfl, rfl⟩
  refine zS ?_
  (apply resK3; exact rfl; exact rfl; exact rfl; exact rfl; exact ⟨rfl, rfl⟩; exact yC)
def AskP (f : Flo) (xs : List (List Pay)) : AV → List HA → Prop := fun x y => ∃ ph v, x = .tup [.val ph, .sl 1 plC xs, .val (.int .i64 0)] ∧ y = [hsB ph f v, .row v 3 1 iC (owed8 f), tab8]
theorem askedOk_con (f : Flo) (hS : Sml f) (he : errL f = 0) : Con Tryz.prog 60 [.agg (flC f)] [tab8] (AskP f (fewP f (owed8 f))) := by
 unfold errL at he
 cases hok : floOk f with
 | false => rw [hok] at he; simp at he
 | true =>
  have C := opened_con f hS hok
  have hF := flo_f hok
  have hidl := hF.ids
  have hqsl := hS.qs
  have hl : (fewP f (owed8 f)).length ≠ 0 := fun h => by
   rw [if_pos hok, List.length_eq_zero_iff.1 h] at he
   exact absurd he (by decide)
  refine con_of Tryz.func60 rfl (enters_of Tryz.func60 (by kernel_rfl) rfl) rfl ?_; intro n w0 F0 G0
  refine zS ?_;repeat(refine yA ?_;intro p hp;refine zS ?_)
  (apply wl_callP (C); exact rfl; exact yC; exact rfl)
  rintro _ _ ⟨ph, ow, rfl, rfl⟩
  have CF := fewest_con ph ow f (owed8 f) hok (by omega) (owed8_len f) ((owed8_btw hF hS).mono (by omega) (by omega))
  generalize fewP f (owed8 f) = xs at CF hl ⊢
  refine zS ?_
  (apply wl_callP (CF); exact rfl; exact yC; exact rfl)
  rintro _ _ ⟨rfl, rfl⟩
  refine zS ?_
  refine w_cond rfl (fun h => ?_) (fun h => ?_)
  ·have := of_decide_eq_true h
   omega
  ·refine zS ?_
   (apply resK3; exact rfl; exact rfl; exact rfl; exact rfl; exact ⟨ph, ow, rfl, rfl⟩; exact yC)
end Go.Proofs.YtihonljdanjfmaaGreatDoor.Sw
namespace Go.Proofs.YtihonljdanjfmaaGreatDoor.Sw
open Go.RowKit Go Go.Shelf Go.Proofs
abbrev Tk := { u : Value // One (AV.val u) }
instance (u : Tk) : One (AV.val u.1) := u.2
abbrev MB := Bil × Tk
def tkC (p : MB) : List AV := [.val (.int .i64 p.1.no), .val (.int .i64 p.1.py), .val (.int .i64 p.1.pe), .val p.2.1]
instance {p : MB} : OneL (tkC p) := inferInstanceAs (OneL [_, _, _, _])
instance : OneF tkC := ⟨fun _ => inferInstance⟩
theorem isortM_con (v : Value) (xs : List MB) (k : FuncId) (caps : List AV) (cmp : MB → MB → Int) (hl : xs.length ≤ 100000) (hc : ∀ x y, Con Tryz.prog k ([.agg (tkC x), .agg (tkC y)] ++ caps) [] (Is (.val (.int .i64 (cmp x y))) [])) : Con Tryz.prog 153 [.val v, .val (.int .i64 0), .val (.int .i64 xs.length), .clo k caps] [.row v 49 4 tkC xs] (Is (.tup []) [.row v 49 4 tkC (srt (fun x y => decide (cmp x y < 0)) xs)]) := by
 generalize hlt0 : (fun x y => decide (cmp x y < 0)) = lt
 have hlt : ∀ x y, decide (cmp x y < 0) = lt x y := fun x y => by rw [← hlt0]
 refine con_of Tryz.func153 rfl (enters_of Tryz.func153 (by kernel_rfl) rfl) rfl ?_; intro n w0 F0 G0
 refine zS ?_
 refine W_loopJ (fun (i : Nat) => ⟨[(0, .val v), (1, .val (.int .i64 0)), (2, .val (.int .i64 xs.length)), (3, .clo k caps), (8, .val (.int .i64 i))], [.row v 49 4 tkC (srt lt (xs.take i) ++ xs.drop i)]⟩) (fun i => 1 ≤ i ∧ (i ≤ xs.length ∨ i = 1)) (fun i => xs.length - i) 1 (fun _ _ st => st_sub2 st (by exact zR) (by rw [show srt lt (xs.take 1) ++ xs.drop 1 = xs from by cases xs <;> rfl]; exact zP)) ⟨Nat.le_refl _, .inr rfl⟩ ?_
 rintro i ⟨hi1, hi2⟩
 refine zS ?_
 refine w_cond rfl (fun hin => ?_) (fun hin => ?_)
 ·have hin' : i < xs.length := by simp at hin; omega
  have hpl : (srt lt (xs.take i)).length = i := by rw [srt_len, List.length_take]; omega
  have hnx : srt lt (xs.take (i + 1)) = insE lt (srt lt (xs.take i)) xs[i] := by rw [List.take_succ_eq_append_getElem hin', srt_snoc]
  have hdr : xs.drop i = xs[i] :: xs.drop (i + 1) := List.drop_eq_getElem_cons hin'
  have hsl : (xs.drop (i + 1)).length + i + 1 = xs.length := by rw [List.length_drop]; omega
  generalize srt lt (xs.take i) = pre at *
  generalize hsuf : xs.drop (i + 1) = suf at *
  generalize hx : xs[i] = x at *
  rw [hdr]
  refine zS ?_
  refine W_loopJ (fun (j : Nat) => ⟨[(0, .val v), (1, .val (.int .i64 0)), (2, .val (.int .i64 xs.length)), (3, .clo k caps), (8, .val (.int .i64 i)), (9, .val (.int .i64 j))], [.row v 49 4 tkC (snk pre suf x j)]⟩) (fun j => j ≤ i ∧ insE lt pre x = insE lt (pre.take j) x ++ pre.drop j) (fun j => j) i (fun _ _ st => st_sub2 st (by exact zR) (by rw [show snk pre suf x i = pre ++ x :: suf from by rw [← hpl]; exact snk_full _ _ _]; exact zP)) ⟨Nat.le_refl _, by rw [← hpl]; simp⟩ ?_
  rintro j ⟨hj, hins⟩
  have hdl : (snk pre suf x j).length = xs.length := by rw [snk_len (by omega)]; omega
  have hq1 : (snk pre suf x j)[j]? = some x := snk_at (by omega)
  refine zS ?_
  cases j with
  | zero =>
   have hend : snk pre suf x 0 = insE lt pre x ++ suf := by rw [hins]; simp [snk, insE_nil]
   refine W_run 14 [18, 19, 20, 21, 22, 23, 24, 25, 26, 27, 28, 29, 30, 31] [0, 1, 2, 3, 4, 5, 6, 7, 8, 9, 10, 11, 12, 13] Cut.nil rfl goFlt mixedS (by kernel_rfl) rfl ?_
   refine rpv [] [] ?_
   refine rpv [] [] ?_
   refine Run.pv [0, 1] [] rfl (fun vs => by apply ltr_pk; exact goPk; (refine ltr ?_; apply LT_bool false; apply lt_gtr; exact rfl; exact rfl; simp)) goApp ?_
   refine rpv [2] [] ?_
   refine rno [3] ?_
   refine rno [3] ?_
   refine rno [3] ?_
   refine rno [3, 5, 6] ?_
   refine rno [3, 7] ?_
   refine rno [3] ?_
   refine rno [3] ?_
   refine rno [3, 10] ?_
   refine rno [3, 9, 11] ?_
   refine rno [3, 12] ?_
   refine ⟨⟨by kernel_rfl, by kernel_rfl⟩, fun vs => ?_⟩
   apply WL_auto [3, 4, 8, 13]
   ·exact goPk
   ·exact goNrm
   ·kernel_rfl
   ·kernel_rfl
   refine zS ?_
   refine ⟨i + 1, fun _ _ st => st_sub2 st ?_ ?_, ?_, ?_⟩
   ·exact zR
   ·rw [hnx, hsuf, ← hend]; exact zP
   ·omega
   ·omega
  | succ j =>
   have hjp : j < pre.length := by omega
   have hq2 : (snk pre suf x (j + 1))[j]? = some pre[j] := snk_before (by omega)
   have htk : pre.take (j + 1) = pre.take j ++ [pre[j]] := List.take_succ_eq_append_getElem hjp
   have hdp : pre.drop j = pre[j] :: pre.drop (j + 1) := List.drop_eq_getElem_cons hjp
   refine W_run 14 [18, 19, 20, 21, 22, 23, 24, 25, 26, 27, 28, 29, 30, 31] [0, 1, 2, 3, 4, 5, 6, 7, 8, 9, 10, 11, 12, 13] Cut.nil rfl goFlt mixedS (by kernel_rfl) rfl ?_
   refine rpv [] [] ?_
   refine rpv [] [] ?_
   refine Run.pv [0, 1] [] rfl (fun vs => by apply ltr_pk; exact goPk; (refine ltr ?_; apply LT_bool true; apply lt_gtr; exact rfl; exact rfl; (first | (simp; done) | (simp; omega)))) goApp ?_
   refine rpv [2] [] ?_
   refine ryv [3] ?_
   refine ryv [3] ?_
   refine ryv [3] ?_
   refine ryv [3, 5, 6] ?_
   refine ryv [3, 7] ?_
   refine ryv [3] ?_
   refine ryv [3] ?_
   refine ryx [3, 10] (fun vs => by apply ltr_pk; exact goPk; (refine ltr ?_; apply LT_int (j : Int); apply lt_sub; exact rfl; exact rfl; omega; omega; omega)) ?_
   refine ryv [3, 9, 11] ?_
   refine ryv [3, 12] ?_
   refine ⟨⟨by kernel_rfl, by kernel_rfl⟩, fun vs => ?_⟩
   apply WL_auto [3, 4, 8, 13]
   ·exact goPk
   ·exact goNrm
   ·kernel_rfl
   ·kernel_rfl
   refine zS ?_
   (apply wl_callV (hc x pre[j]); exact rfl; exact rfl; exact rfl)
   refine zS ?_
   rw [hlt]
   cases hb : lt x pre[j] with
   | false =>
    have hend : snk pre suf x (j + 1) = insE lt pre x ++ suf := by
     rw [hins, htk, insE_no hb, ← htk]; simp [snk]
    refine zS ?_
    refine ⟨i + 1, fun _ _ st => st_sub2 st ?_ ?_, ?_, ?_⟩
    ·exact zR
    ·rw [hnx, hsuf, ← hend]; exact zP
    ·omega
    ·omega
   | true =>
    have hins2 : insE lt pre x = insE lt (pre.take j) x ++ pre.drop j := by
     rw [hins, htk, insE_yes hb, hdp]; simp
    refine zS ?_
    refine W_run 16 [37, 38, 39, 40, 41, 42, 43, 44, 45, 46, 47, 48, 49, 50, 51, 1000015] [0, 1, 2, 3, 4, 5, 6, 7, 8, 9, 10, 11, 12, 13, 14, 15] (Cut.cons (h := HA.row v 49 4 tkC (snk pre suf x (j + 1))) zN (Cut.nil)) rfl goFlt mixedS (by kernel_rfl) rfl ?_
    refine rpv [] [] ?_
    refine rpv [] [] ?_
    refine rpv [] [] ?_
    refine rpv [] [] ?_
    refine Run.pv [3] [] rfl (fun vs => by apply ltr_pk; exact goPk; (refine ltr ?_; apply LT_int (j : Int); apply lt_sub; exact rfl; exact rfl; omega; omega; omega)) goApp ?_
    refine rpv [] [] ?_
    refine rpv [] [] ?_
    refine Run.pv [6] [] rfl (fun vs => by apply ltr_pk; exact goPk; (refine ltr ?_; apply LT_int (j : Int); apply lt_sub; exact rfl; exact rfl; omega; omega; omega)) goApp ?_
    refine Run.rd [5, 7] [] [1000] rfl (fun vs => by apply ltr_pk; exact goPk; exact goLtr) goApp ?_
    refine Run.rd [8] [] [1000] rfl (fun vs => by apply ltr_pk; exact goPk; exact goLtr) goApp ?_
    refine rpv [] [] ?_
    refine rpv [] [] ?_
    refine Run.rd [10, 11] [] [1000] rfl (fun vs => by apply ltr_pk; exact goPk; exact goLtr) goApp ?_
    refine Run.rd [12] [] [1000] rfl (fun vs => by apply ltr_pk; exact goPk; exact goLtr) goApp ?_
    refine Run.rd [0, 1] [] [1000] rfl (fun vs => by apply ltr_pk; exact goPk; exact goLtr) goApp ?_
    refine Run.fx [9, 14] [1000] 14 (fun _ => [HA.row v 49 4 tkC ((snk pre suf x (j + 1)).set (j + 1) pre[j])]) rfl (fun vs => by apply ltr_pk; exact goPk; (refine ltr ?_; refine LT.fx (lt_storeRN (n := 4) (f := tkC) (xs := snk pre suf x (j + 1)) (k := j + 1) (x' := pre[j]) rfl rfl (by omega) rfl) rfl)) goApp ?_
    refine ⟨⟨by kernel_rfl, by kernel_rfl⟩, fun vs => ?_⟩
    apply WL_auto [2, 4, 13]
    ·exact goPk
    ·exact goNrm
    ·kernel_rfl
    ·kernel_rfl
    refine zS ?_
    apply wl_storeRNx x
    ·exact rfl
    ·exact zM
    ·exact rfl
    ·exact inferInstance
    ·exact inferInstance
    ·rw [List.length_set]; omega
    ·rfl
    rw [snk_swap (by omega)]
    refine zS ?_
    rw [show (((j + 1 : Nat) : Int) - 1) = (j : Int) by omega]
    refine ⟨j, fun _ _ st => st_sub2 st ?_ ?_, ?_, ?_⟩
    ·exact zR
    ·exact zP
    ·exact ⟨by omega, hins2⟩
    ·omega
 ·have hkk : xs.length ≤ i := by simp at hin; omega
  rw [List.take_of_length_le hkk, List.drop_of_length_le hkk, List.append_nil]
  refine zS ?_
  (apply resK0; exact rfl; exact ⟨rfl, rfl⟩; exact yC)
theorem stableM_con (v : Value) (xs : List MB) (k : FuncId) (caps : List AV) (cmp : MB → MB → Int) (hl : xs.length < 20) (hc : ∀ x y, Con Tryz.prog k ([.agg (tkC x), .agg (tkC y)] ++ caps) [] (Is (.val (.int .i64 (cmp x y))) [])) : Con Tryz.prog 136 [.val v, .val (.int .i64 xs.length), .clo k caps] [.row v 49 4 tkC xs] (Is (.tup []) [.row v 49 4 tkC (srt (fun x y => decide (cmp x y < 0)) xs)]) := by
 refine con_of Tryz.func136 rfl (enters_of Tryz.func136 (by kernel_rfl) rfl) rfl ?_; intro n w0 F0 G0
 refine zS ?_
 refine W_rounds 1 (WR_step ?_)
 refine zS ?_
 refine w_cond rfl (fun g => ?_) (fun g => ?_)
 ·simp at g; omega
 ·refine zS ?_
  (apply wl_callP (isortM_con v xs k caps cmp (by omega) hc); exact rfl; exact yC; exact rfl)
  rintro _ _ ⟨rfl, rfl⟩
  refine zS ?_
  refine W_rounds 1 (WR_step ?_)
  refine zS ?_
  refine w_cond rfl (fun g2 => ?_) (fun g2 => ?_)
  ·simp at g2; omega
  ·refine zS ?_
   (apply resK0; exact rfl; exact ⟨rfl, rfl⟩; exact yC)
theorem sortSM_con (v : Value) (xs : List MB) (k : FuncId) (caps : List AV) (cmp : MB → MB → Int) (hl : xs.length < 20) (hc : ∀ x y, Con Tryz.prog k ([.agg (tkC x), .agg (tkC y)] ++ caps) [] (Is (.val (.int .i64 (cmp x y))) [])) : Con Tryz.prog 100 [.val v, .clo k caps] [.row v 49 4 tkC xs] (Is (.tup []) [.row v 49 4 tkC (srt (fun x y => decide (cmp x y < 0)) xs)]) := by
 refine con_of Tryz.func100 rfl (enters_of Tryz.func100 (by kernel_rfl) rfl) rfl ?_; intro n w0 F0 G0
 refine zS ?_
 (apply wl_callP (stableM_con v xs k caps cmp hl hc); exact rfl; exact yC; exact rfl)
 rintro _ _ ⟨rfl, rfl⟩
 refine zS ?_
 (apply resK0; exact rfl; exact ⟨rfl, rfl⟩; exact yC)
def floE : Flo := ⟨[], [], [], []⟩
theorem floE_own (G : Nat → Option Obj) (w : World) : (floOwn (.slice none 0 0) (.slice none 0 0) (.slice none 0 0) (.slice none 0 0) floE).P G [] w :=
 ⟨[], hsP.fact.2 ⟨rfl, [], [], .refl _, row_nilP _ _ _ G w, [], [], .refl _, row_nilP _ _ _ G w, [], [], .refl _, row_nilP _ _ _ G w, [], [], .refl _, row_nilP _ _ _ G w, [], [], .refl _, rfl, rfl⟩⟩
def FlP (r : Flo × Int) : AV → List HA → Prop := fun x y => ∃ vi vq vb vp, (One (.val vi) ∧ One (.val vq) ∧ One (.val vb) ∧ One (.val vp)) ∧ x = .tup [.agg [.val vi, .val vq, .val vb, .val vp], .val (.int .i64 r.2)] ∧ y = [floOwn vi vq vb vp r.1, tab8]
theorem flP_nil (e : Int) : FlP (floE, e) (.tup [.agg [.val (.slice none 0 0), .val (.slice none 0 0), .val (.slice none 0 0), .val (.slice none 0 0)], .val (.int .i64 e)]) [floOwn (.slice none 0 0) (.slice none 0 0) (.slice none 0 0) (.slice none 0 0) floE, tab8] :=
 ⟨_, _, _, _, ⟨inferInstance, inferInstance, inferInstance, inferInstance⟩, rfl, rfl⟩
theorem WL_packFact {c : Cx} {rs : List (Nat × AV)} {hs r l : List HA} {Q : Exit → S → Prop} {ops : Array Oper} {tl : List Oper} {p : Prop} (h : ∀ G F w, hsP l G F w → p) (hr : Rm hs (.pack l) r) (k : p → WL c ops tl ⟨rs, hs⟩ Q) : WL c ops tl ⟨rs, hs⟩ Q := ⟨fun a w st => by
 have st' := st
 obtain ⟨G, F, hI, rr⟩ := st'
 obtain ⟨F1, F2, e, h1, h2⟩ := hr.sel hI.hs
 exact (k (h _ _ _ h1)).out a w st⟩
theorem WL_packPerm {c : Cx} {rs : List (Nat × AV)} {hs r l l' : List HA} {Q : Exit → S → Prop} {ops : Array Oper} {tl : List Oper} (hp : l.Perm l') (hr : Rm hs (.pack l) r) (k : WL c ops tl ⟨rs, .pack l' :: r⟩ Q) : WL c ops tl ⟨rs, hs⟩ Q := ⟨fun a w st => by
 obtain ⟨G, F, hI, rr⟩ := st
 obtain ⟨F1, F2, e, h1, h2⟩ := hr.sel hI.hs
 exact k.out a w ⟨G, F, ⟨hI.gin, hI.nd, hI.own, F1, F2, e, hsP.permL hp h1, h2⟩, rr⟩⟩
theorem row_one {α : Type} {w : World} {G : Nat → Option Obj} {F : List Nat} {v : Value} {e : TypeId} {n : Nat} {f : α → List AV} {xs : List α} (h : (HA.row v e n f xs).P G F w) : One (.val v) := by
 rcases row_val h with ⟨rfl, _⟩ | ⟨b, cap, cur, vs, rfl, _⟩ <;> exact inferInstance
theorem stkR_one {G : Nat → Option Obj} {w : World} : ∀ {bs : List Bil} {us : List Value} {F : List Nat}, us.length = bs.length → hsP (stkR bs us) G F w → ∀ u ∈ us, One (.val u)
 | [], [], _, _, _, u, hu => by cases hu
 | x :: t, v :: us, F, hl, h, u, hu => by
  obtain ⟨F1, F2, e, h1, h2⟩ := h
  rcases List.mem_cons.1 hu with rfl | hu
  ·exact row_one h1
  ·exact stkR_one (by simpa using hl) h2 u hu
 | [], _ :: _, _, hl, _, _, _ => by simp at hl
 | _ :: _, [], _, hl, _, _, _ => by simp at hl
theorem marry : ∀ {bs : List Bil} {us : List Value}, us.length = bs.length → (∀ u ∈ us, One (.val u)) → ∃ L : List MB, bs = L.map (·.1) ∧ us = L.map (·.2.1)
 | [], [], _, _ => ⟨[], rfl, rfl⟩
 | x :: t, v :: us, hl, h => by
  obtain ⟨L, h1, h2⟩ := marry (bs := t) (us := us) (by simpa using hl) fun u hu => h u (by simp [hu])
  exact ⟨(x, ⟨v, h v (by simp)⟩) :: L, congrArg (x :: ·) h1, congrArg (v :: ·) h2⟩
 | [], _ :: _, hl, _ => by simp at hl
 | _ :: _, [], hl, _ => by simp at hl
theorem mixL_map (L : List MB) : mixL (L.map (·.1)) (L.map (·.2.1)) = L.map fun p => (p.1, some p.2.1) := by
 induction L with
 | nil => rfl
 | cons p L ih => simp only [List.map_cons, mixL, ih]
theorem row_tk (vb : Value) (L : List MB) : HA.row vb 49 4 mbC (mixL (L.map (·.1)) (L.map (·.2.1))) = HA.row vb 49 4 tkC L := by
 rw [mixL_map, row_map]; rfl
def stkH (p : MB) : HA := .row p.2.1 52 2 stC p.1.st
theorem stkR_map (L : List MB) : stkR (L.map (·.1)) (L.map (·.2.1)) = L.map stkH := by
 induction L with
 | nil => rfl
 | cons p L ih => simp only [List.map_cons, stkR, ih]; rfl
theorem insR_perm {α : Type} (lt : α → α → Bool) (x : α) : ∀ l : List α, (insR lt x l).Perm (x :: l)
 | [] => .refl _
 | a :: t => by
  rw [insR]
  split
  ·exact ((insR_perm lt x t).cons a).trans (List.Perm.swap _ _ _)
  ·exact .refl _
theorem srt_perm {α : Type} (lt : α → α → Bool) (l : List α) : (srt lt l).Perm l := by
 have h : ∀ (l acc : List α), (l.foldl (insE lt) acc).Perm (acc ++ l) := by
  intro l
  induction l with
  | nil => intro acc; simp
  | cons x t ih =>
   intro acc
   rw [List.foldl_cons]
   refine (ih _).trans ?_
   have h1 : (insE lt acc x).Perm (acc ++ [x]) := by
    unfold insE
    exact ((List.reverse_perm _).trans (insR_perm lt x _)).trans (((List.reverse_perm acc).cons x).trans (List.perm_append_comm (l₁ := [x]) (l₂ := acc)))
   have h2 := h1.append_right t
   rwa [List.append_assoc] at h2
 have := h l []
 unfold srt; simpa using this
theorem insE_map {α β : Type} (g : α → β) (lt : β → β → Bool) (l : List α) (x : α) : (insE (fun a b => lt (g a) (g b)) l x).map g = insE lt (l.map g) (g x) := by
 have h : ∀ l : List α, (insR (fun a b => lt (g a) (g b)) x l).map g = insR lt (g x) (l.map g) := by
  intro l
  induction l with
  | nil => rfl
  | cons a t ih =>
   rw [List.map_cons, insR, insR]
   split
   ·rw [List.map_cons, ih]
   ·rfl
 unfold insE
 rw [List.map_reverse, h, List.map_reverse]
theorem srt_map {α β : Type} (g : α → β) (lt : β → β → Bool) (l : List α) : (srt (fun a b => lt (g a) (g b)) l).map g = srt lt (l.map g) := by
 have h : ∀ (l acc : List α), (l.foldl (insE (fun a b => lt (g a) (g b))) acc).map g = (l.map g).foldl (insE lt) (acc.map g) := by
  intro l
  induction l with
  | nil => intro acc; rfl
  | cons x t ih => intro acc; rw [List.foldl_cons, ih, insE_map, List.map_cons, List.foldl_cons]
 exact h l []
def bCmp (x y : Bil) : Int := cmpR x.no y.no
def bLt (x y : Bil) : Bool := decide (bCmp x y < 0)
theorem add1_con (x y : MB) : Con Tryz.prog 101 [.agg (tkC x), .agg (tkC y)] [] (Is (.val (.int .i64 (bCmp x.1 y.1))) []) := by
 refine con_of Tryz.func101 rfl (enters_of Tryz.func101 (by kernel_rfl) rfl) rfl ?_; intro n w0 F0 G0
 refine zS ?_;repeat(refine yA ?_;intro p hp;refine zS ?_)
 (first | (apply wl_call (compare_con _ _); exact rfl; exact rfl) | (apply wl_callR (compare_con _ _); exact rfl; exact zM; exact rfl))
 refine zS ?_
 (apply res1; exact rfl; exact rfl; exact ⟨rfl, rfl⟩)
def addR (f : Flo) (x : Bil) : Flo × Int :=
 if floOk f = true then (if f.bs.length = 10 then (floE, 9) else if floOk { f with bs := srt bLt (f.bs ++ [x]) } = true then ({ f with bs := srt bLt (f.bs ++ [x]) }, 0) else (floE, 81)) else (floE, 80)
theorem add_con (f : Flo) (x : Bil) (hS : Sml f) (hx : x.st.length ≤ 1000) : Con Tryz.prog 50 [.agg (flC f), .agg (biC x)] [tab8] (FlP (addR f x)) := by
 have C := check_con f hS
 cases hok : floOk f with
 | false =>
  rw [show errF f = 80 by unfold errF; rw [hok]; rfl] at C
  rw [show addR f x = (floE, 80) by unfold addR; rw [hok]; rfl]
  refine con_of Tryz.func50 rfl (enters_of Tryz.func50 (by kernel_rfl) rfl) rfl ?_; intro n w0 F0 G0
  refine zS ?_;repeat(refine yA ?_;intro p hp;refine zS ?_)
  (first | (apply wl_call (C); exact rfl; exact rfl) | (apply wl_callR (C); exact rfl; exact zM; exact rfl))
  refine zS ?_
  (refine Res_add _ floE_own ?_; apply resKN1; exact rfl; exact rfl; exact zM; exact inferInstance; exact rfl; exact rfl; exact flP_nil _; exact yC)
 | true =>
  rw [show errF f = 0 by unfold errF; rw [hok]; rfl] at C
  have hbl := (flo_f hok).bs
  refine con_of Tryz.func50 rfl (enters_of Tryz.func50 (by kernel_rfl) rfl) rfl ?_; intro n w0 F0 G0
  refine zS ?_;repeat(refine yA ?_;intro p hp;refine zS ?_)
  (first | (apply wl_call (C); exact rfl; exact rfl) | (apply wl_callR (C); exact rfl; exact zM; exact rfl))
  refine zS ?_
  refine w_cond rfl (fun g => ?_) (fun g => ?_)
  ·rw [show addR f x = (floE, 9) by unfold addR; rw [if_pos hok, if_pos (by simp at g; omega)]]
   refine zS ?_
   (refine Res_add _ floE_own ?_; apply resKN1; exact rfl; exact rfl; exact zM; exact inferInstance; exact rfl; exact rfl; exact flP_nil _; exact yC)
  ·have hn : ¬ f.bs.length = 10 := by simp at g; omega
   have hst : ∀ b ∈ f.bs ++ [x], b.st.length ≤ 1000 := fun b hb => by
    rcases List.mem_append.1 hb with hb | hb
    ·exact hS.st b hb
    ·rw [List.mem_singleton.1 hb]; exact hx
   have hS0 : Sml { f with bs := f.bs ++ [x] } := ⟨hS.ids, hS.qs, by simp; omega, hS.ps, hst⟩
   have hS' : Sml { f with bs := srt bLt (f.bs ++ [x]) } := ⟨hS.ids, hS.qs, by show (srt bLt (f.bs ++ [x])).length ≤ 1000; rw [srt_len]; simp; omega, hS.ps, fun b hb => hst b ((srt_perm bLt _).mem_iff.1 hb)⟩
   have hW : addR f x = if floOk { f with bs := srt bLt (f.bs ++ [x]) } = true then ({ f with bs := srt bLt (f.bs ++ [x]) }, 0) else (floE, 81) := by unfold addR; rw [if_pos hok, if_neg hn]
   rw [hW]
   refine zS ?_
   refine W_run 5 [18, 19, 20, 21, 22] [0, 1, 2, 3, 4] Cut.nil rfl goFlt mixedS (by kernel_rfl) rfl ?_
   refine rpv [] [] ?_
   refine rpv [0] [] ?_
   refine Run.tok [1] [] rfl (fun vs => by apply ltr_pk; exact goPk; (refine ltr ?_; refine lt_call ?_ (cloneB_con f.bs (by omega)); exact rfl)) goApp ?_
   refine rpv [] [] ?_
   refine Run.pv [3] [] rfl (fun vs => by apply ltr_pk; exact goPk; (refine ltr ?_; apply LT_frz; apply lt_lit (f := biC); exact zE; exact rfl; (first | exact (of_decide_eq_true rfl) | decide | (simp; done) | (simp; omega)))) goApp ?_
   refine ⟨⟨by kernel_rfl, by kernel_rfl⟩, fun vs => ?_⟩
   apply WL_auto [2, 4]
   ·exact goPk
   ·exact goNrm
   ·kernel_rfl
   ·kernel_rfl
   refine zS ?_
   (first | (apply wl_append; exact rfl; exact rfl; exact zN; exact inferInstance; exact inferInstance; (first | omega | (simp; omega)); exact rfl) | (apply wl_appendN; exact rfl; exact rfl; exact inferInstance; exact inferInstance; (first | omega | (simp; omega)); exact rfl))
   intro v1
   (apply WL_frz 23; exact rfl; exact zN)
   refine zS ?_
   refine WL_as 25 (.agg (flC { f with bs := f.bs ++ [x] })) rfl ?_
   (apply wl_callP (copied_con { f with bs := f.bs ++ [x] } hS0); exact rfl; exact yC; exact rfl)
   rintro _ _ ⟨vi, vq, vb, vp, ⟨o1, o2, o3, o4⟩, rfl, rfl⟩
   apply WL_exs
   ·exact zN
   intro us
   apply WL_fact
   ·exact zN
   intro hus
   apply WL_packFact (l := stkR (f.bs ++ [x]) us) (p := ∀ u ∈ us, One (.val u)) (fun _ _ _ h => stkR_one hus h)
   ·exact zN
   intro hone
   obtain ⟨L, hL1, hL2⟩ := marry hus hone
   have e1 : HA.row vb 49 4 mbC (mixL (f.bs ++ [x]) us) = HA.row vb 49 4 tkC L := by
    rw [show f.bs ++ [x] = L.map (·.1) from hL1, hL2, row_tk]
   have e2 : stkR (f.bs ++ [x]) us = L.map stkH := by rw [show f.bs ++ [x] = L.map (·.1) from hL1, hL2, stkR_map]
   have hLl : L.length < 20 := by have := congrArg List.length hL1; simp at this; omega
   dsimp only
   rw [e1, e2]
   refine zS ?_
   (apply wl_callP (sortSM_con vb L 101 [] (fun x y => bCmp x.1 y.1) hLl (fun x y => add1_con x y)); exact rfl; exact yC; exact rfl)
   rintro _ _ ⟨rfl, rfl⟩
   have hLm : (srt (fun x y : MB => decide (bCmp x.1 y.1 < 0)) L).map (·.1) = srt bLt (f.bs ++ [x]) := by
    rw [show f.bs ++ [x] = L.map (·.1) from hL1]; exact srt_map Prod.fst bLt L
   have hLp := srt_perm (fun x y : MB => decide (bCmp x.1 y.1 < 0)) L
   generalize srt (fun x y : MB => decide (bCmp x.1 y.1 < 0)) L = L' at hLm hLp ⊢
   clear hW
   generalize srt bLt (f.bs ++ [x]) = bs' at hLm hS' ⊢
   apply WL_packPerm (hLp.symm.map stkH)
   ·exact zN
   have e3 : HA.row vb 49 4 tkC L' = HA.row vb 49 4 mbC (mixL bs' (L'.map (·.2.1))) := by rw [← hLm, row_tk]
   have e4 : L'.map stkH = stkR bs' (L'.map (·.2.1)) := by rw [← hLm, stkR_map]
   have hus' : (L'.map (·.2.1)).length = bs'.length := by rw [← hLm]; simp
   rw [e3, e4]
   apply WL_mkFact hus'
   apply WL_mkExs (h := fun us : List Value => [.fact (us.length = bs'.length), .row vi 3 1 iC f.ids, .row vq 87 2 quC f.qs, .row vb 49 4 mbC (mixL bs' us), .row vp 42 3 payC f.ps, .pack (stkR bs' us)]) (L'.map (·.2.1))
   ·exact yC
   rw [show HA.exs (fun us : List Value => [.fact (us.length = bs'.length), .row vi 3 1 iC f.ids, .row vq 87 2 quC f.qs, .row vb 49 4 mbC (mixL bs' us), .row vp 42 3 payC f.ps, .pack (stkR bs' us)]) = floOwn vi vq vb vp { f with bs := bs' } from rfl]
   refine zS ?_
   (apply wl_borrow 30 (flo_thaw vi vq vb vp { f with bs := bs' }) (check_con { f with bs := bs' } hS'); exact rfl; exact rfl; exact yC; exact Pers.glob Pers.nil; exact rfl)
   cases hok2 : floOk { f with bs := bs' } with
   | false =>
    rw [show errF { f with bs := bs' } = 80 by unfold errF; rw [hok2]; rfl]
    refine zS ?_
    rw [if_neg (by simp)]
    (refine Res_add _ floE_own ?_; apply resKN1; exact rfl; exact rfl; exact zM; exact inferInstance; exact rfl; exact rfl; exact flP_nil _; exact yC)
   | true =>
    rw [show errF { f with bs := bs' } = 0 by unfold errF; rw [hok2]; rfl]
    refine zS ?_
    rw [if_pos rfl]
    (apply resKN1; exact rfl; exact rfl; exact zM; exact inferInstance; exact rfl; exact rfl; exact ⟨vi, vq, vb, vp, ⟨inferInstance, inferInstance, inferInstance, inferInstance⟩, rfl, rfl⟩; exact yC)
end Go.Proofs.YtihonljdanjfmaaGreatDoor.Sw
namespace Go.Proofs.YtihonljdanjfmaaGreatDoor.Sw
open Go.RowKit Go Go.Shelf Go.Proofs
open Go.Proofs.YtihonljdanjfmaaGreatDoor.Gr (Ok Ord Forest Zr lf headsR hf Lab payLt payLt_iff payLt_no SortedP sorted_uniq amt payE treeR treeR_iff pick Side)
theorem erase_same {L M : List (Nat × Nat)} (hL : L.Nodup) (hM : M.Nodup) (h : ∀ p, p ∈ L ↔ p ∈ M) (e p : Nat × Nat) : p ∈ L.erase e ↔ p ∈ M.erase e := by
 rw [hL.mem_erase_iff, hM.mem_erase_iff, h]
theorem side_same {L M : List (Nat × Nat)} (hL : L.Nodup) (hM : M.Nodup) (h : ∀ p, p ∈ L ↔ p ∈ M) {e : Nat × Nat} {i o : Nat} {Q : Nat → Bool} (k : Side L e i o Q) : Side M e i o Q :=
 ⟨cl_same (fun p hp => (erase_same hL hM h e p).2 hp) k.cl, k.inn, k.out⟩
theorem amt_same {n : Nat} {x : Nat → Int} {L M : List (Nat × Nat)} (hL : L.Nodup) (hM : M.Nodup) (h : ∀ p, p ∈ L ↔ p ∈ M) (hf : Forest L) (hz : Zr n L x) {e : Nat × Nat} (he : e ∈ L) : amt n x L e = amt n x M e := by
 obtain ⟨Q, hQ⟩ := Gr.side_of hf he (.inr ⟨rfl, rfl⟩ : Gr.Ends e e.2 e.1)
 rw [Gr.amt_side hL hz hQ, Gr.amt_side hM ((zr_same h).1 hz) (side_same hL hM h hQ)]
theorem payE_same {ids : List Int} {x : Nat → Int} {L M : List (Nat × Nat)} (hL : L.Nodup) (hM : M.Nodup) (h : ∀ p, p ∈ L ↔ p ∈ M) (hf : Forest L) (hz : Zr ids.length L x) {e : Nat × Nat} (he : e ∈ L) : payE ids x L e = payE ids x M e := by
 unfold payE
 rw [amt_same hL hM h hf hz he]
structure SetL (ids cu : List Int) (p : Nat × Nat → Prop) (many : Nat) (L : List (Nat × Nat)) (out : List Pay) : Prop where
 nd : L.Nodup
 mem : ∀ e ∈ L, p e
 len : L.length = many
 fo : Forest L
 zr : Zr ids.length L (lf cu)
 nz : ∀ e ∈ L, amt ids.length (lf cu) L e ≠ 0
 so : SortedP out
 pe : out.Perm (L.map (payE ids (lf cu) L))
theorem SetL.same {ids cu : List Int} {p : Nat × Nat → Prop} {many : Nat} {L M : List (Nat × Nat)} {out : List Pay} (h : SetL ids cu p many L out) (hM : M.Nodup) (hm : ∀ e, e ∈ L ↔ e ∈ M) : SetL ids cu p many M out := by
 have hp : L.Perm M := (List.perm_ext_iff_of_nodup h.nd hM).2 hm
 refine ⟨hM, fun e he => h.mem e ((hm e).2 he), hp.length_eq ▸ h.len, h.fo.sub h.nd hM fun e he => (hm e).2 he, (zr_same hm).1 h.zr, fun e he => ?_, h.so, ?_⟩
 ·rw [← amt_same h.nd hM hm h.fo h.zr ((hm e).2 he)]; exact h.nz e ((hm e).2 he)
 ·refine h.pe.trans ((List.Perm.of_eq ?_).trans (hp.map _))
  exact List.map_congr_left fun e he => payE_same h.nd hM hm h.fo h.zr he
def PrS (f : Flo) (e : Nat × Nat) : Prop := e.1 < e.2 ∧ e.2 < f.ids.length ∧ spk f e.1 e.2 = true
theorem sub_of_set {α : Type} [DecidableEq α] {L R : List α} (hL : L.Nodup) (hR : R.Nodup) (h : ∀ e ∈ L, e ∈ R) : ∃ S, List.Sublist S R ∧ S.Nodup ∧ ∀ e, e ∈ L ↔ e ∈ S :=
 ⟨R.filter fun e => decide (e ∈ L), List.filter_sublist, hR.filter _, fun e => by
  rw [List.mem_filter]
  exact ⟨fun he => ⟨h e he, by simpa using he⟩, fun he => by simpa using he.2⟩⟩
theorem allR_mem {f : Flo} {k : Nat} {out : List Pay} : out ∈ allR f k ↔ ∃ L, SetL f.ids (owed8 f) (PrS f) k L out := by
 have hok := prR_ok (spk f) f.ids.length
 unfold allR allTo
 rw [List.mem_filterMap]
 constructor
 ·rintro ⟨s, _, hs⟩
  split at hs
  ·rename_i hk
   have hsub := Gr.pick_sub (prR (spk f) f.ids.length f.ids.length) s
   have hoS := hok.sub hsub
   obtain ⟨h1, h2, h3, h4, h5⟩ := (treeR_iff hoS (owed8_len f)).1 hs
   refine ⟨_, hoS.nd, fun e he => ?_, hk, h1, h2, h3, h4, h5⟩
   have := (prR_mem (Nat.le_refl _)).1 (hsub.subset he)
   exact ⟨this.2.1, this.2.2.1, this.2.2.2⟩
  ·cases hs
 ·rintro ⟨L, h⟩
  obtain ⟨S, h1, h2, h3⟩ := sub_of_set (R := prR (spk f) f.ids.length f.ids.length) h.nd hok.nd fun e he => by
   have := h.mem e he
   exact (prR_mem (Nat.le_refl _)).2 ⟨Nat.lt_trans this.1 this.2.1, this.1, this.2.1, this.2.2⟩
  have hS := h.same h2 h3
  obtain ⟨s, hs1, hs2⟩ := Gr.sub_pick h1
  refine ⟨s, List.mem_range.2 hs1, ?_⟩
  rw [hs2, if_pos hS.len]
  exact (treeR_iff (hok.sub h1) (owed8_len f)).2 ⟨hS.fo, hS.zr, hS.nz, hS.so, hS.pe⟩
theorem insR_desc (x : Pay) : ∀ l : List Pay, l.Pairwise (fun a b => payLt a b = false) → (insR payLt x l).Pairwise (fun a b => payLt a b = false)
 | [], _ => by simp [insR]
 | a :: t, h => by
  obtain ⟨h1, h2⟩ := List.pairwise_cons.1 h
  rw [insR]
  split
  ·rename_i hx
   refine List.pairwise_cons.2 ⟨fun y hy => ?_, insR_desc x t h2⟩
   rcases List.mem_cons.1 ((insR_perm payLt x t).mem_iff.1 hy) with rfl | hy
   ·rw [payLt_iff] at hx; rw [payLt_no]; omega
   ·exact h1 y hy
  ·rename_i hx
   have hx' : payLt x a = false := by simpa using hx
   refine List.pairwise_cons.2 ⟨fun y hy => ?_, h⟩
   rcases List.mem_cons.1 hy with rfl | hy
   ·exact hx'
   ·have := h1 y hy
    rw [payLt_no] at this hx' ⊢; omega
theorem srtP_sorted (l : List Pay) : SortedP (srt payLt l) := by
 unfold srt SortedP
 have h : ∀ (l acc : List Pay), acc.Pairwise (fun a b => payLt b a = false) → (l.foldl (insE payLt) acc).Pairwise (fun a b => payLt b a = false) := by
  intro l
  induction l with
  | nil => exact fun acc h => h
  | cons x t ih =>
   intro acc h
   refine ih _ ?_
   unfold insE
   rw [List.pairwise_reverse]
   exact insR_desc x _ (by rw [List.pairwise_reverse]; exact h)
 exact h l [] List.Pairwise.nil
theorem lstR_iff {ids cu : List Int} {L : List (Nat × Nat)} {out : List Pay} : lstR ids L cu = some out ↔ (∀ e ∈ L, amt ids.length (lf cu) L e ≠ 0) ∧ SortedP out ∧ out.Perm (L.map (payE ids (lf cu) L)) := by
 have hlt : (fun x y => decide (pyCmp x y < 0)) = payLt := by funext x y; exact pyCmp_lt x y
 unfold lstR
 rw [hlt]
 have hall : L.all (fun e => decide (amt ids.length (lf cu) L e ≠ 0)) = true ↔ ∀ e ∈ L, amt ids.length (lf cu) L e ≠ 0 := by simp [List.all_eq_true]
 split
 ·rename_i h
  constructor
  ·intro e
   injection e with e
   subst e
   exact ⟨hall.1 h, srtP_sorted _, srt_perm _ _⟩
  ·rintro ⟨_, h2, h3⟩
   rw [sorted_uniq (srtP_sorted _) h2 ((srt_perm _ _).trans h3.symm)]
 ·rename_i h
  constructor
  ·intro e; cases e
  ·rintro ⟨h1, _⟩; exact absurd (hall.2 h1) h
theorem leafG_mem {f : Flo} {cu : List Int} {l : List (Nat × Nat)} {out : List Pay} (h : ∀ p ∈ l, p.1 < f.ids.length ∧ p.2 < f.ids.length) : out ∈ leafG f cu l ↔ Zr f.ids.length l (lf cu) ∧ lstR f.ids l cu = some out := by
 unfold leafG
 rw [← evB_iff h]
 split
 ·rename_i he
  rw [Option.mem_toList]
  simp [he]
 ·rename_i he
  simp [he]
theorem chG_mem {f : Flo} {cu : List Int} {many : Nat} {out : List Pay} : ∀ {t l : List (Nat × Nat)}, (l ++ t).Nodup → (∀ p ∈ l ++ t, p.1 < f.ids.length ∧ p.2 < f.ids.length) → Forest l → l.length ≤ many →
  (out ∈ chG f cu many t l ↔ ∃ s, List.Sublist s t ∧ (l ++ s).length = many ∧ Forest (l ++ s) ∧ Zr f.ids.length (l ++ s) (lf cu) ∧ lstR f.ids (l ++ s) cu = some out)
 | [], l, hn, hl, hf, hle => by
  rw [chG]
  constructor
  ·intro h
   split at h
   ·rename_i hm
    have := (leafG_mem (fun p hp => hl p (by simp [hp]))).1 h
    exact ⟨[], .slnil, by simpa using hm, by simpa using hf, by simpa using this.1, by simpa using this.2⟩
   ·cases h
  ·rintro ⟨s, hs, h1, h2, h3, h4⟩
   obtain rfl := List.sublist_nil.1 hs
   rw [List.append_nil] at h1 h3 h4
   rw [if_pos h1]
   exact (leafG_mem (fun p hp => hl p (by simp [hp]))).2 ⟨h3, h4⟩
 | p :: t, l, hn, hl, hf, hle => by
  by_cases hm : l.length = many
  ·rw [chG_yes hm]
   constructor
   ·intro h
    have := (leafG_mem (fun p hp => hl p (by simp [hp]))).1 h
    exact ⟨[], List.nil_sublist _, by simpa using hm, by simpa using hf, by simpa using this.1, by simpa using this.2⟩
   ·rintro ⟨s, hs, h1, h2, h3, h4⟩
    have : s = [] := List.length_eq_zero_iff.1 (by rw [List.length_append] at h1; omega)
    subst this
    rw [List.append_nil] at h3 h4
    exact (leafG_mem (fun p hp => hl p (by simp [hp]))).2 ⟨h3, h4⟩
  ·rw [chG_cons hm, List.mem_append]
   have e1 : l ++ p :: t = (l ++ [p]) ++ t := by simp
   have hn1 : ((l ++ [p]) ++ t).Nodup := by rw [← e1]; exact hn
   have hl1 : ∀ q ∈ (l ++ [p]) ++ t, q.1 < f.ids.length ∧ q.2 < f.ids.length := by rw [← e1]; exact hl
   have hn2 : (l ++ t).Nodup := hn.sublist ((List.sublist_cons_self p t).append_left l)
   have hl2 : ∀ q ∈ l ++ t, q.1 < f.ids.length ∧ q.2 < f.ids.length := fun q hq => hl q (by simp at hq ⊢; rcases hq with h | h <;> simp [h])
   have hnp : (l ++ [p]).Nodup := (List.nodup_append.1 hn1).1
   have hp := hl p (by simp)
   have hap : Forest (l ++ [p]) ↔ apB f.ids.length l p = true := by
    rw [Gr.forest_snoc hnp, ← Gr.lab_apart (Gr.lab_all (fun q hq => hl q (by simp [hq]))) hp.1 hp.2]
    unfold apB
    simp [hf]
   have ih2 := chG_mem (out := out) (cu := cu) hn2 hl2 hf hle
   constructor
   ·rintro (h | h)
    ·split at h
     ·rename_i ha
      obtain ⟨s, h1, h2, h3, h4, h5⟩ := (chG_mem hn1 hl1 (hap.2 ha) (by rw [List.length_append, List.length_singleton]; omega)).1 h
      rw [List.append_assoc, List.singleton_append] at h2 h3 h4 h5
      exact ⟨p :: s, h1.cons_cons p, h2, h3, h4, h5⟩
     ·cases h
    ·obtain ⟨s, h1, h2⟩ := ih2.1 h
     exact ⟨s, h1.cons p, h2⟩
   ·rintro ⟨s, hs, h1, h2, h3, h4⟩
    cases hs with
    | cons _ hs => exact .inr (ih2.2 ⟨s, hs, h1, h2, h3, h4⟩)
    | cons_cons _ hs =>
     rename_i s
     have e2 : l ++ p :: s = (l ++ [p]) ++ s := by simp
     rw [e2] at h1 h2 h3 h4
     have hns : ((l ++ [p]) ++ s).Nodup := hn1.sublist (hs.append_left _)
     have hfp : Forest (l ++ [p]) := h2.sub hns hnp fun q hq => by simp only [List.mem_append] at hq ⊢; exact .inl hq
     refine .inl ?_
     rw [if_pos (hap.1 hfp)]
     exact (chG_mem hn1 hl1 hfp (by rw [List.length_append, List.length_singleton]; omega)).2 ⟨s, hs, h1, h2, h3, h4⟩
theorem forest_nil : Forest [] := fun e he => by cases he
theorem lstsR_mem {f : Flo} {k : Nat} {out : List Pay} : out ∈ lstsR f (owed8 f) k ↔ ∃ L, SetL f.ids (owed8 f) (PrS f) k L out := by
 unfold lstsR
 rw [chG_mem (by simpa using prP_nodup _ _) (fun p hp => by have := prP_mem.1 (by simpa using hp : p ∈ prP (spk f) f.ids.length); omega) forest_nil (Nat.zero_le _)]
 constructor
 ·rintro ⟨s, hs, h1, h2, h3, h4⟩
  rw [List.nil_append] at h1 h2 h3 h4
  obtain ⟨h5, h6, h7⟩ := lstR_iff.1 h4
  exact ⟨s, (prP_nodup _ _).sublist hs, fun e he => prP_mem.1 (hs.subset he), h1, h2, h3, h5, h6, h7⟩
 ·rintro ⟨L, h⟩
  obtain ⟨S, h1, h2, h3⟩ := sub_of_set (R := prP (spk f) f.ids.length) h.nd (prP_nodup _ _) fun e he => prP_mem.2 (h.mem e he)
  have hS := h.same h2 h3
  exact ⟨S, h1, by simpa using hS.len, by simpa using hS.fo, by simpa using hS.zr, by simpa using lstR_iff.2 ⟨hS.nz, hS.so, hS.pe⟩⟩
end Go.Proofs.YtihonljdanjfmaaGreatDoor.Sw
namespace Go.Proofs.YtihonljdanjfmaaGreatDoor.Sw
open Go.RowKit Go Go.Shelf Go.Proofs
structure PayB (l : List Pay) : Prop where
 len : l.length ≤ 1000
 bd : ∀ x ∈ l, -1000000000000 ≤ x.p ∧ x.p ≤ 1000000000000
theorem sum_con (l : List Pay) (hB : PayB l) : Con Tryz.prog 75 [.sl 3 payC l] [] (Is (.val (.int .i64 (sumPay l))) []) := by
 obtain ⟨hl, hb⟩ := hB
 refine con_of Tryz.func75 rfl (enters_of Tryz.func75 (by kernel_rfl) rfl) rfl ?_; intro n w0 F0 G0
 refine zS ?_;repeat(refine yA ?_;intro p hp;refine zS ?_)
 refine W_loopJ (fun (k : Nat) => ⟨[(6, .sl 3 payC l), (7, .val (.int .i64 l.length)), (8, .val (.int .i64 k)), (3, .val (.int .i64 (sumPay (l.take k))))], []⟩) (fun k => k ≤ l.length) (fun k => l.length - k) 0 (fun _ _ st => st_sub2 st zR zP) (Nat.zero_le _) ?_
 rintro k hk
 refine zS ?_;repeat(refine yA ?_;intro p hp;refine zS ?_)
 refine w_cond rfl (fun hlt => ?_) (fun hlt => ?_)
 ·have hlt' : k < l.length := by simpa using hlt
  have h1 := hb _ (List.getElem_mem hlt')
  have h2 := sumPay_bound (c := 1000000000000) (by omega) (l := l.take k) fun y hy => hb y (List.mem_of_mem_take hy)
  have h3 : (l.take k).length = k := by rw [List.length_take]; omega
  rw [h3] at h2
  have h4 : sumPay (l.take (k + 1)) = sumPay (l.take k) + l[k].p := by rw [List.take_succ_eq_append_getElem hlt', sumPay_snoc]
  refine zS ?_;repeat(refine yA ?_;intro p hp;refine zS ?_)
  rw [← h4]
  (refine ⟨k + 1, fun _ _ st => st_sub2 st ?_ ?_, ?_, ?_⟩; exact zR; exact zP)
  ·omega
  ·omega
 ·have hkk : k = l.length := by simp at hlt; omega
  subst hkk
  rw [List.take_length]
  refine zS ?_;repeat(refine yA ?_;intro p hp;refine zS ?_)
  (apply res1; exact rfl; exact rfl; exact ⟨rfl, rfl⟩)
def cmpL : List Pay → List Pay → Int
 | [], [] => 0
 | [], _ :: _ => -1
 | _ :: _, [] => 1
 | x :: s, y :: t => if pyCmp x y ≠ 0 then pyCmp x y else cmpL s t
theorem cmpL_0 : cmpL [] [] = 0 := rfl
theorem cmpL_1 (x : Pay) (s : List Pay) : cmpL (x :: s) [] = 1 := rfl
theorem cmpL_3 (x : Pay) (s : List Pay) : cmpL [] (x :: s) = -1 := rfl
theorem cmpL_2 (x y : Pay) (s t : List Pay) : cmpL (x :: s) (y :: t) = if pyCmp x y ≠ 0 then pyCmp x y else cmpL s t := rfl
theorem cmpF_con (a b : List Pay) (ha : a.length ≤ 1000) (hb : b.length ≤ 1000) : Con Tryz.prog 111 [.sl 3 payC a, .sl 3 payC b, .clo 112 []] [] (Is (.val (.int .i64 (cmpL a b))) []) := by
 refine con_of Tryz.func111 rfl (enters_of Tryz.func111 (by kernel_rfl) rfl) rfl ?_; intro n w0 F0 G0
 refine zS ?_;repeat(refine yA ?_;intro p hp;refine zS ?_)
 refine W_loopJ (fun (k : Nat) => ⟨[(0, .sl 3 payC a), (1, .sl 3 payC b), (2, .clo 112 []), (11, .sl 3 payC a), (12, .val (.int .i64 a.length)), (13, .val (.int .i64 k))], []⟩) (fun k => k ≤ a.length ∧ k ≤ b.length ∧ cmpL (a.drop k) (b.drop k) = cmpL a b) (fun k => a.length - k) 0 (fun _ _ st => st_sub2 st zR zP) ⟨Nat.zero_le _, Nat.zero_le _, rfl⟩ ?_
 rintro k ⟨hk, hkb, hc⟩
 refine zS ?_;repeat(refine yA ?_;intro p hp;refine zS ?_)
 refine w_cond rfl (fun hlt => ?_) (fun hlt => ?_)
 ·have hlt' : k < a.length := by simpa using hlt
  refine zS ?_;repeat(refine yA ?_;intro p hp;refine zS ?_)
  refine w_cond rfl (fun hge => ?_) (fun hge => ?_)
  ·have hke : k = b.length := by have := of_decide_eq_true hge; omega
   have e2 : b.drop k = [] := List.drop_eq_nil_of_le (by omega)
   rw [drop_step hlt', e2] at hc
   rw [cmpL_1] at hc
   rw [← hc]
   refine zS ?_;repeat(refine yA ?_;intro p hp;refine zS ?_)
   (apply res1; exact rfl; exact rfl; exact ⟨rfl, rfl⟩)
  ·have hkb' : k < b.length := by have := of_decide_eq_false hge; omega
   rw [drop_step hlt', drop_step hkb', cmpL_2] at hc
   have CP := payments_con a[k] b[k]
   refine zS ?_;repeat(refine yA ?_;intro p hp;refine zS ?_)
   (apply wl_callV0 (CP); exact rfl; exact rfl; exact rfl)
   refine zS ?_;repeat(refine yA ?_;intro p hp;refine zS ?_)
   refine w_cond rfl (fun hz => ?_) (fun hz => ?_)
   ·rw [if_pos (by simpa using hz)] at hc
    rw [hc]
    refine zS ?_;repeat(refine yA ?_;intro p hp;refine zS ?_)
    (apply res1; exact rfl; exact rfl; exact ⟨rfl, rfl⟩)
   ·rw [if_neg (by simpa using hz)] at hc
    refine zS ?_;repeat(refine yA ?_;intro p hp;refine zS ?_)
    (refine ⟨k + 1, fun _ _ st => st_sub2 st ?_ ?_, ?_, ?_⟩; exact zR; exact zP)
    ·exact ⟨hlt', hkb', hc⟩
    ·omega
 ·have hke : k = a.length := by simp at hlt; omega
  have e2 : a.drop k = [] := List.drop_eq_nil_of_le (by omega)
  rw [e2] at hc
  refine zS ?_;repeat(refine yA ?_;intro p hp;refine zS ?_)
  refine w_cond rfl (fun hl => ?_) (fun hl => ?_)
  ·have hl' : k < b.length := by have := of_decide_eq_true hl; omega
   rw [drop_step hl', cmpL_3] at hc
   rw [← hc]
   refine zS ?_;repeat(refine yA ?_;intro p hp;refine zS ?_)
   (apply res1; exact rfl; exact rfl; exact ⟨rfl, rfl⟩)
  ·have hl' : k = b.length := by have := of_decide_eq_false hl; omega
   rw [List.drop_eq_nil_of_le (by omega), cmpL_0] at hc
   rw [← hc]
   refine zS ?_;repeat(refine yA ?_;intro p hp;refine zS ?_)
   (apply res1; exact rfl; exact rfl; exact ⟨rfl, rfl⟩)
def befI (a b : List Pay) : Int := firstNZ [cmpR (sumPay a) (sumPay b), cmpL a b]
theorem before_con (a b : List Pay) (ha : PayB a) (hb : PayB b) : Con Tryz.prog 63 [.sl 3 payC a, .sl 3 payC b] [] (Is (.val (.int .i64 (befI a b))) []) := by
 refine con_of Tryz.func63 rfl (enters_of Tryz.func63 (by kernel_rfl) rfl) rfl ?_; intro n w0 F0 G0
 refine zS ?_
 (first | (apply wl_call (sum_con a ha); exact rfl; exact rfl) | (apply wl_callR (sum_con a ha); exact rfl; exact zM; exact rfl))
 refine zS ?_
 (first | (apply wl_call (sum_con b hb); exact rfl; exact rfl) | (apply wl_callR (sum_con b hb); exact rfl; exact zM; exact rfl))
 refine zS ?_
 (first | (apply wl_call (compare_con (sumPay a) (sumPay b)); exact rfl; exact rfl) | (apply wl_callR (compare_con (sumPay a) (sumPay b)); exact rfl; exact zM; exact rfl))
 refine zS ?_
 (first | (apply wl_call (cmpF_con a b ha.len hb.len); exact rfl; exact rfl) | (apply wl_callR (cmpF_con a b ha.len hb.len); exact rfl; exact zM; exact rfl))
 refine zS ?_
 (apply wl_litF iC; exact inferInstance; exact inferInstance; exact inferInstance; exact zE; exact rfl; (first | exact (of_decide_eq_true rfl) | decide | (simp; done) | (simp; omega)); exact rfl)
 refine zS ?_
 (first | (apply wl_call (or_con [cmpR (sumPay a) (sumPay b), cmpL a b] (by simp)); exact rfl; exact rfl) | (apply wl_callR (or_con [cmpR (sumPay a) (sumPay b), cmpL a b] (by simp)); exact rfl; exact zM; exact rfl))
 refine zS ?_
 (apply res1; exact rfl; exact rfl; exact ⟨rfl, rfl⟩)
theorem values_iter (xs : List (List Pay)) (hl : xs.length ≤ 100000) : Iter Tryz.prog 109 [.fp 1 [.sl 1 plC xs]] [] lsC (fun _ _ => []) xs := by
 refine ⟨fun yv β βx H Hx I Ix hone hY b0 hI0 => ?_⟩
 refine con_of Tryz.func109 rfl (enters_of Tryz.func109 (by kernel_rfl) rfl) rfl ?_; intro n w0 F0 G0
 refine zS ?_
 refine W_loopJ (fun (b : Nat × β) => ⟨[(0, .val yv), (5, .sl 1 plC xs), (6, .val (.int .i64 xs.length)), (7, .val (.int .i64 b.1))], [.pack (H b.2)]⟩) (fun b => b.1 ≤ xs.length ∧ I b.1 b.2) (fun b => xs.length - b.1) (0, b0) (fun _ _ st => st_sub2 st zR zP) ⟨Nat.zero_le _, hI0⟩ ?_
 rintro ⟨k, b⟩ ⟨hk, hI⟩
 dsimp only at hk hI ⊢
 refine zS ?_
 refine w_cond rfl (fun hlt => ?_) (fun hlt => ?_)
 ·have hk' : k < xs.length := by simpa using hlt
  have Y := hY k hk' b () hI
  refine zS ?_
  (apply wl_yield Y; exact rfl; exact rfl; exact yC; exact rfl)
  rintro _ _ (⟨rfl, b', hb', rfl⟩ | ⟨rfl, b', hb', rfl⟩)
  ·refine zS ?_
   (refine ⟨(k + 1, b'), fun _ _ st => st_sub2 st ?_ ?_, ?_, ?_⟩; exact zR; exact zP)
   ·exact ⟨hk', hb'⟩
   ·dsimp only; omega
  ·refine zS ?_
   (apply resK0; exact rfl; exact .inr ⟨k + 1, b', by omega, by omega, hb', rfl⟩; exact yC)
 ·have hkk : k = xs.length := by simp at hlt; omega
  subst hkk
  refine zS ?_
  (apply resK0; exact rfl; exact .inl ⟨b, hI, rfl⟩; exact yC)
theorem values_con (xs : List (List Pay)) : Con Tryz.prog 62 [.sl 1 plC xs] [] (Is (.clo 109 [.fp 1 [.sl 1 plC xs]]) []) := by
 refine con_of Tryz.func62 rfl (enters_of Tryz.func62 (by kernel_rfl) rfl) rfl ?_; intro n w0 F0 G0
 refine zS ?_
 refine yA ?_
 intro p1 hp1
 (apply WL_frzb 1 1; exact rfl; exact zN)
 refine zS ?_;repeat(refine yA ?_;intro p hp;refine zS ?_)
 (apply res1; exact rfl; exact rfl; exact ⟨rfl, rfl⟩)
def opA (o : Option (List Pay)) : AV := match o with | none => .val (.slice none 0 0) | some l => .sl 3 payC l
def bstS (b : Option (List Pay)) (x : List Pay) : Option (List Pay) := match b with | none => some x | some y => if befI x y < 0 then some x else some y
theorem bstS_mem {xs : List (List Pay)} {b : Option (List Pay)} {y : List Pay} (h : xs.foldl bstS b = some y) : y ∈ xs ∨ b = some y := by
 induction xs generalizing b with
 | nil => exact .inr h
 | cons x t ih =>
  rcases ih h with h1 | h1
  ·exact .inl (by simp [h1])
  ·unfold bstS at h1
   cases b with
   | none => injection h1 with h1; exact .inl (by simp [h1])
   | some z =>
    dsimp only at h1
    split at h1
    ·injection h1 with h1; exact .inl (by simp [h1])
    ·exact .inr h1
theorem firstL_con (xs : List (List Pay)) (hl : xs.length ≤ 100000) (hb : ∀ x ∈ xs, PayB x) : Con Tryz.prog 61 [.clo 109 [.fp 1 [.sl 1 plC xs]], .clo 63 []] [] (Is (.tup [opA (xs.foldl bstS none), .val (.bool (xs.foldl bstS none).isSome)]) []) := by
 have IT := values_iter xs hl
 refine con_of Tryz.func61 rfl (enters_of Tryz.func61 (by kernel_rfl) rfl) rfl ?_; intro n w0 F0 G0
 refine zS ?_;repeat(refine yA ?_;intro p hp;refine zS ?_)
 rename_i p3 hp3 p6 hp6
 refine W_range (own := []) (by exact rfl) IT yC (fun k (b : Nat × Option (List Pay)) => b.1 = k ∧ b.2 = (xs.take k).foldl bstS none) (fun b => [.box p6 [opA b.2] 108, .box p [.val (.bool b.2.isSome)] 4, .box p3 [.clo 63 []] 114]) (fun _ _ => False) (fun _ _ => []) (0, none) ⟨rfl, rfl⟩ zP (by intro _ _ _; exact rfl) (by exact rfl) ?_ ?_ (fun _ _ _ h => h.elim)
 ·intro lr m w1 F1 G1 hrec k hk b u hI
  obtain ⟨j, o⟩ := b
  obtain ⟨hI, ho⟩ := hI
  dsimp only at hI ho
  subst hI
  dsimp only [zipR, lsC, List.cons_append, List.nil_append]
  have hst : (xs.take (j + 1)).foldl bstS none = bstS o xs[j] := by rw [List.take_succ_eq_append_getElem hk, List.foldl_append, ← ho]; rfl
  have hb1 := hb _ (List.getElem_mem hk)
  cases o with
  | none =>
   dsimp only [opA, Option.isSome]
   unfold bstS at hst
   dsimp only at hst
   refine zS ?_;repeat(refine yA ?_;intro p hp;refine zS ?_)
   intro w2 F2 G2 hrec2
   refine zS ?_;repeat(refine yA ?_;intro p hp;refine zS ?_)
   refine ⟨(j + 1, some xs[j]), ⟨rfl, hst.symm⟩, fun a w st => st_sub2 st zR zP⟩
  | some y =>
   have hb2 : PayB y := hb _ (by
    rcases bstS_mem ho.symm with h | h
    ·exact List.mem_of_mem_take h
    ·cases h)
   have BC := before_con xs[j] y hb1 hb2
   dsimp only [opA, Option.isSome]
   unfold bstS at hst
   dsimp only at hst
   refine zS ?_;repeat(refine yA ?_;intro p hp;refine zS ?_)
   intro w2 F2 G2 hrec2
   refine zS ?_;repeat(refine yA ?_;intro p hp;refine zS ?_)
   (apply wl_callV0 (BC); exact rfl; exact rfl; exact rfl)
   refine zS ?_;repeat(refine yA ?_;intro p hp;refine zS ?_)
   refine w_cond rfl (fun hlt => ?_) (fun hlt => ?_)
   ·rw [if_pos (of_decide_eq_true hlt)] at hst
    refine zS ?_;repeat(refine yA ?_;intro p hp;refine zS ?_)
    refine ⟨(j + 1, some xs[j]), ⟨rfl, hst.symm⟩, fun a w st => st_sub2 st zR zP⟩
   ·rw [if_neg (of_decide_eq_false hlt)] at hst
    refine zS ?_;repeat(refine yA ?_;intro p hp;refine zS ?_)
    refine ⟨(j + 1, some y), ⟨rfl, hst.symm⟩, fun a w st => st_sub2 st zR zP⟩
 ·rintro ⟨j, o⟩ ⟨hI, ho⟩
  dsimp only at hI ho
  subst hI
  dsimp only
  rw [List.take_length] at ho
  rw [← ho]
  clear ho
  cases o with
  | none =>
   dsimp only [opA, Option.isSome]
   (repeat (first | refine th_norm ?_ | refine th_exit ?_ | refine th_ret ?_ | refine bl_norm ?_ | refine bl_eq ?_ | refine bl_ne rfl ?_ | refine bl_ret ?_ | refine rt_norm ?_ | refine rt_ret ?_))
   refine zS ?_;repeat(refine yA ?_;intro p hp;refine zS ?_)
   refine W_run 3 [21, 22, 4] [0, 1, 2] Cut.nil rfl goFlt mixedS (by kernel_rfl) rfl ?_
   refine rpv [] [] ?_
   refine rpv [] [] ?_
   refine rpv [0] [] ?_
   refine ⟨⟨by kernel_rfl, by kernel_rfl⟩, fun vs => ?_⟩
   apply WL_auto [1, 2]
   ·exact goPk
   ·exact goNrm
   ·kernel_rfl
   ·kernel_rfl
   refine zS ?_;repeat(refine yA ?_;intro p hp;refine zS ?_)
   refine zS ?_;repeat(refine yA ?_;intro p hp;refine zS ?_)
   (apply resK2; exact rfl; exact rfl; exact rfl; exact ⟨rfl, rfl⟩; exact yC)
  | some y =>
   dsimp only [opA, Option.isSome]
   (repeat (first | refine th_norm ?_ | refine th_exit ?_ | refine th_ret ?_ | refine bl_norm ?_ | refine bl_eq ?_ | refine bl_ne rfl ?_ | refine bl_ret ?_ | refine rt_norm ?_ | refine rt_ret ?_))
   refine zS ?_;repeat(refine yA ?_;intro p hp;refine zS ?_)
   refine W_run 3 [21, 22, 4] [0, 1, 2] Cut.nil rfl goFlt mixedS (by kernel_rfl) rfl ?_
   refine rpv [] [] ?_
   refine rpv [] [] ?_
   refine rpv [0] [] ?_
   refine ⟨⟨by kernel_rfl, by kernel_rfl⟩, fun vs => ?_⟩
   apply WL_auto [1, 2]
   ·exact goPk
   ·exact goNrm
   ·kernel_rfl
   ·kernel_rfl
   refine zS ?_;repeat(refine yA ?_;intro p hp;refine zS ?_)
   refine zS ?_;repeat(refine yA ?_;intro p hp;refine zS ?_)
   (apply resK2; exact rfl; exact rfl; exact rfl; exact ⟨rfl, rfl⟩; exact yC)
theorem fewTo_len {α : Type} {g : Nat → List α} {c : Nat} (h : ∀ k, (g k).length ≤ c) : ∀ m, (fewTo g m).length ≤ c
 | 0 => by simp [fewTo]
 | m + 1 => by
  rw [fewTo]
  split
  ·exact h m
  ·exact fewTo_len h m
noncomputable def lsF (f : Flo) : List (List Pay) := fewP f (owed8 f)
noncomputable def stlN (f : Flo) : List Pay × Int := if errL f = 0 then (((lsF f).foldl bstS none).getD [], 0) else ([], errL f)
theorem lsF_ne {f : Flo} (h : errL f = 0) : lsF f ≠ [] := by
 intro e
 unfold errL at h
 unfold lsF at e
 split at h
 ·rw [e] at h; exact absurd h (by decide)
 ·exact absurd h (by decide)
theorem lsF_len {f : Flo} (h : errL f = 0) : (lsF f).length ≤ 32768 := by
 have hok : floOk f = true := by
  unfold errL at h
  split at h
  ·assumption
  ·exact absurd h (by decide)
 exact fewTo_len (fun k => lsts_len (owed8 f) k (flo_f hok).ids) _
theorem bstS_some : ∀ {xs : List (List Pay)} {b : Option (List Pay)}, (xs ≠ [] ∨ b.isSome = true) → (xs.foldl bstS b).isSome = true
 | [], b, h => h.elim (fun h => absurd rfl h) id
 | x :: t, b, _ => by
  rw [List.foldl_cons]
  refine bstS_some (.inr ?_)
  unfold bstS
  cases b with
  | none => rfl
  | some y => dsimp only; split <;> rfl
theorem Settle_con (f : Flo) (hS : Sml f) (hB : errL f = 0 → ∀ x ∈ lsF f, PayB x) : Con Tryz.prog 18 [.agg (flC f)] [tab8] (Is (.tup [.sl 3 payC (stlN f).1, .val (.int .i64 (stlN f).2)]) [tab8]) := by
 by_cases he : errL f = 0
 ·have C := askedOk_con f hS he
  have hB := hB he
  have hl := lsF_len he
  have hne := lsF_ne he
  unfold stlN
  rw [if_pos he]
  unfold lsF at hl hB hne ⊢
  generalize fewP f (owed8 f) = xs at C hl hB hne ⊢
  have FC := firstL_con xs (by omega) hB
  have hs := bstS_some (b := none) (.inl hne)
  generalize xs.foldl bstS none = o at FC hs ⊢
  obtain ⟨y, rfl⟩ := Option.isSome_iff_exists.1 hs
  dsimp only [opA, Option.isSome, Option.getD] at FC ⊢
  refine con_of Tryz.func18 rfl (enters_of Tryz.func18 (by kernel_rfl) rfl) rfl ?_; intro n w0 F0 G0
  refine zS ?_;repeat(refine yA ?_;intro p hp;refine zS ?_)
  (apply wl_callP (C); exact rfl; exact yC; exact rfl)
  rintro _ _ ⟨ph, ow, rfl, rfl⟩
  refine zS ?_
  (first | (apply wl_call (values_con xs); exact rfl; exact rfl) | (apply wl_callR (values_con xs); exact rfl; exact zM; exact rfl))
  refine zS ?_
  (first | (apply wl_call (FC); exact rfl; exact rfl) | (apply wl_callR (FC); exact rfl; exact zM; exact rfl))
  refine zS ?_
  (apply resK2; exact rfl; exact rfl; exact rfl; exact ⟨rfl, rfl⟩; exact yC)
 ·have C := askedErr_con f hS he
  unfold stlN
  rw [if_neg he]
  generalize errL f = e at C he ⊢
  refine con_of Tryz.func18 rfl (enters_of Tryz.func18 (by kernel_rfl) rfl) rfl ?_; intro n w0 F0 G0
  refine zS ?_;repeat(refine yA ?_;intro p hp;refine zS ?_)
  (apply wl_callP (C); exact rfl; exact yC; exact rfl)
  rintro _ _ ⟨rfl, rfl⟩
  refine zS ?_
  refine w_cond rfl (fun h => ?_) (fun h => ?_)
  ·refine zS ?_
   refine Res_nil 2 3 payC rfl ?_
   (apply resK2; exact rfl; exact rfl; exact rfl; exact ⟨rfl, rfl⟩; exact yC)
  ·exact absurd (by simpa using h) he
def HX {β βx : Type} (H : β → List HA) (Hx : βx → List HA) (b : Nat × (β ⊕ βx)) : List HA := match b.2 with | .inl b => [.pack (H b)] | .inr b => [.pack (Hx b)]
theorem errL_ok {f : Flo} (h : errL f = 0) : floOk f = true := by
 unfold errL at h
 split at h
 ·assumption
 ·exact absurd h (by decide)
end Go.Proofs.YtihonljdanjfmaaGreatDoor.Sw
namespace Go.Proofs.YtihonljdanjfmaaGreatDoor.Sw
open Go.RowKit Go Go.Shelf Go.Proofs
open Go.Proofs.YtihonljdanjfmaaGreatDoor.Gr (payLt)
def fewN8 (f : Flo) : Int × Int := if (askR f).2.2 = 0 then ((((askR f).1.headD []).length : Int), 0) else (0, (askR f).2.2)
def ltL : List Pay → List Pay → Bool
 | x :: s, y :: t => if x ≠ y then payLt x y else ltL s t
 | [], _ => false
 | _ :: _, [] => false
theorem ltL_2 (x y : Pay) (s t : List Pay) : ltL (x :: s) (y :: t) = if x ≠ y then payLt x y else ltL s t := rfl
theorem ltL_1 (t : List Pay) : ltL [] t = false := rfl
def befR (a b : List Pay) : Bool := if sumPay a ≠ sumPay b then decide (sumPay a < sumPay b) else ltL a b
def bst8 (xs : List (List Pay)) : List Pay := xs.foldl (fun b x => if befR x b = true then x else b) (xs.headD [])
def stlN8 (f : Flo) : List Pay × Int := if (askR f).2.2 = 0 then (bst8 (askR f).1, 0) else ([], (askR f).2.2)
end Go.Proofs.YtihonljdanjfmaaGreatDoor.Sw
namespace Go.Proofs.YtihonljdanjfmaaGreatDoor.Sw
open Go.RowKit Go
open Go.WideElems (Fit)
open Go.ChangeMaps (setBlock heap_setBlock_same heap_setBlock_other)
structure WA (c : Cx) (ops : Array Oper) (j : Nat) (D : Array Bool) (s : S) (Q : Exit → S → Prop) : Prop where
 out : ∀ a w, St c s a w → wpAnyIn c.F c.n c.P .any ops (Post c Q) j D a w
def Each (p : Nat → Prop) : List Nat → Prop
 | [] => True
 | i :: t => p i ∧ Each p t
theorem Each.mem {p : Nat → Prop} : ∀ {l : List Nat}, Each p l → ∀ i ∈ l, p i
 | _ :: _, h, i, hi => by
  rcases List.mem_cons.1 hi with rfl | hi
  ·exact h.1
  ·exact Each.mem h.2 i hi
section
variable {P : Program} {κ α : Type} [DecidableEq κ] {t : TypeId} {kv : κ → Value} {ok : κ → Prop} {g : α → AV} {l : List (κ × α)} {G : Nat → Option Obj} {F : List Nat} {w : World} {v : Value}
variable {rs : List (Nat × AV)} {d : Option Nat} {ty : TypeId} {pos : String} {af : Array Edge} {gd : Option (Nat × Bool)}
end
section
variable {c : Cx} {rs : List (Nat × AV)} {hs : List HA} {Q : Exit → S → Prop} {ops : Array Oper} {tl : List Oper} {d : Nat} {ty : TypeId} {pos : String} {af : Array Edge} {κ α : Type} [DecidableEq κ] {t : TypeId} {kv : κ → Value} {ok : κ → Prop} {g : α → AV} {l : List (κ × α)} {v : Value}
end
def k3 (x : Int × Int × Int) : Value := .agg #[.int .i64 x.1, .int .i64 x.2.1, .int .i64 x.2.2]
end Go.Proofs.YtihonljdanjfmaaGreatDoor.Sw
namespace Go.Proofs.YtihonljdanjfmaaGreatDoor.Sw
open Go.RowKit Go Go.Shelf Go.Proofs
structure OkP (x : Pay) : Prop where
 a : -1000000000000 ≤ x.a ∧ x.a ≤ 1000000000000
 b : -1000000000000 ≤ x.b ∧ x.b ≤ 1000000000000
 p : -1000000000000 ≤ x.p ∧ x.p ≤ 1000000000000
instance : DecidableEq Pay := inferInstance
instance tyzB : TyZ Tryz.prog 49 [.int .i64 0, .int .i64 0, .int .i64 0, .slice none 0 0] := inferInstance
def strikeR (f : Flo) (m : Int) : Flo × Int :=
 if floOk f = true then (if (f.bs.filter (fun y => !decide (y.no = m))).length = f.bs.length then (floE, 6) else ({ f with bs := f.bs.filter (fun y => !decide (y.no = m)) }, 0)) else (floE, 80)
def cntM (m : List (Pay × Int)) (x : Pay) : Int := (getM m x).getD 0
theorem cntM_put (m : List (Pay × Int)) (x y : Pay) (n : Int) : cntM (putM m x n) y = if y = x then n else cntM m y := by
 unfold cntM
 rw [getM_put]
 split <;> rfl
structure CntJ (m : List (Pay × Int)) (L : List Pay) : Prop where
 eq : ∀ x, cntM m x = (L.count x : Nat)
 len : m.length ≤ L.length
theorem CntJ.nil : CntJ [] [] := ⟨fun x => rfl, Nat.le_refl _⟩
theorem CntJ.snoc {m : List (Pay × Int)} {L : List Pay} (h : CntJ m L) (x : Pay) : CntJ (putM m x (cntM m x + 1)) (L ++ [x]) := by
 refine ⟨fun y => ?_, by rw [List.length_append, List.length_singleton]; have := putM_len m x (cntM m x + 1); have := h.len; omega⟩
 rw [cntM_put, List.count_append, h.eq x, h.eq y, List.count_singleton]
 split
 ·rename_i e; subst e; simp
 ·rename_i e; simp [Ne.symm e]
theorem CntJ.le {m : List (Pay × Int)} {L : List Pay} (h : CntJ m L) (x : Pay) : 0 ≤ cntM m x ∧ cntM m x ≤ L.length := by
 rw [h.eq]; have := List.count_le_length (a := x) (l := L); omega
end Go.Proofs.YtihonljdanjfmaaGreatDoor.Sw
namespace Go.Proofs.YtihonljdanjfmaaGreatDoor.Sw
open Go.RowKit Go Go.Shelf Go.Proofs
open Go.Proofs.YtihonljdanjfmaaGreatDoor.Gr (Ok Ord Forest Zr lf headsR hf Lab payLt payLt_iff payLt_no payLt_anti SortedP sorted_uniq amt payE treeR treeR_iff pick Side)
theorem ids_inj {ids : List Int} (h : rises 0 ids = true) {i j : Nat} (hi : i < ids.length) (hj : j < ids.length) (e : ids.getD i 0 = ids.getD j 0) : i = j := by
 rw [List.getD_eq_getElem?_getD, List.getD_eq_getElem?_getD, List.getElem?_eq_getElem hi, List.getElem?_eq_getElem hj] at e
 simp only [Option.getD_some] at e
 rcases Nat.lt_trichotomy i j with k | k | k
 ·have := rises_sorted h i j hi hj k; omega
 ·exact k
 ·have := rises_sorted h j i hj hi k; omega
theorem payE_ends (ids : List Int) (x : Nat → Int) (L : List (Nat × Nat)) (e : Nat × Nat) : ((payE ids x L e).a = ids.getD e.1 0 ∧ (payE ids x L e).b = ids.getD e.2 0) ∨ ((payE ids x L e).a = ids.getD e.2 0 ∧ (payE ids x L e).b = ids.getD e.1 0) := by
 unfold payE
 split
 ·exact .inr ⟨rfl, rfl⟩
 ·exact .inl ⟨rfl, rfl⟩
theorem payE_inj {f : Flo} (hr : rises 0 f.ids = true) {x : Nat → Int} {L M : List (Nat × Nat)} {e e' : Nat × Nat} (h : PrS f e) (h' : PrS f e') (k : payE f.ids x L e = payE f.ids x M e') : e = e' := by
 have a1 := payE_ends f.ids x L e
 have a2 := payE_ends f.ids x M e'
 rw [k] at a1
 obtain ⟨h1, h2, _⟩ := h
 obtain ⟨h3, h4, _⟩ := h'
 have inj := fun i j hi hj => ids_inj hr (i := i) (j := j) hi hj
 rcases a1 with ⟨b1, b2⟩ | ⟨b1, b2⟩ <;> rcases a2 with ⟨c1, c2⟩ | ⟨c1, c2⟩
 ·exact Prod.ext (inj _ _ (by omega) (by omega) (b1.symm.trans c1)) (inj _ _ (by omega) (by omega) (b2.symm.trans c2))
 ·have := inj _ _ (by omega) (by omega) (b1.symm.trans c1)
  have := inj _ _ (by omega) (by omega) (b2.symm.trans c2)
  omega
 ·have := inj _ _ (by omega) (by omega) (b1.symm.trans c1)
  have := inj _ _ (by omega) (by omega) (b2.symm.trans c2)
  omega
 ·exact Prod.ext (inj _ _ (by omega) (by omega) (b2.symm.trans c2)) (inj _ _ (by omega) (by omega) (b1.symm.trans c1))
theorem SetL.sub {f : Flo} {cu : List Int} (hr : rises 0 f.ids = true) {k k' : Nat} {L M : List (Nat × Nat)} {out : List Pay} (h : SetL f.ids cu (PrS f) k L out) (h' : SetL f.ids cu (PrS f) k' M out) {e : Nat × Nat} (he : e ∈ L) : e ∈ M := by
 have h1 : payE f.ids (lf cu) L e ∈ out := h.pe.mem_iff.2 (List.mem_map.2 ⟨e, he, rfl⟩)
 obtain ⟨e', he', h2⟩ := List.mem_map.1 (h'.pe.mem_iff.1 h1)
 rw [← payE_inj hr (h'.mem e' he') (h.mem e he) h2]; exact he'
theorem leafG_nodup (f : Flo) (cu : List Int) (l : List (Nat × Nat)) : (leafG f cu l).Nodup := by
 unfold leafG
 split
 ·cases lstR f.ids l cu <;> simp
 ·simp
theorem chG_nodup {f : Flo} {cu : List Int} {many : Nat} (hr : rises 0 f.ids = true) : ∀ {t l : List (Nat × Nat)}, (l ++ t).Nodup → (∀ p ∈ l ++ t, PrS f p) → Forest l → l.length ≤ many → (chG f cu many t l).Nodup
 | [], l, hn, hl, hf, hle => by
  rw [chG]
  split
  ·exact leafG_nodup _ _ _
  ·simp
 | p :: t, l, hn, hl, hf, hle => by
  by_cases hm : l.length = many
  ·rw [chG_yes hm]; exact leafG_nodup _ _ _
  ·rw [chG_cons hm]
   have e1 : l ++ p :: t = (l ++ [p]) ++ t := by simp
   have hn1 : ((l ++ [p]) ++ t).Nodup := by rw [← e1]; exact hn
   have hl1 : ∀ q ∈ (l ++ [p]) ++ t, PrS f q := by rw [← e1]; exact hl
   have hn2 : (l ++ t).Nodup := hn.sublist ((List.sublist_cons_self p t).append_left l)
   have hl2 : ∀ q ∈ l ++ t, PrS f q := fun q hq => hl q (by simp at hq ⊢; rcases hq with h | h <;> simp [h])
   have bd : ∀ {l : List (Nat × Nat)}, (∀ q ∈ l, PrS f q) → ∀ q ∈ l, q.1 < f.ids.length ∧ q.2 < f.ids.length := fun h q hq => ⟨Nat.lt_trans (h q hq).1 (h q hq).2.1, (h q hq).2.1⟩
   have hnp : (l ++ [p]).Nodup := (List.nodup_append.1 hn1).1
   have hp := bd hl p (by simp)
   have hap : Forest (l ++ [p]) ↔ apB f.ids.length l p = true := by
    rw [Gr.forest_snoc hnp, ← Gr.lab_apart (Gr.lab_all (fun q hq => bd hl q (by simp [hq]))) hp.1 hp.2]
    unfold apB
    simp [hf]
   have ih2 := chG_nodup hr (cu := cu) hn2 hl2 hf hle
   split
   ·rename_i ha
    have hlp : (l ++ [p]).length ≤ many := by rw [List.length_append, List.length_singleton]; omega
    refine List.nodup_append.2 ⟨chG_nodup hr hn1 hl1 (hap.2 ha) hlp, ih2, fun a hA b hB e => ?_⟩
    subst e
    obtain ⟨s, h1, h2, h3, h4, h5⟩ := (chG_mem hn1 (bd hl1) (hap.2 ha) hlp).1 hA
    obtain ⟨s', k1, k2, k3, k4, k5⟩ := (chG_mem hn2 (bd hl2) hf hle).1 hB
    obtain ⟨h6, h7, h8⟩ := lstR_iff.1 h5
    obtain ⟨k6, k7, k8⟩ := lstR_iff.1 k5
    have S1 : SetL f.ids cu (PrS f) many ((l ++ [p]) ++ s) a := ⟨hn1.sublist (h1.append_left _), fun e he => hl1 e ((h1.append_left _).subset he), h2, h3, h4, h6, h7, h8⟩
    have S2 : SetL f.ids cu (PrS f) many (l ++ s') a := ⟨hn2.sublist (k1.append_left _), fun e he => hl2 e ((k1.append_left _).subset he), k2, k3, k4, k6, k7, k8⟩
    have hpm : p ∈ l ++ s' := S1.sub hr S2 (by simp)
    have hpt : p ∈ l ++ t := (k1.append_left _).subset hpm
    have hn3 : (p :: (l ++ t)).Nodup := (List.perm_middle.nodup_iff).1 hn
    exact (List.nodup_cons.1 hn3).1 hpt
   ·simpa using ih2
theorem lstsR_nodup {f : Flo} (hr : rises 0 f.ids = true) (k : Nat) : (lstsR f (owed8 f) k).Nodup :=
 chG_nodup hr (by simpa using prP_nodup _ _) (fun p hp => prP_mem.1 (by simpa using hp)) forest_nil (Nat.zero_le _)
theorem pick_inj {α : Type} : ∀ {l : List α} {s s' : Nat}, l.Nodup → s < 2 ^ l.length → s' < 2 ^ l.length → (∀ e, e ∈ pick l s ↔ e ∈ pick l s') → s = s'
 | [], s, s', _, h, h', _ => by simp at h h'; omega
 | p :: l, s, s', hn, h, h', hm => by
  obtain ⟨n1, n2⟩ := List.nodup_cons.1 hn
  rw [List.length_cons, Nat.pow_succ] at h h'
  have no : ∀ s, p ∉ pick l s := fun s hp => n1 ((Gr.pick_sub l s).subset hp)
  unfold pick at hm
  have hpar : s % 2 = s' % 2 := by
   have := hm p
   by_cases a : s % 2 = 1 <;> by_cases b : s' % 2 = 1
   ·omega
   ·rw [if_pos a, if_neg b] at this; exact absurd (this.1 (by simp)) (no _)
   ·rw [if_neg a, if_pos b] at this; exact absurd (this.2 (by simp)) (no _)
   ·omega
  have ih : s / 2 = s' / 2 := pick_inj n2 (by omega) (by omega) fun e => by
   have he := hm e
   by_cases a : s % 2 = 1
   ·have b : s' % 2 = 1 := by omega
    rw [if_pos a, if_pos b] at he
    by_cases hep : e = p
    ·subst hep; exact ⟨fun h => absurd h (no _), fun h => absurd h (no _)⟩
    ·simpa [hep] using he
   ·have b : ¬ s' % 2 = 1 := by omega
    rw [if_neg a, if_neg b] at he; exact he
  omega
theorem allR_nodup {f : Flo} (hr : rises 0 f.ids = true) (k : Nat) : (allR f k).Nodup := by
 have hok := prR_ok (spk f) f.ids.length
 unfold allR allTo
 have h0 : (List.range (2 ^ (prR (spk f) f.ids.length f.ids.length).length)).Pairwise (fun a b => ∀ x ∈ (if (pick (prR (spk f) f.ids.length f.ids.length) a).length = k then treeR f.ids (pick (prR (spk f) f.ids.length f.ids.length) a) (owed8 f) else none), ∀ y ∈ (if (pick (prR (spk f) f.ids.length f.ids.length) b).length = k then treeR f.ids (pick (prR (spk f) f.ids.length f.ids.length) b) (owed8 f) else none), x ≠ y) := by
  refine List.Pairwise.imp_of_mem ?_ (List.nodup_range (n := 2 ^ (prR (spk f) f.ids.length f.ids.length).length))
  intro a b ha hb hne x hx y hy e
  subst e
  have toS : ∀ {s}, x ∈ (if (pick (prR (spk f) f.ids.length f.ids.length) s).length = k then treeR f.ids (pick (prR (spk f) f.ids.length f.ids.length) s) (owed8 f) else none) → SetL f.ids (owed8 f) (PrS f) k (pick (prR (spk f) f.ids.length f.ids.length) s) x := fun {s} h => by
   split at h
   ·rename_i hk
    have hsub := Gr.pick_sub (prR (spk f) f.ids.length f.ids.length) s
    have hoS := hok.sub hsub
    obtain ⟨h1, h2, h3, h4, h5⟩ := (treeR_iff hoS (owed8_len f)).1 h
    exact ⟨hoS.nd, fun e he => by have := (prR_mem (Nat.le_refl _)).1 (hsub.subset he); exact ⟨this.2.1, this.2.2.1, this.2.2.2⟩, hk, h1, h2, h3, h4, h5⟩
   ·cases h
  exact hne (pick_inj hok.nd (List.mem_range.1 ha) (List.mem_range.1 hb) fun e => ⟨fun he => (toS hx).sub hr (toS hy) he, fun he => (toS hy).sub hr (toS hx) he⟩)
 exact List.pairwise_filterMap.2 h0
theorem lists_perm {f : Flo} (hr : rises 0 f.ids = true) (k : Nat) : (lstsR f (owed8 f) k).Perm (allR f k) :=
 (List.perm_ext_iff_of_nodup (lstsR_nodup hr k) (allR_nodup hr k)).2 fun out => lstsR_mem.trans allR_mem.symm
theorem SetL.small {f : Flo} {k : Nat} {L : List (Nat × Nat)} {out : List Pay} (h : SetL f.ids (owed8 f) (PrS f) k L out) : k < max 1 f.ids.length := by
 have hok : Ok f.ids.length L := ⟨h.nd, fun p hp => by have := h.mem p hp; exact ⟨Nat.lt_trans this.1 this.2.1, this.2.1, Nat.ne_of_lt this.1⟩⟩
 have hm : Gr.Min f.ids.length L (lf (owed8 f)) := fun e he hz => by
  obtain ⟨Q, hQ⟩ := Gr.side_of h.fo he (.inr ⟨rfl, rfl⟩ : Gr.Ends e e.2 e.1)
  exact h.nz e he (by rw [Gr.amt_side h.nd h.zr hQ]; exact hz Q hQ.cl)
 have := Gr.Min.small hok h.zr hm
 rw [h.len] at this
 omega
theorem fewTo_ext {α : Type} {g : Nat → List α} {m : Nat} (h : ∀ k, m ≤ k → g k = []) : ∀ j, fewTo g (m + j) = fewTo g m
 | 0 => rfl
 | j + 1 => by
  have ih := fewTo_ext h j
  rw [← Nat.add_assoc, fewTo]
  split
  ·rename_i he
   rw [h _ (by omega), ← ih]
   rcases hq : fewTo g (m + j) with _ | ⟨x, t⟩
   ·rfl
   ·rw [hq] at he; cases he
  ·exact ih
theorem fewTo_perm {α : Type} {g g' : Nat → List α} (h : ∀ k, (g k).Perm (g' k)) : ∀ m, (fewTo g m).Perm (fewTo g' m)
 | 0 => .refl _
 | m + 1 => by
  have ih := fewTo_perm h m
  rw [fewTo, fewTo]
  have e : (fewTo g m).isEmpty = (fewTo g' m).isEmpty := by
   have hl := ih.length_eq
   generalize fewTo g m = A at hl
   generalize fewTo g' m = B at hl
   cases A <;> cases B <;> first | rfl | (simp at hl)
  rw [e]
  split
  ·exact h m
  ·exact ih
theorem few_perm {f : Flo} (hF : FloF f) (hr : rises 0 f.ids = true) : (lsF f).Perm (fewTo (allR f) 6) := by
 have hn := hF.ids
 have hz : ∀ k, max 1 f.ids.length ≤ k → allR f k = [] := fun k hk => by
  rcases hq : allR f k with _ | ⟨x, t⟩
  ·rfl
  ·have : x ∈ allR f k := by rw [hq]; simp
   obtain ⟨L, hL⟩ := allR_mem.1 this
   have := hL.small
   omega
 have e := fewTo_ext hz (6 - max 1 f.ids.length)
 rw [show max 1 f.ids.length + (6 - max 1 f.ids.length) = 6 by omega] at e
 rw [e]
 exact fewTo_perm (fun k => lists_perm hr k) _
end Go.Proofs.YtihonljdanjfmaaGreatDoor.Sw
namespace Go.Proofs.YtihonljdanjfmaaGreatDoor.Sw
open Go.RowKit Go Go.Shelf Go.Proofs
open Go.Proofs.YtihonljdanjfmaaGreatDoor.Gr (payLt payLt_iff payLt_no payLt_anti SortedP sorted_uniq payE lf)
theorem fewTo_one {α : Type} {g : Nat → List α} : ∀ m, fewTo g m = [] ∨ ∃ k, k < m ∧ fewTo g m = g k
 | 0 => .inl rfl
 | m + 1 => by
  rw [fewTo]
  split
  ·exact .inr ⟨m, by omega, rfl⟩
  ·rcases fewTo_one (g := g) m with h | ⟨k, h1, h2⟩
   ·exact .inl h
   ·exact .inr ⟨k, by omega, h2⟩
structure Told (f : Flo) (k : Nat) (l : List Pay) : Prop where
 len : l.length = k
 so : SortedP l
 nd : l.Nodup
 ok : ∀ x ∈ l, OkP x ∧ 1 ≤ x.p
theorem told {f : Flo} (hF : FloF f) (hS : Sml f) (hr : rises 0 f.ids = true) {k : Nat} {l : List Pay} (h : l ∈ allR f k) : Told f k l := by
 obtain ⟨L, hL⟩ := allR_mem.1 h
 have hp := allTo_pays (prR_ok (spk f) f.ids.length) (owed8_len f) (by omega) (owed8_btw hF hS) h
 have hn := hF.ids
 refine ⟨hp.1, hL.so, (hL.pe.nodup_iff).2 ?_, fun x hx => ?_⟩
 ·rw [List.Nodup, List.pairwise_map]
  exact hL.nd.imp_of_mem fun {a b} ha hb hne e => hne (payE_inj hr (hL.mem a ha) (hL.mem b hb) e)
 ·have h2 := hp.2 x hx
  have h3 : (f.ids.length : Int) * 200000000 ≤ 6 * 200000000 := Int.mul_le_mul_of_nonneg_right (by omega) (by omega)
  obtain ⟨e, he, rfl⟩ := List.mem_map.1 (hL.pe.mem_iff.1 hx)
  have hb : ∀ i, i < f.ids.length → 1 ≤ f.ids.getD i 0 ∧ f.ids.getD i 0 ≤ 9999 := fun i hi => by
   rw [List.getD_eq_getElem?_getD, List.getElem?_eq_getElem hi]
   have := rises_all hr _ (List.getElem_mem hi)
   simp only [Option.getD_some]; omega
  have hm := hL.mem e he
  have b1 := hb e.1 (Nat.lt_trans hm.1 hm.2.1)
  have b2 := hb e.2 hm.2.1
  rcases payE_ends f.ids (lf (owed8 f)) L e with ⟨c1, c2⟩ | ⟨c1, c2⟩
  ·exact ⟨⟨by rw [c1]; omega, by rw [c2]; omega, by omega⟩, h2.1⟩
  ·exact ⟨⟨by rw [c1]; omega, by rw [c2]; omega, by omega⟩, h2.1⟩
theorem Told.payB {f : Flo} {k : Nat} {l : List Pay} (h : Told f k l) (hk : k ≤ 1000) : PayB l := ⟨by rw [h.len]; exact hk, fun x hx => (h.ok x hx).1.p⟩
theorem askR_err {f : Flo} (h : floOk f = true) : errL f = (askR f).2.2 := by
 have hp := few_perm (flo_f h) (rises_of_ok h)
 unfold errL askR
 rw [if_pos h, if_pos h]
 have e : (fewP f (owed8 f)).isEmpty = (fewTo (allR f) 6).isEmpty := by
  have hl := hp.length_eq
  unfold lsF at hl
  generalize fewP f (owed8 f) = A at hl
  generalize fewTo (allR f) 6 = B at hl
  cases A <;> cases B <;> first | rfl | (simp at hl)
 rw [e]
 split <;> rfl
theorem askR_no {f : Flo} (h : floOk f = false) : errL f = 80 ∧ askR f = ([], 0, 80) := by
 unfold errL askR
 rw [h]
 exact ⟨rfl, rfl⟩
theorem askR_ls {f : Flo} (h : floOk f = true) (he : errL f = 0) : (askR f).1 = fewTo (allR f) 6 ∧ (askR f).2.1 = chTo (allR f) 6 := by
 rw [askR_err h] at he
 unfold askR at he ⊢
 rw [if_pos h] at he ⊢
 split
 ·rename_i h2
  rw [if_pos h2] at he
  exact absurd he (by decide)
 ·exact ⟨rfl, rfl⟩
structure Both (f : Flo) (k : Nat) (A B : List (List Pay)) : Prop where
 pe : A.Perm B
 to : ∀ l ∈ B, Told f k l
 neA : A ≠ []
 neB : B ≠ []
theorem both {f : Flo} (hS : Sml f) (h : floOk f = true) (he : errL f = 0) : ∃ k, k < 6 ∧ Both f k (lsF f) (askR f).1 := by
 have hF := flo_f h
 have hr := rises_of_ok h
 rw [(askR_ls h he).1]
 have hp := few_perm hF hr
 have hA := lsF_ne he
 have hB : fewTo (allR f) 6 ≠ [] := fun e => hA (by rw [e] at hp; exact List.perm_nil.1 hp)
 rcases fewTo_one (g := allR f) 6 with e | ⟨k, hk, e⟩
 ·exact absurd e hB
 ·exact ⟨k, hk, hp, fun l hl => told hF hS hr (by rw [← e]; exact hl), hA, hB⟩
theorem Both.toA {f : Flo} {k : Nat} {A B : List (List Pay)} (h : Both f k A B) : ∀ l ∈ A, Told f k l := fun l hl => h.to l (h.pe.mem_iff.1 hl)
theorem head_mem {α : Type} {l : List (List α)} (h : l ≠ []) : l.headD [] ∈ l := by
 obtain ⟨x, t, rfl⟩ := List.exists_cons_of_ne_nil h
 simp
end Go.Proofs.YtihonljdanjfmaaGreatDoor.Sw
