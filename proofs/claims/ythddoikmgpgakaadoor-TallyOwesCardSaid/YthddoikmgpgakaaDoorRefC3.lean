/- The reference's 'comes': the step by which a notch is added. -/
import Derived.Test.YthddoikmgpgakaaDoorProg
import Derived.Test.YthddoikmgpgakaaDoorBase
import Derived.Outline
import Derived.RangeFuncNested
import Derived.Shelf.Abstract
import Derived.Deep.QuietTactic
import Derived.BigQuiet
import Derived.Deep.RegionHeld3
import Derived.WalkSmall
import Derived.Laws.EntriesVeiled
import Derived.WalkMore
import Derived.Test.YthddoikmgpgakaaDoorRefC0
namespace Go.Proofs.YthddoikmgpgakaaDoor
open Go.RowKit Go.Proofs Go.Shelf

theorem wideF_comm (s t : Int × Int) (a b : Int) (first : Bool) : wideF s t a b first = wideF s t b a first := by unfold wideF; rw [show min a b = min b a by omega, show max a b = max b a by omega]
set_option maxRecDepth 20000 in
set_option maxHeartbeats 4000000 in
theorem refC3 (a : Tl) (W : Int → Int) (sa fa : Option Addr) (sc fc : Nat) (w w1 : World) (OT O X Y i k : Nat) (cs rs : Array Value) (xs : List St) (hl : a.st.length ≤ 1000) (hl2 : a.fo.length ≤ 1000) (o1 : okN a.st = true) (o2 : okN a.fo = true) (w0 : Hid (W 0 = 0)) (wb : ∀ n, -1000 ≤ W n ∧ W n ≤ 1000) (H2 : Hid (RdI w1 fa a.fo))
    (BX : Hid (Box w1 w.heap.size (#[.int .i64 a.id, .int .i64 a.hs, .slice sa a.st.length sc, .slice fa a.fo.length fc]) 24)) (BW : Hid (Box w1 (w.heap.size + 1) (#[.int .i64 (W 0), .int .i64 (W 1), .int .i64 (W 2), .int .i64 (W 3), .int .i64 (W 4)]) 149)) (TT : Hid (Tbl w1 OT a.st a.fo)) (hi : i ≤ a.st.length) (hk : k ≤ a.fo.length) (hOX : O < X) (hXY : X < Y) (h1 : w1.heap.size ≤ O) (hci : cs[i]? = some (.slice (some ⟨X, 0, none⟩) (a.fo.length + 1) (a.fo.length + 1))) (a' : Act) (V : World)
    (h : StP a W w w1 OT O X Y i k cs rs xs (fun _ => True) a' V) : ((subC [true, true, true, true, false, true, false, false, true, false, false, true, true, false, false, true, false, false, true, true, true, true, false] Tryd.f93.body)).wp Tryd.prog (NormP (StP a W w w1 OT O X Y i k cs rs (xs ++ (step3 a.fo i k).filter (isBest a.st a.fo i k)) (fun _ => True))) a' V := by
  have hm := mixedS
  obtain ⟨first, s, f, rfl, ⟨f2, f3, f4, f5, f6, f7, f8, f9, f10, f11, f12⟩, -, hI, hYV, bY, hacc⟩ := h
  rw [show (List.range 220).map f = [f 0, f 1, f 2, f 3, f 4, f 5, f 6, f 7, f 8, f 9, f 10, f 11, f 12, f 13, f 14, f 15, f 16, f 17, f 18, f 19, f 20, f 21, f 22, f 23, f 24, f 25, f 26, f 27, f 28, f 29, f 30, f 31, f 32, f 33, f 34, f 35, f 36, f 37, f 38, f 39, f 40, f 41, f 42, f 43, f 44, f 45, f 46, f 47, f 48, f 49, f 50, f 51, f 52, f 53, f 54, f 55, f 56, f 57, f 58, f 59, f 60, f 61, f 62, f 63, f 64, f 65, f 66, f 67, f 68, f 69, f 70, f 71, f 72, f 73, f 74, f 75, f 76, f 77, f 78, f 79, f 80, f 81, f 82, f 83, f 84, f 85, f 86, f 87, f 88, f 89, f 90, f 91, f 92, f 93, f 94, f 95, f 96, f 97, f 98, f 99, f 100, f 101, f 102, f 103, f 104, f 105, f 106, f 107, f 108, f 109, f 110, f 111, f 112, f 113, f 114, f 115, f 116, f 117, f 118, f 119, f 120, f 121, f 122, f 123, f 124, f 125, f 126, f 127, f 128, f 129, f 130, f 131, f 132, f 133, f 134, f 135, f 136, f 137, f 138, f 139, f 140, f 141, f 142, f 143, f 144, f 145, f 146, f 147, f 148, f 149, f 150, f 151, f 152, f 153, f 154, f 155, f 156, f 157, f 158, f 159, f 160, f 161, f 162, f 163, f 164, f 165, f 166, f 167, f 168, f 169, f 170, f 171, f 172, f 173, f 174, f 175, f 176, f 177, f 178, f 179, f 180, f 181, f 182, f 183, f 184, f 185, f 186, f 187, f 188, f 189, f 190, f 191, f 192, f 193, f 194, f 195, f 196, f 197, f 198, f 199, f 200, f 201, f 202, f 203, f 204, f 205, f 206, f 207, f 208, f 209, f 210, f 211, f 212, f 213, f 214, f 215, f 216, f 217, f 218, f 219] from rfl, f2, f3, f4, f5, f6, f7, f8, f9, f10, f11, f12]
  clear f2 f3 f4 f5 f6 f7 f8 f9 f10 f11 f12
  have II := hid hI; have BY := hid bY; have AC := hid hacc
  have TR : ∀ i k, i ≤ a.st.length → k ≤ a.fo.length → ∃ R, V.cell? ⟨OT, i, none⟩ = some (.slice (some ⟨R, 0, none⟩) (a.fo.length + 1) (a.fo.length + 1)) ∧ V.cell? ⟨R, k, none⟩ = some (.int .i64 (dd a.st a.fo i k : Int)) := fun i k hi hk => by
    obtain ⟨R, r1, r2⟩ := TT.out i hi
    exact ⟨R, (hI.bel.cell (cell_lt r1)).trans r1, (hI.bel.cell (cell_lt (r2 k hk))).trans (r2 k hk)⟩
  have TR := hid TR
  clear hI bY hacc
  have tc1 : (i : Int) < (a.st.length : Int) + 1 := by omega
  have tc2 : (k : Int) < (a.fo.length : Int) + 1 := by omega
  have wi := wrap_small (n := (k : Int) + 1) (by omega) (by omega)
  dsimp only [subC, Tryd.f93, Option.getD_some, partC]
  by_cases hin : k < a.fo.length
  · obtain ⟨Ra, ra1, ra2⟩ := TR.out i k hi hk
    obtain ⟨Rc, rc1, rc2⟩ := TR.out i (k + 1) hi hin
    obtain rfl : Ra = Rc := by rw [ra1] at rc1; simpa using rc1
    clear rc1
    have dl1 := dd_le a.st a.fo i (k + 1) (by omega) (by omega)
    have w4 := wrap_small (n := (dd a.st a.fo i (k + 1) : Int) + 1) (by omega) (by omega)
    have td1 : (k : Int) + 1 < (a.fo.length : Int) + 1 := by omega
    by_cases hd : dd a.st a.fo i k = dd a.st a.fo i (k + 1) + 1
    · have hq3 : ((dd a.st a.fo i k : Int) == (dd a.st a.fo i (k + 1) : Int) + 1) = true := by rw [hd]; simp
      have HD := hid hd; clear hd
      obtain ⟨ab, ao, rfl, ca⟩ := (H2.out.below II.out.bel) k hin
      have g6 := II.out.got (k + 1) (Nat.le_refl _) hin
      have n4 := okN_pos o2 hin
      have n5 : a.fo[k] ≤ 4 := by
        have h := o2
        unfold okN at h
        rw [List.all_eq_true] at h
        have := h _ (List.getElem_mem hin)
        simp at this
        omega
      obtain ⟨n, hn⟩ : ∃ n, a.fo[k] = n := ⟨_, rfl⟩
      have hx2 : step3 a.fo i k = [⟨i, k + 1, 0, n, 1⟩] := by rw [step3_yes i hin, hn]
      rw [hn] at ca n4 n5
      have nb0 : 0 ≤ n := by omega
      have nb1 : n < 5 := by omega
      have XB := II.out.bel
      have e0 : V.cell? ⟨Y, 0, none⟩ = some (.int .i64 s.1) := BY.out.cell 0
      have e1 : V.cell? ⟨Y, 1, none⟩ = some (.int .i64 s.2) := BY.out.cell 1
      have e2 : V.cell? ⟨O, i, none⟩ = some (.slice (some ⟨X, 0, none⟩) (a.fo.length + 1) (a.fo.length + 1)) := (II.out.o.cell i).trans hci
      have e3 : V.cell? ⟨X, (k + 1) * 2, none⟩ = some (.int .i64 (spanF W (a.st.drop i) (a.fo.drop (k + 1))).1) := (II.out.x.cell _).trans g6.1
      have e4 : V.cell? ⟨X, (k + 1) * 2 + 1, none⟩ = some (.int .i64 (spanF W (a.st.drop i) (a.fo.drop (k + 1))).2) := (II.out.x.cell _).trans g6.2
      have e5 : V.cell? ⟨w.heap.size, 3, none⟩ = some (.slice (some ⟨ab, ao, none⟩) a.fo.length fc) := (BX.out.below XB BX.out.lt).cell 3
      have e6 : V.cell? ⟨w.heap.size + 1, n.toNat, none⟩ = some (.int .i64 (W n)) := by
        refine ((BW.out.below XB BW.out.lt).cell n.toNat).trans ?_
        have hh : n = 1 ∨ n = 2 ∨ n = 3 ∨ n = 4 := by omega
        rcases hh with rfl | rfl | rfl | rfl <;> rfl
      have sat := span_at w0.out o1 o2 hi (show k + 1 ≤ a.fo.length from hin)
      have sb := span_bound wb (by simp; omega) (by simp; omega) sat
      obtain ⟨t, ht⟩ : ∃ t, spanF W (a.st.drop i) (a.fo.drop (k + 1)) = t := ⟨_, rfl⟩
      rw [ht] at e3 e4 sat sb
      have SAT := hid sat
      have wbn := wb n
      have lY := BY.out.lt
      clear hn g6 ht sat XB
      go_wp2_with fail
      go_big_quiet (fail)
      go_wp2_with fail
      refine wp_region_F [0, 4, 8, 10, 13, 15] (fun w' => w'.cell? ⟨Y, 0, none⟩ = some (.int .i64 s.1) ∧ w'.cell? ⟨Y, 1, none⟩ = some (.int .i64 s.2) ∧ w'.cell? ⟨O, i, none⟩ = some (.slice (some ⟨X, 0, none⟩) (a.fo.length + 1) (a.fo.length + 1)) ∧ w'.cell? ⟨X, (k + 1) * 2, none⟩ = some (.int .i64 t.1) ∧ w'.cell? ⟨X, (k + 1) * 2 + 1, none⟩ = some (.int .i64 t.2) ∧ w'.cell? ⟨w.heap.size, 3, none⟩ = some (.slice (some ⟨ab, ao, none⟩) a.fo.length fc) ∧ w'.cell? ⟨w.heap.size + 1, n.toNat, none⟩ = some (.int .i64 (W n)) ∧ w'.cell? ⟨ab, ao + k, none⟩ = some (.int .i64 n)) hm ⟨e0, e1, e2, e3, e4, e5, e6, ca⟩ ?_
      intro hS0; have hS := hid hS0; clear hS0
      (apply wpAnyF_held (i := 0) rfl (by kernel_rfl) (fun _ _ _ h => h) hS.out; · first | exact .inr ⟨rfl, rfl⟩ | exact .inl ⟨rfl, fun w' hS' => by (obtain ⟨s1, s2, s3, s4, s5, s6, s7, s8⟩ := hS'; go_simp; rfl)⟩); simp only [Act.put, List.setIfInBounds_toArray, List.set_cons_succ, List.set_cons_zero, List.getElem_toArray, List.getElem_cons_succ, List.getElem_cons_zero]
      (apply wpAnyF_pure (i := 1) rfl (by kernel_rfl) (fun _ _ _ h => h); · first | exact .inr ⟨rfl, rfl⟩ | exact .inl ⟨rfl, fun w' => by go_simp; rfl⟩); simp only [Act.put, List.setIfInBounds_toArray, List.set_cons_succ, List.set_cons_zero, List.getElem_toArray, List.getElem_cons_succ, List.getElem_cons_zero]
      (apply wpAnyF_pure (i := 2) rfl (by kernel_rfl) (fun _ _ _ h => h); · first | exact .inr ⟨rfl, rfl⟩ | exact .inl ⟨rfl, fun w' => by go_simp; rfl⟩); simp only [Act.put, List.setIfInBounds_toArray, List.set_cons_succ, List.set_cons_zero, List.getElem_toArray, List.getElem_cons_succ, List.getElem_cons_zero]
      (apply wpAnyF_pure (i := 3) rfl (by kernel_rfl) (fun _ _ _ h => h); · first | exact .inr ⟨rfl, rfl⟩ | exact .inl ⟨rfl, fun w' => by go_simp; rfl⟩); simp only [Act.put, List.setIfInBounds_toArray, List.set_cons_succ, List.set_cons_zero, List.getElem_toArray, List.getElem_cons_succ, List.getElem_cons_zero]
      (apply wpAnyF_held (i := 4) rfl (by kernel_rfl) (fun _ _ _ h => h) hS.out; · first | exact .inr ⟨rfl, rfl⟩ | exact .inl ⟨rfl, fun w' hS' => by (obtain ⟨s1, s2, s3, s4, s5, s6, s7, s8⟩ := hS'; go_simp; rfl)⟩); simp only [Act.put, List.setIfInBounds_toArray, List.set_cons_succ, List.set_cons_zero, List.getElem_toArray, List.getElem_cons_succ, List.getElem_cons_zero]
      (apply wpAnyF_pure (i := 5) rfl (by kernel_rfl) (fun _ _ _ h => h); · first | exact .inr ⟨rfl, rfl⟩ | exact .inl ⟨rfl, fun w' => by go_simp; rfl⟩); simp only [Act.put, List.setIfInBounds_toArray, List.set_cons_succ, List.set_cons_zero, List.getElem_toArray, List.getElem_cons_succ, List.getElem_cons_zero]
      (apply wpAnyF_pure (i := 6) rfl (by kernel_rfl) (fun _ _ _ h => h); · first | exact .inr ⟨rfl, rfl⟩ | exact .inl ⟨rfl, fun w' => by go_simp; rfl⟩); simp only [Act.put, List.setIfInBounds_toArray, List.set_cons_succ, List.set_cons_zero, List.getElem_toArray, List.getElem_cons_succ, List.getElem_cons_zero]
      (apply wpAnyF_pure (i := 7) rfl (by kernel_rfl) (fun _ _ _ h => h); · first | exact .inr ⟨rfl, rfl⟩ | exact .inl ⟨rfl, fun w' => by go_simp; rfl⟩); simp only [Act.put, List.setIfInBounds_toArray, List.set_cons_succ, List.set_cons_zero, List.getElem_toArray, List.getElem_cons_succ, List.getElem_cons_zero]
      (apply wpAnyF_held (i := 8) rfl (by kernel_rfl) (fun _ _ _ h => h) hS.out; · first | exact .inr ⟨rfl, rfl⟩ | exact .inl ⟨rfl, fun w' hS' => by (obtain ⟨s1, s2, s3, s4, s5, s6, s7, s8⟩ := hS'; go_simp; rfl)⟩); simp only [Act.put, List.setIfInBounds_toArray, List.set_cons_succ, List.set_cons_zero, List.getElem_toArray, List.getElem_cons_succ, List.getElem_cons_zero]
      (apply wpAnyF_pure (i := 9) rfl (by kernel_rfl) (fun _ _ _ h => h); · first | exact .inr ⟨rfl, rfl⟩ | exact .inl ⟨rfl, fun w' => by go_simp; rfl⟩); simp only [Act.put, List.setIfInBounds_toArray, List.set_cons_succ, List.set_cons_zero, List.getElem_toArray, List.getElem_cons_succ, List.getElem_cons_zero]
      (apply wpAnyF_held (i := 10) rfl (by kernel_rfl) (fun _ _ _ h => h) hS.out; · first | exact .inr ⟨rfl, rfl⟩ | exact .inl ⟨rfl, fun w' hS' => by (obtain ⟨s1, s2, s3, s4, s5, s6, s7, s8⟩ := hS'; go_simp; rfl)⟩); simp only [Act.put, List.setIfInBounds_toArray, List.set_cons_succ, List.set_cons_zero, List.getElem_toArray, List.getElem_cons_succ, List.getElem_cons_zero]
      (apply wpAnyF_pure (i := 11) rfl (by kernel_rfl) (fun _ _ _ h => h); · first | exact .inr ⟨rfl, rfl⟩ | exact .inl ⟨rfl, fun w' => by go_simp; rfl⟩); simp only [Act.put, List.setIfInBounds_toArray, List.set_cons_succ, List.set_cons_zero, List.getElem_toArray, List.getElem_cons_succ, List.getElem_cons_zero]
      (apply wpAnyF_pure (i := 12) rfl (by kernel_rfl) (fun _ _ _ h => h); · first | exact .inr ⟨rfl, rfl⟩ | exact .inl ⟨rfl, fun w' => by go_simp; rfl⟩); simp only [Act.put, List.setIfInBounds_toArray, List.set_cons_succ, List.set_cons_zero, List.getElem_toArray, List.getElem_cons_succ, List.getElem_cons_zero]
      (apply wpAnyF_held (i := 13) rfl (by kernel_rfl) (fun _ _ _ h => h) hS.out; · first | exact .inr ⟨rfl, rfl⟩ | exact .inl ⟨rfl, fun w' hS' => by (obtain ⟨s1, s2, s3, s4, s5, s6, s7, s8⟩ := hS'; go_simp; rfl)⟩); simp only [Act.put, List.setIfInBounds_toArray, List.set_cons_succ, List.set_cons_zero, List.getElem_toArray, List.getElem_cons_succ, List.getElem_cons_zero]
      (apply wpAnyF_pure (i := 14) rfl (by kernel_rfl) (fun _ _ _ h => h); · first | exact .inr ⟨rfl, rfl⟩ | exact .inl ⟨rfl, fun w' => by go_simp; rfl⟩); simp only [Act.put, List.setIfInBounds_toArray, List.set_cons_succ, List.set_cons_zero, List.getElem_toArray, List.getElem_cons_succ, List.getElem_cons_zero]
      (apply wpAnyF_held (i := 15) rfl (by kernel_rfl) (fun _ _ _ h => h) hS.out; · first | exact .inr ⟨rfl, rfl⟩ | exact .inl ⟨rfl, fun w' hS' => by (obtain ⟨s1, s2, s3, s4, s5, s6, s7, s8⟩ := hS'; go_simp; rfl)⟩); simp only [Act.put, List.setIfInBounds_toArray, List.set_cons_succ, List.set_cons_zero, List.getElem_toArray, List.getElem_cons_succ, List.getElem_cons_zero]
      (apply wpAnyF_pure (i := 16) rfl (by kernel_rfl) (fun _ _ _ h => h); · first | exact .inr ⟨rfl, rfl⟩ | exact .inl ⟨rfl, fun w' => by go_simp; rfl⟩); simp only [Act.put, List.setIfInBounds_toArray, List.set_cons_succ, List.set_cons_zero, List.getElem_toArray, List.getElem_cons_succ, List.getElem_cons_zero]
      refine wpAnyF_one (i := 17) rfl ⟨by kernel_rfl, by kernel_rfl⟩ ?_
      intro K hK
      go_simp
      refine (wide_any s t (W n) 0 first _ (by omega) (by omega) (by omega) (by omega)).mono ?_
      rintro e w5 ⟨rfl, hb5⟩
      have hb : Below V.heap.size V w5 := ⟨hb5.os, hb5.tape, hb5.output, hb5.size, hb5.block⟩
      have B5 := hid (BY.out.below hb BY.out.lt)
      have kb : Keep (· < Y) V w5 := Keep.of_below hb (fun b _ h => by have : b < Y := h; omega)
      have I5 := hid (II.out.keep (Y := Y) (by omega) hXY (by omega) kb)
      refine shutS hK ⟨(hb.cell (cell_lt e0)).trans e0, (hb.cell (cell_lt e1)).trans e1, (hb.cell (cell_lt e2)).trans e2, (hb.cell (cell_lt e3)).trans e3, (hb.cell (cell_lt e4)).trans e4, (hb.cell (cell_lt e5)).trans e5, (hb.cell (cell_lt e6)).trans e6, (hb.cell (cell_lt ca)).trans ca⟩ (fun hS => ?_)
      refine wpAnyF_one (i := 18) rfl ⟨by kernel_rfl, by kernel_rfl⟩ ?_
      intro K hK
      have y0 := B5.out.cell 0; have y1 := B5.out.cell 1; have y2 := B5.out.frozen 0; have y3 := B5.out.frozen 1; have y4 := B5.out.lt
      simp only [List.getElem?_toArray, List.getElem?_cons_zero, List.getElem?_cons_succ] at y0 y1
      go_simp
      refine shutN hK (by kernel_rfl) ?_
      (apply wpAnyF_pure (i := 19) rfl (by kernel_rfl) (fun _ _ _ h => h); · first | exact .inr ⟨rfl, rfl⟩ | exact .inl ⟨rfl, fun w' => by go_simp; rfl⟩); simp only [Act.put, List.setIfInBounds_toArray, List.set_cons_succ, List.set_cons_zero, List.getElem_toArray, List.getElem_cons_succ, List.getElem_cons_zero]
      refine wpAnyF_done (by kernel_rfl) ?_ _
      clear hS
      have hbest : isBest a.st a.fo i k ⟨i, k + 1, 0, n, 1⟩ = true := by unfold isBest; simp; have := HD.out; omega
      show StP a W w w1 OT O X Y i k cs rs (xs ++ (step3 a.fo i k).filter (isBest a.st a.fo i k)) (fun _ => True) _ _
      refine ⟨false, wideF s t (W n) 0 first, acts_of' rfl ⟨⟨rfl, rfl, rfl, rfl, rfl, rfl, rfl, rfl, rfl, rfl, rfl⟩, trivial, I5.out.keep (Y := Y) (by omega) hXY (by omega) (((Keep.refl _ _).setCell _ _ (fun _ h => by have : Y < Y := h; omega)).setCell _ _ (fun _ h => by have : Y < Y := h; omega)), by simpa using y4, (B5.out.set 0 _).set 1 _, ?_⟩⟩
      rw [hx2, List.filter_cons_of_pos hbest, List.filter_nil]
      have h := AC.out.snoc (x := ⟨i, k + 1, 0, n, 1⟩) w0.out (fun m hm => by unfold notchesL at hm; split at hm <;> simp at hm <;> omega) SAT.out
      dsimp only at h
      rw [w0.out, wideF_comm] at h
      exact h
    · have hq3 : ((dd a.st a.fo i k : Int) == (dd a.st a.fo i (k + 1) : Int) + 1) = false := by rw [beq_eq_false_iff_ne]; omega
      have HD := hid hd; clear hd
      go_wp2_with fail
      go_big_quiet (fail)
      go_wp2_with fail
      have hbest : ¬ isBest a.st a.fo i k ⟨i, k + 1, 0, a.fo[k], 1⟩ = true := by unfold isBest; simp; have := HD.out; omega
      show StP a W w w1 OT O X Y i k cs rs (xs ++ (step3 a.fo i k).filter (isBest a.st a.fo i k)) (fun _ => True) _ _
      refine ⟨first, s, acts_of' rfl ⟨⟨rfl, rfl, rfl, rfl, rfl, rfl, rfl, rfl, rfl, rfl, rfl⟩, trivial, II.out.same (keep_drewN _ _), hYV, BY.out, ?_⟩⟩
      rw [step3_yes i hin, List.filter_cons_of_neg hbest, List.filter_nil, List.append_nil]
      exact AC.out
  · have HIN := hid hin
    go_wp2_with fail
    go_big_quiet (fail)
    go_wp2_with fail
    show StP a W w w1 OT O X Y i k cs rs (xs ++ (step3 a.fo i k).filter (isBest a.st a.fo i k)) (fun _ => True) _ _
    refine ⟨first, s, acts_of' rfl ⟨⟨rfl, rfl, rfl, rfl, rfl, rfl, rfl, rfl, rfl, rfl, rfl⟩, trivial, II.out.same (keep_drewN _ _), hYV, BY.out, ?_⟩⟩
    rw [step3_no i HIN.out, List.filter_nil, List.append_nil]
    exact AC.out
end Go.Proofs.YthddoikmgpgakaaDoor
