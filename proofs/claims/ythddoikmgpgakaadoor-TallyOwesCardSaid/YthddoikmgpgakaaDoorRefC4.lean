/- The reference's 'comes': the span of a place is laid into the table. -/
import Derived.Test.YthddoikmgpgakaaDoorProg
import Derived.Test.YthddoikmgpgakaaDoorBase
import Derived.Outline
import Derived.RangeFuncNested
import Derived.Shelf.Abstract
import Derived.Deep.QuietTactic
import Derived.BigQuiet
import Derived.Deep.RegionHeld3
import Derived.WalkSmall
import Derived.Laws.EntriesVeiled
import Derived.WalkMore
import Derived.Test.YthddoikmgpgakaaDoorRefC0
namespace Go.Proofs.YthddoikmgpgakaaDoor
open Go.RowKit Go.Proofs Go.Shelf

/-- Behind a round of the inner loop. -/
def StQ (a : Tl) (W : Int → Int) (w w1 : World) (OT O X i k : Nat) (cs : Array Value) (a' : Act) (V : World) : Prop := ∃ (rs : Array Value) (f : Nat → Value), a' = ⟨((List.range 220).map f).toArray, []⟩ ∧
  (f 2 = .pointer (some ⟨w.heap.size, 0, none⟩) ∧ f 3 = .pointer (some ⟨w.heap.size + 1, 0, none⟩) ∧ f 4 = .pointer (some ⟨w.heap.size + 1 + 1, 0, none⟩) ∧ f 5 = .slice (some ⟨OT, 0, none⟩) (a.st.length + 1) (a.st.length + 1) ∧ f 6 = .int .i64 a.st.length ∧ f 7 = .int .i64 a.fo.length ∧ f 8 = .slice (some ⟨O, 0, none⟩) (a.st.length + 1) (a.st.length + 1) ∧ f 9 = .int .i64 i ∧ f 10 = .int .i64 k) ∧
  RcI (fun r k => spanF W (a.st.drop r) (a.fo.drop k)) w1 a.st.length a.fo.length O X i cs rs k V

theorem acc_span {W : Int → Int} {a : Tl} (o1 : okN a.st = true) (o2 : okN a.fo = true) {i k : Nat} (hi : i ≤ a.st.length) (hk : k ≤ a.fo.length) {s : Int × Int} {first : Bool} (h : AccW W (ByS a (bestL a.st a.fo i k)) s first) : spanF W (a.st.drop i) (a.fo.drop k) = s := by
  by_cases hend : i = a.st.length ∧ k = a.fo.length
  · obtain ⟨rfl, rfl⟩ := hend
    have h0 : s = (0, 0) := by
      rcases h with ⟨_, h, _⟩ | ⟨_, h⟩
      · exact h
      · exfalso
        obtain ⟨l, ⟨x, hx, _⟩, _⟩ := h.lo
        have hb := (mem_best.1 hx).1
        have := (step_bound hb hi hk).2.2.1
        omega
    subst h0
    exact spanF_eq (IsSpan.nil.iff (fun x => (true_end x).symm))
  · rcases h with ⟨_, _, hn⟩ | ⟨_, h⟩
    · exfalso
      exact hn (a.st.drop i) ((true_iff o1 o2 hi hk hend _).1 (by unfold TrueL; rw [dist_self]; omega))
    · exact spanF_eq (h.iff (fun l => (true_iff o1 o2 hi hk hend l).symm))

set_option maxRecDepth 20000 in
set_option maxHeartbeats 4000000 in
theorem refC4 (a : Tl) (W : Int → Int) (w w1 : World) (OT O X Y i k : Nat) (cs rs : Array Value) (hl : a.st.length ≤ 1000) (hl2 : a.fo.length ≤ 1000) (o1 : okN a.st = true) (o2 : okN a.fo = true) (hi : i ≤ a.st.length) (hk : k ≤ a.fo.length) (hOX : O < X) (hXY : X < Y) (h1 : w1.heap.size ≤ O) (hci : cs[i]? = some (.slice (some ⟨X, 0, none⟩) (a.fo.length + 1) (a.fo.length + 1))) (a' : Act) (V : World)
    (h : StP a W w w1 OT O X Y i k cs rs (bestL a.st a.fo i k) (fun _ => True) a' V) : ((subC [true, true, true, true, false, true, false, false, true, false, false, true, true, false, false, true, false, false, true, true, true, true, true] Tryd.f93.body)).wp Tryd.prog (NormP (StQ a W w w1 OT O X i k cs)) a' V := by
  have hm := mixedS
  obtain ⟨first, s, f, rfl, ⟨f2, f3, f4, f5, f6, f7, f8, f9, f10, f11, f12⟩, -, hI, hYV, bY, hacc⟩ := h
  rw [show (List.range 220).map f = [f 0, f 1, f 2, f 3, f 4, f 5, f 6, f 7, f 8, f 9, f 10, f 11, f 12, f 13, f 14, f 15, f 16, f 17, f 18, f 19, f 20, f 21, f 22, f 23, f 24, f 25, f 26, f 27, f 28, f 29, f 30, f 31, f 32, f 33, f 34, f 35, f 36, f 37, f 38, f 39, f 40, f 41, f 42, f 43, f 44, f 45, f 46, f 47, f 48, f 49, f 50, f 51, f 52, f 53, f 54, f 55, f 56, f 57, f 58, f 59, f 60, f 61, f 62, f 63, f 64, f 65, f 66, f 67, f 68, f 69, f 70, f 71, f 72, f 73, f 74, f 75, f 76, f 77, f 78, f 79, f 80, f 81, f 82, f 83, f 84, f 85, f 86, f 87, f 88, f 89, f 90, f 91, f 92, f 93, f 94, f 95, f 96, f 97, f 98, f 99, f 100, f 101, f 102, f 103, f 104, f 105, f 106, f 107, f 108, f 109, f 110, f 111, f 112, f 113, f 114, f 115, f 116, f 117, f 118, f 119, f 120, f 121, f 122, f 123, f 124, f 125, f 126, f 127, f 128, f 129, f 130, f 131, f 132, f 133, f 134, f 135, f 136, f 137, f 138, f 139, f 140, f 141, f 142, f 143, f 144, f 145, f 146, f 147, f 148, f 149, f 150, f 151, f 152, f 153, f 154, f 155, f 156, f 157, f 158, f 159, f 160, f 161, f 162, f 163, f 164, f 165, f 166, f 167, f 168, f 169, f 170, f 171, f 172, f 173, f 174, f 175, f 176, f 177, f 178, f 179, f 180, f 181, f 182, f 183, f 184, f 185, f 186, f 187, f 188, f 189, f 190, f 191, f 192, f 193, f 194, f 195, f 196, f 197, f 198, f 199, f 200, f 201, f 202, f 203, f 204, f 205, f 206, f 207, f 208, f 209, f 210, f 211, f 212, f 213, f 214, f 215, f 216, f 217, f 218, f 219] from rfl, f2, f3, f4, f5, f6, f7, f8, f9, f10, f11, f12]
  clear f2 f3 f4 f5 f6 f7 f8 f9 f10 f11 f12
  have hsp := acc_span o1 o2 hi hk hacc
  have II := hid hI; have HSP := hid hsp
  have tc1 : (i : Int) < (a.st.length : Int) + 1 := by omega
  have tc2 : (k : Int) < (a.fo.length : Int) + 1 := by omega
  have e0 : V.cell? ⟨Y, 0, none⟩ = some (.int .i64 s.1) := bY.cell 0
  have e1 : V.cell? ⟨Y, 1, none⟩ = some (.int .i64 s.2) := bY.cell 1
  have e2 : V.cell? ⟨O, i, none⟩ = some (.slice (some ⟨X, 0, none⟩) (a.fo.length + 1) (a.fo.length + 1)) := (hI.o.cell i).trans hci
  have sz := hI.sz
  obtain ⟨v0, hv0⟩ : ∃ v, V.cell? ⟨X, k * 2, none⟩ = some v := ⟨rs[k * 2], (hI.x.cell _).trans (Array.getElem?_eq_getElem (by omega))⟩
  obtain ⟨v1, hv1⟩ : ∃ v, V.cell? ⟨X, k * 2 + 1, none⟩ = some v := ⟨rs[k * 2 + 1], (hI.x.cell _).trans (Array.getElem?_eq_getElem (by omega))⟩
  have hf0 := hI.x.frozen (k * 2); have hf1 := hI.x.frozen (k * 2 + 1)
  have lX := hI.x.lt; have lO := hI.o.lt
  clear hI bY hacc hsp
  dsimp only [subC, Tryd.f93, Option.getD_some, partC]
  refine wp_region_F [3, 5] (fun w' => w'.cell? ⟨Y, 0, none⟩ = some (.int .i64 s.1) ∧ w'.cell? ⟨Y, 1, none⟩ = some (.int .i64 s.2) ∧ w'.cell? ⟨O, i, none⟩ = some (.slice (some ⟨X, 0, none⟩) (a.fo.length + 1) (a.fo.length + 1))) hm ⟨e0, e1, e2⟩ ?_
  intro hS0; have hS := hid hS0; clear hS0
  (apply wpAnyF_pure (i := 0) rfl (by kernel_rfl) (fun _ _ _ h => h); · first | exact .inr ⟨rfl, rfl⟩ | exact .inl ⟨rfl, fun w' => by go_simp; rfl⟩); simp only [Act.put, List.setIfInBounds_toArray, List.set_cons_succ, List.set_cons_zero, List.getElem_toArray, List.getElem_cons_succ, List.getElem_cons_zero]
  (apply wpAnyF_pure (i := 1) rfl (by kernel_rfl) (fun _ _ _ h => h); · first | exact .inr ⟨rfl, rfl⟩ | exact .inl ⟨rfl, fun w' => by go_simp; rfl⟩); simp only [Act.put, List.setIfInBounds_toArray, List.set_cons_succ, List.set_cons_zero, List.getElem_toArray, List.getElem_cons_succ, List.getElem_cons_zero]
  (apply wpAnyF_pure (i := 2) rfl (by kernel_rfl) (fun _ _ _ h => h); · first | exact .inr ⟨rfl, rfl⟩ | exact .inl ⟨rfl, fun w' => by go_simp; rfl⟩); simp only [Act.put, List.setIfInBounds_toArray, List.set_cons_succ, List.set_cons_zero, List.getElem_toArray, List.getElem_cons_succ, List.getElem_cons_zero]
  (apply wpAnyF_held (i := 3) rfl (by kernel_rfl) (fun _ _ _ h => h) hS.out; · first | exact .inr ⟨rfl, rfl⟩ | exact .inl ⟨rfl, fun w' hS' => by (obtain ⟨s1, s2, s3⟩ := hS'; go_simp; rfl)⟩); simp only [Act.put, List.setIfInBounds_toArray, List.set_cons_succ, List.set_cons_zero, List.getElem_toArray, List.getElem_cons_succ, List.getElem_cons_zero]
  (apply wpAnyF_pure (i := 4) rfl (by kernel_rfl) (fun _ _ _ h => h); · first | exact .inr ⟨rfl, rfl⟩ | exact .inl ⟨rfl, fun w' => by go_simp; rfl⟩); simp only [Act.put, List.setIfInBounds_toArray, List.set_cons_succ, List.set_cons_zero, List.getElem_toArray, List.getElem_cons_succ, List.getElem_cons_zero]
  (apply wpAnyF_held (i := 5) rfl (by kernel_rfl) (fun _ _ _ h => h) hS.out; · first | exact .inr ⟨rfl, rfl⟩ | exact .inl ⟨rfl, fun w' hS' => by (obtain ⟨s1, s2, s3⟩ := hS'; go_simp; rfl)⟩); simp only [Act.put, List.setIfInBounds_toArray, List.set_cons_succ, List.set_cons_zero, List.getElem_toArray, List.getElem_cons_succ, List.getElem_cons_zero]
  (apply wpAnyF_pure (i := 6) rfl (by kernel_rfl) (fun _ _ _ h => h); · first | exact .inr ⟨rfl, rfl⟩ | exact .inl ⟨rfl, fun w' => by go_simp; rfl⟩); simp only [Act.put, List.setIfInBounds_toArray, List.set_cons_succ, List.set_cons_zero, List.getElem_toArray, List.getElem_cons_succ, List.getElem_cons_zero]
  refine wpAnyF_one (i := 7) rfl ⟨by kernel_rfl, by kernel_rfl⟩ ?_
  intro K hK
  go_simp
  refine shutN hK (by kernel_rfl) ?_
  refine wpAnyF_done (by kernel_rfl) ?_ _
  clear hS
  show StQ a W w w1 OT O X i k cs _ _
  have hI := II.out
  refine ⟨(rs.setIfInBounds (k * 2) (.int .i64 s.1)).setIfInBounds (k * 2 + 1) (.int .i64 s.2), acts_of' rfl ⟨⟨rfl, rfl, rfl, rfl, rfl, rfl, rfl, rfl, rfl⟩, ?_⟩⟩
  have hk1 : ∀ b, b ≠ X → ((V.setCell ⟨X, k * 2, none⟩ (.int .i64 s.1)).setCell ⟨X, k * 2 + 1, none⟩ (.int .i64 s.2)).heap[b]? = V.heap[b]? := fun b hb => (Below.heap_setCell _ _ _ b hb).trans (Below.heap_setCell _ _ _ b hb)
  have hg : RcI (fun r k => spanF W (a.st.drop r) (a.fo.drop k)) w1 a.st.length a.fo.length O X i cs ((rs.setIfInBounds (k * 2) (.int .i64 s.1)).setIfInBounds (k * 2 + 1) (.int .i64 s.2)) k ((V.setCell ⟨X, k * 2, none⟩ (.int .i64 s.1)).setCell ⟨X, k * 2 + 1, none⟩ (.int .i64 s.2)) := by
    refine ⟨(hk1 O (by omega)).trans hI.o, fun r g1 g2 => (hI.rows r g1 g2).keep rfl (Nat.le_refl _) (fun b hb _ _ => hk1 b (by omega)), (hI.bel.setCell (p := ⟨X, k * 2, none⟩) (show w1.heap.size ≤ X by omega) _).setCell (p := ⟨X, k * 2 + 1, none⟩) (show w1.heap.size ≤ X by omega) _, (hI.x.set _ _).set _ _, by simpa using hI.sz, fun j h1 h2 => ?_⟩
    by_cases hj : j = k
    · subst hj
      rw [HSP.out]
      refine ⟨?_, ?_⟩
      · rw [Array.getElem?_setIfInBounds, if_neg (by omega), Array.getElem?_setIfInBounds, if_pos rfl, if_pos (by omega)]
      · rw [Array.getElem?_setIfInBounds, if_pos rfl, if_pos (by simp; omega)]
    · have h3 := hI.got j (by omega) h2
      refine ⟨?_, ?_⟩
      · rw [Array.getElem?_setIfInBounds, if_neg (by omega), Array.getElem?_setIfInBounds, if_neg (by omega)]; exact h3.1
      · rw [Array.getElem?_setIfInBounds, if_neg (by omega), Array.getElem?_setIfInBounds, if_neg (by omega)]; exact h3.2
  exact hg.same ⟨rfl, rfl, rfl, Nat.le_refl _, fun _ _ _ => rfl⟩
end Go.Proofs.YthddoikmgpgakaaDoor
