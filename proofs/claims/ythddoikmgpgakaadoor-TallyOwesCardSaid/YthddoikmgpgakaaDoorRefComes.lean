/- The reference's 'comes'. -/
import Derived.Test.YthddoikmgpgakaaDoorProg
import Derived.Test.YthddoikmgpgakaaDoorBase
import Derived.Outline
import Derived.RangeFuncNested
import Derived.Shelf.Abstract
import Derived.Deep.QuietTactic
import Derived.BigQuiet
import Derived.Deep.RegionHeld3
import Derived.WalkSmall
import Derived.Laws.EntriesVeiled
import Derived.WalkMore
import Derived.Deep.Cut
import Derived.Test.YthddoikmgpgakaaDoorRefC5
namespace Go.Proofs.YthddoikmgpgakaaDoor
open Go.RowKit Go.Proofs Go.Shelf

set_option maxRecDepth 20000 in
set_option maxHeartbeats 4000000 in
theorem refComes_any (a : Tl) (W : Int → Int) (sa fa : Option Addr) (sc fc : Nat) (w : World) (hl : a.st.length ≤ 1000) (hl2 : a.fo.length ≤ 1000) (o1 : okN a.st = true) (o2 : okN a.fo = true) (w0 : W 0 = 0) (wb : ∀ n, -1000 ≤ W n ∧ W n ≤ 1000) (h1 : RdI w sa a.st) (h2 : RdI w fa a.fo) :
    Calls Tryd.prog 93 #[.agg #[.int .i64 a.id, .int .i64 a.hs, .slice sa a.st.length sc, .slice fa a.fo.length fc], .agg #[.int .i64 (W 0), .int .i64 (W 1), .int .i64 (W 2), .int .i64 (W 3), .int .i64 (W 4)]] w
      fun e w' => e = .returned (.agg #[.int .i64 (spanF W a.st a.fo).1, .int .i64 (spanF W a.st a.fo).2]) ∧ Below w.heap.size w w' := by
  have hm := mixedS
  have H1 := hid h1; have H2 := hid h2; clear h1 h2
  have HW0 := hid w0; clear w0
  obtain ⟨i0, hi0, iz0, iz1, iz2⟩ := info_parts infoSpan
  obtain ⟨i1, hi1, jz0, jz1, jz2⟩ := info_parts infoSRow
  have mk1 : ∀ V : World, (Instr.makeSlice 180 (.int .i64 ((a.st.length : Int) + 1)) (.int .i64 ((a.st.length : Int) + 1))).run Tryd.prog V = .ok (.slice (some ⟨V.heap.size, 0, none⟩) (a.st.length + 1) (a.st.length + 1)) (V.alloc (.cells (madeCells (Value.slice none 0 0).cells ((a.st.length + 1) * i1.size)) 176)) := fun V => by
    have := run_make (P := Tryd.prog) V 180 176 i1 _ Tryd.underlying180 hi1 jz0 .i64 .i64 ((a.st.length : Int) + 1) ((a.st.length : Int) + 1) (by omega) (by omega) (by rw [jz2]; omega) (by omega)
    rw [this]
    have e : ((a.st.length : Int) + 1).toNat = a.st.length + 1 := by omega
    rw [e]
  have mk2 : ∀ V : World, (Instr.makeSlice 176 (.int .i64 ((a.fo.length : Int) + 1)) (.int .i64 ((a.fo.length : Int) + 1))).run Tryd.prog V = .ok (.slice (some ⟨V.heap.size, 0, none⟩) (a.fo.length + 1) (a.fo.length + 1)) (V.alloc (.cells (madeCells (Value.agg #[.int .i64 0, .int .i64 0]).cells ((a.fo.length + 1) * i0.size)) 68)) := fun V => by
    have := run_make (P := Tryd.prog) V 176 68 i0 _ Tryd.underlying176 hi0 iz0 .i64 .i64 ((a.fo.length : Int) + 1) ((a.fo.length : Int) + 1) (by omega) (by omega) (by rw [iz2]; omega) (by omega)
    rw [this]
    have e : ((a.fo.length : Int) + 1).toNat = a.fo.length + 1 := by omega
    rw [e]
  have tl := refTail a W sa fa sc fc w
  obtain ⟨T, hTe⟩ : ∃ T, (subC [true, true, true, true, false, true, false, false, true, false, false, true, true, false, false, true, false, false, true, true] Tryd.f93.body) = T := ⟨_, rfl⟩
  have hbody : Tryd.f93.body = some (putC [true, true, true, true, false, true, false, false, true, false, false, true, true, false, false, true, false, false, true, true] T (Tryd.f93.body.getD .skip)) := by rw [← hTe]; rfl
  rw [hTe] at tl
  have TL := hid tl
  clear tl hTe
  refine calls_of_wp Tryd.func93 hbody ?_
  clear hbody
  simp only [Tryd.ntmps93, List.size_toArray, List.length_cons, List.length_nil, Nat.reduceAdd, Nat.reduceSub, Array.replicate_succ, Array.replicate_zero, List.push_toArray, List.append_toArray, List.nil_append, List.cons_append]
  dsimp only [Tryd.f93, Option.getD_some, putC]
  go_wp2_with fail
  refine (table_any a.st a.fo sa fa sc fc _ hl hl2 (H1.out.below (by repeat (first | (with_reducible exact Below.refl _ _) | (with_reducible assumption) | (with_reducible refine Below.drew ?_) | (with_reducible refine below_drewN ?_ _) | (with_reducible refine Below.alloc ?_ (by first | omega | (simp; done) | (simp; omega)) _) | (with_reducible refine Below.setCell ?_ (by first | omega | (simp; done) | (simp; omega)) _) | (with_reducible refine Below.trans ?_ (Below.mono (by assumption) (by first | omega | (simp; done) | (simp; omega))))))) (H2.out.below (by repeat (first | (with_reducible exact Below.refl _ _) | (with_reducible assumption) | (with_reducible refine Below.drew ?_) | (with_reducible refine below_drewN ?_ _) | (with_reducible refine Below.alloc ?_ (by first | omega | (simp; done) | (simp; omega)) _) | (with_reducible refine Below.setCell ?_ (by first | omega | (simp; done) | (simp; omega)) _) | (with_reducible refine Below.trans ?_ (Below.mono (by assumption) (by first | omega | (simp; done) | (simp; omega)))))))).mono ?_
  rintro e w1 ⟨OT, rfl, hb1, hT⟩
  have BX := hid ((((Box.new w (#[.int .i64 a.id, .int .i64 a.hs, .slice sa a.st.length sc, .slice fa a.fo.length fc]) 24).alloc (.cells (#[.int .i64 (W 0), .int .i64 (W 1), .int .i64 (W 2), .int .i64 (W 3), .int .i64 (W 4)]) 149)).alloc (.cells #[.int .i64 0, .int .i64 0] 68)).below hb1 (by simp; omega))
  have BW := hid (((Box.at (w := w.alloc (.cells #[.int .i64 a.id, .int .i64 a.hs, .slice sa a.st.length sc, .slice fa a.fo.length fc] 24)) (n := w.heap.size + 1) (#[.int .i64 (W 0), .int .i64 (W 1), .int .i64 (W 2), .int .i64 (W 3), .int .i64 (W 4)]) 149 (by simp)).alloc (.cells #[.int .i64 0, .int .i64 0] 68)).below hb1 (by simp))
  have BR := hid ((Box.at (w := (w.alloc (.cells #[.int .i64 a.id, .int .i64 a.hs, .slice sa a.st.length sc, .slice fa a.fo.length fc] 24)).alloc (.cells (#[.int .i64 (W 0), .int .i64 (W 1), .int .i64 (W 2), .int .i64 (W 3), .int .i64 (W 4)]) 149)) (n := w.heap.size + 1 + 1) #[.int .i64 0, .int .i64 0] 68 (by simp)).below hb1 (by simp))
  have WB := hid (show Below w.heap.size w w1 from (by repeat (first | (with_reducible exact Below.refl _ _) | (with_reducible assumption) | (with_reducible refine Below.drew ?_) | (with_reducible refine below_drewN ?_ _) | (with_reducible refine Below.alloc ?_ (by first | omega | (simp; done) | (simp; omega)) _) | (with_reducible refine Below.setCell ?_ (by first | omega | (simp; done) | (simp; omega)) _) | (with_reducible refine Below.trans ?_ (Below.mono (by assumption) (by first | omega | (simp; done) | (simp; omega)))))))
  have TT := hid hT
  clear hb1 hT
  obtain ⟨⟨c0, c1, c2, c3⟩, _, lx⟩ := box_quad BX.out
  go_wp2_with fail
  go_big_quiet (fail)
  go_wp2_with fail
  refine wp_world (fun V => (∃ cs, Box V w1.heap.size cs 176 ∧ cs.size = a.st.length + 1) ∧ Below w1.heap.size w1 V) ⟨⟨madeCells #[.slice none 0 0] (a.st.length + 1), Box.at _ _ rfl, size_madeCells _ _⟩, (by repeat (first | (with_reducible exact Below.refl _ _) | (with_reducible assumption) | (with_reducible refine Below.drew ?_) | (with_reducible refine below_drewN ?_ _) | (with_reducible refine Below.alloc ?_ (by first | omega | (simp; done) | (simp; omega)) _) | (with_reducible refine Below.setCell ?_ (by first | omega | (simp; done) | (simp; omega)) _) | (with_reducible refine Below.trans ?_ (Below.mono (by assumption) (by first | omega | (simp; done) | (simp; omega))))))⟩ ?_
  rintro W0 ⟨⟨cs0, hb0, hz0⟩, hB0⟩
  obtain ⟨O, hO⟩ : ∃ O, O = w1.heap.size := ⟨_, rfl⟩
  rw [← hO] at hb0 ⊢
  have nO : w.heap.size + 1 + 1 < O := by have := BR.out.lt; omega
  have HO := hid hO
  clear hO
  clear c0 c1 c2 c3 lx
  refine wp_loop (fun a' V => ∃ f : Nat → Value, a' = ⟨((List.range 220).map f).toArray, []⟩ ∧ ((f 2 = .pointer (some ⟨w.heap.size, 0, none⟩) ∧ f 3 = .pointer (some ⟨w.heap.size + 1, 0, none⟩) ∧ f 4 = .pointer (some ⟨w.heap.size + 1 + 1, 0, none⟩) ∧ f 5 = .slice (some ⟨OT, 0, none⟩) (a.st.length + 1) (a.st.length + 1) ∧ f 6 = .int .i64 a.st.length ∧ f 7 = .int .i64 a.fo.length ∧ f 8 = .slice (some ⟨O, 0, none⟩) (a.st.length + 1) (a.st.length + 1)) ∧ ∃ j : Nat, j ≤ a.st.length + 1 ∧ f 9 = .int .i64 ((j : Int) - 1) ∧ (∃ cs, Box V O cs 176 ∧ cs.size = a.st.length + 1 ∧ ∀ r, j ≤ r → r ≤ a.st.length → SRow (fun r k => spanF W (a.st.drop r) (a.fo.drop k)) V cs a.fo.length O V.heap.size r) ∧ Below w1.heap.size w1 V)) (fun a' _ => (intOf (a'.tmps.getD 9 Go.undef) + 1).toNat) ?atStart ?round
  case atStart => exact acts_of' rfl ⟨⟨rfl, rfl, rfl, rfl, rfl, rfl, rfl⟩, a.st.length + 1, by omega, congrArg (Value.int .i64) (by omega), ⟨cs0, hb0, hz0, fun r h1 h2 => by omega⟩, hB0⟩
  case round =>
    rintro _ wr ⟨f, rfl, ⟨f2, f3, f4, f5, f6, f7, f8⟩, j, hj, f9, ⟨cs, hOb, hcs, hrows⟩, hB⟩
    rw [show (List.range 220).map f = [f 0, f 1, f 2, f 3, f 4, f 5, f 6, f 7, f 8, f 9, f 10, f 11, f 12, f 13, f 14, f 15, f 16, f 17, f 18, f 19, f 20, f 21, f 22, f 23, f 24, f 25, f 26, f 27, f 28, f 29, f 30, f 31, f 32, f 33, f 34, f 35, f 36, f 37, f 38, f 39, f 40, f 41, f 42, f 43, f 44, f 45, f 46, f 47, f 48, f 49, f 50, f 51, f 52, f 53, f 54, f 55, f 56, f 57, f 58, f 59, f 60, f 61, f 62, f 63, f 64, f 65, f 66, f 67, f 68, f 69, f 70, f 71, f 72, f 73, f 74, f 75, f 76, f 77, f 78, f 79, f 80, f 81, f 82, f 83, f 84, f 85, f 86, f 87, f 88, f 89, f 90, f 91, f 92, f 93, f 94, f 95, f 96, f 97, f 98, f 99, f 100, f 101, f 102, f 103, f 104, f 105, f 106, f 107, f 108, f 109, f 110, f 111, f 112, f 113, f 114, f 115, f 116, f 117, f 118, f 119, f 120, f 121, f 122, f 123, f 124, f 125, f 126, f 127, f 128, f 129, f 130, f 131, f 132, f 133, f 134, f 135, f 136, f 137, f 138, f 139, f 140, f 141, f 142, f 143, f 144, f 145, f 146, f 147, f 148, f 149, f 150, f 151, f 152, f 153, f 154, f 155, f 156, f 157, f 158, f 159, f 160, f 161, f 162, f 163, f 164, f 165, f 166, f 167, f 168, f 169, f 170, f 171, f 172, f 173, f 174, f 175, f 176, f 177, f 178, f 179, f 180, f 181, f 182, f 183, f 184, f 185, f 186, f 187, f 188, f 189, f 190, f 191, f 192, f 193, f 194, f 195, f 196, f 197, f 198, f 199, f 200, f 201, f 202, f 203, f 204, f 205, f 206, f 207, f 208, f 209, f 210, f 211, f 212, f 213, f 214, f 215, f 216, f 217, f 218, f 219] from rfl, f2, f3, f4, f5, f6, f7, f8, f9]
    clear f2 f3 f4 f5 f6 f7 f8 f9
    have HR := hid hrows; clear hrows hb0 hB0
    cases j with
    | zero =>
      obtain ⟨R, rs, g1, g2, _, g3, g4, g5⟩ := HR.out 0 (Nat.le_refl _) (Nat.zero_le _)
      have q0 : wr.cell? ⟨O, 0, none⟩ = some (.slice (some ⟨R, 0, none⟩) (a.fo.length + 1) (a.fo.length + 1)) := (hOb.cell 0).trans g1
      have q1 : wr.cell? ⟨R, 0, none⟩ = some (.int .i64 (spanF W a.st a.fo).1) := (g3.cell 0).trans (g5 0 (Nat.zero_le _)).1
      have q2 : wr.cell? ⟨R, 1, none⟩ = some (.int .i64 (spanF W a.st a.fo).2) := (g3.cell 1).trans (g5 0 (Nat.zero_le _)).2
      have b4 := BR.out.below hB BR.out.lt
      have r0 := b4.cell 0; have r1 := b4.cell 1; have r2 := b4.frozen 0; have r3 := b4.frozen 1; have r4 := b4.lt
      simp only [List.getElem?_toArray, List.getElem?_cons_zero, List.getElem?_cons_succ] at r0 r1
      have t1 : (0 : Int) < (a.st.length : Int) + 1 := by omega
      have t2 : (0 : Int) < (a.fo.length : Int) + 1 := by omega
      clear g1 g2 g3 g4 g5 b4 HR
      go_wp2_with fail
      refine bodyPost_ret (v := .agg #[.int .i64 (spanF W a.st a.fo).1, .int .i64 (spanF W a.st a.fo).2]) (by simp [results, Tryd.results93, go_sem, r0, r1, r2, r3, r4]) rfl ⟨rfl, ((WB.out.trans (hB.mono WB.out.size)).setCell (p := ⟨w.heap.size + 1 + 1, 0, none⟩) (show w.heap.size ≤ w.heap.size + 1 + 1 by omega) _).setCell (p := ⟨w.heap.size + 1 + 1, 1, none⟩) (show w.heap.size ≤ w.heap.size + 1 + 1 by omega) _⟩
    | succ i =>
      have ei : (((i + 1 : Nat) : Int) - 1) = (i : Int) := by omega
      rw [ei]
      have hO0 := hid hOb
      have hlO := hOb.lt
      obtain ⟨v0, hv0⟩ : ∃ v, wr.cell? ⟨O, i, none⟩ = some v := ⟨cs[i], (hOb.cell i).trans (Array.getElem?_eq_getElem (by omega))⟩
      have hf0 := hOb.frozen i
      have hi : i ≤ a.st.length := by omega
      clear hOb
      go_wp2_with fail
      refine wp_world (fun V => ∃ cs1 rs, cs1.size = a.st.length + 1 ∧ cs1[i]? = some (.slice (some ⟨wr.heap.size, 0, none⟩) (a.fo.length + 1) (a.fo.length + 1)) ∧ RcI (fun r k => spanF W (a.st.drop r) (a.fo.drop k)) w1 a.st.length a.fo.length O wr.heap.size i cs1 rs (a.fo.length + 1) V) ⟨cs.setIfInBounds i (.slice (some ⟨wr.heap.size, 0, none⟩) (a.fo.length + 1) (a.fo.length + 1)), madeCells #[.int .i64 0, .int .i64 0] ((a.fo.length + 1) * 2), by simpa using hcs, by rw [Array.getElem?_setIfInBounds]; simp; omega, ⟨?_, ?_, ?_, ?_, ?_, ?_⟩⟩ ?_
      · exact (hO0.out.set i _).alloc _
      · intro r g1 g2
        refine (HR.out r g1 g2).keep ?_ (Nat.le_refl _) (fun k hk hne _ => ?_)
        · rw [Array.getElem?_setIfInBounds, if_neg (by omega)]
        · exact (Below.heap_alloc _ _ k (by simpa using hk)).trans (Below.heap_setCell _ _ _ k hne)
      · exact (hB.setCell (p := ⟨O, i, none⟩) (show w1.heap.size ≤ O by have := HO.out; omega) _).alloc (by have := hB.size; simp; omega) _
      · exact Box.at _ _ (by simp)
      · rw [size_madeCells]; omega
      · intro k g1 g2; omega
      rintro W2 ⟨cs1, rs1, hcs1, hci1, hI1⟩
      have XO : O < wr.heap.size := hlO
      have hXs := hB.size
      clear hv0 hf0 hO0 hcs HR hB
      obtain ⟨X, hX⟩ : ∃ X, X = wr.heap.size := ⟨_, rfl⟩
      rw [← hX] at hci1 hI1 XO hXs
      clear hX hlO
      have HOw : w1.heap.size ≤ O := by have := HO.out; omega
      refine wp_loop (fun a' V => ∃ f : Nat → Value, a' = ⟨((List.range 220).map f).toArray, []⟩ ∧ ((f 2 = .pointer (some ⟨w.heap.size, 0, none⟩) ∧ f 3 = .pointer (some ⟨w.heap.size + 1, 0, none⟩) ∧ f 4 = .pointer (some ⟨w.heap.size + 1 + 1, 0, none⟩) ∧ f 5 = .slice (some ⟨OT, 0, none⟩) (a.st.length + 1) (a.st.length + 1) ∧ f 6 = .int .i64 a.st.length ∧ f 7 = .int .i64 a.fo.length ∧ f 8 = .slice (some ⟨O, 0, none⟩) (a.st.length + 1) (a.st.length + 1) ∧ f 9 = .int .i64 i) ∧ ∃ l : Nat, l ≤ a.fo.length + 1 ∧ f 10 = .int .i64 ((l : Int) - 1) ∧ ∃ rs, RcI (fun r k => spanF W (a.st.drop r) (a.fo.drop k)) w1 a.st.length a.fo.length O X i cs1 rs l V)) (fun a' _ => (intOf (a'.tmps.getD 10 Go.undef) + 1).toNat) ?atStart ?round
      case atStart => exact acts_of' rfl ⟨⟨rfl, rfl, rfl, rfl, rfl, rfl, rfl, rfl⟩, a.fo.length + 1, by omega, congrArg (Value.int .i64) (by omega), rs1, hI1⟩
      case round =>
        rintro _ wr ⟨f, rfl, ⟨f2, f3, f4, f5, f6, f7, f8, f9⟩, l, hlb, f10, rs, hI⟩
        rw [show (List.range 220).map f = [f 0, f 1, f 2, f 3, f 4, f 5, f 6, f 7, f 8, f 9, f 10, f 11, f 12, f 13, f 14, f 15, f 16, f 17, f 18, f 19, f 20, f 21, f 22, f 23, f 24, f 25, f 26, f 27, f 28, f 29, f 30, f 31, f 32, f 33, f 34, f 35, f 36, f 37, f 38, f 39, f 40, f 41, f 42, f 43, f 44, f 45, f 46, f 47, f 48, f 49, f 50, f 51, f 52, f 53, f 54, f 55, f 56, f 57, f 58, f 59, f 60, f 61, f 62, f 63, f 64, f 65, f 66, f 67, f 68, f 69, f 70, f 71, f 72, f 73, f 74, f 75, f 76, f 77, f 78, f 79, f 80, f 81, f 82, f 83, f 84, f 85, f 86, f 87, f 88, f 89, f 90, f 91, f 92, f 93, f 94, f 95, f 96, f 97, f 98, f 99, f 100, f 101, f 102, f 103, f 104, f 105, f 106, f 107, f 108, f 109, f 110, f 111, f 112, f 113, f 114, f 115, f 116, f 117, f 118, f 119, f 120, f 121, f 122, f 123, f 124, f 125, f 126, f 127, f 128, f 129, f 130, f 131, f 132, f 133, f 134, f 135, f 136, f 137, f 138, f 139, f 140, f 141, f 142, f 143, f 144, f 145, f 146, f 147, f 148, f 149, f 150, f 151, f 152, f 153, f 154, f 155, f 156, f 157, f 158, f 159, f 160, f 161, f 162, f 163, f 164, f 165, f 166, f 167, f 168, f 169, f 170, f 171, f 172, f 173, f 174, f 175, f 176, f 177, f 178, f 179, f 180, f 181, f 182, f 183, f 184, f 185, f 186, f 187, f 188, f 189, f 190, f 191, f 192, f 193, f 194, f 195, f 196, f 197, f 198, f 199, f 200, f 201, f 202, f 203, f 204, f 205, f 206, f 207, f 208, f 209, f 210, f 211, f 212, f 213, f 214, f 215, f 216, f 217, f 218, f 219] from rfl, f2, f3, f4, f5, f6, f7, f8, f9, f10]
        clear f2 f3 f4 f5 f6 f7 f8 f9 f10
        clear hI1 rs1
        have II := hid hI
        have zX := hI.x.lt
        cases l with
        | zero =>
          go_wp2_with fail
          refine ⟨acts_of' rfl ⟨⟨rfl, rfl, rfl, rfl, rfl, rfl, rfl⟩, i, by omega, rfl, ⟨cs1, hI.o, hcs1, fun r g1 g2 => ?_⟩, hI.bel⟩, by simp [intOf]⟩
          by_cases hr : r = i
          · subst hr
            exact ⟨X, rs, hci1, hI.x.lt, by omega, hI.x, hI.sz, fun k hk => hI.got k (Nat.zero_le _) hk⟩
          · exact (hI.rows r (by omega) g2).keep rfl (by omega) (fun _ _ _ _ => rfl)
        | succ k =>
          have ek : (((k + 1 : Nat) : Int) - 1) = (k : Int) := by omega
          rw [ek]
          have hk : k ≤ a.fo.length := by omega
          clear hI
          obtain ⟨Y, hY⟩ : ∃ Y, Y = wr.heap.size := ⟨_, rfl⟩
          have XY : X < Y := by omega
          have b1 : RcI (fun r k => spanF W (a.st.drop r) (a.fo.drop k)) w1 a.st.length a.fo.length O X i cs1 rs (k + 1) (wr.alloc (.cells #[.int .i64 0, .int .i64 0] 68)) := II.out.keep (Y := wr.heap.size) (by omega) (by omega) (by omega) ((Keep.refl _ _).alloc _)
          have b2 : Box (wr.alloc (.cells #[.int .i64 0, .int .i64 0] 68)) Y #[.int .i64 0, .int .i64 0] 68 := Box.at _ _ hY
          have B1 := hid b1; have B2 := hid b2
          clear b1 b2
          have HWI := hid (II.out.bel)
          go_wp2_with fail
          refine wp_post (StQ a W w w1 OT O X i k cs1) (TL.out w1 OT O X Y i k cs1 rs hl hl2 o1 o2 HW0 wb (hid (H1.out.below WB.out)) (hid (H2.out.below WB.out)) BX BW TT hi hk XO XY HOw hci1 _ _ ?_) ?_
          · refine ⟨true, (0, 0), acts_of' rfl ⟨⟨rfl, rfl, rfl, rfl, rfl, rfl, rfl, rfl, rfl, by rw [hY]; rfl, rfl⟩, trivial, B1.out, B2.out.lt, B2.out, .inl ⟨rfl, rfl, fun l ⟨_, h, _⟩ => by cases h⟩⟩⟩
          · clear II hY B1 B2
            rintro a' V ⟨rs', f, rfl, ⟨f2, f3, f4, f5, f6, f7, f8, f9, f10⟩, hI⟩
            rw [show (List.range 220).map f = [f 0, f 1, f 2, f 3, f 4, f 5, f 6, f 7, f 8, f 9, f 10, f 11, f 12, f 13, f 14, f 15, f 16, f 17, f 18, f 19, f 20, f 21, f 22, f 23, f 24, f 25, f 26, f 27, f 28, f 29, f 30, f 31, f 32, f 33, f 34, f 35, f 36, f 37, f 38, f 39, f 40, f 41, f 42, f 43, f 44, f 45, f 46, f 47, f 48, f 49, f 50, f 51, f 52, f 53, f 54, f 55, f 56, f 57, f 58, f 59, f 60, f 61, f 62, f 63, f 64, f 65, f 66, f 67, f 68, f 69, f 70, f 71, f 72, f 73, f 74, f 75, f 76, f 77, f 78, f 79, f 80, f 81, f 82, f 83, f 84, f 85, f 86, f 87, f 88, f 89, f 90, f 91, f 92, f 93, f 94, f 95, f 96, f 97, f 98, f 99, f 100, f 101, f 102, f 103, f 104, f 105, f 106, f 107, f 108, f 109, f 110, f 111, f 112, f 113, f 114, f 115, f 116, f 117, f 118, f 119, f 120, f 121, f 122, f 123, f 124, f 125, f 126, f 127, f 128, f 129, f 130, f 131, f 132, f 133, f 134, f 135, f 136, f 137, f 138, f 139, f 140, f 141, f 142, f 143, f 144, f 145, f 146, f 147, f 148, f 149, f 150, f 151, f 152, f 153, f 154, f 155, f 156, f 157, f 158, f 159, f 160, f 161, f 162, f 163, f 164, f 165, f 166, f 167, f 168, f 169, f 170, f 171, f 172, f 173, f 174, f 175, f 176, f 177, f 178, f 179, f 180, f 181, f 182, f 183, f 184, f 185, f 186, f 187, f 188, f 189, f 190, f 191, f 192, f 193, f 194, f 195, f 196, f 197, f 198, f 199, f 200, f 201, f 202, f 203, f 204, f 205, f 206, f 207, f 208, f 209, f 210, f 211, f 212, f 213, f 214, f 215, f 216, f 217, f 218, f 219] from rfl, f2, f3, f4, f5, f6, f7, f8, f9, f10]
            clear f2 f3 f4 f5 f6 f7 f8 f9 f10
            have HI := hid hI
            clear hI
            go_wp2_with fail
            exact ⟨acts_of' rfl ⟨⟨rfl, rfl, rfl, rfl, rfl, rfl, rfl, rfl⟩, k, by omega, rfl, rs', HI.out⟩, by simp [intOf]⟩
end Go.Proofs.YthddoikmgpgakaaDoor
