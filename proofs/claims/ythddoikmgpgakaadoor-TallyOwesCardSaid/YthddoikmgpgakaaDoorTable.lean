/- The reference's table of false notches, and 'Between'. -/
import Derived.Test.YthddoikmgpgakaaDoorProg
import Derived.Test.YthddoikmgpgakaaDoorBase
import Derived.Outline
import Derived.RangeFuncNested
import Derived.Shelf.Abstract
import Derived.Deep.QuietTactic
import Derived.BigQuiet
import Derived.Deep.RegionHeld3
import Derived.WalkSmall
import Derived.Laws.EntriesVeiled
import Derived.Laws.MakeOwn
import Derived.Test.YthddoikmgpgakaaDoorLeft
import Derived.Test.YthddoikmgpgakaaDoorConcat
namespace Go.Proofs.YthddoikmgpgakaaDoor
open Go.RowKit Go.Proofs Go.Shelf

/-- Row r of the table lies in the outer block's cells. -/
def RowAt (W : World) (cs : Array Value) (a b : List Int) (O X : Nat) (r : Nat) : Prop := ∃ R rs, cs[r]? = some (.slice (some ⟨R, 0, none⟩) (b.length + 1) (b.length + 1)) ∧ R < X ∧ R ≠ O ∧ Box W R rs 3 ∧ rs.size = b.length + 1 ∧ ∀ k, k ≤ b.length → rs[k]? = some (.int .i64 (dd a b r k : Int))
theorem RowAt.keep {W W' : World} {cs cs' : Array Value} {a b : List Int} {O X X' r : Nat} (h : RowAt W cs a b O X r) (hc : cs'[r]? = cs[r]?) (hX : X ≤ X') (hk : ∀ k, k < X → k ≠ O → W'.heap[k]? = W.heap[k]?) : RowAt W' cs' a b O X' r := by
  obtain ⟨R, rs, h1, h2, h3, h4, h5, h6⟩ := h
  exact ⟨R, rs, hc.trans h1, by omega, h3, (hk R h2 h3).trans h4, h5, h6⟩

/-- Two worlds that differ in what has been drawn alone. -/
def Same (a b : World) : Prop := b.heap = a.heap ∧ b.os = a.os ∧ b.tape = a.tape ∧ b.output = a.output
theorem Same.box {a b : World} (h : Same a b) {k : Nat} {cs : Array Value} {t : TypeId} (hb : Box a k cs t) : Box b k cs t := by unfold Box at *; rw [h.1]; exact hb
theorem Same.below {w a b : World} {B : Nat} (h : Same a b) (hb : Below B w a) : Below B w b := ⟨h.2.1.trans hb.os, h.2.2.1.trans hb.tape, h.2.2.2.trans hb.output, by rw [h.1]; exact hb.size, fun k hk => by rw [h.1]; exact hb.block k hk⟩

/-- The table is whole. -/
def Tbl (w : World) (O : Nat) (a b : List Int) : Prop := ∀ i, i ≤ a.length → ∃ R, w.cell? ⟨O, i, none⟩ = some (.slice (some ⟨R, 0, none⟩) (b.length + 1) (b.length + 1)) ∧ ∀ k, k ≤ b.length → w.cell? ⟨R, k, none⟩ = some (.int .i64 (dd a b i k : Int))

theorem infoRow : (Tryd.prog.info? 22).map (fun i => (i.zero, i.size, i.bytes)) = some (some (.slice none 0 0), 1, 24) := by kernel_rfl

set_option maxRecDepth 20000 in
set_option maxHeartbeats 4000000 in
theorem table_any (a b : List Int) (aa ba : Option Addr) (ca cb : Nat) (w : World) (hl : a.length ≤ 1000) (hl2 : b.length ≤ 1000) (h1 : RdI w aa a) (h2 : RdI w ba b) :
    Calls Tryd.prog 89 #[.slice aa a.length ca, .slice ba b.length cb] w fun e w' => ∃ O, e = .returned (.slice (some ⟨O, 0, none⟩) (a.length + 1) (a.length + 1)) ∧ Below w.heap.size w w' ∧ Tbl w' O a b := by
  have hm := mixedS
  have H1 := hid h1; have H2 := hid h2; clear h1 h2
  obtain ⟨i0, hi0, iz0, iz1, iz2⟩ := info_parts infoInt
  obtain ⟨i1, hi1, jz0, jz1, jz2⟩ := info_parts infoRow
  have mk1 : ∀ W : World, (Instr.makeSlice 93 (.int .i64 ((a.length : Int) + 1)) (.int .i64 ((a.length : Int) + 1))).run Tryd.prog W = .ok (.slice (some ⟨W.heap.size, 0, none⟩) (a.length + 1) (a.length + 1)) (W.alloc (.cells (madeCells (Value.slice none 0 0).cells ((a.length + 1) * i1.size)) 22)) := fun W => by
    have := run_make (P := Tryd.prog) W 93 22 i1 _ Tryd.underlying93 hi1 jz0 .i64 .i64 ((a.length : Int) + 1) ((a.length : Int) + 1) (by omega) (by omega) (by rw [jz2]; omega) (by omega)
    rw [this]
    have e : ((a.length : Int) + 1).toNat = a.length + 1 := by omega
    rw [e]
  have mk2 : ∀ W : World, (Instr.makeSlice 22 (.int .i64 ((b.length : Int) + 1)) (.int .i64 ((b.length : Int) + 1))).run Tryd.prog W = .ok (.slice (some ⟨W.heap.size, 0, none⟩) (b.length + 1) (b.length + 1)) (W.alloc (.cells (madeCells (Value.int .i64 0).cells ((b.length + 1) * i0.size)) 3)) := fun W => by
    have := run_make (P := Tryd.prog) W 22 3 i0 _ Tryd.underlying22 hi0 iz0 .i64 .i64 ((b.length : Int) + 1) ((b.length : Int) + 1) (by omega) (by omega) (by rw [iz2]; omega) (by omega)
    rw [this]
    have e : ((b.length : Int) + 1).toNat = b.length + 1 := by omega
    rw [e]
  go_enter Tryd.func89, Tryd.ntmps89
  go_wp2_with fail
  refine wp_world (fun W => (∃ cs, Box W w.heap.size cs 22 ∧ cs.size = a.length + 1) ∧ Below w.heap.size w W) ⟨⟨madeCells #[.slice none 0 0] (a.length + 1), Box.at _ _ rfl, size_madeCells _ _⟩, (by repeat (first | (with_reducible exact Below.refl _ _) | (with_reducible assumption) | (with_reducible refine Below.drew ?_) | (with_reducible refine below_drewN ?_ _) | (with_reducible refine Below.alloc ?_ (by first | omega | (simp; done) | (simp; omega)) _) | (with_reducible refine Below.setCell ?_ (by first | omega | (simp; done) | (simp; omega)) _) | (with_reducible refine Below.trans ?_ (Below.mono (by assumption) (by first | omega | (simp; done) | (simp; omega))))))⟩ ?_
  rintro W0 ⟨⟨cs0, hb0, hz0⟩, hB0⟩
  go_loopw [6] (fun p W => ∃ j, j ≤ a.length + 1 ∧ p = .int .i64 ((j : Int) - 1) ∧ (∃ cs, Box W w.heap.size cs 22 ∧ cs.size = a.length + 1 ∧ ∀ r, j ≤ r → r ≤ a.length → RowAt W cs a b w.heap.size W.heap.size r) ∧ Below w.heap.size w W) (fun p _ => (intOf p + 1).toNat)
  case atStart => exact ⟨a.length + 1, by omega, by simp, ⟨cs0, hb0, hz0, fun r h1 h2 => by omega⟩, hB0⟩
  case round =>
    obtain ⟨j, hj, rfl, ⟨cs, hO, hcs, hrows⟩, hB⟩ := hrel
    have HR := hid hrows; clear hrows
    cases j with
    | zero =>
      go_wp2_with fail
      go_ret
      refine ⟨w.heap.size, rfl, hB, fun r hr => ?_⟩
      obtain ⟨R, rs, g1, g2, _, g3, g4, g5⟩ := HR.out r (Nat.zero_le _) hr
      exact ⟨R, (hO.cell r).trans g1, fun k hk => (g3.cell k).trans (g5 k hk)⟩
    | succ i =>
      have ei : (((i + 1 : Nat) : Int) - 1) = (i : Int) := by omega
      rw [ei]
      have hO0 := hid hO
      have hlO := hO.lt
      obtain ⟨v0, hv0⟩ : ∃ v, wr.cell? ⟨w.heap.size, i, none⟩ = some v := ⟨cs[i], (hO.cell i).trans (Array.getElem?_eq_getElem (by omega))⟩
      have hf0 := hO.frozen i
      have hi : i ≤ a.length := by omega
      clear hO
      go_wp2_with fail
      refine wp_world (fun W => (∃ cs, Box W w.heap.size cs 22 ∧ cs.size = a.length + 1 ∧ cs[i]? = some (.slice (some ⟨wr.heap.size, 0, none⟩) (b.length + 1) (b.length + 1)) ∧ ∀ r, i + 1 ≤ r → r ≤ a.length → RowAt W cs a b w.heap.size wr.heap.size r) ∧ Below w.heap.size w W ∧ W.heap.size = wr.heap.size + 1 ∧ ∃ rs, Box W wr.heap.size rs 3 ∧ rs.size = b.length + 1) ⟨⟨cs.setIfInBounds i (.slice (some ⟨wr.heap.size, 0, none⟩) (b.length + 1) (b.length + 1)), (hO0.out.set i _).alloc _, by simpa using hcs, by rw [Array.getElem?_setIfInBounds]; simp; omega, ?_⟩, ?_, by simp, madeCells #[.int .i64 0] (b.length + 1), Box.at _ _ (by simp), size_madeCells _ _⟩ ?_
      · intro r h1 h2
        refine (HR.out r h1 h2).keep ?_ (Nat.le_refl _) (fun k hk hne => ?_)
        · rw [Array.getElem?_setIfInBounds, if_neg (by omega)]
        · exact (Below.heap_alloc _ _ k (by simpa using hk)).trans (Below.heap_setCell _ _ _ k hne)
      · exact (by repeat (first | (with_reducible exact Below.refl _ _) | (with_reducible assumption) | (with_reducible refine Below.drew ?_) | (with_reducible refine below_drewN ?_ _) | (with_reducible refine Below.alloc ?_ (by first | omega | (simp; done) | (simp; omega)) _) | (with_reducible refine Below.setCell ?_ (by first | omega | (simp; done) | (simp; omega)) _) | (with_reducible refine Below.trans ?_ (Below.mono (by assumption) (by first | omega | (simp; done) | (simp; omega))))))
      rintro W0 ⟨⟨cs1, hO1, hcs1, hci1, hrow1⟩, hB1, hz1, rs1, hR1, hrs1⟩
      have HRW1 := hid hrow1; clear hrow1
      clear hv0 hf0 hO0 hcs HR hB hB0
      obtain ⟨X, hX⟩ : ∃ X, X = wr.heap.size := ⟨_, rfl⟩
      rw [← hX] at hci1 hz1 hR1 HRW1 hlO
      clear hX
      go_loopw [7] (fun p W => ∃ l, l ≤ b.length + 1 ∧ p = .int .i64 ((l : Int) - 1) ∧ Box W w.heap.size cs1 22 ∧ (∀ r, i + 1 ≤ r → r ≤ a.length → RowAt W cs1 a b w.heap.size X r) ∧ Below w.heap.size w W ∧ W.heap.size = X + 1 ∧ ∃ rs, Box W X rs 3 ∧ rs.size = b.length + 1 ∧ ∀ k, l ≤ k → k ≤ b.length → rs[k]? = some (.int .i64 (dd a b i k : Int))) (fun p _ => (intOf p + 1).toNat)
      case atStart => exact ⟨b.length + 1, by omega, by simp, hO1, HRW1.out, hB1, hz1, rs1, hR1, hrs1, fun k h1 h2 => by omega⟩
      case round =>
        obtain ⟨l, hlb, rfl, hO2, hrow2, hB2, hz2, rs2, hR2, hrs2, hd2⟩ := hrel
        have HRW2 := hid hrow2; clear hrow2
        have HD2 := hid hd2; clear hd2
        cases l with
        | zero =>
          go_wp2_with fail
          refine ⟨⟨i, by omega, rfl, ⟨cs1, hO2, hcs1, fun r h1 h2 => ?_⟩, hB2⟩, by simp [intOf]⟩
          by_cases hr : r = i
          · subst hr
            exact ⟨X, rs2, hci1, by omega, by omega, hR2, hrs2, fun k hk => HD2.out k (Nat.zero_le _) hk⟩
          · exact (HRW2.out r (by omega) h2).keep rfl (by omega) (fun _ _ _ => rfl)
        | succ k =>
          have ek : (((k + 1 : Nat) : Int) - 1) = (k : Int) := by omega
          rw [ek]
          have hk : k ≤ b.length := by omega
          have c0 : wr.cell? ⟨w.heap.size, i, none⟩ = some (.slice (some ⟨X, 0, none⟩) (b.length + 1) (b.length + 1)) := (hO2.cell i).trans hci1
          obtain ⟨v0, hv0⟩ : ∃ v, wr.cell? ⟨X, k, none⟩ = some v := ⟨rs2[k], (hR2.cell k).trans (Array.getElem?_eq_getElem (by omega))⟩
          have hf0 := hR2.frozen k
          have lX := hR2.lt
          have HO2 := hid hO2; have HR2 := hid hR2
          have rel : ∀ (W : World) (n : Int), Same (wr.setCell ⟨X, k, none⟩ (.int .i64 n)) W → n = (dd a b i k : Int) →
              ∃ l, l ≤ b.length + 1 ∧ Value.int .i64 ((k : Int) - 1) = .int .i64 ((l : Int) - 1) ∧ Box W w.heap.size cs1 22 ∧ (∀ r, i + 1 ≤ r → r ≤ a.length → RowAt W cs1 a b w.heap.size X r) ∧ Below w.heap.size w W ∧ W.heap.size = X + 1 ∧ ∃ rs, Box W X rs 3 ∧ rs.size = b.length + 1 ∧ ∀ k, l ≤ k → k ≤ b.length → rs[k]? = some (.int .i64 (dd a b i k : Int)) := by
            rintro W n hs rfl
            refine ⟨k, by omega, rfl, hs.box (hO2.other _ _ _ (by omega)), fun r h1 h2 => (HRW2.out r h1 h2).keep rfl (Nat.le_refl _) (fun j hj _ => by rw [hs.1]; exact Below.heap_setCell _ _ _ j (show j ≠ X by omega)), hs.below (hB2.setCell (p := ⟨X, k, none⟩) (show w.heap.size ≤ X by omega) _), by rw [hs.1, World.size_setCell]; exact hz2, _, hs.box (hR2.set k _), by simpa using hrs2, fun j h1 h2 => ?_⟩
            rw [Array.getElem?_setIfInBounds]
            by_cases hj : k = j
            · subst hj; rw [if_pos rfl, if_pos (by omega)]
            · rw [if_neg hj]; exact HD2.out j (by omega) h2
          have REL := hid rel; clear rel
          clear hO2 hR2
          have ei' : i + 1 ≤ a.length ∨ i = a.length := by omega
          by_cases hin : i = a.length
          · have hend : (a.length - i) + (b.length - k) = dd a b i k := (dist_end (.inl (by omega))).symm
            have HE := hid hend; clear hend
            have hq : ((i : Int) == (a.length : Int)) = true := by rw [hin]; exact beq_self_eq_true _
            clear hin ei'
            go_wp2_with fail
            exact ⟨REL.out _ _ ⟨rfl, rfl, rfl, rfl⟩ (by have := HE.out; omega), by simp [intOf]⟩
          · have hq : ((i : Int) == (a.length : Int)) = false := by rw [beq_eq_false_iff_ne]; omega
            have hil : i < a.length := by omega
            clear hin ei'
            by_cases hkn : k = b.length
            · have hend : (a.length - i) + (b.length - k) = dd a b i k := (dist_end (.inr (by omega))).symm
              have HE := hid hend; clear hend
              have hq2 : ((k : Int) == (b.length : Int)) = true := by rw [hkn]; exact beq_self_eq_true _
              clear hkn
              go_wp2_with fail
              exact ⟨REL.out _ _ ⟨rfl, rfl, rfl, rfl⟩ (by have := HE.out; omega), by simp [intOf]⟩
            · have hq2 : ((k : Int) == (b.length : Int)) = false := by rw [beq_eq_false_iff_ne]; omega
              have hkl : k < b.length := by omega
              clear hkn
              obtain ⟨R1, rs1, g1, g2, g3, g4, g5, g6⟩ := HRW2.out (i + 1) (Nat.le_refl _) (by omega)
              have G4 := hid g4; have G6 := hid g6
              have c1 : wr.cell? ⟨w.heap.size, i + 1, none⟩ = some (.slice (some ⟨R1, 0, none⟩) (b.length + 1) (b.length + 1)) := (HO2.out.cell (i + 1)).trans g1
              have d11 : wr.cell? ⟨R1, k + 1, none⟩ = some (.int .i64 (dd a b (i + 1) (k + 1) : Int)) := (g4.cell (k + 1)).trans (g6 (k + 1) (by omega))
              have d10 : wr.cell? ⟨R1, k, none⟩ = some (.int .i64 (dd a b (i + 1) k : Int)) := (g4.cell k).trans (g6 k (by omega))
              have d01 : wr.cell? ⟨X, k + 1, none⟩ = some (.int .i64 (dd a b i (k + 1) : Int)) := (HR2.out.cell (k + 1)).trans (HD2.out (k + 1) (by omega) (by omega))
              clear g1 g2 g3 g4 g5 g6
              obtain ⟨ab, ao, rfl, ca'⟩ := (H1.out.below hB2) i hil
              obtain ⟨bb, bo, rfl, cb'⟩ := (H2.out.below hB2) k hkl
              have dd0 : dd a b i k = min (dd a b (i + 1) (k + 1) + (if a[i] = b[k] then 0 else 1)) (min (dd a b (i + 1) k + 1) (dd a b i (k + 1) + 1)) := dist_drop hil hkl
              have DD := hid dd0; clear dd0
              have e1 := dd_le a b (i + 1) (k + 1) (by omega) (by omega)
              have e2 := dd_le a b (i + 1) k (by omega) (by omega)
              have e3 := dd_le a b i (k + 1) (by omega) (by omega)
              have t1 : (i : Int) < (a.length : Int) + 1 := by omega
              have t2 : (k : Int) < (b.length : Int) + 1 := by omega
              have w1 := wrap_small (n := (i : Int) + 1) (by omega) (by omega)
              have w2 := wrap_small (n := (k : Int) + 1) (by omega) (by omega)
              have w3 := wrap_small (n := (dd a b (i + 1) k : Int) + 1) (by omega) (by omega)
              have w4 := wrap_small (n := (dd a b i (k + 1) : Int) + 1) (by omega) (by omega)
              by_cases he : a[i] = b[k]
              · have hne : (a[i] != b[k]) = false := by simp [he]
                have HEQ := hid he; clear he
                go_wp2_with fail
                go_big_quiet (fail)
                go_wp2_with fail
                refine wp_region_F [3, 10, 13, 18, 22] (fun w' => w'.cell? ⟨w.heap.size, i, none⟩ = some (.slice (some ⟨X, 0, none⟩) (b.length + 1) (b.length + 1)) ∧ w'.cell? ⟨w.heap.size, i + 1, none⟩ = some (.slice (some ⟨R1, 0, none⟩) (b.length + 1) (b.length + 1)) ∧ w'.cell? ⟨R1, k, none⟩ = some (.int .i64 (dd a b (i + 1) k : Int)) ∧ w'.cell? ⟨X, k + 1, none⟩ = some (.int .i64 (dd a b i (k + 1) : Int))) hm ⟨by go_simp, by go_simp, by go_simp, by go_simp⟩ ?_
                intro hS0; have hS := hid hS0; clear hS0
                (apply wpAnyF_pure (i := 0) rfl (by kernel_rfl) (fun _ _ _ h => h); · first | exact .inr ⟨rfl, rfl⟩ | exact .inl ⟨rfl, fun w' => by go_simp; rfl⟩); simp only [Act.put, List.setIfInBounds_toArray, List.set_cons_succ, List.set_cons_zero, List.getElem_toArray, List.getElem_cons_succ, List.getElem_cons_zero]
                (apply wpAnyF_pure (i := 1) rfl (by kernel_rfl) (fun _ _ _ h => h); · first | exact .inr ⟨rfl, rfl⟩ | exact .inl ⟨rfl, fun w' => by go_simp; rfl⟩); simp only [Act.put, List.setIfInBounds_toArray, List.set_cons_succ, List.set_cons_zero, List.getElem_toArray, List.getElem_cons_succ, List.getElem_cons_zero]
                (apply wpAnyF_pure (i := 2) rfl (by kernel_rfl) (fun _ _ _ h => h); · first | exact .inr ⟨rfl, rfl⟩ | exact .inl ⟨rfl, fun w' => by go_simp; rfl⟩); simp only [Act.put, List.setIfInBounds_toArray, List.set_cons_succ, List.set_cons_zero, List.getElem_toArray, List.getElem_cons_succ, List.getElem_cons_zero]
                (apply wpAnyF_held (i := 3) rfl (by kernel_rfl) (fun _ _ _ h => h) hS.out; · first | exact .inr ⟨rfl, rfl⟩ | exact .inl ⟨rfl, fun w' hS' => by (obtain ⟨s1, s2, s3, s4⟩ := hS'; go_simp; rfl)⟩); simp only [Act.put, List.setIfInBounds_toArray, List.set_cons_succ, List.set_cons_zero, List.getElem_toArray, List.getElem_cons_succ, List.getElem_cons_zero]
                (apply wpAnyF_pure (i := 4) rfl (by kernel_rfl) (fun _ _ _ h => h); · first | exact .inr ⟨rfl, rfl⟩ | exact .inl ⟨rfl, fun w' => by go_simp; rfl⟩); simp only [Act.put, List.setIfInBounds_toArray, List.set_cons_succ, List.set_cons_zero, List.getElem_toArray, List.getElem_cons_succ, List.getElem_cons_zero]
                (apply wpAnyF_pure (i := 5) rfl (by kernel_rfl) (fun _ _ _ h => h); · first | exact .inr ⟨rfl, rfl⟩ | exact .inl ⟨rfl, fun w' => by go_simp; rfl⟩); simp only [Act.put, List.setIfInBounds_toArray, List.set_cons_succ, List.set_cons_zero, List.getElem_toArray, List.getElem_cons_succ, List.getElem_cons_zero]
                (apply wpAnyF_pure (i := 6) rfl (by kernel_rfl) (fun _ _ _ h => h); · first | exact .inr ⟨rfl, rfl⟩ | exact .inl ⟨rfl, fun w' => by go_simp; rfl⟩); simp only [Act.put, List.setIfInBounds_toArray, List.set_cons_succ, List.set_cons_zero, List.getElem_toArray, List.getElem_cons_succ, List.getElem_cons_zero]
                (apply wpAnyF_pure (i := 7) rfl (by kernel_rfl) (fun _ _ _ h => h); · first | exact .inr ⟨rfl, rfl⟩ | exact .inl ⟨rfl, fun w' => by go_simp; rfl⟩); simp only [Act.put, List.setIfInBounds_toArray, List.set_cons_succ, List.set_cons_zero, List.getElem_toArray, List.getElem_cons_succ, List.getElem_cons_zero]
                (apply wpAnyF_pure (i := 8) rfl (by kernel_rfl) (fun _ _ _ h => h); · first | exact .inr ⟨rfl, rfl⟩ | exact .inl ⟨rfl, fun w' => by go_simp; rfl⟩); simp only [Act.put, List.setIfInBounds_toArray, List.set_cons_succ, List.set_cons_zero, List.getElem_toArray, List.getElem_cons_succ, List.getElem_cons_zero]
                (apply wpAnyF_pure (i := 9) rfl (by kernel_rfl) (fun _ _ _ h => h); · first | exact .inr ⟨rfl, rfl⟩ | exact .inl ⟨rfl, fun w' => by go_simp; rfl⟩); simp only [Act.put, List.setIfInBounds_toArray, List.set_cons_succ, List.set_cons_zero, List.getElem_toArray, List.getElem_cons_succ, List.getElem_cons_zero]
                (apply wpAnyF_held (i := 10) rfl (by kernel_rfl) (fun _ _ _ h => h) hS.out; · first | exact .inr ⟨rfl, rfl⟩ | exact .inl ⟨rfl, fun w' hS' => by (obtain ⟨s1, s2, s3, s4⟩ := hS'; go_simp; rfl)⟩); simp only [Act.put, List.setIfInBounds_toArray, List.set_cons_succ, List.set_cons_zero, List.getElem_toArray, List.getElem_cons_succ, List.getElem_cons_zero]
                (apply wpAnyF_pure (i := 11) rfl (by kernel_rfl) (fun _ _ _ h => h); · first | exact .inr ⟨rfl, rfl⟩ | exact .inl ⟨rfl, fun w' => by go_simp; rfl⟩); simp only [Act.put, List.setIfInBounds_toArray, List.set_cons_succ, List.set_cons_zero, List.getElem_toArray, List.getElem_cons_succ, List.getElem_cons_zero]
                (apply wpAnyF_pure (i := 12) rfl (by kernel_rfl) (fun _ _ _ h => h); · first | exact .inr ⟨rfl, rfl⟩ | exact .inl ⟨rfl, fun w' => by go_simp; rfl⟩); simp only [Act.put, List.setIfInBounds_toArray, List.set_cons_succ, List.set_cons_zero, List.getElem_toArray, List.getElem_cons_succ, List.getElem_cons_zero]
                (apply wpAnyF_held (i := 13) rfl (by kernel_rfl) (fun _ _ _ h => h) hS.out; · first | exact .inr ⟨rfl, rfl⟩ | exact .inl ⟨rfl, fun w' hS' => by (obtain ⟨s1, s2, s3, s4⟩ := hS'; go_simp; rfl)⟩); simp only [Act.put, List.setIfInBounds_toArray, List.set_cons_succ, List.set_cons_zero, List.getElem_toArray, List.getElem_cons_succ, List.getElem_cons_zero]
                (apply wpAnyF_pure (i := 14) rfl (by kernel_rfl) (fun _ _ _ h => h); · first | exact .inr ⟨rfl, rfl⟩ | exact .inl ⟨rfl, fun w' => by go_simp; rfl⟩); simp only [Act.put, List.setIfInBounds_toArray, List.set_cons_succ, List.set_cons_zero, List.getElem_toArray, List.getElem_cons_succ, List.getElem_cons_zero]
                (apply wpAnyF_pure (i := 15) rfl (by kernel_rfl) (fun _ _ _ h => h); · first | exact .inr ⟨rfl, rfl⟩ | exact .inl ⟨rfl, fun w' => by go_simp; rfl⟩); simp only [Act.put, List.setIfInBounds_toArray, List.set_cons_succ, List.set_cons_zero, List.getElem_toArray, List.getElem_cons_succ, List.getElem_cons_zero]
                (apply wpAnyF_pure (i := 16) rfl (by kernel_rfl) (fun _ _ _ h => h); · first | exact .inr ⟨rfl, rfl⟩ | exact .inl ⟨rfl, fun w' => by go_simp; rfl⟩); simp only [Act.put, List.setIfInBounds_toArray, List.set_cons_succ, List.set_cons_zero, List.getElem_toArray, List.getElem_cons_succ, List.getElem_cons_zero]
                (apply wpAnyF_pure (i := 17) rfl (by kernel_rfl) (fun _ _ _ h => h); · first | exact .inr ⟨rfl, rfl⟩ | exact .inl ⟨rfl, fun w' => by go_simp; rfl⟩); simp only [Act.put, List.setIfInBounds_toArray, List.set_cons_succ, List.set_cons_zero, List.getElem_toArray, List.getElem_cons_succ, List.getElem_cons_zero]
                (apply wpAnyF_held (i := 18) rfl (by kernel_rfl) (fun _ _ _ h => h) hS.out; · first | exact .inr ⟨rfl, rfl⟩ | exact .inl ⟨rfl, fun w' hS' => by (obtain ⟨s1, s2, s3, s4⟩ := hS'; go_simp; rfl)⟩); simp only [Act.put, List.setIfInBounds_toArray, List.set_cons_succ, List.set_cons_zero, List.getElem_toArray, List.getElem_cons_succ, List.getElem_cons_zero]
                (apply wpAnyF_pure (i := 19) rfl (by kernel_rfl) (fun _ _ _ h => h); · first | exact .inr ⟨rfl, rfl⟩ | exact .inl ⟨rfl, fun w' => by go_simp; rfl⟩); simp only [Act.put, List.setIfInBounds_toArray, List.set_cons_succ, List.set_cons_zero, List.getElem_toArray, List.getElem_cons_succ, List.getElem_cons_zero]
                (apply wpAnyF_pure (i := 20) rfl (by kernel_rfl) (fun _ _ _ h => h); · first | exact .inr ⟨rfl, rfl⟩ | exact .inl ⟨rfl, fun w' => by go_simp; rfl⟩); simp only [Act.put, List.setIfInBounds_toArray, List.set_cons_succ, List.set_cons_zero, List.getElem_toArray, List.getElem_cons_succ, List.getElem_cons_zero]
                (apply wpAnyF_pure (i := 21) rfl (by kernel_rfl) (fun _ _ _ h => h); · first | exact .inr ⟨rfl, rfl⟩ | exact .inl ⟨rfl, fun w' => by go_simp; rfl⟩); simp only [Act.put, List.setIfInBounds_toArray, List.set_cons_succ, List.set_cons_zero, List.getElem_toArray, List.getElem_cons_succ, List.getElem_cons_zero]
                (apply wpAnyF_held (i := 22) rfl (by kernel_rfl) (fun _ _ _ h => h) hS.out; · first | exact .inr ⟨rfl, rfl⟩ | exact .inl ⟨rfl, fun w' hS' => by (obtain ⟨s1, s2, s3, s4⟩ := hS'; go_simp; rfl)⟩); simp only [Act.put, List.setIfInBounds_toArray, List.set_cons_succ, List.set_cons_zero, List.getElem_toArray, List.getElem_cons_succ, List.getElem_cons_zero]
                (apply wpAnyF_pure (i := 23) rfl (by kernel_rfl) (fun _ _ _ h => h); · first | exact .inr ⟨rfl, rfl⟩ | exact .inl ⟨rfl, fun w' => by go_simp; rfl⟩); simp only [Act.put, List.setIfInBounds_toArray, List.set_cons_succ, List.set_cons_zero, List.getElem_toArray, List.getElem_cons_succ, List.getElem_cons_zero]
                (apply wpAnyF_pure (i := 24) rfl (by kernel_rfl) (fun _ _ _ h => h); · first | exact .inr ⟨rfl, rfl⟩ | exact .inl ⟨rfl, fun w' => by go_simp; rfl⟩); simp only [Act.put, List.setIfInBounds_toArray, List.set_cons_succ, List.set_cons_zero, List.getElem_toArray, List.getElem_cons_succ, List.getElem_cons_zero]
                (apply wpAnyF_pure (i := 25) rfl (by kernel_rfl) (fun _ _ _ h => h); · first | exact .inr ⟨rfl, rfl⟩ | exact .inl ⟨rfl, fun w' => by go_simp; rfl⟩); simp only [Act.put, List.setIfInBounds_toArray, List.set_cons_succ, List.set_cons_zero, List.getElem_toArray, List.getElem_cons_succ, List.getElem_cons_zero]
                refine wpAnyF_one (i := 26) rfl ⟨by kernel_rfl, by kernel_rfl⟩ ?_
                intro K hK
                go_simp
                refine shutN hK (by kernel_rfl) ?_
                refine wpAnyF_done (by kernel_rfl) ?_ _
                clear hS
                go_wp2_with fail
                refine ⟨REL.out _ _ ⟨rfl, rfl, rfl, rfl⟩ ?_, by simp [intOf]⟩
                have h0 := DD.out
                rw [if_pos HEQ.out] at h0
                split <;> split <;> omega
              · have hne : (a[i] != b[k]) = true := by simp [he]
                have HEQ := hid he; clear he
                go_wp2_with fail
                go_big_quiet (fail)
                go_wp2_with fail
                refine wp_region_F [3, 10, 13, 18, 22] (fun w' => w'.cell? ⟨w.heap.size, i, none⟩ = some (.slice (some ⟨X, 0, none⟩) (b.length + 1) (b.length + 1)) ∧ w'.cell? ⟨w.heap.size, i + 1, none⟩ = some (.slice (some ⟨R1, 0, none⟩) (b.length + 1) (b.length + 1)) ∧ w'.cell? ⟨R1, k, none⟩ = some (.int .i64 (dd a b (i + 1) k : Int)) ∧ w'.cell? ⟨X, k + 1, none⟩ = some (.int .i64 (dd a b i (k + 1) : Int))) hm ⟨by go_simp, by go_simp, by go_simp, by go_simp⟩ ?_
                intro hS0; have hS := hid hS0; clear hS0
                (apply wpAnyF_pure (i := 0) rfl (by kernel_rfl) (fun _ _ _ h => h); · first | exact .inr ⟨rfl, rfl⟩ | exact .inl ⟨rfl, fun w' => by go_simp; rfl⟩); simp only [Act.put, List.setIfInBounds_toArray, List.set_cons_succ, List.set_cons_zero, List.getElem_toArray, List.getElem_cons_succ, List.getElem_cons_zero]
                (apply wpAnyF_pure (i := 1) rfl (by kernel_rfl) (fun _ _ _ h => h); · first | exact .inr ⟨rfl, rfl⟩ | exact .inl ⟨rfl, fun w' => by go_simp; rfl⟩); simp only [Act.put, List.setIfInBounds_toArray, List.set_cons_succ, List.set_cons_zero, List.getElem_toArray, List.getElem_cons_succ, List.getElem_cons_zero]
                (apply wpAnyF_pure (i := 2) rfl (by kernel_rfl) (fun _ _ _ h => h); · first | exact .inr ⟨rfl, rfl⟩ | exact .inl ⟨rfl, fun w' => by go_simp; rfl⟩); simp only [Act.put, List.setIfInBounds_toArray, List.set_cons_succ, List.set_cons_zero, List.getElem_toArray, List.getElem_cons_succ, List.getElem_cons_zero]
                (apply wpAnyF_held (i := 3) rfl (by kernel_rfl) (fun _ _ _ h => h) hS.out; · first | exact .inr ⟨rfl, rfl⟩ | exact .inl ⟨rfl, fun w' hS' => by (obtain ⟨s1, s2, s3, s4⟩ := hS'; go_simp; rfl)⟩); simp only [Act.put, List.setIfInBounds_toArray, List.set_cons_succ, List.set_cons_zero, List.getElem_toArray, List.getElem_cons_succ, List.getElem_cons_zero]
                (apply wpAnyF_pure (i := 4) rfl (by kernel_rfl) (fun _ _ _ h => h); · first | exact .inr ⟨rfl, rfl⟩ | exact .inl ⟨rfl, fun w' => by go_simp; rfl⟩); simp only [Act.put, List.setIfInBounds_toArray, List.set_cons_succ, List.set_cons_zero, List.getElem_toArray, List.getElem_cons_succ, List.getElem_cons_zero]
                (apply wpAnyF_pure (i := 5) rfl (by kernel_rfl) (fun _ _ _ h => h); · first | exact .inr ⟨rfl, rfl⟩ | exact .inl ⟨rfl, fun w' => by go_simp; rfl⟩); simp only [Act.put, List.setIfInBounds_toArray, List.set_cons_succ, List.set_cons_zero, List.getElem_toArray, List.getElem_cons_succ, List.getElem_cons_zero]
                (apply wpAnyF_pure (i := 6) rfl (by kernel_rfl) (fun _ _ _ h => h); · first | exact .inr ⟨rfl, rfl⟩ | exact .inl ⟨rfl, fun w' => by go_simp; rfl⟩); simp only [Act.put, List.setIfInBounds_toArray, List.set_cons_succ, List.set_cons_zero, List.getElem_toArray, List.getElem_cons_succ, List.getElem_cons_zero]
                (apply wpAnyF_pure (i := 7) rfl (by kernel_rfl) (fun _ _ _ h => h); · first | exact .inr ⟨rfl, rfl⟩ | exact .inl ⟨rfl, fun w' => by go_simp; rfl⟩); simp only [Act.put, List.setIfInBounds_toArray, List.set_cons_succ, List.set_cons_zero, List.getElem_toArray, List.getElem_cons_succ, List.getElem_cons_zero]
                (apply wpAnyF_pure (i := 8) rfl (by kernel_rfl) (fun _ _ _ h => h); · first | exact .inr ⟨rfl, rfl⟩ | exact .inl ⟨rfl, fun w' => by go_simp; rfl⟩); simp only [Act.put, List.setIfInBounds_toArray, List.set_cons_succ, List.set_cons_zero, List.getElem_toArray, List.getElem_cons_succ, List.getElem_cons_zero]
                (apply wpAnyF_pure (i := 9) rfl (by kernel_rfl) (fun _ _ _ h => h); · first | exact .inr ⟨rfl, rfl⟩ | exact .inl ⟨rfl, fun w' => by go_simp; rfl⟩); simp only [Act.put, List.setIfInBounds_toArray, List.set_cons_succ, List.set_cons_zero, List.getElem_toArray, List.getElem_cons_succ, List.getElem_cons_zero]
                (apply wpAnyF_held (i := 10) rfl (by kernel_rfl) (fun _ _ _ h => h) hS.out; · first | exact .inr ⟨rfl, rfl⟩ | exact .inl ⟨rfl, fun w' hS' => by (obtain ⟨s1, s2, s3, s4⟩ := hS'; go_simp; rfl)⟩); simp only [Act.put, List.setIfInBounds_toArray, List.set_cons_succ, List.set_cons_zero, List.getElem_toArray, List.getElem_cons_succ, List.getElem_cons_zero]
                (apply wpAnyF_pure (i := 11) rfl (by kernel_rfl) (fun _ _ _ h => h); · first | exact .inr ⟨rfl, rfl⟩ | exact .inl ⟨rfl, fun w' => by go_simp; rfl⟩); simp only [Act.put, List.setIfInBounds_toArray, List.set_cons_succ, List.set_cons_zero, List.getElem_toArray, List.getElem_cons_succ, List.getElem_cons_zero]
                (apply wpAnyF_pure (i := 12) rfl (by kernel_rfl) (fun _ _ _ h => h); · first | exact .inr ⟨rfl, rfl⟩ | exact .inl ⟨rfl, fun w' => by go_simp; rfl⟩); simp only [Act.put, List.setIfInBounds_toArray, List.set_cons_succ, List.set_cons_zero, List.getElem_toArray, List.getElem_cons_succ, List.getElem_cons_zero]
                (apply wpAnyF_held (i := 13) rfl (by kernel_rfl) (fun _ _ _ h => h) hS.out; · first | exact .inr ⟨rfl, rfl⟩ | exact .inl ⟨rfl, fun w' hS' => by (obtain ⟨s1, s2, s3, s4⟩ := hS'; go_simp; rfl)⟩); simp only [Act.put, List.setIfInBounds_toArray, List.set_cons_succ, List.set_cons_zero, List.getElem_toArray, List.getElem_cons_succ, List.getElem_cons_zero]
                (apply wpAnyF_pure (i := 14) rfl (by kernel_rfl) (fun _ _ _ h => h); · first | exact .inr ⟨rfl, rfl⟩ | exact .inl ⟨rfl, fun w' => by go_simp; rfl⟩); simp only [Act.put, List.setIfInBounds_toArray, List.set_cons_succ, List.set_cons_zero, List.getElem_toArray, List.getElem_cons_succ, List.getElem_cons_zero]
                (apply wpAnyF_pure (i := 15) rfl (by kernel_rfl) (fun _ _ _ h => h); · first | exact .inr ⟨rfl, rfl⟩ | exact .inl ⟨rfl, fun w' => by go_simp; rfl⟩); simp only [Act.put, List.setIfInBounds_toArray, List.set_cons_succ, List.set_cons_zero, List.getElem_toArray, List.getElem_cons_succ, List.getElem_cons_zero]
                (apply wpAnyF_pure (i := 16) rfl (by kernel_rfl) (fun _ _ _ h => h); · first | exact .inr ⟨rfl, rfl⟩ | exact .inl ⟨rfl, fun w' => by go_simp; rfl⟩); simp only [Act.put, List.setIfInBounds_toArray, List.set_cons_succ, List.set_cons_zero, List.getElem_toArray, List.getElem_cons_succ, List.getElem_cons_zero]
                (apply wpAnyF_pure (i := 17) rfl (by kernel_rfl) (fun _ _ _ h => h); · first | exact .inr ⟨rfl, rfl⟩ | exact .inl ⟨rfl, fun w' => by go_simp; rfl⟩); simp only [Act.put, List.setIfInBounds_toArray, List.set_cons_succ, List.set_cons_zero, List.getElem_toArray, List.getElem_cons_succ, List.getElem_cons_zero]
                (apply wpAnyF_held (i := 18) rfl (by kernel_rfl) (fun _ _ _ h => h) hS.out; · first | exact .inr ⟨rfl, rfl⟩ | exact .inl ⟨rfl, fun w' hS' => by (obtain ⟨s1, s2, s3, s4⟩ := hS'; go_simp; rfl)⟩); simp only [Act.put, List.setIfInBounds_toArray, List.set_cons_succ, List.set_cons_zero, List.getElem_toArray, List.getElem_cons_succ, List.getElem_cons_zero]
                (apply wpAnyF_pure (i := 19) rfl (by kernel_rfl) (fun _ _ _ h => h); · first | exact .inr ⟨rfl, rfl⟩ | exact .inl ⟨rfl, fun w' => by go_simp; rfl⟩); simp only [Act.put, List.setIfInBounds_toArray, List.set_cons_succ, List.set_cons_zero, List.getElem_toArray, List.getElem_cons_succ, List.getElem_cons_zero]
                (apply wpAnyF_pure (i := 20) rfl (by kernel_rfl) (fun _ _ _ h => h); · first | exact .inr ⟨rfl, rfl⟩ | exact .inl ⟨rfl, fun w' => by go_simp; rfl⟩); simp only [Act.put, List.setIfInBounds_toArray, List.set_cons_succ, List.set_cons_zero, List.getElem_toArray, List.getElem_cons_succ, List.getElem_cons_zero]
                (apply wpAnyF_pure (i := 21) rfl (by kernel_rfl) (fun _ _ _ h => h); · first | exact .inr ⟨rfl, rfl⟩ | exact .inl ⟨rfl, fun w' => by go_simp; rfl⟩); simp only [Act.put, List.setIfInBounds_toArray, List.set_cons_succ, List.set_cons_zero, List.getElem_toArray, List.getElem_cons_succ, List.getElem_cons_zero]
                (apply wpAnyF_held (i := 22) rfl (by kernel_rfl) (fun _ _ _ h => h) hS.out; · first | exact .inr ⟨rfl, rfl⟩ | exact .inl ⟨rfl, fun w' hS' => by (obtain ⟨s1, s2, s3, s4⟩ := hS'; go_simp; rfl)⟩); simp only [Act.put, List.setIfInBounds_toArray, List.set_cons_succ, List.set_cons_zero, List.getElem_toArray, List.getElem_cons_succ, List.getElem_cons_zero]
                (apply wpAnyF_pure (i := 23) rfl (by kernel_rfl) (fun _ _ _ h => h); · first | exact .inr ⟨rfl, rfl⟩ | exact .inl ⟨rfl, fun w' => by go_simp; rfl⟩); simp only [Act.put, List.setIfInBounds_toArray, List.set_cons_succ, List.set_cons_zero, List.getElem_toArray, List.getElem_cons_succ, List.getElem_cons_zero]
                (apply wpAnyF_pure (i := 24) rfl (by kernel_rfl) (fun _ _ _ h => h); · first | exact .inr ⟨rfl, rfl⟩ | exact .inl ⟨rfl, fun w' => by go_simp; rfl⟩); simp only [Act.put, List.setIfInBounds_toArray, List.set_cons_succ, List.set_cons_zero, List.getElem_toArray, List.getElem_cons_succ, List.getElem_cons_zero]
                (apply wpAnyF_pure (i := 25) rfl (by kernel_rfl) (fun _ _ _ h => h); · first | exact .inr ⟨rfl, rfl⟩ | exact .inl ⟨rfl, fun w' => by go_simp; rfl⟩); simp only [Act.put, List.setIfInBounds_toArray, List.set_cons_succ, List.set_cons_zero, List.getElem_toArray, List.getElem_cons_succ, List.getElem_cons_zero]
                refine wpAnyF_one (i := 26) rfl ⟨by kernel_rfl, by kernel_rfl⟩ ?_
                intro K hK
                go_simp
                refine shutN hK (by kernel_rfl) ?_
                refine wpAnyF_done (by kernel_rfl) ?_ _
                clear hS
                go_wp2_with fail
                refine ⟨REL.out _ _ ⟨rfl, rfl, rfl, rfl⟩ ?_, by simp [intOf]⟩
                have h0 := DD.out
                rw [if_neg HEQ.out] at h0
                split <;> split <;> omega

theorem refBetween_any (a b : List Int) (aa ba : Option Addr) (ca cb : Nat) (w : World) (hl : a.length ≤ 1000) (hl2 : b.length ≤ 1000) (h1 : RdI w aa a) (h2 : RdI w ba b) :
    Calls Tryd.prog 85 #[.slice aa a.length ca, .slice ba b.length cb] w fun e w' => e = .returned (.int .i64 (dist a b : Int)) ∧ Below w.heap.size w w' := by
  have H1 := hid h1; have H2 := hid h2; clear h1 h2
  go_enter Tryd.func85, Tryd.ntmps85
  go_wp2_with fail
  refine (table_any a b aa ba ca cb w hl hl2 H1.out H2.out).mono ?_
  rintro e w1 ⟨O, rfl, hb1, hT⟩
  obtain ⟨R, hr, hc⟩ := hT 0 (Nat.zero_le _)
  have hc0 : w1.cell? ⟨R, 0, none⟩ = some (.int .i64 (dist a b : Int)) := hc 0 (Nat.zero_le _)
  clear hT hc
  have t1 : (0 : Int) < (a.length : Int) + 1 := by omega
  have t2 : (0 : Int) < (b.length : Int) + 1 := by omega
  go_wp2_with fail
  go_ret
  exact ⟨rfl, hb1⟩

end Go.Proofs.YthddoikmgpgakaaDoor
