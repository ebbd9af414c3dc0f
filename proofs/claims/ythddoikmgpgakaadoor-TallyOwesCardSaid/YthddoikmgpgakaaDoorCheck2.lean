/- The program's 'Check' of a tally, through its table of checks; 'all', 'checked'. -/
import Derived.Test.YthddoikmgpgakaaDoorProg
import Derived.Test.YthddoikmgpgakaaDoorBase
import Derived.Outline
import Derived.RangeFuncNested
import Derived.Shelf.Abstract
import Derived.Deep.QuietTactic
import Derived.BigQuiet
import Derived.Deep.RegionHeld3
import Derived.WalkSmall
import Derived.Laws.EntriesVeiled
import Derived.Test.YthddoikmgpgakaaDoorCheck
namespace Go.Proofs.YthddoikmgpgakaaDoor
open Go.RowKit Go.Proofs Go.Shelf

/-- The table of checks holds its three functions. -/
def Tab (w : World) : Prop := w.cell? ⟨0, 0, none⟩ = some (.func (.func 164) #[] #[]) ∧ w.cell? ⟨0, 1, none⟩ = some (.func (.func 165) #[] #[]) ∧ w.cell? ⟨0, 2, none⟩ = some (.func (.func 166) #[] #[])
theorem Tab.below {w w' : World} (h : Tab w) (hb : Below w.heap.size w w') : Tab w' :=
  ⟨(hb.cell (cell_lt h.1)).trans h.1, (hb.cell (cell_lt h.2.1)).trans h.2.1, (hb.cell (cell_lt h.2.2)).trans h.2.2⟩

theorem tabAt0 (w : World) : (Instr.index 146 (.agg #[.func (.func 164) #[] #[], .func (.func 165) #[] #[], .func (.func 166) #[] #[]]) (.int .i64 0)).run Tryd.prog w = .ok (.agg #[.func (.func 164) #[] #[]]) w := by kernel_rfl
theorem tabAt1 (w : World) : (Instr.index 146 (.agg #[.func (.func 164) #[] #[], .func (.func 165) #[] #[], .func (.func 166) #[] #[]]) (.int .i64 1)).run Tryd.prog w = .ok (.agg #[.func (.func 165) #[] #[]]) w := by kernel_rfl
theorem tabAt2 (w : World) : (Instr.index 146 (.agg #[.func (.func 164) #[] #[], .func (.func 165) #[] #[], .func (.func 166) #[] #[]]) (.int .i64 2)).run Tryd.prog w = .ok (.agg #[.func (.func 166) #[] #[]]) w := by kernel_rfl

set_option maxRecDepth 20000 in
theorem check_any (id hs : Int) (st fo : List Int) (sa fa : Option Addr) (sc fc : Nat) (w : World) (ht : Tab w)
    (hl : st.length ≤ 4000) (hl2 : fo.length ≤ 4000) (h1 : RdI w sa st) (h2 : RdI w fa fo) :
    Calls Tryd.prog 36 #[.agg #[.int .i64 id, .int .i64 hs, .slice sa st.length sc, .slice fa fo.length fc]] w fun e w' => e = .returned (.int .i64 (errT (okT id hs st fo))) ∧ Below w.heap.size w w' := by
  have HX := hid h1; clear h1
  have HY := hid h2; clear h2
  have H1 := hid hl; have H2 := hid hl2; clear hl hl2
  have t0 := ht.1; have t1 := ht.2.1; have t2 := ht.2.2
  have hz0 : 0 < w.heap.size := cell_lt t0
  have HT := hid ht; clear ht
  go_enter Tryd.func36, Tryd.ntmps36
  go_wp2_with fail
  clear t0 t1 t2
  go_loopw [6] (fun i wr => ∃ k : Nat, k ≤ 3 ∧ i = .int .i64 k ∧ Hid ((1 ≤ k → ((decide (1 ≤ id) && decide (id ≤ 9999)) && (decide (1 ≤ hs) && decide (hs ≤ 9999))) = true) ∧ (2 ≤ k → (decide (st.length ≤ 12) && decide (fo.length ≤ 12)) = true) ∧ (3 ≤ k → (okN st && okN fo) = true)) ∧ Below (w.heap.size + 1) (w.alloc (.cells #[.int .i64 id, .int .i64 hs, .slice sa st.length sc, .slice fa fo.length fc] 24)) wr) (fun i _ => 3 - (intOf i).toNat)
  case atStart => exact ⟨0, by omega, rfl, ⟨by omega, by omega, by omega⟩, by simpa using Below.refl (w.heap.size + 1) _⟩
  case round =>
    obtain ⟨k, hk, rfl, hp, hb⟩ := hrel
    have hb0 : Below w.heap.size w wr := (((Below.refl _ _).alloc (Nat.le_refl _) _).trans (hb.mono (by omega)))
    have d0 : wr.cell? ⟨w.heap.size, 0, none⟩ = some (.int .i64 id) := box_cell hb 0
    have d1 : wr.cell? ⟨w.heap.size, 1, none⟩ = some (.int .i64 hs) := box_cell hb 1
    have d2 : wr.cell? ⟨w.heap.size, 2, none⟩ = some (.slice sa st.length sc) := box_cell hb 2
    have d3 : wr.cell? ⟨w.heap.size, 3, none⟩ = some (.slice fa fo.length fc) := box_cell hb 3
    have hz1 : w.heap.size < wr.heap.size := by have := hb.size; simp only [World.size_alloc] at this; omega
    by_cases hk3 : k = 3
    · subst hk3
      go_wp2_with fail
      go_ret
      refine ⟨(congrArg (fun b => Ending.returned (Value.int .i64 b)) ?_), hb0⟩
      obtain ⟨p1, p2, p3⟩ := hp.out
      have q1 := p1 (by omega); have q2 := p2 (by omega); have q3 := p3 (by omega)
      simp only [Bool.and_eq_true] at q1 q2 q3
      have : okT id hs st fo = true := by unfold okT; simp only [Bool.and_eq_true]; exact ⟨⟨⟨⟨⟨q1.1, q1.2⟩, q2.1⟩, q2.2⟩, q3.1⟩, q3.2⟩
      rw [this]; rfl
    · have j0 := tabAt0; have j1 := tabAt1; have j2 := tabAt2
      by_cases hk0 : k = 0
      · subst hk0
        go_wp2_with fail
        refine (checks1_any _ _ _ _ _ _ _ _ _).mono ?_
        rintro e w1 ⟨rfl, hb1⟩
        have hz2 := hb1.size; try simp only [World.size_alloc, World.size_setCell] at hz2
        by_cases hc : ((decide (1 ≤ id) && decide (id ≤ 9999)) && (decide (1 ≤ hs) && decide (hs ≤ 9999))) = true
        · have HC := hid hc
          go_wp2_with fail
          go_roundw
          case rel => exact ⟨1, by omega, by go_num, ⟨fun _ => HC.out, by omega, by omega⟩, (by repeat (first | (with_reducible exact Below.refl _ _) | (with_reducible assumption) | (with_reducible refine Below.drew ?_) | (with_reducible refine below_drewN ?_ _) | (with_reducible refine Below.alloc ?_ (by first | omega | (simp; done) | (simp; omega)) _) | (with_reducible refine Below.setCell ?_ (by first | omega | (simp; done) | (simp; omega)) _) | (with_reducible refine Below.trans ?_ (Below.mono (by assumption) (by first | omega | (simp; done) | (simp; omega))))))⟩
          case measure => simp [intOf]
        · have hc' : ((decide (1 ≤ id) && decide (id ≤ 9999)) && (decide (1 ≤ hs) && decide (hs ≤ 9999))) = false := by simpa using hc
          have HC := hid hc'
          clear hc
          go_wp2_with fail
          go_ret
          refine ⟨(congrArg (fun b => Ending.returned (Value.int .i64 b)) ?_), (by repeat (first | (with_reducible exact Below.refl _ _) | (with_reducible assumption) | (with_reducible refine Below.drew ?_) | (with_reducible refine below_drewN ?_ _) | (with_reducible refine Below.alloc ?_ (by first | omega | (simp; done) | (simp; omega)) _) | (with_reducible refine Below.setCell ?_ (by first | omega | (simp; done) | (simp; omega)) _) | (with_reducible refine Below.trans ?_ (Below.mono (by assumption) (by first | omega | (simp; done) | (simp; omega))))))⟩
          have : okT id hs st fo = false := by unfold okT; rw [HC.out]; rfl
          rw [this]; rfl
      · by_cases hk1 : k = 1
        · subst hk1
          go_wp2_with fail
          refine (checks2_any _ _ _ _ _ _ _ _ _).mono ?_
          rintro e w1 ⟨rfl, hb1⟩
          have hz2 := hb1.size; try simp only [World.size_alloc, World.size_setCell] at hz2
          by_cases hc : (decide (st.length ≤ 12) && decide (fo.length ≤ 12)) = true
          · have HC := hid hc
            go_wp2_with fail
            go_roundw
            case rel => exact ⟨2, by omega, by go_num, ⟨fun _ => hp.out.1 (by omega), fun _ => HC.out, by omega⟩, (by repeat (first | (with_reducible exact Below.refl _ _) | (with_reducible assumption) | (with_reducible refine Below.drew ?_) | (with_reducible refine below_drewN ?_ _) | (with_reducible refine Below.alloc ?_ (by first | omega | (simp; done) | (simp; omega)) _) | (with_reducible refine Below.setCell ?_ (by first | omega | (simp; done) | (simp; omega)) _) | (with_reducible refine Below.trans ?_ (Below.mono (by assumption) (by first | omega | (simp; done) | (simp; omega))))))⟩
            case measure => simp [intOf]
          · have hc' : (decide (st.length ≤ 12) && decide (fo.length ≤ 12)) = false := by simpa using hc
            have HC := hid hc'
            clear hc
            go_wp2_with fail
            go_ret
            refine ⟨(congrArg (fun b => Ending.returned (Value.int .i64 b)) ?_), (by repeat (first | (with_reducible exact Below.refl _ _) | (with_reducible assumption) | (with_reducible refine Below.drew ?_) | (with_reducible refine below_drewN ?_ _) | (with_reducible refine Below.alloc ?_ (by first | omega | (simp; done) | (simp; omega)) _) | (with_reducible refine Below.setCell ?_ (by first | omega | (simp; done) | (simp; omega)) _) | (with_reducible refine Below.trans ?_ (Below.mono (by assumption) (by first | omega | (simp; done) | (simp; omega))))))⟩
            have : okT id hs st fo = false := by unfold okT; rw [Bool.and_assoc (decide (1 ≤ id) && decide (id ≤ 9999) && (decide (1 ≤ hs) && decide (hs ≤ 9999))), HC.out]; simp
            rw [this]; rfl
        · obtain rfl : k = 2 := by omega
          go_wp2_with fail
          refine (checks3_any _ _ _ _ _ _ _ _ _ H1.out H2.out (HX.out.below (by repeat (first | (with_reducible exact Below.refl _ _) | (with_reducible assumption) | (with_reducible refine Below.drew ?_) | (with_reducible refine below_drewN ?_ _) | (with_reducible refine Below.alloc ?_ (by first | omega | (simp; done) | (simp; omega)) _) | (with_reducible refine Below.setCell ?_ (by first | omega | (simp; done) | (simp; omega)) _) | (with_reducible refine Below.trans ?_ (Below.mono (by assumption) (by first | omega | (simp; done) | (simp; omega))))))) (HY.out.below (by repeat (first | (with_reducible exact Below.refl _ _) | (with_reducible assumption) | (with_reducible refine Below.drew ?_) | (with_reducible refine below_drewN ?_ _) | (with_reducible refine Below.alloc ?_ (by first | omega | (simp; done) | (simp; omega)) _) | (with_reducible refine Below.setCell ?_ (by first | omega | (simp; done) | (simp; omega)) _) | (with_reducible refine Below.trans ?_ (Below.mono (by assumption) (by first | omega | (simp; done) | (simp; omega)))))))).mono ?_
          rintro e w1 ⟨rfl, hb1⟩
          have hz2 := hb1.size; try simp only [World.size_alloc, World.size_setCell] at hz2
          by_cases hc : (okN st && okN fo) = true
          · have HC := hid hc
            go_wp2_with fail
            go_roundw
            case rel => exact ⟨3, by omega, by go_num, ⟨fun _ => hp.out.1 (by omega), fun _ => hp.out.2.1 (by omega), fun _ => HC.out⟩, (by repeat (first | (with_reducible exact Below.refl _ _) | (with_reducible assumption) | (with_reducible refine Below.drew ?_) | (with_reducible refine below_drewN ?_ _) | (with_reducible refine Below.alloc ?_ (by first | omega | (simp; done) | (simp; omega)) _) | (with_reducible refine Below.setCell ?_ (by first | omega | (simp; done) | (simp; omega)) _) | (with_reducible refine Below.trans ?_ (Below.mono (by assumption) (by first | omega | (simp; done) | (simp; omega))))))⟩
            case measure => simp [intOf]
          · have hc' : (okN st && okN fo) = false := by simpa using hc
            have HC := hid hc'
            clear hc
            go_wp2_with fail
            go_ret
            refine ⟨(congrArg (fun b => Ending.returned (Value.int .i64 b)) ?_), (by repeat (first | (with_reducible exact Below.refl _ _) | (with_reducible assumption) | (with_reducible refine Below.drew ?_) | (with_reducible refine below_drewN ?_ _) | (with_reducible refine Below.alloc ?_ (by first | omega | (simp; done) | (simp; omega)) _) | (with_reducible refine Below.setCell ?_ (by first | omega | (simp; done) | (simp; omega)) _) | (with_reducible refine Below.trans ?_ (Below.mono (by assumption) (by first | omega | (simp; done) | (simp; omega))))))⟩
            have : okT id hs st fo = false := by unfold okT; rw [Bool.and_assoc, HC.out]; simp
            rw [this]; rfl
end Go.Proofs.YthddoikmgpgakaaDoor
