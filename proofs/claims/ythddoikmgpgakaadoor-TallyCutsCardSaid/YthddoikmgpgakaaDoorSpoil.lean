/- 'spoil' writes into rows of the caller's own alone. -/
import Derived.Test.YthddoikmgpgakaaDoorProg
import Derived.Test.YthddoikmgpgakaaDoorBase
import Derived.Outline
import Derived.RangeFuncNested
import Derived.Shelf.Abstract
import Derived.Deep.QuietTactic
import Derived.BigQuiet
import Derived.Deep.RegionHeld3
import Derived.WalkSmall
import Derived.Laws.EntriesVeiled
import Derived.Test.YthddoikmgpgakaaDoorJoin
namespace Go.Proofs.YthddoikmgpgakaaDoor
open Go.RowKit Go.Proofs Go.Shelf

theorem own_set {w : World} {B : Nat} {e : TypeId} {size : Nat} {v u : Value} {n : Nat} {xs : List Value} (h : w.ownsRow B e size v n xs) (g k : Nat) : ∃ ys, (w.setCell ⟨g, k, none⟩ u).ownsRow B e size v n ys := by
  by_cases hg : v.ownBlock = some g
  · rcases h.2 with ⟨rfl, _⟩ | ⟨g', cap, cur, hv, _⟩
    · cases hg
    · subst hv
      simp only [Value.ownBlock, Option.some.injEq] at hg
      subst hg
      exact ⟨_, (h.stored k u).1⟩
  · refine ⟨xs, h.1, h.2.imp (fun x => x) ?_⟩
    rintro ⟨g', cap, cur, hv, hb, hh, r⟩
    refine ⟨g', cap, cur, hv, hb, ?_, r⟩
    rw [heap_setCell_other _ _ _ _ (fun e => hg (by rw [hv, e]; rfl))]
    exact hh

set_option maxRecDepth 20000 in
set_option maxHeartbeats 1000000 in
theorem spoil_any (B : Nat) (I : World → Prop) (id hs : Int) (sa fa : Option Addr) (n m sc fc : Nat) (xs ys : List Value) (w : World) (hn : n ≤ 4000) (hm : m ≤ 4000) (hB : B ≤ w.heap.size)
    (h1 : w.ownsRow B 3 1 (.slice sa n sc) n xs) (h2 : w.ownsRow B 3 1 (.slice fa m fc) m ys)
    (hI : ∀ o, I (w.alloc o)) (hS : ∀ (wr : World) (g k : Nat) (v : Value), ((Value.slice sa n sc).ownBlock = some g ∨ (Value.slice fa m fc).ownBlock = some g) → I wr → I (wr.setCell ⟨g, k, none⟩ v)) :
    Calls Tryd.prog 25 #[.agg #[.int .i64 id, .int .i64 hs, .slice sa n sc, .slice fa m fc]] w fun e w' => e = .returned (.tuple #[]) ∧ Below B w w' ∧ I w' := by
  have KI := hid hI; have KS := hid hS; clear hI hS
  have O1 := hid h1; have O2 := hid h2; clear h1 h2
  go_enter Tryd.func25, Tryd.ntmps25
  go_wp2_with fail
  go_loopw [7] (fun i wr => ∃ k : Nat, k ≤ n ∧ i = .int .i64 k ∧ Below B w wr ∧ Hid (I wr) ∧ Box wr w.heap.size #[.int .i64 id, .int .i64 hs, .slice sa n sc, .slice fa m fc] 24 ∧ (∃ xs, wr.ownsRow B 3 1 (.slice sa n sc) n xs) ∧ (∃ ys, wr.ownsRow B 3 1 (.slice fa m fc) m ys)) (fun i _ => (n - (intOf i).toNat))
  case atStart => exact ⟨0, by omega, rfl, (by repeat (first | (with_reducible exact Below.refl _ _) | (with_reducible assumption) | (with_reducible refine Below.drew ?_) | (with_reducible refine below_drewN ?_ _) | (with_reducible refine Below.alloc ?_ (by first | omega | (simp; done) | (simp; omega)) _) | (with_reducible refine Below.setCell ?_ (by first | omega | (simp; done) | (simp; omega)) _) | (with_reducible refine Below.trans ?_ (Below.mono (by assumption) (by first | omega | (simp; done) | (simp; omega)))))), KI.out _, (by repeat (first | (with_reducible assumption) | (with_reducible refine Box.at _ _ (by first | omega | (simp; done) | (simp; omega))) | (with_reducible refine Box.drew ?_) | (with_reducible refine Box.alloc ?_ _) | (with_reducible refine Box.other ?_ _ _ _ (by first | omega | (simp; done) | (simp; omega))) | (refine Box.below ?_ hb2 (by first | omega | (simp; done) | (simp; omega))) | (refine Box.below ?_ hb3 (by first | omega | (simp; done) | (simp; omega))))), ⟨_, O1.out.alloc _⟩, ⟨_, O2.out.alloc _⟩⟩
  case round =>
    obtain ⟨k, hk, rfl, hb, hi, hbox, ⟨xs', o1⟩, ⟨ys', o2⟩⟩ := hrel
    have P1 := hid o1; have P2 := hid o2; clear o1 o2
    by_cases hlt : k < n
    · obtain ⟨g, cap, hv, hBg, hg⟩ := P1.out.form (by omega)
      simp only [Value.slice.injEq, true_and] at hv
      obtain ⟨rfl, rfl⟩ := hv
      have c2 : wr.cell? ⟨w.heap.size, 2, none⟩ = some (.slice (some ⟨g, 0, none⟩) n sc) := hbox.cell 2
      have cg : (wr.cell? ⟨g, k, none⟩).isSome = true := by rw [P1.out.cellAt k (by omega)]; simp [P1.out.1]; omega
      obtain ⟨v, hcg⟩ := Option.isSome_iff_exists.1 cg
      have fg := P1.out.frozenAt k
      clear cg
      go_wp2_with fail
      have hgw := (O1.out.lt g rfl).2
      exact ⟨⟨k + 1, by omega, by go_num, hb.setCell (p := ⟨g, k, none⟩) hBg _, hid (KS.out _ g k _ (.inl rfl) hi.out), hbox.other _ _ _ (by omega), own_set P1.out g k, own_set P2.out g k⟩, by simp [intOf]; omega⟩
    · have c3 : wr.cell? ⟨w.heap.size, 3, none⟩ = some (.slice fa m fc) := hbox.cell 3
      go_wp2_with fail
      clear c3
      obtain ⟨wo, hwo⟩ : ∃ wo, wo = wr := ⟨_, rfl⟩
      rw [← hwo] at hb hi hbox P1 P2 ⊢
      clear hwo
      go_loopw [18] (fun i wr => ∃ k : Nat, k ≤ m ∧ i = .int .i64 k ∧ Below B w wr ∧ Hid (I wr) ∧ Box wr w.heap.size #[.int .i64 id, .int .i64 hs, .slice sa n sc, .slice fa m fc] 24 ∧ (∃ ys, wr.ownsRow B 3 1 (.slice fa m fc) m ys)) (fun i _ => (m - (intOf i).toNat))
      case atStart => exact ⟨0, by omega, rfl, hb, hi, hbox, ⟨_, P2.out⟩⟩
      case round =>
        clear hb hi hbox P1 P2
        obtain ⟨k2, hk2, rfl, hb, hi, hbox, ⟨ys', o2⟩⟩ := hrel
        have P2 := hid o2; clear o2
        by_cases hlt2 : k2 < m
        · obtain ⟨g, cap, hv, hBg, hg⟩ := P2.out.form (by omega)
          simp only [Value.slice.injEq, true_and] at hv
          obtain ⟨rfl, rfl⟩ := hv
          have c3 : wr.cell? ⟨w.heap.size, 3, none⟩ = some (.slice (some ⟨g, 0, none⟩) m fc) := hbox.cell 3
          have cg : (wr.cell? ⟨g, k2, none⟩).isSome = true := by rw [P2.out.cellAt k2 (by omega)]; simp [P2.out.1]; omega
          obtain ⟨v, hcg⟩ := Option.isSome_iff_exists.1 cg
          have fg := P2.out.frozenAt k2
          clear cg
          go_wp2_with fail
          have hgw := (O2.out.lt g rfl).2
          exact ⟨⟨k2 + 1, by omega, by go_num, hb.setCell (p := ⟨g, k2, none⟩) hBg _, hid (KS.out _ g k2 _ (.inr rfl) hi.out), hbox.other _ _ _ (by omega), own_set P2.out g k2⟩, by simp [intOf]; omega⟩
        · go_wp2_with fail
          go_end0
          exact ⟨rfl, hb, hi.out⟩
end Go.Proofs.YthddoikmgpgakaaDoor
