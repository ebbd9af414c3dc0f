/- The reference's 'Join' and 'Notch' of a tally. -/
import Derived.Test.YthddoikmgpgakaaDoorProg
import Derived.Test.YthddoikmgpgakaaDoorBase
import Derived.Outline
import Derived.RangeFuncNested
import Derived.Shelf.Abstract
import Derived.Deep.QuietTactic
import Derived.BigQuiet
import Derived.Deep.RegionHeld3
import Derived.WalkSmall
import Derived.Laws.EntriesVeiled
import Derived.Test.YthddoikmgpgakaaDoorJoin
import Derived.Test.YthddoikmgpgakaaDoorApp
namespace Go.Proofs.YthddoikmgpgakaaDoor
open Go.RowKit Go.Proofs Go.Shelf

theorem apart_left {w : World} {B : Nat} {e : TypeId} {size : Nat} {v v' u : Value} {m : Nat} {ys : List Value} (hap : ApartV v u) (o2 : w.ownsRow B e size u m ys) {x : Nat} (hx : w.heap.size ≤ x) (pl : v'.ownBlock = v.ownBlock ∨ v'.ownBlock = some x) : ApartV v' u := fun g hg hu => by
  rcases pl with h | h
  · exact hap g (h ▸ hg) hu
  · have := (o2.lt g hu).2
    rw [h] at hg; cases hg; omega
theorem apart_right {w : World} {B : Nat} {e : TypeId} {size : Nat} {v u u' : Value} {m : Nat} {ys : List Value} (hap : ApartV v u) (o1 : w.ownsRow B e size v m ys) {x : Nat} (hx : w.heap.size ≤ x) (pl : u'.ownBlock = u.ownBlock ∨ u'.ownBlock = some x) : ApartV v u' := fun g hg hu => by
  rcases pl with h | h
  · exact hap g hg (h ▸ hu)
  · have := (o1.lt g hg).2
    rw [h] at hu; cases hu; omega
theorem own_kept {w w' : World} {B : Nat} {e : TypeId} {size : Nat} {v u : Value} {m : Nat} {ys : List Value} (o2 : w.ownsRow B e size u m ys) (gr : w.grownBy w' v.ownBlock) (hap : ApartV v u) : w'.ownsRow B e size u m ys := by
  refine o2.kept gr ?_
  cases h : u.ownBlock with
  | none => exact .inl rfl
  | some g => exact .inr (fun e => hap g (e ▸ rfl) h)

theorem own_keep {w : World} {B : Nat} {e : TypeId} {size : Nat} {v u : Value} {n b j : Nat} {xs : List Value} (h : w.ownsRow B e size v n xs) (hne : v.ownBlock ≠ some b) : (w.setCell ⟨b, j, none⟩ u).ownsRow B e size v n xs := by
  refine ⟨h.1, h.2.imp (fun x => x) ?_⟩
  rintro ⟨g', cap, cur, hv, hb, hh, r⟩
  refine ⟨g', cap, cur, hv, hb, ?_, r⟩
  rw [heap_setCell_other _ _ _ _ (fun e => hne (by rw [hv, e]; rfl))]
  exact hh

theorem joinF_ref (a b : Tl) : joinF a b = if a.ok = false then (zeroT, 70) else if b.ok = false then (zeroT, 70) else if 12 < a.st.length + b.st.length then (zeroT, 9) else if 12 < a.fo.length + b.fo.length then (zeroT, 9) else (a.cat b, 0) := by
  unfold joinF
  cases ha : a.ok with
  | false => simp
  | true =>
    cases hb : b.ok with
    | false => simp
    | true =>
      simp only [Bool.and_self, if_true, Bool.true_eq_false, if_false]
      have h1 : ((a.cat b).ok = true) ↔ (a.st.length + b.st.length ≤ 12 ∧ a.fo.length + b.fo.length ≤ 12) := by
        have ha2 : okT a.id a.hs a.st a.fo = true := ha
        have hb2 : okT b.id b.hs b.st b.fo = true := hb
        have key : okT a.id a.hs (a.st ++ b.st) (a.fo ++ b.fo) = true ↔ (a.st.length + b.st.length ≤ 12 ∧ a.fo.length + b.fo.length ≤ 12) := by
          simp only [okT, okN, List.all_append, List.length_append, Bool.and_eq_true, decide_eq_true_eq] at ha2 hb2 ⊢
          constructor
          · rintro ⟨⟨⟨⟨_, h⟩, h2⟩, _⟩, _⟩; exact ⟨h, h2⟩
          · rintro ⟨h, h2⟩; exact ⟨⟨⟨⟨ha2.1.1.1.1, h⟩, h2⟩, ⟨ha2.1.2, hb2.1.2⟩⟩, ⟨ha2.2, hb2.2⟩⟩
        exact key
      by_cases h2 : (a.cat b).ok = true
      · rw [if_pos h2]
        have := h1.1 h2
        rw [if_neg (by omega), if_neg (by omega)]
      · rw [if_neg h2]
        by_cases h3 : 12 < a.st.length + b.st.length
        · rw [if_pos h3]
        · rw [if_neg h3]
          by_cases h4 : 12 < a.fo.length + b.fo.length
          · rw [if_pos h4]
          · exact absurd (h1.2 ⟨by omega, by omega⟩) h2

set_option maxRecDepth 20000 in
set_option maxHeartbeats 2000000 in
theorem refJoin_any (a b : Tl) (sa fa sb fb : Option Addr) (sc fc sd fd : Nat) (w : World)
    (ha : a.small) (hb : b.small) (h1 : RdI w sa a.st) (h2 : RdI w fa a.fo) (h3 : RdI w sb b.st) (h4 : RdI w fb b.fo) :
    Calls Tryd.prog 23 #[.agg #[.int .i64 a.id, .int .i64 a.hs, .slice sa a.st.length sc, .slice fa a.fo.length fc], .agg #[.int .i64 b.id, .int .i64 b.hs, .slice sb b.st.length sd, .slice fb b.fo.length fd]] w
      fun e w' => ∃ v, e = .returned (.tuple #[v, .int .i64 (joinF a b).2]) ∧ Below w.heap.size w w' ∧ NewT w.heap.size w' v (joinF a b).1 := by
  have H1 := hid h1; have H2 := hid h2; have H3 := hid h3; have H4 := hid h4; clear h1 h2 h3 h4
  have HA := hid ha; have HB := hid hb; clear ha hb
  go_enter Tryd.func23, Tryd.ntmps23
  go_wp2_with fail
  refine (tally_any _ _ _ _ _ _ _ _ _ HA.out.1 HA.out.2 (H1.out.below (by repeat (first | (with_reducible exact Below.refl _ _) | (with_reducible assumption) | (with_reducible refine Below.drew ?_) | (with_reducible refine below_drewN ?_ _) | (with_reducible refine Below.alloc ?_ (by first | omega | (simp; done) | (simp; omega)) _) | (with_reducible refine Below.setCell ?_ (by first | omega | (simp; done) | (simp; omega)) _) | (with_reducible refine Below.trans ?_ (Below.mono (by assumption) (by first | omega | (simp; done) | (simp; omega))))))) (H2.out.below (by repeat (first | (with_reducible exact Below.refl _ _) | (with_reducible assumption) | (with_reducible refine Below.drew ?_) | (with_reducible refine below_drewN ?_ _) | (with_reducible refine Below.alloc ?_ (by first | omega | (simp; done) | (simp; omega)) _) | (with_reducible refine Below.setCell ?_ (by first | omega | (simp; done) | (simp; omega)) _) | (with_reducible refine Below.trans ?_ (Below.mono (by assumption) (by first | omega | (simp; done) | (simp; omega)))))))).mono ?_
  rintro e w1 ⟨rfl, hb1⟩
  have hz1 := hb1.size; (try simp only [World.size_alloc] at hz1)
  have ba : Box w1 w.heap.size #[.int .i64 a.id, .int .i64 a.hs, .slice sa a.st.length sc, .slice fa a.fo.length fc] 24 := Box.below (by repeat (first | (with_reducible assumption) | (with_reducible refine Box.at _ _ (by first | omega | (simp; done) | (simp; omega))) | (with_reducible refine Box.drew ?_) | (with_reducible refine Box.alloc ?_ _) | (with_reducible refine Box.other ?_ _ _ _ (by first | omega | (simp; done) | (simp; omega))) | (refine Box.below ?_ hb2 (by first | omega | (simp; done) | (simp; omega))) | (refine Box.below ?_ hb3 (by first | omega | (simp; done) | (simp; omega))))) hb1 (by first | omega | (simp; done) | (simp; omega))
  have bb : Box w1 (w.heap.size + 1) #[.int .i64 b.id, .int .i64 b.hs, .slice sb b.st.length sd, .slice fb b.fo.length fd] 24 := Box.below (by repeat (first | (with_reducible assumption) | (with_reducible refine Box.at _ _ (by first | omega | (simp; done) | (simp; omega))) | (with_reducible refine Box.drew ?_) | (with_reducible refine Box.alloc ?_ _) | (with_reducible refine Box.other ?_ _ _ _ (by first | omega | (simp; done) | (simp; omega))) | (refine Box.below ?_ hb2 (by first | omega | (simp; done) | (simp; omega))) | (refine Box.below ?_ hb3 (by first | omega | (simp; done) | (simp; omega))))) hb1 (by first | omega | (simp; done) | (simp; omega))
  have br : Box w1 (w.heap.size + 2) #[.int .i64 0, .int .i64 0, .slice none 0 0, .slice none 0 0] 24 := Box.below (by repeat (first | (with_reducible assumption) | (with_reducible refine Box.at _ _ (by first | omega | (simp; done) | (simp; omega))) | (with_reducible refine Box.drew ?_) | (with_reducible refine Box.alloc ?_ _) | (with_reducible refine Box.other ?_ _ _ _ (by first | omega | (simp; done) | (simp; omega))) | (refine Box.below ?_ hb2 (by first | omega | (simp; done) | (simp; omega))) | (refine Box.below ?_ hb3 (by first | omega | (simp; done) | (simp; omega))))) hb1 (by first | omega | (simp; done) | (simp; omega))
  have hb : Below w.heap.size w w1 := (by repeat (first | (with_reducible exact Below.refl _ _) | (with_reducible assumption) | (with_reducible refine Below.drew ?_) | (with_reducible refine below_drewN ?_ _) | (with_reducible refine Below.alloc ?_ (by first | omega | (simp; done) | (simp; omega)) _) | (with_reducible refine Below.setCell ?_ (by first | omega | (simp; done) | (simp; omega)) _) | (with_reducible refine Below.trans ?_ (Below.mono (by assumption) (by first | omega | (simp; done) | (simp; omega))))))
  clear hb1
  have z1 := ba.lt; have z2 := bb.lt; have z3 := br.lt
  have r0 : w1.cell? ⟨w.heap.size + 2, 0, none⟩ = some (.int .i64 0) := br.cell 0
  have r1 : w1.cell? ⟨w.heap.size + 2, 1, none⟩ = some (.int .i64 0) := br.cell 1
  have r2 : w1.cell? ⟨w.heap.size + 2, 2, none⟩ = some (.slice none 0 0) := br.cell 2
  have r3 : w1.cell? ⟨w.heap.size + 2, 3, none⟩ = some (.slice none 0 0) := br.cell 3
  have k0 := br.frozen 0; have k1 := br.frozen 1; have k2 := br.frozen 2; have k3 := br.frozen 3
  by_cases ha : okT a.id a.hs a.st a.fo = true
  · have HA1 := hid ha
    have d0 : w1.cell? ⟨w.heap.size + 1, 0, none⟩ = some (.int .i64 b.id) := bb.cell 0
    have d1 : w1.cell? ⟨w.heap.size + 1, 1, none⟩ = some (.int .i64 b.hs) := bb.cell 1
    have d2 : w1.cell? ⟨w.heap.size + 1, 2, none⟩ = some (.slice sb b.st.length sd) := bb.cell 2
    have d3 : w1.cell? ⟨w.heap.size + 1, 3, none⟩ = some (.slice fb b.fo.length fd) := bb.cell 3
    go_wp2_with fail
    refine (tally_any _ _ _ _ _ _ _ _ _ HB.out.1 HB.out.2 (H3.out.below (by repeat (first | (with_reducible exact Below.refl _ _) | (with_reducible assumption) | (with_reducible refine Below.drew ?_) | (with_reducible refine below_drewN ?_ _) | (with_reducible refine Below.alloc ?_ (by first | omega | (simp; done) | (simp; omega)) _) | (with_reducible refine Below.setCell ?_ (by first | omega | (simp; done) | (simp; omega)) _) | (with_reducible refine Below.trans ?_ (Below.mono (by assumption) (by first | omega | (simp; done) | (simp; omega))))))) (H4.out.below (by repeat (first | (with_reducible exact Below.refl _ _) | (with_reducible assumption) | (with_reducible refine Below.drew ?_) | (with_reducible refine below_drewN ?_ _) | (with_reducible refine Below.alloc ?_ (by first | omega | (simp; done) | (simp; omega)) _) | (with_reducible refine Below.setCell ?_ (by first | omega | (simp; done) | (simp; omega)) _) | (with_reducible refine Below.trans ?_ (Below.mono (by assumption) (by first | omega | (simp; done) | (simp; omega)))))))).mono ?_
    rintro e w2 ⟨rfl, hb2⟩
    have hz2 := hb2.size; (try simp only [World.size_alloc] at hz2)
    have ba2 : Box w2 w.heap.size #[.int .i64 a.id, .int .i64 a.hs, .slice sa a.st.length sc, .slice fa a.fo.length fc] 24 := Box.below (by repeat (first | (with_reducible assumption) | (with_reducible refine Box.at _ _ (by first | omega | (simp; done) | (simp; omega))) | (with_reducible refine Box.drew ?_) | (with_reducible refine Box.alloc ?_ _) | (with_reducible refine Box.other ?_ _ _ _ (by first | omega | (simp; done) | (simp; omega))) | (refine Box.below ?_ hb2 (by first | omega | (simp; done) | (simp; omega))) | (refine Box.below ?_ hb3 (by first | omega | (simp; done) | (simp; omega))))) hb2 (by first | omega | (simp; done) | (simp; omega))
    have bb2 : Box w2 (w.heap.size + 1) #[.int .i64 b.id, .int .i64 b.hs, .slice sb b.st.length sd, .slice fb b.fo.length fd] 24 := Box.below (by repeat (first | (with_reducible assumption) | (with_reducible refine Box.at _ _ (by first | omega | (simp; done) | (simp; omega))) | (with_reducible refine Box.drew ?_) | (with_reducible refine Box.alloc ?_ _) | (with_reducible refine Box.other ?_ _ _ _ (by first | omega | (simp; done) | (simp; omega))) | (refine Box.below ?_ hb2 (by first | omega | (simp; done) | (simp; omega))) | (refine Box.below ?_ hb3 (by first | omega | (simp; done) | (simp; omega))))) hb2 (by first | omega | (simp; done) | (simp; omega))
    have br2 : Box w2 (w.heap.size + 2) #[.int .i64 0, .int .i64 0, .slice none 0 0, .slice none 0 0] 24 := Box.below (by repeat (first | (with_reducible assumption) | (with_reducible refine Box.at _ _ (by first | omega | (simp; done) | (simp; omega))) | (with_reducible refine Box.drew ?_) | (with_reducible refine Box.alloc ?_ _) | (with_reducible refine Box.other ?_ _ _ _ (by first | omega | (simp; done) | (simp; omega))) | (refine Box.below ?_ hb2 (by first | omega | (simp; done) | (simp; omega))) | (refine Box.below ?_ hb3 (by first | omega | (simp; done) | (simp; omega))))) hb2 (by first | omega | (simp; done) | (simp; omega))
    have hb' : Below w.heap.size w w2 := hb.trans (hb2.mono (by omega))
    clear hb2 hb ba bb br r0 r1 r2 r3 k0 k1 k2 k3 d0 d1 d2 d3
    have y1 := ba2.lt; have y2 := bb2.lt; have y3 := br2.lt
    have r0 : w2.cell? ⟨w.heap.size + 2, 0, none⟩ = some (.int .i64 0) := br2.cell 0
    have r1 : w2.cell? ⟨w.heap.size + 2, 1, none⟩ = some (.int .i64 0) := br2.cell 1
    have r2 : w2.cell? ⟨w.heap.size + 2, 2, none⟩ = some (.slice none 0 0) := br2.cell 2
    have r3 : w2.cell? ⟨w.heap.size + 2, 3, none⟩ = some (.slice none 0 0) := br2.cell 3
    have k0 := br2.frozen 0; have k1 := br2.frozen 1; have k2 := br2.frozen 2; have k3 := br2.frozen 3
    by_cases hb0 : okT b.id b.hs b.st b.fo = true
    · have HB1 := hid hb0
      have d2 : w2.cell? ⟨w.heap.size + 1, 2, none⟩ = some (.slice sb b.st.length sd) := bb2.cell 2
      have d3 : w2.cell? ⟨w.heap.size + 1, 3, none⟩ = some (.slice fb b.fo.length fd) := bb2.cell 3
      have e0 : w2.cell? ⟨w.heap.size, 0, none⟩ = some (.int .i64 a.id) := ba2.cell 0
      have e1 : w2.cell? ⟨w.heap.size, 1, none⟩ = some (.int .i64 a.hs) := ba2.cell 1
      have e2 : w2.cell? ⟨w.heap.size, 2, none⟩ = some (.slice sa a.st.length sc) := ba2.cell 2
      have e3 : w2.cell? ⟨w.heap.size, 3, none⟩ = some (.slice fa a.fo.length fc) := ba2.cell 3
      have la : a.st.length ≤ 12 ∧ a.fo.length ≤ 12 := by have := HA1.out; simp [okT] at this; omega
      have lb : b.st.length ≤ 12 ∧ b.fo.length ≤ 12 := by have := HB1.out; simp [okT] at this; omega
      by_cases l1 : (12 : Int) < (a.st.length : Int) + (b.st.length : Int)
      · have J : Hid (joinF a b = (zeroT, 9)) := by show joinF a b = _; rw [joinF_ref, if_neg (by rw [show a.ok = true from HA1.out]; simp), if_neg (by rw [show b.ok = true from HB1.out]; simp), if_pos (by omega)]
        go_wp2_with fail
        refine bodyPost_ret (v := .tuple #[.agg #[.int .i64 0, .int .i64 0, .slice none 0 0, .slice none 0 0], .int .i64 9]) (by simp [results, Tryd.results23, go_sem, r0, r1, r2, r3]) rfl ?_
        rw [J.out]
        exact ⟨_, rfl, (by repeat (first | (with_reducible exact Below.refl _ _) | (with_reducible assumption) | (with_reducible refine Below.drew ?_) | (with_reducible refine below_drewN ?_ _) | (with_reducible refine Below.alloc ?_ (by first | omega | (simp; done) | (simp; omega)) _) | (with_reducible refine Below.setCell ?_ (by first | omega | (simp; done) | (simp; omega)) _) | (with_reducible refine Below.trans ?_ (Below.mono (by assumption) (by first | omega | (simp; done) | (simp; omega)))))), NewT.zero _ _⟩
      · by_cases l2 : (12 : Int) < (a.fo.length : Int) + (b.fo.length : Int)
        · have J : Hid (joinF a b = (zeroT, 9)) := by show joinF a b = _; rw [joinF_ref, if_neg (by rw [show a.ok = true from HA1.out]; simp), if_neg (by rw [show b.ok = true from HB1.out]; simp), if_neg (by omega), if_pos (by omega)]
          go_wp2_with fail
          refine bodyPost_ret (v := .tuple #[.agg #[.int .i64 0, .int .i64 0, .slice none 0 0, .slice none 0 0], .int .i64 9]) (by simp [results, Tryd.results23, go_sem, r0, r1, r2, r3]) rfl ?_
          rw [J.out]
          exact ⟨_, rfl, (by repeat (first | (with_reducible exact Below.refl _ _) | (with_reducible assumption) | (with_reducible refine Below.drew ?_) | (with_reducible refine below_drewN ?_ _) | (with_reducible refine Below.alloc ?_ (by first | omega | (simp; done) | (simp; omega)) _) | (with_reducible refine Below.setCell ?_ (by first | omega | (simp; done) | (simp; omega)) _) | (with_reducible refine Below.trans ?_ (Below.mono (by assumption) (by first | omega | (simp; done) | (simp; omega)))))), NewT.zero _ _⟩
        · have J : Hid (joinF a b = (a.cat b, 0)) := by show joinF a b = _; rw [joinF_ref, if_neg (by rw [show a.ok = true from HA1.out]; simp), if_neg (by rw [show b.ok = true from HB1.out]; simp), if_neg (by omega), if_neg (by omega)]
          go_wp2_with fail
          refine (twin_any _ _ _ _ _ _ _ _ _ HA.out.1 HA.out.2 (H1.out.below (by repeat (first | (with_reducible exact Below.refl _ _) | (with_reducible assumption) | (with_reducible refine Below.drew ?_) | (with_reducible refine below_drewN ?_ _) | (with_reducible refine Below.alloc ?_ (by first | omega | (simp; done) | (simp; omega)) _) | (with_reducible refine Below.setCell ?_ (by first | omega | (simp; done) | (simp; omega)) _) | (with_reducible refine Below.trans ?_ (Below.mono (by assumption) (by first | omega | (simp; done) | (simp; omega))))))) (H2.out.below (by repeat (first | (with_reducible exact Below.refl _ _) | (with_reducible assumption) | (with_reducible refine Below.drew ?_) | (with_reducible refine below_drewN ?_ _) | (with_reducible refine Below.alloc ?_ (by first | omega | (simp; done) | (simp; omega)) _) | (with_reducible refine Below.setCell ?_ (by first | omega | (simp; done) | (simp; omega)) _) | (with_reducible refine Below.trans ?_ (Below.mono (by assumption) (by first | omega | (simp; done) | (simp; omega)))))))).mono ?_
          rintro e w3 ⟨v, rfl, hb3, s1, c1, s2, c2, rfl, o1, o2, hap⟩
          have hz3 := hb3.size
          have bb3 : Box w3 (w.heap.size + 1) #[.int .i64 b.id, .int .i64 b.hs, .slice sb b.st.length sd, .slice fb b.fo.length fd] 24 := bb2.below hb3 bb2.lt
          have br3 : Box w3 (w.heap.size + 2) #[.int .i64 0, .int .i64 0, .slice none 0 0, .slice none 0 0] 24 := br2.below hb3 br2.lt
          have hw3 : Below w.heap.size w w3 := hb'.trans (hb3.mono (by omega))
          have O1 := hid (own_base (base' := w.heap.size + 3) o1 (by omega)); have O2 := hid (own_base (base' := w.heap.size + 3) o2 (by omega)); clear o1 o2 hb3
          clear d2 d3 e0 e1 e2 e3 r0 r1 r2 r3 k0 k1 k2 k3 ba2 bb2 br2 hb'
          simp only [] at O1 O2 hap
          go_wp2_with fail
          obtain ⟨i0, hi, iz0, iz1, iz2⟩ := info_parts infoInt
          obtain ⟨M, hM⟩ : ∃ M, M = w3.heap.size := ⟨_, rfl⟩
          rw [← hM]
          refine wp_world (fun w4 => Box w4 M #[.int .i64 a.id, .int .i64 a.hs, .slice s1 a.st.length c1, .slice s2 a.fo.length c2] 24 ∧ Box w4 (w.heap.size + 1) #[.int .i64 b.id, .int .i64 b.hs, .slice sb b.st.length sd, .slice fb b.fo.length fd] 24 ∧ Box w4 (w.heap.size + 2) #[.int .i64 0, .int .i64 0, .slice none 0 0, .slice none 0 0] 24 ∧ Below w.heap.size w w4 ∧
            w4.ownsRow (w.heap.size + 3) 3 1 (.slice s1 a.st.length c1) a.st.length (a.st.map (Value.int .i64)) ∧ w4.ownsRow (w.heap.size + 3) 3 1 (.slice s2 a.fo.length c2) a.fo.length (a.fo.map (Value.int .i64)) ∧
            (∀ g, (Value.slice s1 a.st.length c1).ownBlock = some g → g < M) ∧ (∀ g, (Value.slice s2 a.fo.length c2).ownBlock = some g → g < M)) ⟨Box.at _ _ hM, bb3.alloc _, br3.alloc _, (by repeat (first | (with_reducible exact Below.refl _ _) | (with_reducible assumption) | (with_reducible refine Below.drew ?_) | (with_reducible refine below_drewN ?_ _) | (with_reducible refine Below.alloc ?_ (by first | omega | (simp; done) | (simp; omega)) _) | (with_reducible refine Below.setCell ?_ (by first | omega | (simp; done) | (simp; omega)) _) | (with_reducible refine Below.trans ?_ (Below.mono (by assumption) (by first | omega | (simp; done) | (simp; omega)))))), O1.out.alloc _, O2.out.alloc _, fun g hg => hM ▸ (O1.out.lt g hg).2, fun g hg => hM ▸ (O2.out.lt g hg).2⟩ ?_
          rintro w4 ⟨b6, bb4, br4, hw4, o1, o2, lt1, lt2⟩
          have hM2 : w.heap.size + 3 ≤ M := by omega
          clear hz3 hM O1 O2 bb3 br3 hw3
          have O1 := hid o1; have O2 := hid o2; have L1 := hid lt1; have L2 := hid lt2; clear o1 o2 lt1 lt2
          refine wp_post (fun a' w' => ∃ x0 x1 x2 x3 x4 x5 x6 x7 x8 x9 x10 x11 x12 x13 x14 x15 x16 x17 x18 x19 x20 x21 x22 x23 x24 x25 x26 x27 x28 x29 x30 x31 x32 x33 x34 x35 x36 x37 x38 x39 x40 x41 x42 x43 x44 x45 x46 x47 x48 x49 t1 d1 t2 d2, a' = ⟨#[x0, x1, x2, x3, x4, x5, x6, x7, x8, x9, x10, x11, x12, x13, x14, x15, x16, x17, x18, x19, x20, x21, x22, x23, x24, x25, x26, x27, x28, x29, x30, x31, x32, x33, x34, x35, x36, x37, x38, x39, x40, x41, x42, x43, x44, x45, x46, x47, x48, x49], []⟩ ∧ x4 = .pointer (some ⟨w.heap.size + 2, 0, none⟩) ∧ x6 = .pointer (some ⟨M, 0, none⟩) ∧ Below w.heap.size w w' ∧
            Box w' M #[.int .i64 a.id, .int .i64 a.hs, .slice t1 (a.st.length + b.st.length) d1, .slice t2 (a.fo.length + b.fo.length) d2] 24 ∧ Box w' (w.heap.size + 2) #[.int .i64 0, .int .i64 0, .slice none 0 0, .slice none 0 0] 24 ∧
            w'.ownsRow (w.heap.size + 3) 3 1 (.slice t1 (a.st.length + b.st.length) d1) (a.st.length + b.st.length) ((a.st ++ b.st).map (Value.int .i64)) ∧ w'.ownsRow (w.heap.size + 3) 3 1 (.slice t2 (a.fo.length + b.fo.length) d2) (a.fo.length + b.fo.length) ((a.fo ++ b.fo).map (Value.int .i64)) ∧ ApartV (.slice t1 (a.st.length + b.st.length) d1) (.slice t2 (a.fo.length + b.fo.length) d2) ∧
            (∀ g, (Value.slice t1 (a.st.length + b.st.length) d1).ownBlock = some g → g ≠ M) ∧ (∀ g, (Value.slice t2 (a.fo.length + b.fo.length) d2).ownBlock = some g → g ≠ M)) ?_ ?_
          · have q1 : w4.cell? ⟨M, 2, none⟩ = some (.slice s1 a.st.length c1) := b6.cell 2
            have q2 : w4.cell? ⟨M, 3, none⟩ = some (.slice s2 a.fo.length c2) := b6.cell 3
            have q3 : w4.cell? ⟨w.heap.size + 1, 2, none⟩ = some (.slice sb b.st.length sd) := bb4.cell 2
            have q4 : w4.cell? ⟨w.heap.size + 1, 3, none⟩ = some (.slice fb b.fo.length fd) := bb4.cell 3
            have z6 := b6.lt; have z7 := bb4.lt
            refine wp_region_F [1, 3, 6, 8] (fun w' => w'.cell? ⟨M, 2, none⟩ = some (.slice s1 a.st.length c1) ∧ w'.cell? ⟨M, 3, none⟩ = some (.slice s2 a.fo.length c2) ∧ w'.cell? ⟨w.heap.size + 1, 2, none⟩ = some (.slice sb b.st.length sd) ∧ w'.cell? ⟨w.heap.size + 1, 3, none⟩ = some (.slice fb b.fo.length fd)) mixed ⟨by go_simp, by go_simp, by go_simp, by go_simp⟩ ?_
            intro hS0; have hS := hid hS0; clear hS0
            (apply wpAnyF_pure (i := 0) rfl (by kernel_rfl) (fun _ _ _ h => h); · first | exact .inr ⟨rfl, rfl⟩ | exact .inl ⟨rfl, fun w' => by go_simp; rfl⟩); simp only [Act.put, List.setIfInBounds_toArray, List.set_cons_succ, List.set_cons_zero, List.getElem_toArray, List.getElem_cons_succ, List.getElem_cons_zero]
            (apply wpAnyF_held (i := 1) rfl (by kernel_rfl) (fun _ _ _ h => h) hS.out; · first | exact .inr ⟨rfl, rfl⟩ | exact .inl ⟨rfl, fun w' hS' => by (obtain ⟨s1, s2, s3, s4⟩ := hS'; go_simp; rfl)⟩); simp only [Act.put, List.setIfInBounds_toArray, List.set_cons_succ, List.set_cons_zero, List.getElem_toArray, List.getElem_cons_succ, List.getElem_cons_zero]
            (apply wpAnyF_pure (i := 2) rfl (by kernel_rfl) (fun _ _ _ h => h); · first | exact .inr ⟨rfl, rfl⟩ | exact .inl ⟨rfl, fun w' => by go_simp; rfl⟩); simp only [Act.put, List.setIfInBounds_toArray, List.set_cons_succ, List.set_cons_zero, List.getElem_toArray, List.getElem_cons_succ, List.getElem_cons_zero]
            (apply wpAnyF_held (i := 3) rfl (by kernel_rfl) (fun _ _ _ h => h) hS.out; · first | exact .inr ⟨rfl, rfl⟩ | exact .inl ⟨rfl, fun w' hS' => by (obtain ⟨s1, s2, s3, s4⟩ := hS'; go_simp; rfl)⟩); simp only [Act.put, List.setIfInBounds_toArray, List.set_cons_succ, List.set_cons_zero, List.getElem_toArray, List.getElem_cons_succ, List.getElem_cons_zero]
            (apply wpAnyF_pure (i := 5) rfl (by kernel_rfl) (fun _ _ _ h => h); · first | exact .inr ⟨rfl, rfl⟩ | exact .inl ⟨rfl, fun w' => by go_simp; rfl⟩); simp only [Act.put, List.setIfInBounds_toArray, List.set_cons_succ, List.set_cons_zero, List.getElem_toArray, List.getElem_cons_succ, List.getElem_cons_zero]
            (apply wpAnyF_held (i := 6) rfl (by kernel_rfl) (fun _ _ _ h => h) hS.out; · first | exact .inr ⟨rfl, rfl⟩ | exact .inl ⟨rfl, fun w' hS' => by (obtain ⟨s1, s2, s3, s4⟩ := hS'; go_simp; rfl)⟩); simp only [Act.put, List.setIfInBounds_toArray, List.set_cons_succ, List.set_cons_zero, List.getElem_toArray, List.getElem_cons_succ, List.getElem_cons_zero]
            (apply wpAnyF_pure (i := 7) rfl (by kernel_rfl) (fun _ _ _ h => h); · first | exact .inr ⟨rfl, rfl⟩ | exact .inl ⟨rfl, fun w' => by go_simp; rfl⟩); simp only [Act.put, List.setIfInBounds_toArray, List.set_cons_succ, List.set_cons_zero, List.getElem_toArray, List.getElem_cons_succ, List.getElem_cons_zero]
            (apply wpAnyF_held (i := 8) rfl (by kernel_rfl) (fun _ _ _ h => h) hS.out; · first | exact .inr ⟨rfl, rfl⟩ | exact .inl ⟨rfl, fun w' hS' => by (obtain ⟨s1, s2, s3, s4⟩ := hS'; go_simp; rfl)⟩); simp only [Act.put, List.setIfInBounds_toArray, List.set_cons_succ, List.set_cons_zero, List.getElem_toArray, List.getElem_cons_succ, List.getElem_cons_zero]
            refine wpAnyF_one (i := 4) rfl ⟨by kernel_rfl, by kernel_rfl⟩ ?_
            intro K hK
            refine step_append_any _ rfl _ _ _ rfl (w.heap.size + 3) 3 i0 _ 1 8 Tryd.underlying22 hi iz0 iz1 iz2 rfl (by decide) (.slice s1 a.st.length c1) a.st.length (a.st.map (Value.int .i64)) rfl O1.out.drew sb b.st.length sd (b.st.map (Value.int .i64)) rfl (by simp) (RdI.none (H3.out.below (by repeat (first | (with_reducible exact Below.refl _ _) | (with_reducible assumption) | (with_reducible refine Below.drew ?_) | (with_reducible refine below_drewN ?_ _) | (with_reducible refine Below.alloc ?_ (by first | omega | (simp; done) | (simp; omega)) _) | (with_reducible refine Below.setCell ?_ (by first | omega | (simp; done) | (simp; omega)) _) | (with_reducible refine Below.trans ?_ (Below.mono (by assumption) (by first | omega | (simp; done) | (simp; omega)))))))) (RdI.news (H3.out.below (by repeat (first | (with_reducible exact Below.refl _ _) | (with_reducible assumption) | (with_reducible refine Below.drew ?_) | (with_reducible refine below_drewN ?_ _) | (with_reducible refine Below.alloc ?_ (by first | omega | (simp; done) | (simp; omega)) _) | (with_reducible refine Below.setCell ?_ (by first | omega | (simp; done) | (simp; omega)) _) | (with_reducible refine Below.trans ?_ (Below.mono (by assumption) (by first | omega | (simp; done) | (simp; omega)))))))) (ints_one _) (by omega) (by omega) (by first | omega | (simp; done) | (simp; omega)) ?_
            intro t1 d1 w5 own5 gr5 pl5
            have hs5 := gr5.size
            simp only [World.size_drew] at hs5 pl5
            have nr : ∀ x, (x = M ∨ x < w.heap.size + 3) → (Value.slice s1 a.st.length c1).ownBlock ≠ some x := fun x hx h => by
              have h1 := (O1.out.lt x h).1; have h2 := L1.out x h; omega
            have b65 : Box w5 M #[.int .i64 a.id, .int .i64 a.hs, .slice s1 a.st.length c1, .slice s2 a.fo.length c2] 24 := Box.grown b6.drew gr5 (nr _ (.inl rfl))
            have bb5 : Box w5 (w.heap.size + 1) #[.int .i64 b.id, .int .i64 b.hs, .slice sb b.st.length sd, .slice fb b.fo.length fd] 24 := Box.grown bb4.drew gr5 (nr _ (.inr (by omega)))
            have br5 : Box w5 (w.heap.size + 2) #[.int .i64 0, .int .i64 0, .slice none 0 0, .slice none 0 0] 24 := Box.grown br4.drew gr5 (nr _ (.inr (by omega)))
            have hw5 : Below w.heap.size w w5 := Below.grown (a := w) hw4.drew gr5 (by first | omega | (simp; done) | (simp; omega)) (fun k hk => by have := (O1.out.lt k hk).1; omega)
            have o25 : w5.ownsRow (w.heap.size + 3) 3 1 (.slice s2 a.fo.length c2) a.fo.length (a.fo.map (Value.int .i64)) := own_kept O2.out.drew gr5 hap
            have hap5 : ApartV (.slice t1 (a.st.length + b.st.length) d1) (.slice s2 a.fo.length c2) := apart_left hap O2.out.drew (Nat.le_refl _) pl5
            have nt1 : ∀ x, x = M → (Value.slice t1 (a.st.length + b.st.length) d1).ownBlock ≠ some x := fun x hx h => by
              rcases pl5 with p | p
              · rw [p] at h; exact nr x (.inl hx) h
              · rw [p] at h; cases h; omega
            refine shutS hK ⟨b65.cell 2, b65.cell 3, bb5.cell 2, bb5.cell 3⟩ (fun hS => ?_)
            (apply wpAnyF_pure (i := 10) rfl (by kernel_rfl) (fun _ _ _ h => h); · first | exact .inr ⟨rfl, rfl⟩ | exact .inl ⟨rfl, fun w' => by go_simp; rfl⟩); simp only [Act.put, List.setIfInBounds_toArray, List.set_cons_succ, List.set_cons_zero, List.getElem_toArray, List.getElem_cons_succ, List.getElem_cons_zero]
            refine wpAnyF_one (i := 9) rfl ⟨by kernel_rfl, by kernel_rfl⟩ ?_
            intro K hK
            refine step_append_any _ rfl _ _ _ rfl (w.heap.size + 3) 3 i0 _ 1 8 Tryd.underlying22 hi iz0 iz1 iz2 rfl (by decide) (.slice s2 a.fo.length c2) a.fo.length (a.fo.map (Value.int .i64)) rfl o25 fb b.fo.length fd (b.fo.map (Value.int .i64)) rfl (by simp) (RdI.none (H4.out.below hw5)) (RdI.news (H4.out.below hw5)) (ints_one _) (by omega) (by omega) (by have := b65.lt; omega) ?_
            intro t2 d2 w6 own6 gr6 pl6
            have nr2 : ∀ x, (x = M ∨ x < w.heap.size + 3) → (Value.slice s2 a.fo.length c2).ownBlock ≠ some x := fun x hx h => by
              have h1 := (O2.out.lt x h).1; have h2 := L2.out x h; omega
            have b66 : Box w6 M #[.int .i64 a.id, .int .i64 a.hs, .slice s1 a.st.length c1, .slice s2 a.fo.length c2] 24 := Box.grown b65 gr6 (nr2 _ (.inl rfl))
            have br6 : Box w6 (w.heap.size + 2) #[.int .i64 0, .int .i64 0, .slice none 0 0, .slice none 0 0] 24 := Box.grown br5 gr6 (nr2 _ (.inr (by omega)))
            have hw6 : Below w.heap.size w w6 := Below.grown (a := w) hw5 gr6 hw5.size (fun k hk => by have := (O2.out.lt k hk).1; omega)
            have o16 : w6.ownsRow (w.heap.size + 3) 3 1 (.slice t1 (a.st.length + b.st.length) d1) (a.st.length + b.st.length) (a.st.map (Value.int .i64) ++ b.st.map (Value.int .i64)) := own_kept own5 gr6 (fun g hg hu => hap5 g hu hg)
            have hap6 : ApartV (.slice t1 (a.st.length + b.st.length) d1) (.slice t2 (a.fo.length + b.fo.length) d2) := apart_right hap5 own5 (Nat.le_refl _) pl6
            have nt2 : ∀ x, x = M → (Value.slice t2 (a.fo.length + b.fo.length) d2).ownBlock ≠ some x := fun x hx h => by
              rcases pl6 with p | p
              · rw [p] at h; exact nr2 x (.inl hx) h
              · rw [p] at h; cases h; have := b65.lt; omega
            have g2 := b66.cell 2; have g3 := b66.cell 3; have k2 := b66.frozen 2; have k3 := b66.frozen 3
            simp at g2 g3
            refine shutN hK (by kernel_rfl) ?_
            refine wpAnyF_one (i := 11) rfl ⟨by kernel_rfl, by kernel_rfl⟩ ?_
            intro K hK
            go_simp
            refine shutN hK (by kernel_rfl) ?_
            (apply wpAnyF_pure (i := 12) rfl (by kernel_rfl) (fun _ _ _ h => h); · first | exact .inr ⟨rfl, rfl⟩ | exact .inl ⟨rfl, fun w' => by go_simp; rfl⟩); simp only [Act.put, List.setIfInBounds_toArray, List.set_cons_succ, List.set_cons_zero, List.getElem_toArray, List.getElem_cons_succ, List.getElem_cons_zero]
            refine wpAnyF_one (i := 13) rfl ⟨by kernel_rfl, by kernel_rfl⟩ ?_
            intro K hK
            go_simp
            refine shutN hK (by kernel_rfl) ?_
            refine wpAnyF_done (by kernel_rfl) ?_ _
            exact ⟨_, _, _, _, _, _, _, _, _, _, _, _, _, _, _, _, _, _, _, _, _, _, _, _, _, _, _, _, _, _, _, _, _, _, _, _, _, _, _, _, _, _, _, _, _, _, _, _, _, _, t1, d1, t2, d2, rfl, rfl, rfl, (hw6.setCell (p := ⟨M, 2, none⟩) (by simp; omega) _).setCell (p := ⟨M, 3, none⟩) (by simp; omega) _, (b66.set 2 _).set 3 _, (br6.other _ _ _ (by omega)).other _ _ _ (by omega), by rw [List.map_append]; exact own_keep (own_keep o16 (nt1 _ rfl)) (nt1 _ rfl), by rw [List.map_append]; exact own_keep (own_keep own6 (nt2 _ rfl)) (nt2 _ rfl), hap6, fun g hg e => nt1 g e hg, fun g hg e => nt2 g e hg⟩
          · rintro a' w' ⟨x0, x1, x2, x3, x4, x5, x6, x7, x8, x9, x10, x11, x12, x13, x14, x15, x16, x17, x18, x19, x20, x21, x22, x23, x24, x25, x26, x27, x28, x29, x30, x31, x32, x33, x34, x35, x36, x37, x38, x39, x40, x41, x42, x43, x44, x45, x46, x47, x48, x49, t1, d1, t2, d2, rfl, rfl, rfl, hw, b1', b2', o1, o2, hap', n1, n2⟩
            obtain ⟨st, hst⟩ : ∃ st, st = a.st ++ b.st := ⟨_, rfl⟩
            obtain ⟨fo, hfo⟩ : ∃ fo, fo = a.fo ++ b.fo := ⟨_, rfl⟩
            have ln : a.st.length + b.st.length = st.length := by rw [hst, List.length_append]
            have ln2 : a.fo.length + b.fo.length = fo.length := by rw [hfo, List.length_append]
            rw [ln] at b1' o1 hap'
            rw [ln2] at b1' o2 hap'
            rw [← hst] at o1
            rw [← hfo] at o2
            have J2 : Hid (joinF a b = (⟨a.id, a.hs, st, fo⟩, 0)) := by
              show joinF a b = _
              rw [J.out, hst, hfo]; rfl
            clear ln ln2 hst hfo n1 n2 b6 bb4 br4
            have e0 : w'.cell? ⟨M, 0, none⟩ = some (.int .i64 a.id) := b1'.cell 0
            have e1 : w'.cell? ⟨M, 1, none⟩ = some (.int .i64 a.hs) := b1'.cell 1
            have e2 : w'.cell? ⟨M, 2, none⟩ = some (.slice t1 st.length d1) := b1'.cell 2
            have e3 : w'.cell? ⟨M, 3, none⟩ = some (.slice t2 fo.length d2) := b1'.cell 3
            have r0 : w'.cell? ⟨w.heap.size + 2, 0, none⟩ = some (.int .i64 0) := b2'.cell 0
            have r1 : w'.cell? ⟨w.heap.size + 2, 1, none⟩ = some (.int .i64 0) := b2'.cell 1
            have r2 : w'.cell? ⟨w.heap.size + 2, 2, none⟩ = some (.slice none 0 0) := b2'.cell 2
            have r3 : w'.cell? ⟨w.heap.size + 2, 3, none⟩ = some (.slice none 0 0) := b2'.cell 3
            have k0 := b2'.frozen 0; have k1 := b2'.frozen 1; have k2 := b2'.frozen 2; have k3 := b2'.frozen 3
            have P1 := hid o1; have P2 := hid o2; clear o1 o2
            go_wp2_with fail
            refine bodyPost_ret (v := .tuple #[.agg #[.int .i64 a.id, .int .i64 a.hs, .slice t1 st.length d1, .slice t2 fo.length d2], .int .i64 0]) (by simp [results, Tryd.results23, go_sem, r0, r1, r2, r3]) rfl ?_
            rw [J2.out]
            exact ⟨_, rfl, (by repeat (first | (with_reducible exact Below.refl _ _) | (with_reducible assumption) | (with_reducible refine Below.drew ?_) | (with_reducible refine below_drewN ?_ _) | (with_reducible refine Below.alloc ?_ (by first | omega | (simp; done) | (simp; omega)) _) | (with_reducible refine Below.setCell ?_ (by first | omega | (simp; done) | (simp; omega)) _) | (with_reducible refine Below.trans ?_ (Below.mono (by assumption) (by first | omega | (simp; done) | (simp; omega)))))), t1, d1, t2, d2, rfl, own_base (base := w.heap.size + 3) (own_other (own_other (own_other (own_other P1.out (by first | omega | (simp; done) | (simp; omega))) (by first | omega | (simp; done) | (simp; omega))) (by first | omega | (simp; done) | (simp; omega))) (by first | omega | (simp; done) | (simp; omega))) (by first | omega | (simp; done) | (simp; omega)), own_base (base := w.heap.size + 3) (own_other (own_other (own_other (own_other P2.out (by first | omega | (simp; done) | (simp; omega))) (by first | omega | (simp; done) | (simp; omega))) (by first | omega | (simp; done) | (simp; omega))) (by first | omega | (simp; done) | (simp; omega))) (by first | omega | (simp; done) | (simp; omega)), hap'⟩
    · have hb0' : okT b.id b.hs b.st b.fo = false := by simpa using hb0
      have J : Hid (joinF a b = (zeroT, 70)) := by show joinF a b = _; rw [joinF_ref, if_neg (by rw [show a.ok = true from HA1.out]; simp), if_pos (show b.ok = false from hb0')]
      clear hb0
      go_wp2_with fail
      refine bodyPost_ret (v := .tuple #[.agg #[.int .i64 0, .int .i64 0, .slice none 0 0, .slice none 0 0], .int .i64 70]) (by simp [results, Tryd.results23, go_sem, r0, r1, r2, r3]) rfl ?_
      rw [J.out]
      exact ⟨_, rfl, (by repeat (first | (with_reducible exact Below.refl _ _) | (with_reducible assumption) | (with_reducible refine Below.drew ?_) | (with_reducible refine below_drewN ?_ _) | (with_reducible refine Below.alloc ?_ (by first | omega | (simp; done) | (simp; omega)) _) | (with_reducible refine Below.setCell ?_ (by first | omega | (simp; done) | (simp; omega)) _) | (with_reducible refine Below.trans ?_ (Below.mono (by assumption) (by first | omega | (simp; done) | (simp; omega)))))), NewT.zero _ _⟩
  · have ha' : okT a.id a.hs a.st a.fo = false := by simpa using ha
    have J : Hid (joinF a b = (zeroT, 70)) := by show joinF a b = _; rw [joinF_ref, if_pos (show a.ok = false from ha')]
    clear ha
    go_wp2_with fail
    refine bodyPost_ret (v := .tuple #[.agg #[.int .i64 0, .int .i64 0, .slice none 0 0, .slice none 0 0], .int .i64 70]) (by simp [results, Tryd.results23, go_sem, r0, r1, r2, r3]) rfl ?_
    rw [J.out]
    exact ⟨_, rfl, (by repeat (first | (with_reducible exact Below.refl _ _) | (with_reducible assumption) | (with_reducible refine Below.drew ?_) | (with_reducible refine below_drewN ?_ _) | (with_reducible refine Below.alloc ?_ (by first | omega | (simp; done) | (simp; omega)) _) | (with_reducible refine Below.setCell ?_ (by first | omega | (simp; done) | (simp; omega)) _) | (with_reducible refine Below.trans ?_ (Below.mono (by assumption) (by first | omega | (simp; done) | (simp; omega)))))), NewT.zero _ _⟩
end Go.Proofs.YthddoikmgpgakaaDoor
