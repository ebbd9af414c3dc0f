/- 'Notch' of a tally. -/
import Derived.Test.YthddoikmgpgakaaDoorProg
import Derived.Test.YthddoikmgpgakaaDoorBase
import Derived.Outline
import Derived.RangeFuncNested
import Derived.Shelf.Abstract
import Derived.Deep.QuietTactic
import Derived.BigQuiet
import Derived.Deep.RegionHeld3
import Derived.WalkSmall
import Derived.Laws.EntriesVeiled
import Derived.Test.YthddoikmgpgakaaDoorJoin
namespace Go.Proofs.YthddoikmgpgakaaDoor
open Go.RowKit Go.Proofs Go.Shelf

/-- What 'Notch' hands back. -/
def notchF (a : Tl) (k : Int) : Tl × Int := if a.ok then (if okN [k] then joinF a ⟨a.id, a.hs, [k], [k]⟩ else (zeroT, 72)) else (zeroT, 70)

theorem rdI_one {w : World} {B : Nat} {k : Int} {t : TypeId} (h : Box w B #[.int .i64 k] t) : RdI w (some ⟨B, 0, none⟩) [k] := fun i hi => by
  match i, hi with
  | 0, _ => exact ⟨B, 0, rfl, h.cell 0⟩

set_option maxRecDepth 20000 in
set_option maxHeartbeats 1000000 in
theorem notch_any (a : Tl) (k : Int) (sa fa : Option Addr) (sc fc : Nat) (w : World) (ht : Tab w) (ha : a.small) (h1 : RdI w sa a.st) (h2 : RdI w fa a.fo) :
    Calls Tryd.prog 20 #[.agg #[.int .i64 a.id, .int .i64 a.hs, .slice sa a.st.length sc, .slice fa a.fo.length fc], .int .i64 k] w
      fun e w' => ∃ v, e = .returned (.tuple #[v, .int .i64 (notchF a k).2]) ∧ Below w.heap.size w w' ∧ NewT w.heap.size w' v (notchF a k).1 := by
  have H1 := hid h1; have H2 := hid h2; clear h1 h2
  have HT := hid ht; clear ht
  have HA := hid ha; clear ha
  go_enter Tryd.func20, Tryd.ntmps20
  go_wp2_with fail
  refine (check_any _ _ _ _ _ _ _ _ _ (HT.out.below (by repeat (first | (with_reducible exact Below.refl _ _) | (with_reducible assumption) | (with_reducible refine Below.drew ?_) | (with_reducible refine below_drewN ?_ _) | (with_reducible refine Below.alloc ?_ (by first | omega | (simp; done) | (simp; omega)) _) | (with_reducible refine Below.setCell ?_ (by first | omega | (simp; done) | (simp; omega)) _) | (with_reducible refine Below.trans ?_ (Below.mono (by assumption) (by first | omega | (simp; done) | (simp; omega))))))) HA.out.1 HA.out.2 (H1.out.below (by repeat (first | (with_reducible exact Below.refl _ _) | (with_reducible assumption) | (with_reducible refine Below.drew ?_) | (with_reducible refine below_drewN ?_ _) | (with_reducible refine Below.alloc ?_ (by first | omega | (simp; done) | (simp; omega)) _) | (with_reducible refine Below.setCell ?_ (by first | omega | (simp; done) | (simp; omega)) _) | (with_reducible refine Below.trans ?_ (Below.mono (by assumption) (by first | omega | (simp; done) | (simp; omega))))))) (H2.out.below (by repeat (first | (with_reducible exact Below.refl _ _) | (with_reducible assumption) | (with_reducible refine Below.drew ?_) | (with_reducible refine below_drewN ?_ _) | (with_reducible refine Below.alloc ?_ (by first | omega | (simp; done) | (simp; omega)) _) | (with_reducible refine Below.setCell ?_ (by first | omega | (simp; done) | (simp; omega)) _) | (with_reducible refine Below.trans ?_ (Below.mono (by assumption) (by first | omega | (simp; done) | (simp; omega)))))))).mono ?_
  rintro e w1 ⟨rfl, hb1⟩
  have hz1 := hb1.size; (try simp only [World.size_alloc] at hz1)
  have ba : Box w1 w.heap.size #[.int .i64 a.id, .int .i64 a.hs, .slice sa a.st.length sc, .slice fa a.fo.length fc] 24 := Box.below (by repeat (first | (with_reducible assumption) | (with_reducible refine Box.at _ _ (by first | omega | (simp; done) | (simp; omega))) | (with_reducible refine Box.drew ?_) | (with_reducible refine Box.alloc ?_ _) | (with_reducible refine Box.other ?_ _ _ _ (by first | omega | (simp; done) | (simp; omega))) | (refine Box.below ?_ hb2 (by first | omega | (simp; done) | (simp; omega))) | (refine Box.below ?_ hb3 (by first | omega | (simp; done) | (simp; omega))))) hb1 (by first | omega | (simp; done) | (simp; omega))
  have br : Box w1 (w.heap.size + 1) #[.int .i64 0, .int .i64 0, .slice none 0 0, .slice none 0 0] 24 := Box.below (by repeat (first | (with_reducible assumption) | (with_reducible refine Box.at _ _ (by first | omega | (simp; done) | (simp; omega))) | (with_reducible refine Box.drew ?_) | (with_reducible refine Box.alloc ?_ _) | (with_reducible refine Box.other ?_ _ _ _ (by first | omega | (simp; done) | (simp; omega))) | (refine Box.below ?_ hb2 (by first | omega | (simp; done) | (simp; omega))) | (refine Box.below ?_ hb3 (by first | omega | (simp; done) | (simp; omega))))) hb1 (by first | omega | (simp; done) | (simp; omega))
  have hb : Below w.heap.size w w1 := (by repeat (first | (with_reducible exact Below.refl _ _) | (with_reducible assumption) | (with_reducible refine Below.drew ?_) | (with_reducible refine below_drewN ?_ _) | (with_reducible refine Below.alloc ?_ (by first | omega | (simp; done) | (simp; omega)) _) | (with_reducible refine Below.setCell ?_ (by first | omega | (simp; done) | (simp; omega)) _) | (with_reducible refine Below.trans ?_ (Below.mono (by assumption) (by first | omega | (simp; done) | (simp; omega))))))
  clear hb1
  have z1 := ba.lt; have z2 := br.lt
  by_cases hok : a.ok = true
  · have t1 : (errT (okT a.id a.hs a.st a.fo) != 0) = false := by rw [show okT a.id a.hs a.st a.fo = true from hok]; rfl
    have HK := hid hok; clear hok
    go_wp2_with fail
    refine (kinds_any _ _ [k] _ (by simp) (rdI_one (t := 3) (by repeat (first | (with_reducible assumption) | (with_reducible refine Box.at _ _ (by first | omega | (simp; done) | (simp; omega))) | (with_reducible refine Box.drew ?_) | (with_reducible refine Box.alloc ?_ _) | (with_reducible refine Box.other ?_ _ _ _ (by first | omega | (simp; done) | (simp; omega))) | (refine Box.below ?_ hb2 (by first | omega | (simp; done) | (simp; omega))) | (refine Box.below ?_ hb3 (by first | omega | (simp; done) | (simp; omega))))))).mono ?_
    rintro e w2 ⟨rfl, hb2⟩
    have hz2 := hb2.size; (try simp only [World.size_alloc] at hz2)
    have ba2 : Box w2 w.heap.size #[.int .i64 a.id, .int .i64 a.hs, .slice sa a.st.length sc, .slice fa a.fo.length fc] 24 := Box.below (by repeat (first | (with_reducible assumption) | (with_reducible refine Box.at _ _ (by first | omega | (simp; done) | (simp; omega))) | (with_reducible refine Box.drew ?_) | (with_reducible refine Box.alloc ?_ _) | (with_reducible refine Box.other ?_ _ _ _ (by first | omega | (simp; done) | (simp; omega))) | (refine Box.below ?_ hb2 (by first | omega | (simp; done) | (simp; omega))) | (refine Box.below ?_ hb3 (by first | omega | (simp; done) | (simp; omega))))) hb2 (by first | omega | (simp; done) | (simp; omega))
    have br2 : Box w2 (w.heap.size + 1) #[.int .i64 0, .int .i64 0, .slice none 0 0, .slice none 0 0] 24 := Box.below (by repeat (first | (with_reducible assumption) | (with_reducible refine Box.at _ _ (by first | omega | (simp; done) | (simp; omega))) | (with_reducible refine Box.drew ?_) | (with_reducible refine Box.alloc ?_ _) | (with_reducible refine Box.other ?_ _ _ _ (by first | omega | (simp; done) | (simp; omega))) | (refine Box.below ?_ hb2 (by first | omega | (simp; done) | (simp; omega))) | (refine Box.below ?_ hb3 (by first | omega | (simp; done) | (simp; omega))))) hb2 (by first | omega | (simp; done) | (simp; omega))
    have hw2 : Below w.heap.size w w2 := (by repeat (first | (with_reducible exact Below.refl _ _) | (with_reducible assumption) | (with_reducible refine Below.drew ?_) | (with_reducible refine below_drewN ?_ _) | (with_reducible refine Below.alloc ?_ (by first | omega | (simp; done) | (simp; omega)) _) | (with_reducible refine Below.setCell ?_ (by first | omega | (simp; done) | (simp; omega)) _) | (with_reducible refine Below.trans ?_ (Below.mono (by assumption) (by first | omega | (simp; done) | (simp; omega))))))
    clear hb2
    have z12 := ba2.lt; have z22 := br2.lt
    by_cases hk : okN [k] = true
    · have HK2 := hid hk
      have e0 : w2.cell? ⟨w.heap.size, 0, none⟩ = some (.int .i64 a.id) := ba2.cell 0
      have e1 : w2.cell? ⟨w.heap.size, 1, none⟩ = some (.int .i64 a.hs) := ba2.cell 1
      have e2 : w2.cell? ⟨w.heap.size, 2, none⟩ = some (.slice sa a.st.length sc) := ba2.cell 2
      have e3 : w2.cell? ⟨w.heap.size, 3, none⟩ = some (.slice fa a.fo.length fc) := ba2.cell 3
      go_wp2_with fail
      refine (join_any a ⟨a.id, a.hs, [k], [k]⟩ _ _ _ _ _ _ _ _ _ (HT.out.below (by repeat (first | (with_reducible exact Below.refl _ _) | (with_reducible assumption) | (with_reducible refine Below.drew ?_) | (with_reducible refine below_drewN ?_ _) | (with_reducible refine Below.alloc ?_ (by first | omega | (simp; done) | (simp; omega)) _) | (with_reducible refine Below.setCell ?_ (by first | omega | (simp; done) | (simp; omega)) _) | (with_reducible refine Below.trans ?_ (Below.mono (by assumption) (by first | omega | (simp; done) | (simp; omega))))))) HA.out ⟨by simp, by simp⟩ (H1.out.below (by repeat (first | (with_reducible exact Below.refl _ _) | (with_reducible assumption) | (with_reducible refine Below.drew ?_) | (with_reducible refine below_drewN ?_ _) | (with_reducible refine Below.alloc ?_ (by first | omega | (simp; done) | (simp; omega)) _) | (with_reducible refine Below.setCell ?_ (by first | omega | (simp; done) | (simp; omega)) _) | (with_reducible refine Below.trans ?_ (Below.mono (by assumption) (by first | omega | (simp; done) | (simp; omega))))))) (H2.out.below (by repeat (first | (with_reducible exact Below.refl _ _) | (with_reducible assumption) | (with_reducible refine Below.drew ?_) | (with_reducible refine below_drewN ?_ _) | (with_reducible refine Below.alloc ?_ (by first | omega | (simp; done) | (simp; omega)) _) | (with_reducible refine Below.setCell ?_ (by first | omega | (simp; done) | (simp; omega)) _) | (with_reducible refine Below.trans ?_ (Below.mono (by assumption) (by first | omega | (simp; done) | (simp; omega))))))) (rdI_one (t := 3) (by repeat (first | (with_reducible assumption) | (with_reducible refine Box.at _ _ (by first | omega | (simp; done) | (simp; omega))) | (with_reducible refine Box.drew ?_) | (with_reducible refine Box.alloc ?_ _) | (with_reducible refine Box.other ?_ _ _ _ (by first | omega | (simp; done) | (simp; omega))) | (refine Box.below ?_ hb2 (by first | omega | (simp; done) | (simp; omega))) | (refine Box.below ?_ hb3 (by first | omega | (simp; done) | (simp; omega)))))) (rdI_one (t := 3) (by repeat (first | (with_reducible assumption) | (with_reducible refine Box.at _ _ (by first | omega | (simp; done) | (simp; omega))) | (with_reducible refine Box.drew ?_) | (with_reducible refine Box.alloc ?_ _) | (with_reducible refine Box.other ?_ _ _ _ (by first | omega | (simp; done) | (simp; omega))) | (refine Box.below ?_ hb2 (by first | omega | (simp; done) | (simp; omega))) | (refine Box.below ?_ hb3 (by first | omega | (simp; done) | (simp; omega))))))).mono ?_
      rintro e w3 ⟨v, rfl, hb3, hn⟩
      have hz3 := hb3.size; (try simp only [World.size_alloc] at hz3)
      have br3 : Box w3 (w.heap.size + 1) #[.int .i64 0, .int .i64 0, .slice none 0 0, .slice none 0 0] 24 := Box.below (by repeat (first | (with_reducible assumption) | (with_reducible refine Box.at _ _ (by first | omega | (simp; done) | (simp; omega))) | (with_reducible refine Box.drew ?_) | (with_reducible refine Box.alloc ?_ _) | (with_reducible refine Box.other ?_ _ _ _ (by first | omega | (simp; done) | (simp; omega))) | (refine Box.below ?_ hb2 (by first | omega | (simp; done) | (simp; omega))) | (refine Box.below ?_ hb3 (by first | omega | (simp; done) | (simp; omega))))) hb3 (by first | omega | (simp; done) | (simp; omega))
      have hw3 : Below w.heap.size w w3 := (by repeat (first | (with_reducible exact Below.refl _ _) | (with_reducible assumption) | (with_reducible refine Below.drew ?_) | (with_reducible refine below_drewN ?_ _) | (with_reducible refine Below.alloc ?_ (by first | omega | (simp; done) | (simp; omega)) _) | (with_reducible refine Below.setCell ?_ (by first | omega | (simp; done) | (simp; omega)) _) | (with_reducible refine Below.trans ?_ (Below.mono (by assumption) (by first | omega | (simp; done) | (simp; omega))))))
      obtain ⟨s1, c1, s2, c2, rfl, o1, o2, hap⟩ := hn
      have J : Hid (notchF a k = joinF a ⟨a.id, a.hs, [k], [k]⟩) := by show notchF a k = _; unfold notchF; rw [if_pos HK.out, if_pos HK2.out]
      have r0 : w3.cell? ⟨w.heap.size + 1, 0, none⟩ = some (.int .i64 0) := br3.cell 0
      have r1 : w3.cell? ⟨w.heap.size + 1, 1, none⟩ = some (.int .i64 0) := br3.cell 1
      have r2 : w3.cell? ⟨w.heap.size + 1, 2, none⟩ = some (.slice none 0 0) := br3.cell 2
      have r3 : w3.cell? ⟨w.heap.size + 1, 3, none⟩ = some (.slice none 0 0) := br3.cell 3
      have k0 := br3.frozen 0; have k1 := br3.frozen 1; have k2 := br3.frozen 2; have k3 := br3.frozen 3
      have O1 := hid o1; have O2 := hid o2; clear o1 o2
      generalize joinF a ⟨a.id, a.hs, [k], [k]⟩ = r at *
      go_wp2_with fail
      refine bodyPost_ret (v := .tuple #[.agg #[.int .i64 r.1.id, .int .i64 r.1.hs, .slice s1 r.1.st.length c1, .slice s2 r.1.fo.length c2], .int .i64 r.2]) (by simp [results, Tryd.results20, go_sem, r0, r1, r2, r3]) rfl ?_
      rw [J.out]
      refine ⟨_, rfl, (by repeat (first | (with_reducible exact Below.refl _ _) | (with_reducible assumption) | (with_reducible refine Below.drew ?_) | (with_reducible refine below_drewN ?_ _) | (with_reducible refine Below.alloc ?_ (by first | omega | (simp; done) | (simp; omega)) _) | (with_reducible refine Below.setCell ?_ (by first | omega | (simp; done) | (simp; omega)) _) | (with_reducible refine Below.trans ?_ (Below.mono (by assumption) (by first | omega | (simp; done) | (simp; omega)))))), s1, c1, s2, c2, rfl, ?_, ?_, hap⟩
      · exact own_base (base := w.heap.size + 2) (own_other (own_other (own_other (own_other (own_base O1.out (by first | omega | (simp; done) | (simp; omega))) (by first | omega | (simp; done) | (simp; omega))) (by first | omega | (simp; done) | (simp; omega))) (by first | omega | (simp; done) | (simp; omega))) (by first | omega | (simp; done) | (simp; omega))) (by first | omega | (simp; done) | (simp; omega))
      · exact own_base (base := w.heap.size + 2) (own_other (own_other (own_other (own_other (own_base O2.out (by first | omega | (simp; done) | (simp; omega))) (by first | omega | (simp; done) | (simp; omega))) (by first | omega | (simp; done) | (simp; omega))) (by first | omega | (simp; done) | (simp; omega))) (by first | omega | (simp; done) | (simp; omega))) (by first | omega | (simp; done) | (simp; omega))
    · have hk' : okN [k] = false := by simpa using hk
      have J : Hid (notchF a k = (zeroT, 72)) := by show notchF a k = _; unfold notchF; rw [if_pos HK.out, hk']; rfl
      have r0 := br2.cell 0; have r1 := br2.cell 1; have r2 := br2.cell 2; have r3 := br2.cell 3
      have k0 := br2.frozen 0; have k1 := br2.frozen 1; have k2 := br2.frozen 2; have k3 := br2.frozen 3
      simp at r0 r1 r2 r3
      clear hk
      go_wp2_with fail
      refine bodyPost_ret (v := .tuple #[.agg #[.int .i64 0, .int .i64 0, .slice none 0 0, .slice none 0 0], .int .i64 72]) (by simp [results, Tryd.results20, go_sem, r0, r1, r2, r3]) rfl ?_
      rw [J.out]
      exact ⟨_, rfl, (by repeat (first | (with_reducible exact Below.refl _ _) | (with_reducible assumption) | (with_reducible refine Below.drew ?_) | (with_reducible refine below_drewN ?_ _) | (with_reducible refine Below.alloc ?_ (by first | omega | (simp; done) | (simp; omega)) _) | (with_reducible refine Below.setCell ?_ (by first | omega | (simp; done) | (simp; omega)) _) | (with_reducible refine Below.trans ?_ (Below.mono (by assumption) (by first | omega | (simp; done) | (simp; omega)))))), NewT.zero _ _⟩
  · have hok' : okT a.id a.hs a.st a.fo = false := by simpa [Tl.ok] using hok
    have t1 : (errT (okT a.id a.hs a.st a.fo) != 0) = true := by rw [hok']; rfl
    have J : Hid (notchF a k = (zeroT, 70)) := by show notchF a k = _; unfold notchF; rw [if_neg hok]
    have K := hid hok'; clear hok hok'
    have r0 := br.cell 0; have r1 := br.cell 1; have r2 := br.cell 2; have r3 := br.cell 3
    have k0 := br.frozen 0; have k1 := br.frozen 1; have k2 := br.frozen 2; have k3 := br.frozen 3
    simp at r0 r1 r2 r3
    go_wp2_with fail
    refine bodyPost_ret (v := .tuple #[.agg #[.int .i64 0, .int .i64 0, .slice none 0 0, .slice none 0 0], .int .i64 70]) (by simp [results, Tryd.results20, go_sem, r0, r1, r2, r3, K.out, errT]) rfl ?_
    rw [J.out]
    exact ⟨_, rfl, (by repeat (first | (with_reducible exact Below.refl _ _) | (with_reducible assumption) | (with_reducible refine Below.drew ?_) | (with_reducible refine below_drewN ?_ _) | (with_reducible refine Below.alloc ?_ (by first | omega | (simp; done) | (simp; omega)) _) | (with_reducible refine Below.setCell ?_ (by first | omega | (simp; done) | (simp; omega)) _) | (with_reducible refine Below.trans ?_ (Below.mono (by assumption) (by first | omega | (simp; done) | (simp; omega)))))), NewT.zero _ _⟩
end Go.Proofs.YthddoikmgpgakaaDoor
