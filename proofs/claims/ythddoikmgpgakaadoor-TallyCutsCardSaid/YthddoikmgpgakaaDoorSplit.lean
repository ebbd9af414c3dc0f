/- 'Split': both pieces of a tally, in new memory, by the program. -/
import Derived.Test.YthddoikmgpgakaaDoorProg
import Derived.Test.YthddoikmgpgakaaDoorBase
import Derived.Outline
import Derived.RangeFuncNested
import Derived.Shelf.Abstract
import Derived.Deep.QuietTactic
import Derived.BigQuiet
import Derived.Deep.RegionHeld3
import Derived.WalkSmall
import Derived.Laws.EntriesVeiled
import Derived.Test.YthddoikmgpgakaaDoorCopied
import Derived.Test.YthddoikmgpgakaaDoorRefWhere
namespace Go.Proofs.YthddoikmgpgakaaDoor
open Go.RowKit Go.Proofs Go.Shelf

/-- Both pieces, and the error. -/
def splitF (a : Tl) (i j : Int) : Tl × Tl × Int :=
  if a.ok then if (0 ≤ i ∧ i ≤ a.st.length) ∧ (0 ≤ j ∧ j ≤ a.fo.length) then (⟨a.id, a.hs, a.st.take i.toNat, a.fo.take j.toNat⟩, ⟨a.id, a.hs, a.st.drop i.toNat, a.fo.drop j.toNat⟩, 0) else (zeroT, zeroT, 73) else (zeroT, zeroT, 70)

/-- A tally in new memory, its blocks from B on and below X. -/
def NewB (B X : Nat) (w : World) (v : Value) (t : Tl) : Prop := ∃ sa sc fa fc, v = .agg #[.int .i64 t.id, .int .i64 t.hs, .slice sa t.st.length sc, .slice fa t.fo.length fc] ∧
  w.ownsRow B 3 1 (.slice sa t.st.length sc) t.st.length (t.st.map (Value.int .i64)) ∧ w.ownsRow B 3 1 (.slice fa t.fo.length fc) t.fo.length (t.fo.map (Value.int .i64)) ∧ ApartV (.slice sa t.st.length sc) (.slice fa t.fo.length fc) ∧
  (∀ g, (Value.slice sa t.st.length sc).ownBlock = some g → g < X) ∧ (∀ g, (Value.slice fa t.fo.length fc).ownBlock = some g → g < X)
theorem NewT.newB {B : Nat} {w : World} {v : Value} {t : Tl} (h : NewT B w v t) : NewB B w.heap.size w v t := by
  obtain ⟨sa, sc, fa, fc, hv, h1, h2, h3⟩ := h
  exact ⟨sa, sc, fa, fc, hv, h1, h2, h3, fun g hg => (h1.lt g hg).2, fun g hg => (h2.lt g hg).2⟩
theorem NewB.zero (B X : Nat) (w : World) : NewB B X w (.agg #[.int .i64 0, .int .i64 0, .slice none 0 0, .slice none 0 0]) zeroT :=
  ⟨none, 0, none, 0, rfl, World.ownsRow_nil _ _ _ _, World.ownsRow_nil _ _ _ _, fun g h => (by cases h), fun g h => (by cases h), fun g h => (by cases h)⟩
theorem NewB.base {B B' X : Nat} {w : World} {v : Value} {t : Tl} (h : NewB B X w v t) (hB : B' ≤ B) : NewB B' X w v t := by
  obtain ⟨sa, sc, fa, fc, hv, h1, h2, h3⟩ := h
  exact ⟨sa, sc, fa, fc, hv, own_base h1 hB, own_base h2 hB, h3⟩
theorem NewB.below {B B' X : Nat} {w w' : World} {v : Value} {t : Tl} (h : NewB B X w v t) (hb : Below B' w w') (hB : w.heap.size ≤ B') : NewB B X w' v t := by
  obtain ⟨sa, sc, fa, fc, hv, h1, h2, h3⟩ := h
  exact ⟨sa, sc, fa, fc, hv, own_below h1 hb hB, own_below h2 hb hB, h3⟩
theorem NewB.set {B X : Nat} {w : World} {v : Value} {t : Tl} (h : NewB B X w v t) {b j : Nat} (hb : b < B) (u : Value) : NewB B X (w.setCell ⟨b, j, none⟩ u) v t := by
  obtain ⟨sa, sc, fa, fc, hv, h1, h2, h3⟩ := h
  exact ⟨sa, sc, fa, fc, hv, own_other h1 hb, own_other h2 hb, h3⟩
theorem NewT.set {B : Nat} {w : World} {v : Value} {t : Tl} (h : NewT B w v t) {b j : Nat} (hb : b < B) (u : Value) : NewT B (w.setCell ⟨b, j, none⟩ u) v t := by
  obtain ⟨sa, sc, fa, fc, hv, h1, h2, h3⟩ := h
  exact ⟨sa, sc, fa, fc, hv, own_other h1 hb, own_other h2 hb, h3⟩
theorem NewT.set4 {B : Nat} {w : World} {v : Value} {t : Tl} (h : NewT B w v t) {b : Nat} (hb : b < B) (u0 u1 u2 u3 : Value) : NewT B ((((w.setCell ⟨b, 0, none⟩ u0).setCell ⟨b, 1, none⟩ u1).setCell ⟨b, 2, none⟩ u2).setCell ⟨b, 3, none⟩ u3) v t := (((h.set hb _).set hb _).set hb _).set hb _
theorem NewB.set4 {B X : Nat} {w : World} {v : Value} {t : Tl} (h : NewB B X w v t) {b : Nat} (hb : b < B) (u0 u1 u2 u3 : Value) : NewB B X ((((w.setCell ⟨b, 0, none⟩ u0).setCell ⟨b, 1, none⟩ u1).setCell ⟨b, 2, none⟩ u2).setCell ⟨b, 3, none⟩ u3) v t := (((h.set hb _).set hb _).set hb _).set hb _
theorem NewT.drew {B : Nat} {w : World} {v : Value} {t : Tl} (h : NewT B w v t) : NewT B w.drew v t := h
theorem NewB.drew {B X : Nat} {w : World} {v : Value} {t : Tl} (h : NewB B X w v t) : NewB B X w.drew v t := h
theorem box_oth4 {w : World} {b b' : Nat} {cs : Array Value} {t : TypeId} (h : Box w b cs t) (hne : b ≠ b') (u0 u1 u2 u3 : Value) : Box ((((w.setCell ⟨b', 0, none⟩ u0).setCell ⟨b', 1, none⟩ u1).setCell ⟨b', 2, none⟩ u2).setCell ⟨b', 3, none⟩ u3) b cs t :=
  (((h.other _ _ _ hne).other _ _ _ hne).other _ _ _ hne).other _ _ _ hne
theorem box_oth2 {w : World} {b b' j k : Nat} {cs : Array Value} {t : TypeId} (h : Box w b cs t) (hne : b ≠ b') (u0 u1 : Value) : Box ((w.setCell ⟨b', j, none⟩ u0).setCell ⟨b', k, none⟩ u1) b cs t :=
  (h.other _ _ _ hne).other _ _ _ hne
/-- A tally written into a block. -/
theorem box_put4 {w : World} {b : Nat} {t : TypeId} {u0 u1 u2 u3 : Value} (v0 v1 v2 v3 : Value) (h : Box w b #[u0, u1, u2, u3] t) : Box ((((w.setCell ⟨b, 0, none⟩ v0).setCell ⟨b, 1, none⟩ v1).setCell ⟨b, 2, none⟩ v2).setCell ⟨b, 3, none⟩ v3) b #[v0, v1, v2, v3] t := by
  have := (((h.set 0 v0).set 1 v1).set 2 v2).set 3 v3
  simpa using this
theorem box_four {w : World} {b : Nat} {t : TypeId} {v0 v1 v2 v3 : Value} (h : Box w b #[v0, v1, v2, v3] t) :
    (w.cell? ⟨b, 0, none⟩ = some v0 ∧ w.cell? ⟨b, 1, none⟩ = some v1 ∧ w.cell? ⟨b, 2, none⟩ = some v2 ∧ w.cell? ⟨b, 3, none⟩ = some v3) ∧ (w.frozen? ⟨b, 0, none⟩ = false ∧ w.frozen? ⟨b, 1, none⟩ = false ∧ w.frozen? ⟨b, 2, none⟩ = false ∧ w.frozen? ⟨b, 3, none⟩ = false) ∧ b < w.heap.size :=
  ⟨⟨h.cell 0, h.cell 1, h.cell 2, h.cell 3⟩, ⟨h.frozen 0, h.frozen 1, h.frozen 2, h.frozen 3⟩, h.lt⟩

set_option maxRecDepth 20000 in
set_option maxHeartbeats 4000000 in
theorem split_any (a : Tl) (i j : Int) (sa fa : Option Addr) (sc fc : Nat) (w : World) (ht : Tab w) (hl : a.st.length ≤ 1000) (hl2 : a.fo.length ≤ 1000) (hc : a.st.length ≤ sc) (hc2 : a.fo.length ≤ fc) (h1 : RdI w sa a.st) (h2 : RdI w fa a.fo) :
    Calls Tryd.prog 28 #[.agg #[.int .i64 a.id, .int .i64 a.hs, .slice sa a.st.length sc, .slice fa a.fo.length fc], .int .i64 i, .int .i64 j] w
      fun e w' => ∃ v u X, e = .returned (.tuple #[v, u, .int .i64 (splitF a i j).2.2]) ∧ Below w.heap.size w w' ∧ NewB w.heap.size X w' v (splitF a i j).1 ∧ w.heap.size ≤ X ∧ NewT X w' u (splitF a i j).2.1 := by
  have H1 := hid h1; have H2 := hid h2; clear h1 h2
  have HT := hid ht; clear ht
  have hm := mixed
  go_enter Tryd.func28, Tryd.ntmps28
  go_wp2_with fail
  refine (check_any _ _ _ _ _ _ _ _ _ (HT.out.below (by repeat (first | (with_reducible exact Below.refl _ _) | (with_reducible assumption) | (with_reducible refine Below.drew ?_) | (with_reducible refine below_drewN ?_ _) | (with_reducible refine Below.alloc ?_ (by first | omega | (simp; done) | (simp; omega)) _) | (with_reducible refine Below.setCell ?_ (by first | omega | (simp; done) | (simp; omega)) _) | (with_reducible refine Below.trans ?_ (Below.mono (by assumption) (by first | omega | (simp; done) | (simp; omega))))))) (by omega) (by omega) (H1.out.below (by repeat (first | (with_reducible exact Below.refl _ _) | (with_reducible assumption) | (with_reducible refine Below.drew ?_) | (with_reducible refine below_drewN ?_ _) | (with_reducible refine Below.alloc ?_ (by first | omega | (simp; done) | (simp; omega)) _) | (with_reducible refine Below.setCell ?_ (by first | omega | (simp; done) | (simp; omega)) _) | (with_reducible refine Below.trans ?_ (Below.mono (by assumption) (by first | omega | (simp; done) | (simp; omega))))))) (H2.out.below (by repeat (first | (with_reducible exact Below.refl _ _) | (with_reducible assumption) | (with_reducible refine Below.drew ?_) | (with_reducible refine below_drewN ?_ _) | (with_reducible refine Below.alloc ?_ (by first | omega | (simp; done) | (simp; omega)) _) | (with_reducible refine Below.setCell ?_ (by first | omega | (simp; done) | (simp; omega)) _) | (with_reducible refine Below.trans ?_ (Below.mono (by assumption) (by first | omega | (simp; done) | (simp; omega)))))))).mono ?_
  rintro e w1 ⟨rfl, hb1⟩
  have hz1 := hb1.size
  simp only [World.size_alloc] at hz1
  have bx := Box.below (w' := w1) (((Box.new w #[.int .i64 a.id, .int .i64 a.hs, .slice sa a.st.length sc, .slice fa a.fo.length fc] 24).alloc (.cells #[.int .i64 0, .int .i64 0, .slice none 0 0, .slice none 0 0] 24)).alloc (.cells #[.int .i64 0, .int .i64 0, .slice none 0 0, .slice none 0 0] 24)) hb1 (by simp; omega)
  have b6 := Box.below (w' := w1) ((Box.at (w := w.alloc (.cells #[.int .i64 a.id, .int .i64 a.hs, .slice sa a.st.length sc, .slice fa a.fo.length fc] 24)) (n := w.heap.size + 1) #[.int .i64 0, .int .i64 0, .slice none 0 0, .slice none 0 0] 24 (by simp)).alloc (.cells #[.int .i64 0, .int .i64 0, .slice none 0 0, .slice none 0 0] 24)) hb1 (by simp)
  have b7 := Box.below (w' := w1) (Box.at (w := (w.alloc (.cells #[.int .i64 a.id, .int .i64 a.hs, .slice sa a.st.length sc, .slice fa a.fo.length fc] 24)).alloc (.cells #[.int .i64 0, .int .i64 0, .slice none 0 0, .slice none 0 0] 24)) (n := w.heap.size + 1 + 1) #[.int .i64 0, .int .i64 0, .slice none 0 0, .slice none 0 0] 24 (by simp)) hb1 (by simp)
  have hbw : Below w.heap.size w w1 := (by repeat (first | (with_reducible exact Below.refl _ _) | (with_reducible assumption) | (with_reducible refine Below.drew ?_) | (with_reducible refine below_drewN ?_ _) | (with_reducible refine Below.alloc ?_ (by first | omega | (simp; done) | (simp; omega)) _) | (with_reducible refine Below.setCell ?_ (by first | omega | (simp; done) | (simp; omega)) _) | (with_reducible refine Below.trans ?_ (Below.mono (by assumption) (by first | omega | (simp; done) | (simp; omega))))))
  have BX := hid bx; have B6 := hid b6; have B7 := hid b7
  obtain ⟨⟨c0, c1, c2, c3⟩, ⟨k0, k1, k2, k3⟩, lx⟩ := box_four bx
  obtain ⟨⟨c60, c61, c62, c63⟩, ⟨k60, k61, k62, k63⟩, l6⟩ := box_four b6
  obtain ⟨⟨c70, c71, c72, c73⟩, ⟨k70, k71, k72, k73⟩, l7⟩ := box_four b7
  clear bx b6 b7
  have HB := hid hbw; clear hbw hb1
  by_cases hok : okT a.id a.hs a.st a.fo = true
  · have t1 : (errT (okT a.id a.hs a.st a.fo) != 0) = false := by rw [hok]; rfl
    have HK := hid hok; clear hok
    go_wp2_with fail
    refine (in_any 0 a.st.length _ _ [i] _ (by simp) ?_).mono ?_
    · intro i hi
      match i, hi with
      | 0, _ => exact ⟨_, _, rfl, by simp [go_sem]⟩
    rintro e w2 ⟨rfl, hb2⟩
    have hz2 := hb2.size
    simp only [World.size_alloc] at hz2
    have hbw2 : Below w.heap.size w w2 := (HB.out.alloc HB.out.size _).trans (hb2.mono (by simp; omega))
    have bx := (BX.out.alloc (.cells #[.int .i64 i] 3)).below hb2 (by simp; omega)
    have b6 := (B6.out.alloc (.cells #[.int .i64 i] 3)).below hb2 (by simp; omega)
    have b7 := (B7.out.alloc (.cells #[.int .i64 i] 3)).below hb2 (by simp; omega)
    clear BX B6 B7 HB c0 c1 c2 c3 k0 k1 k2 k3 lx c60 c61 c62 c63 k60 k61 k62 k63 l6 c70 c71 c72 c73 k70 k71 k72 k73 l7
    have BX := hid bx; have B6 := hid b6; have B7 := hid b7
    obtain ⟨⟨c0, c1, c2, c3⟩, ⟨k0, k1, k2, k3⟩, lx⟩ := box_four bx
    obtain ⟨⟨c60, c61, c62, c63⟩, ⟨k60, k61, k62, k63⟩, l6⟩ := box_four b6
    obtain ⟨⟨c70, c71, c72, c73⟩, ⟨k70, k71, k72, k73⟩, l7⟩ := box_four b7
    clear bx b6 b7
    have HB := hid hbw2; clear hbw2 hb2
    by_cases hin : 0 ≤ i ∧ i ≤ a.st.length
    · have hall : ([i].all fun n => decide (0 ≤ n) && decide (n ≤ (a.st.length : Int))) = true := by simp; omega
      rw [hall]
      clear hall
      go_wp2_with fail
      refine (in_any 0 a.fo.length _ _ [j] _ (by simp) ?_).mono ?_
      · intro i hi
        match i, hi with
        | 0, _ => exact ⟨_, _, rfl, by simp [go_sem]⟩
      rintro e w3 ⟨rfl, hb3⟩
      have hz3 := hb3.size
      simp only [World.size_alloc] at hz3
      have hbw3 : Below w.heap.size w w3 := (HB.out.alloc HB.out.size _).trans (hb3.mono (by simp; omega))
      have bx := (BX.out.alloc (.cells #[.int .i64 j] 3)).below hb3 (by simp; omega)
      have b6 := (B6.out.alloc (.cells #[.int .i64 j] 3)).below hb3 (by simp; omega)
      have b7 := (B7.out.alloc (.cells #[.int .i64 j] 3)).below hb3 (by simp; omega)
      clear BX B6 B7 HB c0 c1 c2 c3 k0 k1 k2 k3 lx c60 c61 c62 c63 k60 k61 k62 k63 l6 c70 c71 c72 c73 k70 k71 k72 k73 l7
      have BX := hid bx; have B6 := hid b6; have B7 := hid b7
      obtain ⟨⟨c0, c1, c2, c3⟩, ⟨k0, k1, k2, k3⟩, lx⟩ := box_four bx
      obtain ⟨⟨c60, c61, c62, c63⟩, ⟨k60, k61, k62, k63⟩, l6⟩ := box_four b6
      obtain ⟨⟨c70, c71, c72, c73⟩, ⟨k70, k71, k72, k73⟩, l7⟩ := box_four b7
      clear bx b6 b7
      have HB := hid hbw3; clear hbw3 hb3
      by_cases hjn : 0 ≤ j ∧ j ≤ a.fo.length
      · have hall : ([j].all fun n => decide (0 ≤ n) && decide (n ≤ (a.fo.length : Int))) = true := by simp; omega
        rw [hall]
        clear hall
        have e0 : splitF a i j = (⟨a.id, a.hs, a.st.take i.toNat, a.fo.take j.toNat⟩, ⟨a.id, a.hs, a.st.drop i.toNat, a.fo.drop j.toNat⟩, 0) := by unfold splitF Tl.ok; rw [HK.out, if_pos rfl, if_pos ⟨hin, hjn⟩]
        have E0 := hid e0; clear e0
        obtain ⟨n, rfl⟩ : ∃ n : Nat, i = n := ⟨i.toNat, by omega⟩
        obtain ⟨m, rfl⟩ : ∃ m : Nat, j = m := ⟨j.toNat, by omega⟩
        have hn : n ≤ a.st.length := by omega
        have hmm : m ≤ a.fo.length := by omega
        have hnc : n ≤ sc := by omega
        have hmc : m ≤ fc := by omega
        clear hin hjn
        rw [show ((n : Int)).toNat = n from Int.toNat_natCast n, show ((m : Int)).toNat = m from Int.toNat_natCast m] at E0
        go_wp2_with fail
        refine wp_region_F [0, 1] (fun w' => w'.cell? ⟨w.heap.size, 0, none⟩ = some (.int .i64 a.id) ∧ w'.cell? ⟨w.heap.size, 1, none⟩ = some (.int .i64 a.hs) ∧ w'.cell? ⟨w.heap.size, 2, none⟩ = some (.slice sa a.st.length sc) ∧ w'.cell? ⟨w.heap.size, 3, none⟩ = some (.slice fa a.fo.length fc)) hm ⟨by go_simp, by go_simp, by go_simp, by go_simp⟩ ?_
        intro hS0; have hS := hid hS0; clear hS0
        (apply wpAnyF_held (i := 0) rfl (by kernel_rfl) (fun _ _ _ h => h) hS.out; · first | exact .inr ⟨rfl, rfl⟩ | exact .inl ⟨rfl, fun w' hS' => by (obtain ⟨s1, s2, s3, s4⟩ := hS'; go_simp; rfl)⟩); simp only [Act.put, List.setIfInBounds_toArray, List.set_cons_succ, List.set_cons_zero, List.getElem_toArray, List.getElem_cons_succ, List.getElem_cons_zero]
        (apply wpAnyF_held (i := 1) rfl (by kernel_rfl) (fun _ _ _ h => h) hS.out; · first | exact .inr ⟨rfl, rfl⟩ | exact .inl ⟨rfl, fun w' hS' => by (obtain ⟨s1, s2, s3, s4⟩ := hS'; go_simp; rfl)⟩); simp only [Act.put, List.setIfInBounds_toArray, List.set_cons_succ, List.set_cons_zero, List.getElem_toArray, List.getElem_cons_succ, List.getElem_cons_zero]
        refine wpAnyF_one (i := 2) rfl ⟨by kernel_rfl, by kernel_rfl⟩ ?_
        intro K hK
        go_simp
        refine shutS hK (by obtain ⟨s1, s2, s3, s4⟩ := hS.out; exact ⟨by go_simp, by go_simp, by go_simp, by go_simp⟩) (fun hS => ?_)
        refine wpAnyF_one (i := 3) rfl ⟨by kernel_rfl, by kernel_rfl⟩ ?_
        intro K hK
        go_simp
        refine shutN hK (by kernel_rfl) ?_
        refine wpAnyF_done (by kernel_rfl) ?_ _
        have HBo := HB.out
        refine wp_goal (fun W => Box W w.heap.size #[.int .i64 a.id, .int .i64 a.hs, .slice sa a.st.length sc, .slice fa a.fo.length fc] 24 ∧ Box W (w.heap.size + 1) #[.int .i64 a.id, .int .i64 a.hs, .slice sa a.st.length sc, .slice fa a.fo.length fc] 24 ∧ Box W (w.heap.size + 1 + 1) #[.int .i64 a.id, .int .i64 a.hs, .slice sa a.st.length sc, .slice fa a.fo.length fc] 24 ∧ Below w.heap.size w W) ⟨(box_oth4 (box_oth4 BX.out (by omega) _ _ _ _) (by omega) _ _ _ _).drew, (box_oth4 (box_put4 _ _ _ _ B6.out) (by omega) _ _ _ _).drew, (box_put4 _ _ _ _ (box_oth4 B7.out (by omega) _ _ _ _)).drew, (by repeat (first | (with_reducible exact Below.refl _ _) | (with_reducible assumption) | (with_reducible refine Below.drew ?_) | (with_reducible refine below_drewN ?_ _) | (with_reducible refine Below.alloc ?_ (by first | omega | (simp; done) | (simp; omega)) _) | (with_reducible refine Below.setCell ?_ (by first | omega | (simp; done) | (simp; omega)) _) | (with_reducible refine Below.trans ?_ (Below.mono (by assumption) (by first | omega | (simp; done) | (simp; omega))))))⟩ ?_
        clear HBo
        clear hS BX B6 B7 HB c0 c1 c2 c3 k0 k1 k2 k3 lx c60 c61 c62 c63 k60 k61 k62 k63 l6 c70 c71 c72 c73 k70 k71 k72 k73 l7
        rintro W6 ⟨bx, b6, b7, hbW⟩
        have BX := hid bx; have B6 := hid b6; have B7 := hid b7
        obtain ⟨⟨c0, c1, c2, c3⟩, ⟨k0, k1, k2, k3⟩, lx⟩ := box_four bx
        obtain ⟨⟨c60, c61, c62, c63⟩, ⟨k60, k61, k62, k63⟩, l6⟩ := box_four b6
        obtain ⟨⟨c70, c71, c72, c73⟩, ⟨k70, k71, k72, k73⟩, l7⟩ := box_four b7
        have HB := hid hbW
        clear bx b6 b7 hbW
        go_wp2_with fail
        refine wp_region_F [1, 5] (fun w' => w'.cell? ⟨w.heap.size, 2, none⟩ = some (.slice sa a.st.length sc) ∧ w'.cell? ⟨w.heap.size, 3, none⟩ = some (.slice fa a.fo.length fc)) hm ⟨by go_simp, by go_simp⟩ ?_
        intro hS0; have hS := hid hS0; clear hS0
        (apply wpAnyF_pure (i := 0) rfl (by kernel_rfl) (fun _ _ _ h => h); · first | exact .inr ⟨rfl, rfl⟩ | exact .inl ⟨rfl, fun w' => by go_simp; rfl⟩); simp only [Act.put, List.setIfInBounds_toArray, List.set_cons_succ, List.set_cons_zero, List.getElem_toArray, List.getElem_cons_succ, List.getElem_cons_zero]
        (apply wpAnyF_held (i := 1) rfl (by kernel_rfl) (fun _ _ _ h => h) hS.out; · first | exact .inr ⟨rfl, rfl⟩ | exact .inl ⟨rfl, fun w' hS' => by (obtain ⟨s1, s2⟩ := hS'; go_simp; rfl)⟩); simp only [Act.put, List.setIfInBounds_toArray, List.set_cons_succ, List.set_cons_zero, List.getElem_toArray, List.getElem_cons_succ, List.getElem_cons_zero]
        (apply wpAnyF_pure (i := 2) rfl (by kernel_rfl) (fun _ _ _ h => h); · first | exact .inr ⟨rfl, rfl⟩ | exact .inl ⟨rfl, fun w' => by go_simp; rfl⟩); simp only [Act.put, List.setIfInBounds_toArray, List.set_cons_succ, List.set_cons_zero, List.getElem_toArray, List.getElem_cons_succ, List.getElem_cons_zero]
        (apply wpAnyF_pure (i := 3) rfl (by kernel_rfl) (fun _ _ _ h => h); · first | exact .inr ⟨rfl, rfl⟩ | exact .inl ⟨rfl, fun w' => by go_simp; rfl⟩); simp only [Act.put, List.setIfInBounds_toArray, List.set_cons_succ, List.set_cons_zero, List.getElem_toArray, List.getElem_cons_succ, List.getElem_cons_zero]
        (apply wpAnyF_pure (i := 4) rfl (by kernel_rfl) (fun _ _ _ h => h); · first | exact .inr ⟨rfl, rfl⟩ | exact .inl ⟨rfl, fun w' => by go_simp; rfl⟩); simp only [Act.put, List.setIfInBounds_toArray, List.set_cons_succ, List.set_cons_zero, List.getElem_toArray, List.getElem_cons_succ, List.getElem_cons_zero]
        (apply wpAnyF_held (i := 5) rfl (by kernel_rfl) (fun _ _ _ h => h) hS.out; · first | exact .inr ⟨rfl, rfl⟩ | exact .inl ⟨rfl, fun w' hS' => by (obtain ⟨s1, s2⟩ := hS'; go_simp; rfl)⟩); simp only [Act.put, List.setIfInBounds_toArray, List.set_cons_succ, List.set_cons_zero, List.getElem_toArray, List.getElem_cons_succ, List.getElem_cons_zero]
        (apply wpAnyF_pure (i := 6) rfl (by kernel_rfl) (fun _ _ _ h => h); · first | exact .inr ⟨rfl, rfl⟩ | exact .inl ⟨rfl, fun w' => by go_simp; rfl⟩); simp only [Act.put, List.setIfInBounds_toArray, List.set_cons_succ, List.set_cons_zero, List.getElem_toArray, List.getElem_cons_succ, List.getElem_cons_zero]
        (apply wpAnyF_pure (i := 7) rfl (by kernel_rfl) (fun _ _ _ h => h); · first | exact .inr ⟨rfl, rfl⟩ | exact .inl ⟨rfl, fun w' => by go_simp; rfl⟩); simp only [Act.put, List.setIfInBounds_toArray, List.set_cons_succ, List.set_cons_zero, List.getElem_toArray, List.getElem_cons_succ, List.getElem_cons_zero]
        (apply wpAnyF_pure (i := 8) rfl (by kernel_rfl) (fun _ _ _ h => h); · first | exact .inr ⟨rfl, rfl⟩ | exact .inl ⟨rfl, fun w' => by go_simp; rfl⟩); simp only [Act.put, List.setIfInBounds_toArray, List.set_cons_succ, List.set_cons_zero, List.getElem_toArray, List.getElem_cons_succ, List.getElem_cons_zero]
        refine wpAnyF_one (i := 9) rfl ⟨by kernel_rfl, by kernel_rfl⟩ ?_
        intro K hK
        go_simp
        refine shutS hK (by obtain ⟨s1, s2⟩ := hS.out; exact ⟨by go_simp, by go_simp⟩) (fun hS => ?_)
        (apply wpAnyF_pure (i := 10) rfl (by kernel_rfl) (fun _ _ _ h => h); · first | exact .inr ⟨rfl, rfl⟩ | exact .inl ⟨rfl, fun w' => by go_simp; rfl⟩); simp only [Act.put, List.setIfInBounds_toArray, List.set_cons_succ, List.set_cons_zero, List.getElem_toArray, List.getElem_cons_succ, List.getElem_cons_zero]
        refine wpAnyF_one (i := 11) rfl ⟨by kernel_rfl, by kernel_rfl⟩ ?_
        intro K hK
        go_simp
        refine shutN hK (by kernel_rfl) ?_
        refine wpAnyF_done (by kernel_rfl) ?_ _
        have HBo := HB.out
        refine wp_goal (fun W => Box W w.heap.size #[.int .i64 a.id, .int .i64 a.hs, .slice sa a.st.length sc, .slice fa a.fo.length fc] 24 ∧ Box W (w.heap.size + 1) #[.int .i64 a.id, .int .i64 a.hs, .slice sa n sc, .slice fa m fc] 24 ∧ Box W (w.heap.size + 1 + 1) #[.int .i64 a.id, .int .i64 a.hs, .slice sa a.st.length sc, .slice fa a.fo.length fc] 24 ∧ Below w.heap.size w W) ⟨(box_oth2 BX.out (by omega) _ _).drew, ((B6.out.set 2 _).set 3 _).drew, (box_oth2 B7.out (by omega) _ _).drew, (by repeat (first | (with_reducible exact Below.refl _ _) | (with_reducible assumption) | (with_reducible refine Below.drew ?_) | (with_reducible refine below_drewN ?_ _) | (with_reducible refine Below.alloc ?_ (by first | omega | (simp; done) | (simp; omega)) _) | (with_reducible refine Below.setCell ?_ (by first | omega | (simp; done) | (simp; omega)) _) | (with_reducible refine Below.trans ?_ (Below.mono (by assumption) (by first | omega | (simp; done) | (simp; omega))))))⟩ ?_
        clear HBo
        clear hS BX B6 B7 HB c0 c1 c2 c3 k0 k1 k2 k3 lx c60 c61 c62 c63 k60 k61 k62 k63 l6 c70 c71 c72 c73 k70 k71 k72 k73 l7
        rintro W7 ⟨bx, b6, b7, hbW⟩
        have BX := hid bx; have B6 := hid b6; have B7 := hid b7
        obtain ⟨⟨c0, c1, c2, c3⟩, ⟨k0, k1, k2, k3⟩, lx⟩ := box_four bx
        obtain ⟨⟨c60, c61, c62, c63⟩, ⟨k60, k61, k62, k63⟩, l6⟩ := box_four b6
        obtain ⟨⟨c70, c71, c72, c73⟩, ⟨k70, k71, k72, k73⟩, l7⟩ := box_four b7
        have HB := hid hbW
        clear bx b6 b7 hbW
        go_wp2_with fail
        refine wp_region_F [1, 5] (fun w' => w'.cell? ⟨w.heap.size, 2, none⟩ = some (.slice sa a.st.length sc) ∧ w'.cell? ⟨w.heap.size, 3, none⟩ = some (.slice fa a.fo.length fc)) hm ⟨by go_simp, by go_simp⟩ ?_
        intro hS0; have hS := hid hS0; clear hS0
        (apply wpAnyF_pure (i := 0) rfl (by kernel_rfl) (fun _ _ _ h => h); · first | exact .inr ⟨rfl, rfl⟩ | exact .inl ⟨rfl, fun w' => by go_simp; rfl⟩); simp only [Act.put, List.setIfInBounds_toArray, List.set_cons_succ, List.set_cons_zero, List.getElem_toArray, List.getElem_cons_succ, List.getElem_cons_zero]
        (apply wpAnyF_held (i := 1) rfl (by kernel_rfl) (fun _ _ _ h => h) hS.out; · first | exact .inr ⟨rfl, rfl⟩ | exact .inl ⟨rfl, fun w' hS' => by (obtain ⟨s1, s2⟩ := hS'; go_simp; rfl)⟩); simp only [Act.put, List.setIfInBounds_toArray, List.set_cons_succ, List.set_cons_zero, List.getElem_toArray, List.getElem_cons_succ, List.getElem_cons_zero]
        (apply wpAnyF_pure (i := 2) rfl (by kernel_rfl) (fun _ _ _ h => h); · first | exact .inr ⟨rfl, rfl⟩ | exact .inl ⟨rfl, fun w' => by go_simp; rfl⟩); simp only [Act.put, List.setIfInBounds_toArray, List.set_cons_succ, List.set_cons_zero, List.getElem_toArray, List.getElem_cons_succ, List.getElem_cons_zero]
        (apply wpAnyF_pure (i := 3) rfl (by kernel_rfl) (fun _ _ _ h => h); · first | exact .inr ⟨rfl, rfl⟩ | exact .inl ⟨rfl, fun w' => by go_simp; rfl⟩); simp only [Act.put, List.setIfInBounds_toArray, List.set_cons_succ, List.set_cons_zero, List.getElem_toArray, List.getElem_cons_succ, List.getElem_cons_zero]
        (apply wpAnyF_pure (i := 4) rfl (by kernel_rfl) (fun _ _ _ h => h); · first | exact .inr ⟨rfl, rfl⟩ | exact .inl ⟨rfl, fun w' => by go_simp; rfl⟩); simp only [Act.put, List.setIfInBounds_toArray, List.set_cons_succ, List.set_cons_zero, List.getElem_toArray, List.getElem_cons_succ, List.getElem_cons_zero]
        (apply wpAnyF_held (i := 5) rfl (by kernel_rfl) (fun _ _ _ h => h) hS.out; · first | exact .inr ⟨rfl, rfl⟩ | exact .inl ⟨rfl, fun w' hS' => by (obtain ⟨s1, s2⟩ := hS'; go_simp; rfl)⟩); simp only [Act.put, List.setIfInBounds_toArray, List.set_cons_succ, List.set_cons_zero, List.getElem_toArray, List.getElem_cons_succ, List.getElem_cons_zero]
        (apply wpAnyF_pure (i := 6) rfl (by kernel_rfl) (fun _ _ _ h => h); · first | exact .inr ⟨rfl, rfl⟩ | exact .inl ⟨rfl, fun w' => by go_simp; rfl⟩); simp only [Act.put, List.setIfInBounds_toArray, List.set_cons_succ, List.set_cons_zero, List.getElem_toArray, List.getElem_cons_succ, List.getElem_cons_zero]
        (apply wpAnyF_pure (i := 7) rfl (by kernel_rfl) (fun _ _ _ h => h); · first | exact .inr ⟨rfl, rfl⟩ | exact .inl ⟨rfl, fun w' => by go_simp; rfl⟩); simp only [Act.put, List.setIfInBounds_toArray, List.set_cons_succ, List.set_cons_zero, List.getElem_toArray, List.getElem_cons_succ, List.getElem_cons_zero]
        (apply wpAnyF_pure (i := 8) rfl (by kernel_rfl) (fun _ _ _ h => h); · first | exact .inr ⟨rfl, rfl⟩ | exact .inl ⟨rfl, fun w' => by go_simp; rfl⟩); simp only [Act.put, List.setIfInBounds_toArray, List.set_cons_succ, List.set_cons_zero, List.getElem_toArray, List.getElem_cons_succ, List.getElem_cons_zero]
        refine wpAnyF_one (i := 9) rfl ⟨by kernel_rfl, by kernel_rfl⟩ ?_
        intro K hK
        go_simp
        refine shutS hK (by obtain ⟨s1, s2⟩ := hS.out; exact ⟨by go_simp, by go_simp⟩) (fun hS => ?_)
        (apply wpAnyF_pure (i := 10) rfl (by kernel_rfl) (fun _ _ _ h => h); · first | exact .inr ⟨rfl, rfl⟩ | exact .inl ⟨rfl, fun w' => by go_simp; rfl⟩); simp only [Act.put, List.setIfInBounds_toArray, List.set_cons_succ, List.set_cons_zero, List.getElem_toArray, List.getElem_cons_succ, List.getElem_cons_zero]
        refine wpAnyF_one (i := 11) rfl ⟨by kernel_rfl, by kernel_rfl⟩ ?_
        intro K hK
        go_simp
        refine shutN hK (by kernel_rfl) ?_
        refine wpAnyF_done (by kernel_rfl) ?_ _
        have HBo := HB.out
        rw [show (if sc = n then sa else Option.map (fun x => x.add n) sa) = dropA sa sc n from rfl, show (if fc = m then fa else Option.map (fun x => x.add m) fa) = dropA fa fc m from rfl]
        refine wp_goal (fun W => Box W w.heap.size #[.int .i64 a.id, .int .i64 a.hs, .slice sa a.st.length sc, .slice fa a.fo.length fc] 24 ∧ Box W (w.heap.size + 1) #[.int .i64 a.id, .int .i64 a.hs, .slice sa n sc, .slice fa m fc] 24 ∧ Box W (w.heap.size + 1 + 1) #[.int .i64 a.id, .int .i64 a.hs, .slice (dropA sa sc n) (a.st.length - n) (sc - n), .slice (dropA fa fc m) (a.fo.length - m) (fc - m)] 24 ∧ Below w.heap.size w W) ⟨(box_oth2 BX.out (by omega) _ _).drew, (box_oth2 B6.out (by omega) _ _).drew, ((B7.out.set 2 _).set 3 _).drew, (by repeat (first | (with_reducible exact Below.refl _ _) | (with_reducible assumption) | (with_reducible refine Below.drew ?_) | (with_reducible refine below_drewN ?_ _) | (with_reducible refine Below.alloc ?_ (by first | omega | (simp; done) | (simp; omega)) _) | (with_reducible refine Below.setCell ?_ (by first | omega | (simp; done) | (simp; omega)) _) | (with_reducible refine Below.trans ?_ (Below.mono (by assumption) (by first | omega | (simp; done) | (simp; omega))))))⟩ ?_
        clear HBo
        clear hS BX B6 B7 HB c0 c1 c2 c3 k0 k1 k2 k3 lx c60 c61 c62 c63 k60 k61 k62 k63 l6 c70 c71 c72 c73 k70 k71 k72 k73 l7
        rintro W8 ⟨bx, b6, b7, hbW⟩
        have BX := hid bx; have B6 := hid b6; have B7 := hid b7
        obtain ⟨⟨c0, c1, c2, c3⟩, ⟨k0, k1, k2, k3⟩, lx⟩ := box_four bx
        obtain ⟨⟨c60, c61, c62, c63⟩, ⟨k60, k61, k62, k63⟩, l6⟩ := box_four b6
        obtain ⟨⟨c70, c71, c72, c73⟩, ⟨k70, k71, k72, k73⟩, l7⟩ := box_four b7
        have HB := hid hbW
        clear bx b6 b7 hbW
        go_wp2_with fail
        refine wp_region_F [0, 2] (fun w' => (w'.cell? ⟨w.heap.size + 1, 0, none⟩ = some (.int .i64 a.id) ∧ w'.cell? ⟨w.heap.size + 1, 1, none⟩ = some (.int .i64 a.hs) ∧ w'.cell? ⟨w.heap.size + 1, 2, none⟩ = some (.slice sa n sc) ∧ w'.cell? ⟨w.heap.size + 1, 3, none⟩ = some (.slice fa m fc)) ∧ (w'.cell? ⟨w.heap.size + 1 + 1, 0, none⟩ = some (.int .i64 a.id) ∧ w'.cell? ⟨w.heap.size + 1 + 1, 1, none⟩ = some (.int .i64 a.hs) ∧ w'.cell? ⟨w.heap.size + 1 + 1, 2, none⟩ = some (.slice (dropA sa sc n) (a.st.length - n) (sc - n)) ∧ w'.cell? ⟨w.heap.size + 1 + 1, 3, none⟩ = some (.slice (dropA fa fc m) (a.fo.length - m) (fc - m)))) hm ⟨⟨by go_simp, by go_simp, by go_simp, by go_simp⟩, ⟨by go_simp, by go_simp, by go_simp, by go_simp⟩⟩ ?_
        intro hS0; have hS := hid hS0; clear hS0
        (apply wpAnyF_held (i := 0) rfl (by kernel_rfl) (fun _ _ _ h => h) hS.out; · first | exact .inr ⟨rfl, rfl⟩ | exact .inl ⟨rfl, fun w' hS' => by (obtain ⟨s1, s2⟩ := hS'; go_simp; rfl)⟩); simp only [Act.put, List.setIfInBounds_toArray, List.set_cons_succ, List.set_cons_zero, List.getElem_toArray, List.getElem_cons_succ, List.getElem_cons_zero]
        (apply wpAnyF_held (i := 2) rfl (by kernel_rfl) (fun _ _ _ h => h) hS.out; · first | exact .inr ⟨rfl, rfl⟩ | exact .inl ⟨rfl, fun w' hS' => by (obtain ⟨s1, s2⟩ := hS'; go_simp; rfl)⟩); simp only [Act.put, List.setIfInBounds_toArray, List.set_cons_succ, List.set_cons_zero, List.getElem_toArray, List.getElem_cons_succ, List.getElem_cons_zero]
        refine wpAnyF_one (i := 1) rfl ⟨by kernel_rfl, by kernel_rfl⟩ ?_
        intro K hK
        go_simp
        have q1 : (a.st.take n).length = n := List.length_take_of_le hn
        have q2 : (a.fo.take m).length = m := List.length_take_of_le hmm
        rw [show Value.slice sa n sc = .slice sa (a.st.take n).length sc by rw [q1], show Value.slice fa m fc = .slice fa (a.fo.take m).length fc by rw [q2]]
        refine (copied_any ⟨a.id, a.hs, a.st.take n, a.fo.take m⟩ sa fa sc fc W8.drew (by dsimp only; omega) (by dsimp only; omega) ((H1.out.below HB.out).take n).drew ((H2.out.below HB.out).take m).drew).mono ?_
        rintro e w9 ⟨v1, rfl, hb9, hN1⟩
        have hb9' : Below W8.heap.size W8 w9 := ⟨hb9.os, hb9.tape, hb9.output, hb9.size, hb9.block⟩
        have N1 := hid (show NewT W8.heap.size w9 v1 _ from hN1)
        have D6 := B6.out.below hb9' l6
        have D7 := B7.out.below hb9' l7
        refine shutS hK ⟨(box_four D6).1, (box_four D7).1⟩ (fun hS => ?_)
        refine wpAnyF_one (i := 3) rfl ⟨by kernel_rfl, by kernel_rfl⟩ ?_
        intro K hK
        go_simp
        have q3 : (a.st.drop n).length = a.st.length - n := List.length_drop
        have q4 : (a.fo.drop m).length = a.fo.length - m := List.length_drop
        rw [show Value.slice (dropA sa sc n) (a.st.length - n) (sc - n) = .slice (dropA sa sc n) (a.st.drop n).length (sc - n) by rw [q3], show Value.slice (dropA fa fc m) (a.fo.length - m) (fc - m) = .slice (dropA fa fc m) (a.fo.drop m).length (fc - m) by rw [q4]]
        refine (copied_any ⟨a.id, a.hs, a.st.drop n, a.fo.drop m⟩ (dropA sa sc n) (dropA fa fc m) (sc - n) (fc - m) w9 (by dsimp only; omega) (by dsimp only; omega) (((H1.out.below HB.out).dropA hc).below hb9') (((H2.out.below HB.out).dropA hc2).below hb9')).mono ?_
        rintro e w10 ⟨v2, rfl, hb10, hN2⟩
        have N2 := hid hN2
        have s9 := hb9'.size
        have E6 := D6.below hb10 (by omega)
        have E7 := D7.below hb10 (by omega)
        obtain ⟨⟨f60, f61, f62, f63⟩, ⟨g60, g61, g62, g63⟩, m6⟩ := box_four E6
        obtain ⟨⟨f70, f71, f72, f73⟩, ⟨g70, g71, g72, g73⟩, m7⟩ := box_four E7
        obtain ⟨sa1, sc1, fa1, fc1, hv1, _, _, _⟩ := hN1
        obtain ⟨sa2, sc2, fa2, fc2, hv2, _, _, _⟩ := hN2
        subst hv1 hv2
        dsimp only
        refine shutN hK (by kernel_rfl) ?_
        refine wpAnyF_one (i := 4) rfl ⟨by kernel_rfl, by kernel_rfl⟩ ?_
        intro K hK
        go_simp
        refine shutN hK (by kernel_rfl) ?_
        refine wpAnyF_one (i := 5) rfl ⟨by kernel_rfl, by kernel_rfl⟩ ?_
        intro K hK
        go_simp
        refine shutN hK (by kernel_rfl) ?_
        (apply wpAnyF_pure (i := 6) rfl (by kernel_rfl) (fun _ _ _ h => h); · first | exact .inr ⟨rfl, rfl⟩ | exact .inl ⟨rfl, fun w' => by go_simp; rfl⟩); simp only [Act.put, List.setIfInBounds_toArray, List.set_cons_succ, List.set_cons_zero, List.getElem_toArray, List.getElem_cons_succ, List.getElem_cons_zero]
        refine wpAnyF_done (by kernel_rfl) ?_ _
        have hbT := (HB.out.trans (hb9'.mono HB.out.size)).trans (hb10.mono (by have := HB.out.size; omega))
        have P1 := ((((N1.out.newB.below hb10 (Nat.le_refl _)).set4 (b := w.heap.size + 1) (by omega) (.int .i64 a.id) (.int .i64 a.hs) (.slice sa1 n sc1) (.slice fa1 m fc1)).set4 (b := w.heap.size + 1 + 1) (by omega) (.int .i64 a.id) (.int .i64 a.hs) (.slice sa2 (a.st.length - n) sc2) (.slice fa2 (a.fo.length - m) fc2))).base HB.out.size
        have P2 := (N2.out.set4 (b := w.heap.size + 1) (by omega) (.int .i64 a.id) (.int .i64 a.hs) (.slice sa1 n sc1) (.slice fa1 m fc1)).set4 (b := w.heap.size + 1 + 1) (by omega) (.int .i64 a.id) (.int .i64 a.hs) (.slice sa2 (a.st.length - n) sc2) (.slice fa2 (a.fo.length - m) fc2)
        dsimp only at P1 P2
        rw [List.length_take_of_le hn, List.length_take_of_le hmm] at P1
        rw [List.length_drop, List.length_drop] at P2
        have hX9 : w.heap.size ≤ w9.heap.size := by have := HB.out.size; omega
        refine wp_goal (fun W => Box W (w.heap.size + 1) #[.int .i64 a.id, .int .i64 a.hs, .slice sa1 n sc1, .slice fa1 m fc1] 24 ∧ Box W (w.heap.size + 1 + 1) #[.int .i64 a.id, .int .i64 a.hs, .slice sa2 (a.st.length - n) sc2, .slice fa2 (a.fo.length - m) fc2] 24 ∧ Below w.heap.size w W ∧ NewB w.heap.size w9.heap.size W (.agg #[.int .i64 a.id, .int .i64 a.hs, .slice sa1 n sc1, .slice fa1 m fc1]) ⟨a.id, a.hs, a.st.take n, a.fo.take m⟩ ∧ NewT w9.heap.size W (.agg #[.int .i64 a.id, .int .i64 a.hs, .slice sa2 (a.st.length - n) sc2, .slice fa2 (a.fo.length - m) fc2]) ⟨a.id, a.hs, a.st.drop n, a.fo.drop m⟩) ⟨box_oth4 (box_put4 _ _ _ _ E6) (by omega) _ _ _ _, box_put4 _ _ _ _ (box_oth4 E7 (by omega) _ _ _ _), (by repeat (first | (with_reducible exact Below.refl _ _) | (with_reducible assumption) | (with_reducible refine Below.drew ?_) | (with_reducible refine below_drewN ?_ _) | (with_reducible refine Below.alloc ?_ (by first | omega | (simp; done) | (simp; omega)) _) | (with_reducible refine Below.setCell ?_ (by first | omega | (simp; done) | (simp; omega)) _) | (with_reducible refine Below.trans ?_ (Below.mono (by assumption) (by first | omega | (simp; done) | (simp; omega)))))), P1, P2⟩ ?_
        clear hbT P1 P2 N1 N2 E6 E7 D6 D7 hb9' hb10 hb9 f60 f61 f62 f63 g60 g61 g62 g63 m6 f70 f71 f72 f73 g70 g71 g72 g73 m7
        clear hS BX B6 B7 HB c0 c1 c2 c3 k0 k1 k2 k3 lx c60 c61 c62 c63 k60 k61 k62 k63 l6 c70 c71 c72 c73 k70 k71 k72 k73 l7
        rintro W ⟨z6, z7, hbT, P1, P2⟩
        have P1' := hid P1; have P2' := hid P2; clear P1 P2
        obtain ⟨⟨f60, f61, f62, f63⟩, _, _⟩ := box_four z6
        obtain ⟨⟨f70, f71, f72, f73⟩, _, _⟩ := box_four z7
        have HZ := hid hbT; clear hbT z6 z7
        go_wp2_with fail
        refine bodyPost_ret (v := .tuple #[.agg #[.int .i64 a.id, .int .i64 a.hs, .slice sa1 n sc1, .slice fa1 m fc1], .agg #[.int .i64 a.id, .int .i64 a.hs, .slice sa2 (a.st.length - n) sc2, .slice fa2 (a.fo.length - m) fc2], .int .i64 0]) (by simp [results, Tryd.results28, go_sem, f60, f61, f62, f63, f70, f71, f72, f73]) rfl ?_
        rw [E0.out]
        exact ⟨_, _, rfl, HZ.out, w9.heap.size, P1'.out, hX9, P2'.out⟩
      · have hall : ([j].all fun n => decide (0 ≤ n) && decide (n ≤ (a.fo.length : Int))) = false := by simp; omega
        rw [hall]
        clear hall
        have e0 : splitF a i j = (zeroT, zeroT, 73) := by unfold splitF Tl.ok; rw [HK.out, if_pos rfl, if_neg (fun h => hjn h.2)]
        have E0 := hid e0; clear e0
        go_wp2_with fail
        have HBo := HB.out
        refine bodyPost_ret (v := .tuple #[.agg #[.int .i64 0, .int .i64 0, .slice none 0 0, .slice none 0 0], .agg #[.int .i64 0, .int .i64 0, .slice none 0 0, .slice none 0 0], .int .i64 73]) (by simp [results, Tryd.results28, go_sem, c60, c61, c62, c63, c70, c71, c72, c73]) rfl ?_
        rw [E0.out]
        exact ⟨_, _, w.heap.size, rfl, (by repeat (first | (with_reducible exact Below.refl _ _) | (with_reducible assumption) | (with_reducible refine Below.drew ?_) | (with_reducible refine below_drewN ?_ _) | (with_reducible refine Below.alloc ?_ (by first | omega | (simp; done) | (simp; omega)) _) | (with_reducible refine Below.setCell ?_ (by first | omega | (simp; done) | (simp; omega)) _) | (with_reducible refine Below.trans ?_ (Below.mono (by assumption) (by first | omega | (simp; done) | (simp; omega)))))), NewB.zero _ _ _, Nat.le_refl _, NewT.zero _ _⟩
    · have hall : ([i].all fun n => decide (0 ≤ n) && decide (n ≤ (a.st.length : Int))) = false := by simp; omega
      rw [hall]
      clear hall
      have e0 : splitF a i j = (zeroT, zeroT, 73) := by unfold splitF Tl.ok; rw [HK.out, if_pos rfl, if_neg (fun h => hin h.1)]
      have E0 := hid e0; clear e0 hin
      go_wp2_with fail
      have HBo := HB.out
      refine bodyPost_ret (v := .tuple #[.agg #[.int .i64 0, .int .i64 0, .slice none 0 0, .slice none 0 0], .agg #[.int .i64 0, .int .i64 0, .slice none 0 0, .slice none 0 0], .int .i64 73]) (by simp [results, Tryd.results28, go_sem, c60, c61, c62, c63, c70, c71, c72, c73]) rfl ?_
      rw [E0.out]
      exact ⟨_, _, w.heap.size, rfl, (by repeat (first | (with_reducible exact Below.refl _ _) | (with_reducible assumption) | (with_reducible refine Below.drew ?_) | (with_reducible refine below_drewN ?_ _) | (with_reducible refine Below.alloc ?_ (by first | omega | (simp; done) | (simp; omega)) _) | (with_reducible refine Below.setCell ?_ (by first | omega | (simp; done) | (simp; omega)) _) | (with_reducible refine Below.trans ?_ (Below.mono (by assumption) (by first | omega | (simp; done) | (simp; omega)))))), NewB.zero _ _ _, Nat.le_refl _, NewT.zero _ _⟩
  · have hok' : okT a.id a.hs a.st a.fo = false := by simpa using hok
    have t1 : (errT (okT a.id a.hs a.st a.fo) != 0) = true := by rw [hok']; rfl
    have t2 : errT (okT a.id a.hs a.st a.fo) = 70 := by rw [hok']; rfl
    have e0 : splitF a i j = (zeroT, zeroT, 70) := by unfold splitF Tl.ok; rw [hok']; rfl
    have E0 := hid e0
    clear hok hok' e0
    go_wp2_with fail
    have HBo := HB.out
    refine bodyPost_ret (v := .tuple #[.agg #[.int .i64 0, .int .i64 0, .slice none 0 0, .slice none 0 0], .agg #[.int .i64 0, .int .i64 0, .slice none 0 0, .slice none 0 0], .int .i64 70]) (by simp [results, Tryd.results28, go_sem, c60, c61, c62, c63, c70, c71, c72, c73]) rfl ?_
    rw [E0.out]
    exact ⟨_, _, w.heap.size, rfl, (by repeat (first | (with_reducible exact Below.refl _ _) | (with_reducible assumption) | (with_reducible refine Below.drew ?_) | (with_reducible refine below_drewN ?_ _) | (with_reducible refine Below.alloc ?_ (by first | omega | (simp; done) | (simp; omega)) _) | (with_reducible refine Below.setCell ?_ (by first | omega | (simp; done) | (simp; omega)) _) | (with_reducible refine Below.trans ?_ (Below.mono (by assumption) (by first | omega | (simp; done) | (simp; omega)))))), NewB.zero _ _ _, Nat.le_refl _, NewT.zero _ _⟩

end Go.Proofs.YthddoikmgpgakaaDoor
