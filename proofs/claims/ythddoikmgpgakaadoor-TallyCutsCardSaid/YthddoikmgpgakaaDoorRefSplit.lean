/- The reference's 'Split'. -/
import Derived.Test.YthddoikmgpgakaaDoorProg
import Derived.Test.YthddoikmgpgakaaDoorBase
import Derived.Outline
import Derived.RangeFuncNested
import Derived.Shelf.Abstract
import Derived.Deep.QuietTactic
import Derived.BigQuiet
import Derived.Deep.RegionHeld3
import Derived.WalkSmall
import Derived.Laws.EntriesVeiled
import Derived.Test.YthddoikmgpgakaaDoorRefSplit5
namespace Go.Proofs.YthddoikmgpgakaaDoor
open Go.RowKit Go.Proofs Go.Shelf

/-- The value reads as a tally; its slices lie from B on. -/
def RdN (B : Nat) (w : World) (v : Value) (t : Tl) : Prop := ∃ sa sc fa fc, v = .agg #[.int .i64 t.id, .int .i64 t.hs, .slice sa t.st.length sc, .slice fa t.fo.length fc] ∧ RdI w sa t.st ∧ RdI w fa t.fo ∧ (∀ p, sa = some p → B ≤ p.block) ∧ (∀ p, fa = some p → B ≤ p.block)
theorem RdN.zero (B : Nat) (w : World) : RdN B w (.agg #[.int .i64 0, .int .i64 0, .slice none 0 0, .slice none 0 0]) zeroT := ⟨none, 0, none, 0, rfl, RdI.nil _ _, RdI.nil _ _, fun _ h => (by cases h), fun _ h => (by cases h)⟩
theorem own_from {w : World} {B : Nat} {e : TypeId} {size : Nat} {a : Option Addr} {n c m : Nat} {xs : List Value} (h : w.ownsRow B e size (.slice a n c) m xs) : ∀ p, a = some p → B ≤ p.block := fun p hp => by
  rcases h.2 with ⟨h', h0⟩ | ⟨g, cap, cur, h', hB, _⟩
  · simp only [Value.slice.injEq] at h'; rw [hp] at h'; cases h'.1
  · simp only [Value.slice.injEq] at h'; rw [hp] at h'; cases h'.1; exact hB
theorem dropA_from {a : Option Addr} {c n B : Nat} (h : ∀ p, a = some p → B ≤ p.block) : ∀ p, dropA a c n = some p → B ≤ p.block := fun p hp => by
  unfold dropA at hp
  split at hp
  · exact h p hp
  · cases a with
    | none => cases hp
    | some q =>
      simp only [Option.map_some, Option.some.injEq] at hp
      subst hp
      have := h q rfl
      unfold Addr.add
      split <;> exact this

theorem wp_acts {P : Program} {c : Code} {Q : Exit → Act → World → Prop} {l : List Value} {n : Nat} {w : World} (hl : l.length = n) (h : ∀ f : Nat → Value, (∀ i, f i = l.getD i (.bool false)) → c.wp P Q ⟨((List.range n).map f).toArray, []⟩ w) : c.wp P Q ⟨l.toArray, []⟩ w := by
  obtain ⟨f, hf, hr⟩ := acts_of (R := fun f => ∀ i, f i = l.getD i (.bool false)) hl (fun _ => rfl)
  rw [hf]
  exact h f hr

set_option maxRecDepth 20000 in
set_option maxHeartbeats 8000000 in
theorem refSplit_any (a : Tl) (i j : Int) (sa fa : Option Addr) (sc fc : Nat) (w : World) (hl : a.st.length ≤ 1000) (hl2 : a.fo.length ≤ 1000) (h1 : RdI w sa a.st) (h2 : RdI w fa a.fo) :
    Calls Tryd.prog 29 #[.agg #[.int .i64 a.id, .int .i64 a.hs, .slice sa a.st.length sc, .slice fa a.fo.length fc], .int .i64 i, .int .i64 j] w
      fun e w' => ∃ v u, e = .returned (.tuple #[v, u, .int .i64 (splitF a i j).2.2]) ∧ Below w.heap.size w w' ∧ RdN w.heap.size w' v (splitF a i j).1 ∧ RdN w.heap.size w' u (splitF a i j).2.1 := by
  have H1 := hid h1; have H2 := hid h2; clear h1 h2
  have hm := mixed
  go_enter Tryd.func29, Tryd.ntmps29
  go_wp2_with fail
  refine (tally_any _ _ _ _ _ _ _ _ _ (by omega) (by omega) (H1.out.below (by repeat (first | (with_reducible exact Below.refl _ _) | (with_reducible assumption) | (with_reducible refine Below.drew ?_) | (with_reducible refine below_drewN ?_ _) | (with_reducible refine Below.alloc ?_ (by first | omega | (simp; done) | (simp; omega)) _) | (with_reducible refine Below.setCell ?_ (by first | omega | (simp; done) | (simp; omega)) _) | (with_reducible refine Below.trans ?_ (Below.mono (by assumption) (by first | omega | (simp; done) | (simp; omega))))))) (H2.out.below (by repeat (first | (with_reducible exact Below.refl _ _) | (with_reducible assumption) | (with_reducible refine Below.drew ?_) | (with_reducible refine below_drewN ?_ _) | (with_reducible refine Below.alloc ?_ (by first | omega | (simp; done) | (simp; omega)) _) | (with_reducible refine Below.setCell ?_ (by first | omega | (simp; done) | (simp; omega)) _) | (with_reducible refine Below.trans ?_ (Below.mono (by assumption) (by first | omega | (simp; done) | (simp; omega)))))))).mono ?_
  rintro e w1 ⟨rfl, hb1⟩
  have hz1 := hb1.size
  simp only [World.size_alloc] at hz1
  have bx := Box.below (w' := w1) (((Box.new w #[.int .i64 a.id, .int .i64 a.hs, .slice sa a.st.length sc, .slice fa a.fo.length fc] 24).alloc (.cells #[.int .i64 0, .int .i64 0, .slice none 0 0, .slice none 0 0] 24)).alloc (.cells #[.int .i64 0, .int .i64 0, .slice none 0 0, .slice none 0 0] 24)) hb1 (by simp; omega)
  have b6 := Box.below (w' := w1) ((Box.at (w := w.alloc (.cells #[.int .i64 a.id, .int .i64 a.hs, .slice sa a.st.length sc, .slice fa a.fo.length fc] 24)) (n := w.heap.size + 1) #[.int .i64 0, .int .i64 0, .slice none 0 0, .slice none 0 0] 24 (by simp)).alloc (.cells #[.int .i64 0, .int .i64 0, .slice none 0 0, .slice none 0 0] 24)) hb1 (by simp)
  have b7 := Box.below (w' := w1) (Box.at (w := (w.alloc (.cells #[.int .i64 a.id, .int .i64 a.hs, .slice sa a.st.length sc, .slice fa a.fo.length fc] 24)).alloc (.cells #[.int .i64 0, .int .i64 0, .slice none 0 0, .slice none 0 0] 24)) (n := w.heap.size + 1 + 1) #[.int .i64 0, .int .i64 0, .slice none 0 0, .slice none 0 0] 24 (by simp)) hb1 (by simp)
  have hbw : Below w.heap.size w w1 := (by repeat (first | (with_reducible exact Below.refl _ _) | (with_reducible assumption) | (with_reducible refine Below.drew ?_) | (with_reducible refine below_drewN ?_ _) | (with_reducible refine Below.alloc ?_ (by first | omega | (simp; done) | (simp; omega)) _) | (with_reducible refine Below.setCell ?_ (by first | omega | (simp; done) | (simp; omega)) _) | (with_reducible refine Below.trans ?_ (Below.mono (by assumption) (by first | omega | (simp; done) | (simp; omega))))))
  have BX := hid bx; have B6 := hid b6; have B7 := hid b7
  obtain ⟨⟨c0, c1, c2, c3⟩, ⟨k0, k1, k2, k3⟩, lx⟩ := box_four bx
  obtain ⟨⟨c60, c61, c62, c63⟩, ⟨k60, k61, k62, k63⟩, l6⟩ := box_four b6
  obtain ⟨⟨c70, c71, c72, c73⟩, ⟨k70, k71, k72, k73⟩, l7⟩ := box_four b7
  have HB := hid hbw
  clear bx b6 b7 hbw hb1
  by_cases hok : okT a.id a.hs a.st a.fo = true
  · rw [hok]
    have HK := hid hok; clear hok
    go_wp2_with fail
    refine (within_any i 0 a.st.length w1).mono ?_
    rintro e w2 ⟨rfl, rfl⟩
    by_cases hin : 0 ≤ i ∧ i ≤ a.st.length
    · have hall : (decide (0 ≤ i) && decide (i ≤ (a.st.length : Int))) = true := by simp; omega
      rw [hall]
      clear hall
      go_wp2_with fail
      refine (within_any j 0 a.fo.length w1).mono ?_
      rintro e w2 ⟨rfl, rfl⟩
      by_cases hjn : 0 ≤ j ∧ j ≤ a.fo.length
      · have hall : (decide (0 ≤ j) && decide (j ≤ (a.fo.length : Int))) = true := by simp; omega
        rw [hall]
        clear hall
        have e0 : splitF a i j = (⟨a.id, a.hs, a.st.take i.toNat, a.fo.take j.toNat⟩, ⟨a.id, a.hs, a.st.drop i.toNat, a.fo.drop j.toNat⟩, 0) := by unfold splitF Tl.ok; rw [HK.out, if_pos rfl, if_pos ⟨hin, hjn⟩]
        have E0 := hid e0; clear e0
        obtain ⟨n, rfl⟩ : ∃ n : Nat, i = n := ⟨i.toNat, by omega⟩
        obtain ⟨m, rfl⟩ : ∃ m : Nat, j = m := ⟨j.toNat, by omega⟩
        have hn : n ≤ a.st.length := by omega
        have hmm : m ≤ a.fo.length := by omega
        clear hin hjn
        rw [show ((n : Int)).toNat = n from Int.toNat_natCast n, show ((m : Int)).toNat = m from Int.toNat_natCast m] at E0
        go_wp2_with fail
        refine wp_post (Two w a n m) ?_ ?_
        · refine wp_acts rfl ?_
          intro f hf
          exact reg5_any a n m sa fa sc fc w w1 f hl hl2 H1 H2 (hf 1) (hf 2) (hf 3) (hf 6) (hf 7) BX B6 B7 HB
        · rintro a' W ⟨f, rfl, P9, Q9, s1, d1, s2, d2, s3, d3, s4, d4, f1, f2, f6, f7, f9, f10, nP, nQ, nPQ, b6, b7, hbW, b9, b10, o1, o2, o3, o4⟩
          rw [show (List.range 58).map f = [f 0, f 1, f 2, f 3, f 4, f 5, f 6, f 7, f 8, f 9, f 10, f 11, f 12, f 13, f 14, f 15, f 16, f 17, f 18, f 19, f 20, f 21, f 22, f 23, f 24, f 25, f 26, f 27, f 28, f 29, f 30, f 31, f 32, f 33, f 34, f 35, f 36, f 37, f 38, f 39, f 40, f 41, f 42, f 43, f 44, f 45, f 46, f 47, f 48, f 49, f 50, f 51, f 52, f 53, f 54, f 55, f 56, f 57] from rfl, f1, f2, f6, f7, f9, f10]
          clear f1 f2 f6 f7 f9 f10
          clear BX B6 B7 HB c0 c1 c2 c3 k0 k1 k2 k3 lx c60 c61 c62 c63 k60 k61 k62 k63 l6 c70 c71 c72 c73 k70 k71 k72 k73 l7
          have k1 := own_cap o1; have k2 := own_cap o2; have k3 := own_cap o3; have k4 := own_cap o4
          have r1 := RdI.of_own o1; have r2 := RdI.of_own o2; have r3 := RdI.of_own o3; have r4 := RdI.of_own o4
          have x1 := own_ne o1 b9; have x2 := own_ne o2 b9; have x3 := own_ne o3 b9; have x4 := own_ne o4 b9
          have hn1 : n ≤ d1 := by omega
          have hm2 : m ≤ d2 := by omega
          have hn3 : n ≤ d3 := by omega
          have hm4 : m ≤ d4 := by omega
          clear r1 r2 r3 r4 x1 x2 x3 x4
          have B6 := hid b6; have B7 := hid b7; have HB := hid hbW; have B9 := hid b9; have B10 := hid b10; have O := hid (And.intro o1 (And.intro o2 (And.intro o3 o4)))
          obtain ⟨⟨c60, c61, c62, c63⟩, ⟨k60, k61, k62, k63⟩, l6⟩ := box_four b6
          obtain ⟨⟨c70, c71, c72, c73⟩, ⟨k70, k71, k72, k73⟩, l7⟩ := box_four b7
          obtain ⟨⟨c90, c91, c92, c93⟩, ⟨k90, k91, k92, k93⟩, l9⟩ := box_four b9
          obtain ⟨⟨ca0, ca1, ca2, ca3⟩, ⟨ka0, ka1, ka2, ka3⟩, la⟩ := box_four b10
          clear b6 b7 hbW b9 b10 o1 o2 o3 o4
          go_wp2_with fail
          refine wp_region_F [1, 5] (fun w' => w'.cell? ⟨P9, 2, none⟩ = some (.slice s1 a.st.length d1) ∧ w'.cell? ⟨P9, 3, none⟩ = some (.slice s2 a.fo.length d2)) hm ⟨by go_simp, by go_simp⟩ ?_
          intro hS0; have hS := hid hS0; clear hS0
          (apply wpAnyF_pure (i := 0) rfl (by kernel_rfl) (fun _ _ _ h => h); · first | exact .inr ⟨rfl, rfl⟩ | exact .inl ⟨rfl, fun w' => by go_simp; rfl⟩); simp only [Act.put, List.setIfInBounds_toArray, List.set_cons_succ, List.set_cons_zero, List.getElem_toArray, List.getElem_cons_succ, List.getElem_cons_zero]
          (apply wpAnyF_held (i := 1) rfl (by kernel_rfl) (fun _ _ _ h => h) hS.out; · first | exact .inr ⟨rfl, rfl⟩ | exact .inl ⟨rfl, fun w' hS' => by (obtain ⟨s1, s2⟩ := hS'; go_simp; rfl)⟩); simp only [Act.put, List.setIfInBounds_toArray, List.set_cons_succ, List.set_cons_zero, List.getElem_toArray, List.getElem_cons_succ, List.getElem_cons_zero]
          (apply wpAnyF_pure (i := 2) rfl (by kernel_rfl) (fun _ _ _ h => h); · first | exact .inr ⟨rfl, rfl⟩ | exact .inl ⟨rfl, fun w' => by go_simp; rfl⟩); simp only [Act.put, List.setIfInBounds_toArray, List.set_cons_succ, List.set_cons_zero, List.getElem_toArray, List.getElem_cons_succ, List.getElem_cons_zero]
          (apply wpAnyF_pure (i := 3) rfl (by kernel_rfl) (fun _ _ _ h => h); · first | exact .inr ⟨rfl, rfl⟩ | exact .inl ⟨rfl, fun w' => by go_simp; rfl⟩); simp only [Act.put, List.setIfInBounds_toArray, List.set_cons_succ, List.set_cons_zero, List.getElem_toArray, List.getElem_cons_succ, List.getElem_cons_zero]
          (apply wpAnyF_pure (i := 4) rfl (by kernel_rfl) (fun _ _ _ h => h); · first | exact .inr ⟨rfl, rfl⟩ | exact .inl ⟨rfl, fun w' => by go_simp; rfl⟩); simp only [Act.put, List.setIfInBounds_toArray, List.set_cons_succ, List.set_cons_zero, List.getElem_toArray, List.getElem_cons_succ, List.getElem_cons_zero]
          (apply wpAnyF_held (i := 5) rfl (by kernel_rfl) (fun _ _ _ h => h) hS.out; · first | exact .inr ⟨rfl, rfl⟩ | exact .inl ⟨rfl, fun w' hS' => by (obtain ⟨s1, s2⟩ := hS'; go_simp; rfl)⟩); simp only [Act.put, List.setIfInBounds_toArray, List.set_cons_succ, List.set_cons_zero, List.getElem_toArray, List.getElem_cons_succ, List.getElem_cons_zero]
          (apply wpAnyF_pure (i := 6) rfl (by kernel_rfl) (fun _ _ _ h => h); · first | exact .inr ⟨rfl, rfl⟩ | exact .inl ⟨rfl, fun w' => by go_simp; rfl⟩); simp only [Act.put, List.setIfInBounds_toArray, List.set_cons_succ, List.set_cons_zero, List.getElem_toArray, List.getElem_cons_succ, List.getElem_cons_zero]
          (apply wpAnyF_pure (i := 7) rfl (by kernel_rfl) (fun _ _ _ h => h); · first | exact .inr ⟨rfl, rfl⟩ | exact .inl ⟨rfl, fun w' => by go_simp; rfl⟩); simp only [Act.put, List.setIfInBounds_toArray, List.set_cons_succ, List.set_cons_zero, List.getElem_toArray, List.getElem_cons_succ, List.getElem_cons_zero]
          (apply wpAnyF_pure (i := 8) rfl (by kernel_rfl) (fun _ _ _ h => h); · first | exact .inr ⟨rfl, rfl⟩ | exact .inl ⟨rfl, fun w' => by go_simp; rfl⟩); simp only [Act.put, List.setIfInBounds_toArray, List.set_cons_succ, List.set_cons_zero, List.getElem_toArray, List.getElem_cons_succ, List.getElem_cons_zero]
          refine wpAnyF_one (i := 9) rfl ⟨by kernel_rfl, by kernel_rfl⟩ ?_
          intro K hK
          go_simp
          refine shutN hK (by kernel_rfl) ?_
          (apply wpAnyF_pure (i := 10) rfl (by kernel_rfl) (fun _ _ _ h => h); · first | exact .inr ⟨rfl, rfl⟩ | exact .inl ⟨rfl, fun w' => by go_simp; rfl⟩); simp only [Act.put, List.setIfInBounds_toArray, List.set_cons_succ, List.set_cons_zero, List.getElem_toArray, List.getElem_cons_succ, List.getElem_cons_zero]
          refine wpAnyF_one (i := 11) rfl ⟨by kernel_rfl, by kernel_rfl⟩ ?_
          intro K hK
          go_simp
          refine shutN hK (by kernel_rfl) ?_
          refine wpAnyF_done (by kernel_rfl) ?_ _
          have HBo := HB.out
          have hs9 : w.heap.size ≤ P9 := by omega
          refine wp_goal (fun W => Box W (w.heap.size + 1) #[.int .i64 0, .int .i64 0, .slice none 0 0, .slice none 0 0] 24 ∧ Box W (w.heap.size + 1 + 1) #[.int .i64 0, .int .i64 0, .slice none 0 0, .slice none 0 0] 24 ∧ Below w.heap.size w W ∧ Box W P9 #[.int .i64 a.id, .int .i64 a.hs, .slice s1 n d1, .slice s2 m d2] 24 ∧ Box W Q9 #[.int .i64 a.id, .int .i64 a.hs, .slice s3 a.st.length d3, .slice s4 a.fo.length d4] 24 ∧ (W.ownsRow w.heap.size 3 1 (.slice s1 a.st.length d1) a.st.length (a.st.map (Value.int .i64)) ∧ W.ownsRow w.heap.size 3 1 (.slice s2 a.fo.length d2) a.fo.length (a.fo.map (Value.int .i64)) ∧ W.ownsRow w.heap.size 3 1 (.slice s3 a.st.length d3) a.st.length (a.st.map (Value.int .i64)) ∧ W.ownsRow w.heap.size 3 1 (.slice s4 a.fo.length d4) a.fo.length (a.fo.map (Value.int .i64)))) ⟨(box_oth2 B6.out (by omega) _ _).drew, (box_oth2 B7.out (by omega) _ _).drew, ((HBo.setCell (p := ⟨P9, 2, none⟩) hs9 _).setCell (p := ⟨P9, 3, none⟩) hs9 _).drew, ((B9.out.set 2 _).set 3 _).drew, (box_oth2 B10.out (by omega) _ _).drew, ⟨own_keep1 (own_keep1 O.out.1 (own_ne O.out.1 B9.out)) (own_ne O.out.1 B9.out), own_keep1 (own_keep1 O.out.2.1 (own_ne O.out.2.1 B9.out)) (own_ne O.out.2.1 B9.out), own_keep1 (own_keep1 O.out.2.2.1 (own_ne O.out.2.2.1 B9.out)) (own_ne O.out.2.2.1 B9.out), own_keep1 (own_keep1 O.out.2.2.2 (own_ne O.out.2.2.2 B9.out)) (own_ne O.out.2.2.2 B9.out)⟩⟩ ?_
          clear HBo hs9
          clear hS B6 B7 HB B9 B10 O c60 c61 c62 c63 k60 k61 k62 k63 l6 c70 c71 c72 c73 k70 k71 k72 k73 l7 c90 c91 c92 c93 k90 k91 k92 k93 l9 ca0 ca1 ca2 ca3 ka0 ka1 ka2 ka3 la
          rintro W6 ⟨b6, b7, hbW, b9, b10, o1, o2, o3, o4⟩
          have B6 := hid b6; have B7 := hid b7; have HB := hid hbW; have B9 := hid b9; have B10 := hid b10; have O := hid (And.intro o1 (And.intro o2 (And.intro o3 o4)))
          obtain ⟨⟨c60, c61, c62, c63⟩, ⟨k60, k61, k62, k63⟩, l6⟩ := box_four b6
          obtain ⟨⟨c70, c71, c72, c73⟩, ⟨k70, k71, k72, k73⟩, l7⟩ := box_four b7
          obtain ⟨⟨c90, c91, c92, c93⟩, ⟨k90, k91, k92, k93⟩, l9⟩ := box_four b9
          obtain ⟨⟨ca0, ca1, ca2, ca3⟩, ⟨ka0, ka1, ka2, ka3⟩, la⟩ := box_four b10
          clear b6 b7 hbW b9 b10 o1 o2 o3 o4
          go_wp2_with fail
          refine wp_region_F [1, 5] (fun w' => w'.cell? ⟨Q9, 2, none⟩ = some (.slice s3 a.st.length d3) ∧ w'.cell? ⟨Q9, 3, none⟩ = some (.slice s4 a.fo.length d4)) hm ⟨by go_simp, by go_simp⟩ ?_
          intro hS0; have hS := hid hS0; clear hS0
          (apply wpAnyF_pure (i := 0) rfl (by kernel_rfl) (fun _ _ _ h => h); · first | exact .inr ⟨rfl, rfl⟩ | exact .inl ⟨rfl, fun w' => by go_simp; rfl⟩); simp only [Act.put, List.setIfInBounds_toArray, List.set_cons_succ, List.set_cons_zero, List.getElem_toArray, List.getElem_cons_succ, List.getElem_cons_zero]
          (apply wpAnyF_held (i := 1) rfl (by kernel_rfl) (fun _ _ _ h => h) hS.out; · first | exact .inr ⟨rfl, rfl⟩ | exact .inl ⟨rfl, fun w' hS' => by (obtain ⟨s1, s2⟩ := hS'; go_simp; rfl)⟩); simp only [Act.put, List.setIfInBounds_toArray, List.set_cons_succ, List.set_cons_zero, List.getElem_toArray, List.getElem_cons_succ, List.getElem_cons_zero]
          (apply wpAnyF_pure (i := 2) rfl (by kernel_rfl) (fun _ _ _ h => h); · first | exact .inr ⟨rfl, rfl⟩ | exact .inl ⟨rfl, fun w' => by go_simp; rfl⟩); simp only [Act.put, List.setIfInBounds_toArray, List.set_cons_succ, List.set_cons_zero, List.getElem_toArray, List.getElem_cons_succ, List.getElem_cons_zero]
          (apply wpAnyF_pure (i := 3) rfl (by kernel_rfl) (fun _ _ _ h => h); · first | exact .inr ⟨rfl, rfl⟩ | exact .inl ⟨rfl, fun w' => by go_simp; rfl⟩); simp only [Act.put, List.setIfInBounds_toArray, List.set_cons_succ, List.set_cons_zero, List.getElem_toArray, List.getElem_cons_succ, List.getElem_cons_zero]
          (apply wpAnyF_pure (i := 4) rfl (by kernel_rfl) (fun _ _ _ h => h); · first | exact .inr ⟨rfl, rfl⟩ | exact .inl ⟨rfl, fun w' => by go_simp; rfl⟩); simp only [Act.put, List.setIfInBounds_toArray, List.set_cons_succ, List.set_cons_zero, List.getElem_toArray, List.getElem_cons_succ, List.getElem_cons_zero]
          (apply wpAnyF_held (i := 5) rfl (by kernel_rfl) (fun _ _ _ h => h) hS.out; · first | exact .inr ⟨rfl, rfl⟩ | exact .inl ⟨rfl, fun w' hS' => by (obtain ⟨s1, s2⟩ := hS'; go_simp; rfl)⟩); simp only [Act.put, List.setIfInBounds_toArray, List.set_cons_succ, List.set_cons_zero, List.getElem_toArray, List.getElem_cons_succ, List.getElem_cons_zero]
          (apply wpAnyF_pure (i := 6) rfl (by kernel_rfl) (fun _ _ _ h => h); · first | exact .inr ⟨rfl, rfl⟩ | exact .inl ⟨rfl, fun w' => by go_simp; rfl⟩); simp only [Act.put, List.setIfInBounds_toArray, List.set_cons_succ, List.set_cons_zero, List.getElem_toArray, List.getElem_cons_succ, List.getElem_cons_zero]
          (apply wpAnyF_pure (i := 7) rfl (by kernel_rfl) (fun _ _ _ h => h); · first | exact .inr ⟨rfl, rfl⟩ | exact .inl ⟨rfl, fun w' => by go_simp; rfl⟩); simp only [Act.put, List.setIfInBounds_toArray, List.set_cons_succ, List.set_cons_zero, List.getElem_toArray, List.getElem_cons_succ, List.getElem_cons_zero]
          (apply wpAnyF_pure (i := 8) rfl (by kernel_rfl) (fun _ _ _ h => h); · first | exact .inr ⟨rfl, rfl⟩ | exact .inl ⟨rfl, fun w' => by go_simp; rfl⟩); simp only [Act.put, List.setIfInBounds_toArray, List.set_cons_succ, List.set_cons_zero, List.getElem_toArray, List.getElem_cons_succ, List.getElem_cons_zero]
          refine wpAnyF_one (i := 9) rfl ⟨by kernel_rfl, by kernel_rfl⟩ ?_
          intro K hK
          go_simp
          refine shutN hK (by kernel_rfl) ?_
          (apply wpAnyF_pure (i := 10) rfl (by kernel_rfl) (fun _ _ _ h => h); · first | exact .inr ⟨rfl, rfl⟩ | exact .inl ⟨rfl, fun w' => by go_simp; rfl⟩); simp only [Act.put, List.setIfInBounds_toArray, List.set_cons_succ, List.set_cons_zero, List.getElem_toArray, List.getElem_cons_succ, List.getElem_cons_zero]
          refine wpAnyF_one (i := 11) rfl ⟨by kernel_rfl, by kernel_rfl⟩ ?_
          intro K hK
          go_simp
          refine shutN hK (by kernel_rfl) ?_
          refine wpAnyF_done (by kernel_rfl) ?_ _
          have HBo := HB.out
          have hs9 : w.heap.size ≤ Q9 := by omega
          rw [show (if d3 = n then s3 else Option.map (fun x => x.add n) s3) = dropA s3 d3 n from rfl, show (if d4 = m then s4 else Option.map (fun x => x.add m) s4) = dropA s4 d4 m from rfl]
          refine wp_goal (fun W => Box W (w.heap.size + 1) #[.int .i64 0, .int .i64 0, .slice none 0 0, .slice none 0 0] 24 ∧ Box W (w.heap.size + 1 + 1) #[.int .i64 0, .int .i64 0, .slice none 0 0, .slice none 0 0] 24 ∧ Below w.heap.size w W ∧ Box W P9 #[.int .i64 a.id, .int .i64 a.hs, .slice s1 n d1, .slice s2 m d2] 24 ∧ Box W Q9 #[.int .i64 a.id, .int .i64 a.hs, .slice (dropA s3 d3 n) (a.st.length - n) (d3 - n), .slice (dropA s4 d4 m) (a.fo.length - m) (d4 - m)] 24 ∧ (W.ownsRow w.heap.size 3 1 (.slice s1 a.st.length d1) a.st.length (a.st.map (Value.int .i64)) ∧ W.ownsRow w.heap.size 3 1 (.slice s2 a.fo.length d2) a.fo.length (a.fo.map (Value.int .i64)) ∧ W.ownsRow w.heap.size 3 1 (.slice s3 a.st.length d3) a.st.length (a.st.map (Value.int .i64)) ∧ W.ownsRow w.heap.size 3 1 (.slice s4 a.fo.length d4) a.fo.length (a.fo.map (Value.int .i64)))) ⟨(box_oth2 B6.out (by omega) _ _).drew, (box_oth2 B7.out (by omega) _ _).drew, ((HBo.setCell (p := ⟨Q9, 2, none⟩) hs9 _).setCell (p := ⟨Q9, 3, none⟩) hs9 _).drew, (box_oth2 B9.out (by omega) _ _).drew, ((B10.out.set 2 _).set 3 _).drew, ⟨own_keep1 (own_keep1 O.out.1 (own_ne O.out.1 B10.out)) (own_ne O.out.1 B10.out), own_keep1 (own_keep1 O.out.2.1 (own_ne O.out.2.1 B10.out)) (own_ne O.out.2.1 B10.out), own_keep1 (own_keep1 O.out.2.2.1 (own_ne O.out.2.2.1 B10.out)) (own_ne O.out.2.2.1 B10.out), own_keep1 (own_keep1 O.out.2.2.2 (own_ne O.out.2.2.2 B10.out)) (own_ne O.out.2.2.2 B10.out)⟩⟩ ?_
          clear HBo hs9
          clear hS B6 B7 HB B9 B10 O c60 c61 c62 c63 k60 k61 k62 k63 l6 c70 c71 c72 c73 k70 k71 k72 k73 l7 c90 c91 c92 c93 k90 k91 k92 k93 l9 ca0 ca1 ca2 ca3 ka0 ka1 ka2 ka3 la
          rintro W7 ⟨b6, b7, hbW, b9, b10, o1, o2, o3, o4⟩
          have B6 := hid b6; have B7 := hid b7; have HB := hid hbW; have B9 := hid b9; have B10 := hid b10; have O := hid (And.intro o1 (And.intro o2 (And.intro o3 o4)))
          obtain ⟨⟨c60, c61, c62, c63⟩, ⟨k60, k61, k62, k63⟩, l6⟩ := box_four b6
          obtain ⟨⟨c70, c71, c72, c73⟩, ⟨k70, k71, k72, k73⟩, l7⟩ := box_four b7
          obtain ⟨⟨c90, c91, c92, c93⟩, ⟨k90, k91, k92, k93⟩, l9⟩ := box_four b9
          obtain ⟨⟨ca0, ca1, ca2, ca3⟩, ⟨ka0, ka1, ka2, ka3⟩, la⟩ := box_four b10
          clear b6 b7 hbW b9 b10 o1 o2 o3 o4
          go_wp2_with fail
          refine wp_region_F [0, 1] (fun w' => (w'.cell? ⟨P9, 0, none⟩ = some (.int .i64 a.id) ∧ w'.cell? ⟨P9, 1, none⟩ = some (.int .i64 a.hs) ∧ w'.cell? ⟨P9, 2, none⟩ = some (.slice s1 n d1) ∧ w'.cell? ⟨P9, 3, none⟩ = some (.slice s2 m d2)) ∧ (w'.cell? ⟨Q9, 0, none⟩ = some (.int .i64 a.id) ∧ w'.cell? ⟨Q9, 1, none⟩ = some (.int .i64 a.hs) ∧ w'.cell? ⟨Q9, 2, none⟩ = some (.slice (dropA s3 d3 n) (a.st.length - n) (d3 - n)) ∧ w'.cell? ⟨Q9, 3, none⟩ = some (.slice (dropA s4 d4 m) (a.fo.length - m) (d4 - m)))) hm ⟨⟨by go_simp, by go_simp, by go_simp, by go_simp⟩, ⟨by go_simp, by go_simp, by go_simp, by go_simp⟩⟩ ?_
          intro hS0; have hS := hid hS0; clear hS0
          (apply wpAnyF_held (i := 0) rfl (by kernel_rfl) (fun _ _ _ h => h) hS.out; · first | exact .inr ⟨rfl, rfl⟩ | exact .inl ⟨rfl, fun w' hS' => by (obtain ⟨s1, s2⟩ := hS'; go_simp; rfl)⟩); simp only [Act.put, List.setIfInBounds_toArray, List.set_cons_succ, List.set_cons_zero, List.getElem_toArray, List.getElem_cons_succ, List.getElem_cons_zero]
          (apply wpAnyF_held (i := 1) rfl (by kernel_rfl) (fun _ _ _ h => h) hS.out; · first | exact .inr ⟨rfl, rfl⟩ | exact .inl ⟨rfl, fun w' hS' => by (obtain ⟨s1, s2⟩ := hS'; go_simp; rfl)⟩); simp only [Act.put, List.setIfInBounds_toArray, List.set_cons_succ, List.set_cons_zero, List.getElem_toArray, List.getElem_cons_succ, List.getElem_cons_zero]
          refine wpAnyF_one (i := 2) rfl ⟨by kernel_rfl, by kernel_rfl⟩ ?_
          intro K hK
          go_simp
          refine shutS hK ⟨(box_four (box_oth4 B9.out.drew (b' := w.heap.size + 1) (by omega) _ _ _ _)).1, (box_four (box_oth4 B10.out.drew (b' := w.heap.size + 1) (by omega) _ _ _ _)).1⟩ (fun hS => ?_)
          refine wpAnyF_one (i := 3) rfl ⟨by kernel_rfl, by kernel_rfl⟩ ?_
          intro K hK
          go_simp
          refine shutN hK (by kernel_rfl) ?_
          (apply wpAnyF_pure (i := 4) rfl (by kernel_rfl) (fun _ _ _ h => h); · first | exact .inr ⟨rfl, rfl⟩ | exact .inl ⟨rfl, fun w' => by go_simp; rfl⟩); simp only [Act.put, List.setIfInBounds_toArray, List.set_cons_succ, List.set_cons_zero, List.getElem_toArray, List.getElem_cons_succ, List.getElem_cons_zero]
          refine wpAnyF_done (by kernel_rfl) ?_ _
          have HBo := HB.out
          have hs6 : w.heap.size ≤ w.heap.size + 1 := by omega
          have hs7 : w.heap.size ≤ w.heap.size + 1 + 1 := by omega
          refine wp_goal (fun W => Box W (w.heap.size + 1) #[.int .i64 a.id, .int .i64 a.hs, .slice s1 n d1, .slice s2 m d2] 24 ∧ Box W (w.heap.size + 1 + 1) #[.int .i64 a.id, .int .i64 a.hs, .slice (dropA s3 d3 n) (a.st.length - n) (d3 - n), .slice (dropA s4 d4 m) (a.fo.length - m) (d4 - m)] 24 ∧ Below w.heap.size w W ∧ RdI W s1 a.st ∧ RdI W s2 a.fo ∧ RdI W s3 a.st ∧ RdI W s4 a.fo) ⟨(box_oth4 (box_put4 _ _ _ _ B6.out) (by omega) _ _ _ _).drew, (box_put4 _ _ _ _ (box_oth4 B7.out (by omega) _ _ _ _)).drew, ((((((((HBo.setCell (p := ⟨w.heap.size + 1, 0, none⟩) hs6 _).setCell (p := ⟨w.heap.size + 1, 1, none⟩) hs6 _).setCell (p := ⟨w.heap.size + 1, 2, none⟩) hs6 _).setCell (p := ⟨w.heap.size + 1, 3, none⟩) hs6 _).setCell (p := ⟨w.heap.size + 1 + 1, 0, none⟩) hs7 _).setCell (p := ⟨w.heap.size + 1 + 1, 1, none⟩) hs7 _).setCell (p := ⟨w.heap.size + 1 + 1, 2, none⟩) hs7 _).setCell (p := ⟨w.heap.size + 1 + 1, 3, none⟩) hs7 _).drew, (RdI.of_own (own_keep4 (own_keep4 O.out.1 (own_ne O.out.1 B6.out)) (own_ne O.out.1 B7.out))).drew, (RdI.of_own (own_keep4 (own_keep4 O.out.2.1 (own_ne O.out.2.1 B6.out)) (own_ne O.out.2.1 B7.out))).drew, (RdI.of_own (own_keep4 (own_keep4 O.out.2.2.1 (own_ne O.out.2.2.1 B6.out)) (own_ne O.out.2.2.1 B7.out))).drew, (RdI.of_own (own_keep4 (own_keep4 O.out.2.2.2 (own_ne O.out.2.2.2 B6.out)) (own_ne O.out.2.2.2 B7.out))).drew⟩ ?_
          have Q1 := own_cap O.out.2.2.1; have Q2 := own_cap O.out.2.2.2
          have F1 := hid (own_from O.out.1); have F2 := hid (own_from O.out.2.1); have F3 := hid (own_from O.out.2.2.1); have F4 := hid (own_from O.out.2.2.2)
          clear HBo hs6 hs7
          clear hS B6 B7 HB B9 B10 O c60 c61 c62 c63 k60 k61 k62 k63 l6 c70 c71 c72 c73 k70 k71 k72 k73 l7 c90 c91 c92 c93 k90 k91 k92 k93 l9 ca0 ca1 ca2 ca3 ka0 ka1 ka2 ka3 la
          rintro W ⟨b6, b7, hbW, r1, r2, r3, r4⟩
          obtain ⟨⟨c60, c61, c62, c63⟩, _, _⟩ := box_four b6
          obtain ⟨⟨c70, c71, c72, c73⟩, _, _⟩ := box_four b7
          have R1 := hid r1; have R2 := hid r2; have R3 := hid r3; have R4 := hid r4; have HB := hid hbW
          clear b6 b7 hbW r1 r2 r3 r4
          go_wp2_with fail
          refine bodyPost_ret (v := .tuple #[.agg #[.int .i64 a.id, .int .i64 a.hs, .slice s1 n d1, .slice s2 m d2], .agg #[.int .i64 a.id, .int .i64 a.hs, .slice (dropA s3 d3 n) (a.st.length - n) (d3 - n), .slice (dropA s4 d4 m) (a.fo.length - m) (d4 - m)], .int .i64 0]) (by simp [results, Tryd.results29, go_sem, c60, c61, c62, c63, c70, c71, c72, c73]) rfl ?_
          rw [E0.out]
          exact ⟨_, _, rfl, HB.out, ⟨s1, d1, s2, d2, by rw [List.length_take_of_le hn, List.length_take_of_le hmm], R1.out.take n, R2.out.take m, F1.out, F2.out⟩, ⟨dropA s3 d3 n, d3 - n, dropA s4 d4 m, d4 - m, by rw [List.length_drop, List.length_drop], R3.out.dropA Q1, R4.out.dropA Q2, dropA_from F3.out, dropA_from F4.out⟩⟩
      · have hall : (decide (0 ≤ j) && decide (j ≤ (a.fo.length : Int))) = false := by simp; omega
        rw [hall]
        clear hall
        have e0 : splitF a i j = (zeroT, zeroT, 73) := by unfold splitF Tl.ok; rw [HK.out, if_pos rfl, if_neg (fun h => hjn h.2)]
        have E0 := hid e0; clear e0
        go_wp2_with fail
        have HBo := HB.out
        refine bodyPost_ret (v := .tuple #[.agg #[.int .i64 0, .int .i64 0, .slice none 0 0, .slice none 0 0], .agg #[.int .i64 0, .int .i64 0, .slice none 0 0, .slice none 0 0], .int .i64 73]) (by simp [results, Tryd.results29, go_sem, c60, c61, c62, c63, c70, c71, c72, c73]) rfl ?_
        rw [E0.out]
        exact ⟨_, _, rfl, (by repeat (first | (with_reducible exact Below.refl _ _) | (with_reducible assumption) | (with_reducible refine Below.drew ?_) | (with_reducible refine below_drewN ?_ _) | (with_reducible refine Below.alloc ?_ (by first | omega | (simp; done) | (simp; omega)) _) | (with_reducible refine Below.setCell ?_ (by first | omega | (simp; done) | (simp; omega)) _) | (with_reducible refine Below.trans ?_ (Below.mono (by assumption) (by first | omega | (simp; done) | (simp; omega)))))), RdN.zero _ _, RdN.zero _ _⟩
    · have hall : (decide (0 ≤ i) && decide (i ≤ (a.st.length : Int))) = false := by simp; omega
      rw [hall]
      clear hall
      have e0 : splitF a i j = (zeroT, zeroT, 73) := by unfold splitF Tl.ok; rw [HK.out, if_pos rfl, if_neg (fun h => hin h.1)]
      have E0 := hid e0; clear e0 hin
      go_wp2_with fail
      have HBo := HB.out
      refine bodyPost_ret (v := .tuple #[.agg #[.int .i64 0, .int .i64 0, .slice none 0 0, .slice none 0 0], .agg #[.int .i64 0, .int .i64 0, .slice none 0 0, .slice none 0 0], .int .i64 73]) (by simp [results, Tryd.results29, go_sem, c60, c61, c62, c63, c70, c71, c72, c73]) rfl ?_
      rw [E0.out]
      exact ⟨_, _, rfl, (by repeat (first | (with_reducible exact Below.refl _ _) | (with_reducible assumption) | (with_reducible refine Below.drew ?_) | (with_reducible refine below_drewN ?_ _) | (with_reducible refine Below.alloc ?_ (by first | omega | (simp; done) | (simp; omega)) _) | (with_reducible refine Below.setCell ?_ (by first | omega | (simp; done) | (simp; omega)) _) | (with_reducible refine Below.trans ?_ (Below.mono (by assumption) (by first | omega | (simp; done) | (simp; omega)))))), RdN.zero _ _, RdN.zero _ _⟩
  · have hok' : okT a.id a.hs a.st a.fo = false := by simpa using hok
    rw [hok']
    have e0 : splitF a i j = (zeroT, zeroT, 70) := by unfold splitF Tl.ok; rw [hok']; rfl
    have E0 := hid e0
    clear hok hok' e0
    go_wp2_with fail
    have HBo := HB.out
    refine bodyPost_ret (v := .tuple #[.agg #[.int .i64 0, .int .i64 0, .slice none 0 0, .slice none 0 0], .agg #[.int .i64 0, .int .i64 0, .slice none 0 0, .slice none 0 0], .int .i64 70]) (by simp [results, Tryd.results29, go_sem, c60, c61, c62, c63, c70, c71, c72, c73]) rfl ?_
    rw [E0.out]
    exact ⟨_, _, rfl, (by repeat (first | (with_reducible exact Below.refl _ _) | (with_reducible assumption) | (with_reducible refine Below.drew ?_) | (with_reducible refine below_drewN ?_ _) | (with_reducible refine Below.alloc ?_ (by first | omega | (simp; done) | (simp; omega)) _) | (with_reducible refine Below.setCell ?_ (by first | omega | (simp; done) | (simp; omega)) _) | (with_reducible refine Below.trans ?_ (Below.mono (by assumption) (by first | omega | (simp; done) | (simp; omega)))))), RdN.zero _ _, RdN.zero _ _⟩

end Go.Proofs.YthddoikmgpgakaaDoor
