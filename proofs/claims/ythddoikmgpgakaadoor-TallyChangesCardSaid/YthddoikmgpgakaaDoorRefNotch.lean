/- The reference's 'Notch' of a tally. -/
import Derived.Test.YthddoikmgpgakaaDoorProg
import Derived.Test.YthddoikmgpgakaaDoorBase
import Derived.Outline
import Derived.RangeFuncNested
import Derived.Shelf.Abstract
import Derived.Deep.QuietTactic
import Derived.BigQuiet
import Derived.Deep.RegionHeld3
import Derived.WalkSmall
import Derived.Laws.EntriesVeiled
import Derived.Test.YthddoikmgpgakaaDoorRefJoin
import Derived.Test.YthddoikmgpgakaaDoorNotch
namespace Go.Proofs.YthddoikmgpgakaaDoor
open Go.RowKit Go.Proofs Go.Shelf

theorem notchF_ref (a : Tl) (k : Int) : notchF a k = if a.ok = false then (zeroT, 70) else if (decide (1 ≤ k) && decide (k ≤ 4)) = false then (zeroT, 72) else if a.st.length = 12 then (zeroT, 9) else if a.fo.length = 12 then (zeroT, 9) else (⟨a.id, a.hs, a.st ++ [k], a.fo ++ [k]⟩, 0) := by
  unfold notchF
  cases ha : a.ok with
  | false => simp
  | true =>
    have e1 : okN [k] = (decide (1 ≤ k) && decide (k ≤ 4)) := by simp [okN]
    rw [e1]
    cases hk : (decide (1 ≤ k) && decide (k ≤ 4)) with
    | false => simp
    | true =>
      have ha2 : okT a.id a.hs a.st a.fo = true := ha
      have hb : (⟨a.id, a.hs, [k], [k]⟩ : Tl).ok = true := by
        show okT a.id a.hs [k] [k] = true
        unfold okT
        rw [e1, hk]
        simp only [okT, Bool.and_eq_true, decide_eq_true_eq] at ha2
        simp [ha2.1.1.1.1]
      rw [joinF_ref, ha, hb]
      have hl : a.st.length ≤ 12 ∧ a.fo.length ≤ 12 := by simp [okT] at ha2; omega
      simp only [Bool.true_eq_false, if_false, if_true, List.length_singleton]
      by_cases h1 : a.st.length = 12
      · rw [if_pos (by omega), if_pos h1]
      · rw [if_neg (by omega), if_neg h1]
        by_cases h2 : a.fo.length = 12
        · rw [if_pos (by omega), if_pos h2]
        · rw [if_neg (by omega), if_neg h2]; rfl

set_option maxRecDepth 20000 in
set_option maxHeartbeats 4000000 in
theorem refNotch_any (a : Tl) (k : Int) (sa fa : Option Addr) (sc fc : Nat) (w : World)
    (ha : a.small) (h1 : RdI w sa a.st) (h2 : RdI w fa a.fo) :
    Calls Tryd.prog 21 #[.agg #[.int .i64 a.id, .int .i64 a.hs, .slice sa a.st.length sc, .slice fa a.fo.length fc], .int .i64 k] w
      fun e w' => ∃ v, e = .returned (.tuple #[v, .int .i64 (notchF a k).2]) ∧ Below w.heap.size w w' ∧ NewT w.heap.size w' v (notchF a k).1 := by
  have H1 := hid h1; have H2 := hid h2; clear h1 h2
  have HA := hid ha; clear ha
  go_enter Tryd.func21, Tryd.ntmps21
  go_wp2_with fail
  refine (tally_any _ _ _ _ _ _ _ _ _ HA.out.1 HA.out.2 (H1.out.below (by repeat (first | (with_reducible exact Below.refl _ _) | (with_reducible assumption) | (with_reducible refine Below.drew ?_) | (with_reducible refine below_drewN ?_ _) | (with_reducible refine Below.alloc ?_ (by first | omega | (simp; done) | (simp; omega)) _) | (with_reducible refine Below.setCell ?_ (by first | omega | (simp; done) | (simp; omega)) _) | (with_reducible refine Below.trans ?_ (Below.mono (by assumption) (by first | omega | (simp; done) | (simp; omega))))))) (H2.out.below (by repeat (first | (with_reducible exact Below.refl _ _) | (with_reducible assumption) | (with_reducible refine Below.drew ?_) | (with_reducible refine below_drewN ?_ _) | (with_reducible refine Below.alloc ?_ (by first | omega | (simp; done) | (simp; omega)) _) | (with_reducible refine Below.setCell ?_ (by first | omega | (simp; done) | (simp; omega)) _) | (with_reducible refine Below.trans ?_ (Below.mono (by assumption) (by first | omega | (simp; done) | (simp; omega)))))))).mono ?_
  rintro e w1 ⟨rfl, hb1⟩
  have hz1 := hb1.size; (try simp only [World.size_alloc] at hz1)
  have ba : Box w1 w.heap.size #[.int .i64 a.id, .int .i64 a.hs, .slice sa a.st.length sc, .slice fa a.fo.length fc] 24 := Box.below (by repeat (first | (with_reducible assumption) | (with_reducible refine Box.at _ _ (by first | omega | (simp; done) | (simp; omega))) | (with_reducible refine Box.drew ?_) | (with_reducible refine Box.alloc ?_ _) | (with_reducible refine Box.other ?_ _ _ _ (by first | omega | (simp; done) | (simp; omega))) | (refine Box.below ?_ hb2 (by first | omega | (simp; done) | (simp; omega))) | (refine Box.below ?_ hb3 (by first | omega | (simp; done) | (simp; omega))))) hb1 (by first | omega | (simp; done) | (simp; omega))
  have br : Box w1 (w.heap.size + 1) #[.int .i64 0, .int .i64 0, .slice none 0 0, .slice none 0 0] 24 := Box.below (by repeat (first | (with_reducible assumption) | (with_reducible refine Box.at _ _ (by first | omega | (simp; done) | (simp; omega))) | (with_reducible refine Box.drew ?_) | (with_reducible refine Box.alloc ?_ _) | (with_reducible refine Box.other ?_ _ _ _ (by first | omega | (simp; done) | (simp; omega))) | (refine Box.below ?_ hb2 (by first | omega | (simp; done) | (simp; omega))) | (refine Box.below ?_ hb3 (by first | omega | (simp; done) | (simp; omega))))) hb1 (by first | omega | (simp; done) | (simp; omega))
  have hb : Below w.heap.size w w1 := (by repeat (first | (with_reducible exact Below.refl _ _) | (with_reducible assumption) | (with_reducible refine Below.drew ?_) | (with_reducible refine below_drewN ?_ _) | (with_reducible refine Below.alloc ?_ (by first | omega | (simp; done) | (simp; omega)) _) | (with_reducible refine Below.setCell ?_ (by first | omega | (simp; done) | (simp; omega)) _) | (with_reducible refine Below.trans ?_ (Below.mono (by assumption) (by first | omega | (simp; done) | (simp; omega))))))
  clear hb1
  have z1 := ba.lt; have z3 := br.lt
  have r0 : w1.cell? ⟨w.heap.size + 1, 0, none⟩ = some (.int .i64 0) := br.cell 0
  have r1 : w1.cell? ⟨w.heap.size + 1, 1, none⟩ = some (.int .i64 0) := br.cell 1
  have r2 : w1.cell? ⟨w.heap.size + 1, 2, none⟩ = some (.slice none 0 0) := br.cell 2
  have r3 : w1.cell? ⟨w.heap.size + 1, 3, none⟩ = some (.slice none 0 0) := br.cell 3
  have k0 := br.frozen 0; have k1 := br.frozen 1; have k2 := br.frozen 2; have k3 := br.frozen 3
  by_cases ha : okT a.id a.hs a.st a.fo = true
  · have HA1 := hid ha
    by_cases hk : (decide (1 ≤ k) && decide (k ≤ 4)) = true
    · have HK := hid hk
      have la : a.st.length ≤ 12 ∧ a.fo.length ≤ 12 := by have := HA1.out; simp [okT] at this; omega
      have e0 : w1.cell? ⟨w.heap.size, 0, none⟩ = some (.int .i64 a.id) := ba.cell 0
      have e1 : w1.cell? ⟨w.heap.size, 1, none⟩ = some (.int .i64 a.hs) := ba.cell 1
      have e2 : w1.cell? ⟨w.heap.size, 2, none⟩ = some (.slice sa a.st.length sc) := ba.cell 2
      have e3 : w1.cell? ⟨w.heap.size, 3, none⟩ = some (.slice fa a.fo.length fc) := ba.cell 3
      by_cases l1 : a.st.length = 12
      · have J : Hid (notchF a k = (zeroT, 9)) := by show notchF a k = _; rw [notchF_ref, if_neg (by rw [show a.ok = true from HA1.out]; simp), if_neg (by rw [HK.out]; simp), if_pos l1]
        have l1' : ((a.st.length : Int) == 12) = true := by simp; omega
        clear l1
        go_wp2_with (refine (within_any _ _ _ _).mono ?_; rintro e w' ⟨rfl, rfl⟩)
        refine bodyPost_ret (v := .tuple #[.agg #[.int .i64 0, .int .i64 0, .slice none 0 0, .slice none 0 0], .int .i64 9]) (by simp [results, Tryd.results21, go_sem, r0, r1, r2, r3]) rfl ?_
        rw [J.out]
        exact ⟨_, rfl, (by repeat (first | (with_reducible exact Below.refl _ _) | (with_reducible assumption) | (with_reducible refine Below.drew ?_) | (with_reducible refine below_drewN ?_ _) | (with_reducible refine Below.alloc ?_ (by first | omega | (simp; done) | (simp; omega)) _) | (with_reducible refine Below.setCell ?_ (by first | omega | (simp; done) | (simp; omega)) _) | (with_reducible refine Below.trans ?_ (Below.mono (by assumption) (by first | omega | (simp; done) | (simp; omega)))))), NewT.zero _ _⟩
      · have l1' : ((a.st.length : Int) == 12) = false := by simp; omega
        by_cases l2 : a.fo.length = 12
        · have J : Hid (notchF a k = (zeroT, 9)) := by show notchF a k = _; rw [notchF_ref, if_neg (by rw [show a.ok = true from HA1.out]; simp), if_neg (by rw [HK.out]; simp), if_neg l1, if_pos l2]
          have l2' : ((a.fo.length : Int) == 12) = true := by simp; omega
          clear l1 l2
          go_wp2_with (refine (within_any _ _ _ _).mono ?_; rintro e w' ⟨rfl, rfl⟩)
          refine bodyPost_ret (v := .tuple #[.agg #[.int .i64 0, .int .i64 0, .slice none 0 0, .slice none 0 0], .int .i64 9]) (by simp [results, Tryd.results21, go_sem, r0, r1, r2, r3]) rfl ?_
          rw [J.out]
          exact ⟨_, rfl, (by repeat (first | (with_reducible exact Below.refl _ _) | (with_reducible assumption) | (with_reducible refine Below.drew ?_) | (with_reducible refine below_drewN ?_ _) | (with_reducible refine Below.alloc ?_ (by first | omega | (simp; done) | (simp; omega)) _) | (with_reducible refine Below.setCell ?_ (by first | omega | (simp; done) | (simp; omega)) _) | (with_reducible refine Below.trans ?_ (Below.mono (by assumption) (by first | omega | (simp; done) | (simp; omega)))))), NewT.zero _ _⟩
        · have l2' : ((a.fo.length : Int) == 12) = false := by simp; omega
          have J : Hid (notchF a k = (⟨a.id, a.hs, a.st ++ [k], a.fo ++ [k]⟩, 0)) := by show notchF a k = _; rw [notchF_ref, if_neg (by rw [show a.ok = true from HA1.out]; simp), if_neg (by rw [HK.out]; simp), if_neg l1, if_neg l2]
          clear l1 l2
          go_wp2_with (first | (refine (within_any _ _ _ _).mono ?_; rintro e w' ⟨rfl, rfl⟩) | fail)
          refine (twin_any _ _ _ _ _ _ _ _ _ HA.out.1 HA.out.2 (H1.out.below (by repeat (first | (with_reducible exact Below.refl _ _) | (with_reducible assumption) | (with_reducible refine Below.drew ?_) | (with_reducible refine below_drewN ?_ _) | (with_reducible refine Below.alloc ?_ (by first | omega | (simp; done) | (simp; omega)) _) | (with_reducible refine Below.setCell ?_ (by first | omega | (simp; done) | (simp; omega)) _) | (with_reducible refine Below.trans ?_ (Below.mono (by assumption) (by first | omega | (simp; done) | (simp; omega))))))) (H2.out.below (by repeat (first | (with_reducible exact Below.refl _ _) | (with_reducible assumption) | (with_reducible refine Below.drew ?_) | (with_reducible refine below_drewN ?_ _) | (with_reducible refine Below.alloc ?_ (by first | omega | (simp; done) | (simp; omega)) _) | (with_reducible refine Below.setCell ?_ (by first | omega | (simp; done) | (simp; omega)) _) | (with_reducible refine Below.trans ?_ (Below.mono (by assumption) (by first | omega | (simp; done) | (simp; omega)))))))).mono ?_
          rintro e w3 ⟨v, rfl, hb3, s1, c1, s2, c2, rfl, o1, o2, hap⟩
          have hz3 := hb3.size
          have br3 : Box w3 (w.heap.size + 1) #[.int .i64 0, .int .i64 0, .slice none 0 0, .slice none 0 0] 24 := br.below hb3 br.lt
          have hw3 : Below w.heap.size w w3 := hb.trans (hb3.mono (by omega))
          have O1 := hid (own_base (base' := w.heap.size + 2) o1 (by omega)); have O2 := hid (own_base (base' := w.heap.size + 2) o2 (by omega)); clear o1 o2 hb3
          clear e0 e1 e2 e3 r0 r1 r2 r3 k0 k1 k2 k3 ba br hb
          simp only [] at O1 O2 hap
          go_wp2_with fail
          obtain ⟨i0, hi, iz0, iz1, iz2⟩ := info_parts infoInt
          obtain ⟨M, hM⟩ : ∃ M, M = w3.heap.size := ⟨_, rfl⟩
          rw [← hM]
          refine wp_world (fun w4 => Box w4 M #[.int .i64 a.id, .int .i64 a.hs, .slice s1 a.st.length c1, .slice s2 a.fo.length c2] 24 ∧ Box w4 (w.heap.size + 1) #[.int .i64 0, .int .i64 0, .slice none 0 0, .slice none 0 0] 24 ∧ Below w.heap.size w w4 ∧
            w4.ownsRow (w.heap.size + 2) 3 1 (.slice s1 a.st.length c1) a.st.length (a.st.map (Value.int .i64)) ∧ w4.ownsRow (w.heap.size + 2) 3 1 (.slice s2 a.fo.length c2) a.fo.length (a.fo.map (Value.int .i64)) ∧
            (∀ g, (Value.slice s1 a.st.length c1).ownBlock = some g → g < M) ∧ (∀ g, (Value.slice s2 a.fo.length c2).ownBlock = some g → g < M)) ⟨Box.at _ _ hM, br3.alloc _, (by repeat (first | (with_reducible exact Below.refl _ _) | (with_reducible assumption) | (with_reducible refine Below.drew ?_) | (with_reducible refine below_drewN ?_ _) | (with_reducible refine Below.alloc ?_ (by first | omega | (simp; done) | (simp; omega)) _) | (with_reducible refine Below.setCell ?_ (by first | omega | (simp; done) | (simp; omega)) _) | (with_reducible refine Below.trans ?_ (Below.mono (by assumption) (by first | omega | (simp; done) | (simp; omega)))))), O1.out.alloc _, O2.out.alloc _, fun g hg => hM ▸ (O1.out.lt g hg).2, fun g hg => hM ▸ (O2.out.lt g hg).2⟩ ?_
          rintro w4 ⟨b6, br4, hw4, o1, o2, lt1, lt2⟩
          have hM2 : w.heap.size + 2 ≤ M := by omega
          clear hz3 hM O1 O2 br3 hw3
          have O1 := hid o1; have O2 := hid o2; have L1 := hid lt1; have L2 := hid lt2; clear o1 o2 lt1 lt2
          refine wp_post (fun a' w' => ∃ x0 x1 x2 x3 x4 x5 x6 x7 x8 x9 x10 x11 x12 x13 x14 x15 x16 x17 x18 x19 x20 x21 x22 x23 x24 x25 x26 x27 x28 x29 x30 x31 x32 x33 x34 x35 x36 x37 x38 x39 x40 t1 d1 t2 d2, a' = ⟨#[x0, x1, x2, x3, x4, x5, x6, x7, x8, x9, x10, x11, x12, x13, x14, x15, x16, x17, x18, x19, x20, x21, x22, x23, x24, x25, x26, x27, x28, x29, x30, x31, x32, x33, x34, x35, x36, x37, x38, x39, x40], []⟩ ∧ x4 = .pointer (some ⟨w.heap.size + 1, 0, none⟩) ∧ x6 = .pointer (some ⟨M, 0, none⟩) ∧ Below w.heap.size w w' ∧
            Box w' M #[.int .i64 a.id, .int .i64 a.hs, .slice t1 (a.st.length + 1) d1, .slice t2 (a.fo.length + 1) d2] 24 ∧ Box w' (w.heap.size + 1) #[.int .i64 0, .int .i64 0, .slice none 0 0, .slice none 0 0] 24 ∧
            w'.ownsRow (w.heap.size + 2) 3 1 (.slice t1 (a.st.length + 1) d1) (a.st.length + 1) ((a.st ++ [k]).map (Value.int .i64)) ∧ w'.ownsRow (w.heap.size + 2) 3 1 (.slice t2 (a.fo.length + 1) d2) (a.fo.length + 1) ((a.fo ++ [k]).map (Value.int .i64)) ∧ ApartV (.slice t1 (a.st.length + 1) d1) (.slice t2 (a.fo.length + 1) d2)) ?_ ?_
          · have q1 : w4.cell? ⟨M, 2, none⟩ = some (.slice s1 a.st.length c1) := b6.cell 2
            have q2 : w4.cell? ⟨M, 3, none⟩ = some (.slice s2 a.fo.length c2) := b6.cell 3
            have z6 := b6.lt
            refine wp_region_F [1, 6] (fun w' => w'.cell? ⟨M, 2, none⟩ = some (.slice s1 a.st.length c1) ∧ w'.cell? ⟨M, 3, none⟩ = some (.slice s2 a.fo.length c2)) mixed ⟨by go_simp, by go_simp⟩ ?_
            intro hS0; have hS := hid hS0; clear hS0
            (apply wpAnyF_pure (i := 0) rfl (by kernel_rfl) (fun _ _ _ h => h); · first | exact .inr ⟨rfl, rfl⟩ | exact .inl ⟨rfl, fun w' => by go_simp; rfl⟩); simp only [Act.put, List.setIfInBounds_toArray, List.set_cons_succ, List.set_cons_zero, List.getElem_toArray, List.getElem_cons_succ, List.getElem_cons_zero]
            (apply wpAnyF_held (i := 1) rfl (by kernel_rfl) (fun _ _ _ h => h) hS.out; · first | exact .inr ⟨rfl, rfl⟩ | exact .inl ⟨rfl, fun w' hS' => by (obtain ⟨s1, s2⟩ := hS'; go_simp; rfl)⟩); simp only [Act.put, List.setIfInBounds_toArray, List.set_cons_succ, List.set_cons_zero, List.getElem_toArray, List.getElem_cons_succ, List.getElem_cons_zero]
            (apply wpAnyF_pure (i := 2) rfl (by kernel_rfl) (fun _ _ _ h => h); · first | exact .inr ⟨rfl, rfl⟩ | exact .inl ⟨rfl, fun w' => by go_simp; rfl⟩); simp only [Act.put, List.setIfInBounds_toArray, List.set_cons_succ, List.set_cons_zero, List.getElem_toArray, List.getElem_cons_succ, List.getElem_cons_zero]
            (apply wpAnyF_pure (i := 5) rfl (by kernel_rfl) (fun _ _ _ h => h); · first | exact .inr ⟨rfl, rfl⟩ | exact .inl ⟨rfl, fun w' => by go_simp; rfl⟩); simp only [Act.put, List.setIfInBounds_toArray, List.set_cons_succ, List.set_cons_zero, List.getElem_toArray, List.getElem_cons_succ, List.getElem_cons_zero]
            (apply wpAnyF_held (i := 6) rfl (by kernel_rfl) (fun _ _ _ h => h) hS.out; · first | exact .inr ⟨rfl, rfl⟩ | exact .inl ⟨rfl, fun w' hS' => by (obtain ⟨s1, s2⟩ := hS'; go_simp; rfl)⟩); simp only [Act.put, List.setIfInBounds_toArray, List.set_cons_succ, List.set_cons_zero, List.getElem_toArray, List.getElem_cons_succ, List.getElem_cons_zero]
            (apply wpAnyF_pure (i := 7) rfl (by kernel_rfl) (fun _ _ _ h => h); · first | exact .inr ⟨rfl, rfl⟩ | exact .inl ⟨rfl, fun w' => by go_simp; rfl⟩); simp only [Act.put, List.setIfInBounds_toArray, List.set_cons_succ, List.set_cons_zero, List.getElem_toArray, List.getElem_cons_succ, List.getElem_cons_zero]
            refine wpAnyF_two (i := 3) (j := 8) rfl rfl ⟨by kernel_rfl, by kernel_rfl, by kernel_rfl⟩ ?_ ?_
            ·
              intro K hK
              go_simp
              refine shutS hK (by obtain ⟨s1, s2⟩ := hS.out; exact ⟨by go_simp, by go_simp⟩) (fun hS => ?_)
              refine wpAnyF_two (i := 4) (j := 8) rfl rfl ⟨by kernel_rfl, by kernel_rfl, by kernel_rfl⟩ ?_ ?_
              ·
                intro K hK
                refine step_append_any _ rfl _ _ _ rfl (w.heap.size + 2) 3 i0 _ 1 8 Tryd.underlying22 hi iz0 iz1 iz2 rfl (by decide) (.slice s1 a.st.length c1) a.st.length (a.st.map (Value.int .i64)) rfl (by first | exact (O1.out.alloc _).drew | exact ((O1.out.alloc _).alloc _).drew) (some ⟨_, 0, none⟩) 1 1 ([k].map (Value.int .i64)) rfl (by simp) (fun h => by cases h) (RdI.news (rdI_one (t := 3) (by repeat (first | (with_reducible assumption) | (with_reducible refine Box.at _ _ (by first | omega | (simp; done) | (simp; omega))) | (with_reducible refine Box.drew ?_) | (with_reducible refine Box.alloc ?_ _) | (with_reducible refine Box.other ?_ _ _ _ (by first | omega | (simp; done) | (simp; omega))) | (refine Box.below ?_ hb2 (by first | omega | (simp; done) | (simp; omega))) | (refine Box.below ?_ hb3 (by first | omega | (simp; done) | (simp; omega))))))) (ints_one _) (by omega) (by omega) (by first | omega | (simp; done) | (simp; omega)) ?_
                intro t1 d1 w5 own5 gr5 pl5
                have hs5 := gr5.size
                have pl5' : (Value.slice t1 (a.st.length + 1) d1).ownBlock = (Value.slice s1 a.st.length c1).ownBlock ∨ ∃ x, w4.heap.size ≤ x ∧ (Value.slice t1 (a.st.length + 1) d1).ownBlock = some x := by
                  rcases pl5 with p | p
                  · exact .inl p
                  · exact .inr ⟨_, (by first | omega | (simp; done) | (simp; omega)), p⟩
                have nr : ∀ x, (x = M ∨ x < w.heap.size + 2 ∨ w4.heap.size ≤ x) → (Value.slice s1 a.st.length c1).ownBlock ≠ some x := fun x hx h => by
                  have h1 := (O1.out.lt x h).1; have h2 := L1.out x h; omega
                have b65 : Box w5 M #[.int .i64 a.id, .int .i64 a.hs, .slice s1 a.st.length c1, .slice s2 a.fo.length c2] 24 := Box.grown (by repeat (first | (with_reducible assumption) | (with_reducible refine Box.at _ _ (by first | omega | (simp; done) | (simp; omega))) | (with_reducible refine Box.drew ?_) | (with_reducible refine Box.alloc ?_ _) | (with_reducible refine Box.other ?_ _ _ _ (by first | omega | (simp; done) | (simp; omega))) | (refine Box.below ?_ hb2 (by first | omega | (simp; done) | (simp; omega))) | (refine Box.below ?_ hb3 (by first | omega | (simp; done) | (simp; omega))))) gr5 (nr _ (.inl rfl))
                have br5 : Box w5 (w.heap.size + 1) #[.int .i64 0, .int .i64 0, .slice none 0 0, .slice none 0 0] 24 := Box.grown (by repeat (first | (with_reducible assumption) | (with_reducible refine Box.at _ _ (by first | omega | (simp; done) | (simp; omega))) | (with_reducible refine Box.drew ?_) | (with_reducible refine Box.alloc ?_ _) | (with_reducible refine Box.other ?_ _ _ _ (by first | omega | (simp; done) | (simp; omega))) | (refine Box.below ?_ hb2 (by first | omega | (simp; done) | (simp; omega))) | (refine Box.below ?_ hb3 (by first | omega | (simp; done) | (simp; omega))))) gr5 (nr _ (.inr (.inl (by omega))))
                have hw5 : Below w.heap.size w w5 := Below.grown (a := w) (by repeat (first | (with_reducible exact Below.refl _ _) | (with_reducible assumption) | (with_reducible refine Below.drew ?_) | (with_reducible refine below_drewN ?_ _) | (with_reducible refine Below.alloc ?_ (by first | omega | (simp; done) | (simp; omega)) _) | (with_reducible refine Below.setCell ?_ (by first | omega | (simp; done) | (simp; omega)) _) | (with_reducible refine Below.trans ?_ (Below.mono (by assumption) (by first | omega | (simp; done) | (simp; omega)))))) gr5 (by first | omega | (simp; done) | (simp; omega)) (fun k hk => by have := (O1.out.lt k hk).1; omega)
                have o25 : w5.ownsRow (w.heap.size + 2) 3 1 (.slice s2 a.fo.length c2) a.fo.length (a.fo.map (Value.int .i64)) := own_kept (by first | exact (O2.out.alloc _).drew | exact ((O2.out.alloc _).alloc _).drew) gr5 hap
                have hap5 : ApartV (.slice t1 (a.st.length + 1) d1) (.slice s2 a.fo.length c2) := by
                  rcases pl5' with p | ⟨x, hx, p⟩
                  · exact apart_left hap O2.out (Nat.le_refl _) (.inl p)
                  · exact apart_left hap O2.out hx (.inr p)
                have z65 := b65.lt
                have bk : ∀ B, w4.heap.size ≤ B → ∀ W : World, Box W B #[.int .i64 k] 3 → W.grownBy w5 (Value.slice s1 a.st.length c1).ownBlock → Box w5 B #[.int .i64 k] 3 := fun B hB W hbx hg => Box.grown hbx hg (nr _ (.inr (.inr hB)))
                refine shutS hK ⟨b65.cell 2, b65.cell 3⟩ (fun hS => ?_)
                (apply wpAnyF_pure (i := 10) rfl (by kernel_rfl) (fun _ _ _ h => h); · first | exact .inr ⟨rfl, rfl⟩ | exact .inl ⟨rfl, fun w' => by go_simp; rfl⟩); simp only [Act.put, List.setIfInBounds_toArray, List.set_cons_succ, List.set_cons_zero, List.getElem_toArray, List.getElem_cons_succ, List.getElem_cons_zero]
                refine wpAnyF_one (i := 8) rfl ⟨by kernel_rfl, by kernel_rfl⟩ ?_
                intro K hK
                go_simp
                refine shutS hK (by obtain ⟨s1, s2⟩ := hS.out; exact ⟨by go_simp, by go_simp⟩) (fun hS => ?_)
                refine wpAnyF_one (i := 9) rfl ⟨by kernel_rfl, by kernel_rfl⟩ ?_
                intro K hK
                refine step_append_any _ rfl _ _ _ rfl (w.heap.size + 2) 3 i0 _ 1 8 Tryd.underlying22 hi iz0 iz1 iz2 rfl (by decide) (.slice s2 a.fo.length c2) a.fo.length (a.fo.map (Value.int .i64)) rfl (by first | exact o25 | exact o25.alloc _) (some ⟨_, 0, none⟩) 1 1 ([k].map (Value.int .i64)) rfl (by simp) (fun h => by cases h) (RdI.news (rdI_one (t := 3) (by first | exact Box.at _ _ rfl | exact bk _ (by first | omega | (simp; done) | (simp; omega)) _ (by repeat (first | (with_reducible assumption) | (with_reducible refine Box.at _ _ (by first | omega | (simp; done) | (simp; omega))) | (with_reducible refine Box.drew ?_) | (with_reducible refine Box.alloc ?_ _) | (with_reducible refine Box.other ?_ _ _ _ (by first | omega | (simp; done) | (simp; omega))) | (refine Box.below ?_ hb2 (by first | omega | (simp; done) | (simp; omega))) | (refine Box.below ?_ hb3 (by first | omega | (simp; done) | (simp; omega))))) gr5))) (ints_one _) (by omega) (by omega) (by first | omega | (simp; done) | (simp; omega)) ?_
                intro t2 d2 w6 own6 gr6 pl6
                have pl6' : (Value.slice t2 (a.fo.length + 1) d2).ownBlock = (Value.slice s2 a.fo.length c2).ownBlock ∨ ∃ x, w5.heap.size ≤ x ∧ (Value.slice t2 (a.fo.length + 1) d2).ownBlock = some x := by
                  rcases pl6 with p | p
                  · exact .inl p
                  · exact .inr ⟨_, (by first | omega | (simp; done) | (simp; omega)), p⟩
                have nr2 : ∀ x, (x = M ∨ x < w.heap.size + 2) → (Value.slice s2 a.fo.length c2).ownBlock ≠ some x := fun x hx h => by
                  have h1 := (O2.out.lt x h).1; have h2 := L2.out x h; omega
                have b66 : Box w6 M #[.int .i64 a.id, .int .i64 a.hs, .slice s1 a.st.length c1, .slice s2 a.fo.length c2] 24 := Box.grown (by repeat (first | (with_reducible assumption) | (with_reducible refine Box.at _ _ (by first | omega | (simp; done) | (simp; omega))) | (with_reducible refine Box.drew ?_) | (with_reducible refine Box.alloc ?_ _) | (with_reducible refine Box.other ?_ _ _ _ (by first | omega | (simp; done) | (simp; omega))) | (refine Box.below ?_ hb2 (by first | omega | (simp; done) | (simp; omega))) | (refine Box.below ?_ hb3 (by first | omega | (simp; done) | (simp; omega))))) gr6 (nr2 _ (.inl rfl))
                have br6 : Box w6 (w.heap.size + 1) #[.int .i64 0, .int .i64 0, .slice none 0 0, .slice none 0 0] 24 := Box.grown (by repeat (first | (with_reducible assumption) | (with_reducible refine Box.at _ _ (by first | omega | (simp; done) | (simp; omega))) | (with_reducible refine Box.drew ?_) | (with_reducible refine Box.alloc ?_ _) | (with_reducible refine Box.other ?_ _ _ _ (by first | omega | (simp; done) | (simp; omega))) | (refine Box.below ?_ hb2 (by first | omega | (simp; done) | (simp; omega))) | (refine Box.below ?_ hb3 (by first | omega | (simp; done) | (simp; omega))))) gr6 (nr2 _ (.inr (by omega)))
                have hs5' := hw5.size
                have hw6 : Below w.heap.size w w6 := Below.grown (a := w) (by repeat (first | (with_reducible exact Below.refl _ _) | (with_reducible assumption) | (with_reducible refine Below.drew ?_) | (with_reducible refine below_drewN ?_ _) | (with_reducible refine Below.alloc ?_ (by first | omega | (simp; done) | (simp; omega)) _) | (with_reducible refine Below.setCell ?_ (by first | omega | (simp; done) | (simp; omega)) _) | (with_reducible refine Below.trans ?_ (Below.mono (by assumption) (by first | omega | (simp; done) | (simp; omega)))))) gr6 (by first | omega | (simp; done) | (simp; omega)) (fun k hk => by have := (O2.out.lt k hk).1; omega)
                have o16 : w6.ownsRow (w.heap.size + 2) 3 1 (.slice t1 (a.st.length + 1) d1) (a.st.length + 1) (a.st.map (Value.int .i64) ++ [k].map (Value.int .i64)) := own_kept (by first | exact own5 | exact own5.alloc _) gr6 (fun g hg hu => hap5 g hu hg)
                have hap6 : ApartV (.slice t1 (a.st.length + 1) d1) (.slice t2 (a.fo.length + 1) d2) := by
                  rcases pl6' with p | ⟨x, hx, p⟩
                  · exact apart_right hap5 own5 (Nat.le_refl _) (.inl p)
                  · exact apart_right hap5 own5 hx (.inr p)
                have nt1 : (Value.slice t1 (a.st.length + 1) d1).ownBlock ≠ some M := fun h => by
                  rcases pl5' with p | ⟨x, hx, p⟩
                  · rw [p] at h; exact nr M (.inl rfl) h
                  · rw [p] at h; cases h; omega
                have nt2 : (Value.slice t2 (a.fo.length + 1) d2).ownBlock ≠ some M := fun h => by
                  rcases pl6' with p | ⟨x, hx, p⟩
                  · rw [p] at h; exact nr2 M (.inl rfl) h
                  · rw [p] at h; cases h; omega
                have g2 := b66.cell 2; have g3 := b66.cell 3; have k2 := b66.frozen 2; have k3 := b66.frozen 3
                simp at g2 g3
                refine shutN hK (by kernel_rfl) ?_
                refine wpAnyF_one (i := 11) rfl ⟨by kernel_rfl, by kernel_rfl⟩ ?_
                intro K hK
                go_simp
                refine shutN hK (by kernel_rfl) ?_
                (apply wpAnyF_pure (i := 12) rfl (by kernel_rfl) (fun _ _ _ h => h); · first | exact .inr ⟨rfl, rfl⟩ | exact .inl ⟨rfl, fun w' => by go_simp; rfl⟩); simp only [Act.put, List.setIfInBounds_toArray, List.set_cons_succ, List.set_cons_zero, List.getElem_toArray, List.getElem_cons_succ, List.getElem_cons_zero]
                refine wpAnyF_one (i := 13) rfl ⟨by kernel_rfl, by kernel_rfl⟩ ?_
                intro K hK
                go_simp
                refine shutN hK (by kernel_rfl) ?_
                refine wpAnyF_done (by kernel_rfl) ?_ _
                exact ⟨_, _, _, _, _, _, _, _, _, _, _, _, _, _, _, _, _, _, _, _, _, _, _, _, _, _, _, _, _, _, _, _, _, _, _, _, _, _, _, _, _, t1, d1, t2, d2, rfl, rfl, rfl, (hw6.setCell (p := ⟨M, 2, none⟩) (by simp; omega) _).setCell (p := ⟨M, 3, none⟩) (by simp; omega) _, (b66.set 2 _).set 3 _, (br6.other _ _ _ (by omega)).other _ _ _ (by omega), by rw [List.map_append]; exact own_keep (own_keep o16 nt1) nt1, by rw [List.map_append]; exact own_keep (own_keep own6 nt2) nt2, hap6⟩
              ·
                intro K hK
                go_simp
                refine shutS hK (by obtain ⟨s1, s2⟩ := hS.out; exact ⟨by go_simp, by go_simp⟩) (fun hS => ?_)
                refine wpAnyF_one (i := 4) rfl ⟨by kernel_rfl, by kernel_rfl⟩ ?_
                intro K hK
                refine step_append_any _ rfl _ _ _ rfl (w.heap.size + 2) 3 i0 _ 1 8 Tryd.underlying22 hi iz0 iz1 iz2 rfl (by decide) (.slice s1 a.st.length c1) a.st.length (a.st.map (Value.int .i64)) rfl (by first | exact (O1.out.alloc _).drew | exact ((O1.out.alloc _).alloc _).drew) (some ⟨_, 0, none⟩) 1 1 ([k].map (Value.int .i64)) rfl (by simp) (fun h => by cases h) (RdI.news (rdI_one (t := 3) (by repeat (first | (with_reducible assumption) | (with_reducible refine Box.at _ _ (by first | omega | (simp; done) | (simp; omega))) | (with_reducible refine Box.drew ?_) | (with_reducible refine Box.alloc ?_ _) | (with_reducible refine Box.other ?_ _ _ _ (by first | omega | (simp; done) | (simp; omega))) | (refine Box.below ?_ hb2 (by first | omega | (simp; done) | (simp; omega))) | (refine Box.below ?_ hb3 (by first | omega | (simp; done) | (simp; omega))))))) (ints_one _) (by omega) (by omega) (by first | omega | (simp; done) | (simp; omega)) ?_
                intro t1 d1 w5 own5 gr5 pl5
                have hs5 := gr5.size
                have pl5' : (Value.slice t1 (a.st.length + 1) d1).ownBlock = (Value.slice s1 a.st.length c1).ownBlock ∨ ∃ x, w4.heap.size ≤ x ∧ (Value.slice t1 (a.st.length + 1) d1).ownBlock = some x := by
                  rcases pl5 with p | p
                  · exact .inl p
                  · exact .inr ⟨_, (by first | omega | (simp; done) | (simp; omega)), p⟩
                have nr : ∀ x, (x = M ∨ x < w.heap.size + 2 ∨ w4.heap.size ≤ x) → (Value.slice s1 a.st.length c1).ownBlock ≠ some x := fun x hx h => by
                  have h1 := (O1.out.lt x h).1; have h2 := L1.out x h; omega
                have b65 : Box w5 M #[.int .i64 a.id, .int .i64 a.hs, .slice s1 a.st.length c1, .slice s2 a.fo.length c2] 24 := Box.grown (by repeat (first | (with_reducible assumption) | (with_reducible refine Box.at _ _ (by first | omega | (simp; done) | (simp; omega))) | (with_reducible refine Box.drew ?_) | (with_reducible refine Box.alloc ?_ _) | (with_reducible refine Box.other ?_ _ _ _ (by first | omega | (simp; done) | (simp; omega))) | (refine Box.below ?_ hb2 (by first | omega | (simp; done) | (simp; omega))) | (refine Box.below ?_ hb3 (by first | omega | (simp; done) | (simp; omega))))) gr5 (nr _ (.inl rfl))
                have br5 : Box w5 (w.heap.size + 1) #[.int .i64 0, .int .i64 0, .slice none 0 0, .slice none 0 0] 24 := Box.grown (by repeat (first | (with_reducible assumption) | (with_reducible refine Box.at _ _ (by first | omega | (simp; done) | (simp; omega))) | (with_reducible refine Box.drew ?_) | (with_reducible refine Box.alloc ?_ _) | (with_reducible refine Box.other ?_ _ _ _ (by first | omega | (simp; done) | (simp; omega))) | (refine Box.below ?_ hb2 (by first | omega | (simp; done) | (simp; omega))) | (refine Box.below ?_ hb3 (by first | omega | (simp; done) | (simp; omega))))) gr5 (nr _ (.inr (.inl (by omega))))
                have hw5 : Below w.heap.size w w5 := Below.grown (a := w) (by repeat (first | (with_reducible exact Below.refl _ _) | (with_reducible assumption) | (with_reducible refine Below.drew ?_) | (with_reducible refine below_drewN ?_ _) | (with_reducible refine Below.alloc ?_ (by first | omega | (simp; done) | (simp; omega)) _) | (with_reducible refine Below.setCell ?_ (by first | omega | (simp; done) | (simp; omega)) _) | (with_reducible refine Below.trans ?_ (Below.mono (by assumption) (by first | omega | (simp; done) | (simp; omega)))))) gr5 (by first | omega | (simp; done) | (simp; omega)) (fun k hk => by have := (O1.out.lt k hk).1; omega)
                have o25 : w5.ownsRow (w.heap.size + 2) 3 1 (.slice s2 a.fo.length c2) a.fo.length (a.fo.map (Value.int .i64)) := own_kept (by first | exact (O2.out.alloc _).drew | exact ((O2.out.alloc _).alloc _).drew) gr5 hap
                have hap5 : ApartV (.slice t1 (a.st.length + 1) d1) (.slice s2 a.fo.length c2) := by
                  rcases pl5' with p | ⟨x, hx, p⟩
                  · exact apart_left hap O2.out (Nat.le_refl _) (.inl p)
                  · exact apart_left hap O2.out hx (.inr p)
                have z65 := b65.lt
                have bk : ∀ B, w4.heap.size ≤ B → ∀ W : World, Box W B #[.int .i64 k] 3 → W.grownBy w5 (Value.slice s1 a.st.length c1).ownBlock → Box w5 B #[.int .i64 k] 3 := fun B hB W hbx hg => Box.grown hbx hg (nr _ (.inr (.inr hB)))
                refine shutS hK ⟨b65.cell 2, b65.cell 3⟩ (fun hS => ?_)
                (apply wpAnyF_pure (i := 10) rfl (by kernel_rfl) (fun _ _ _ h => h); · first | exact .inr ⟨rfl, rfl⟩ | exact .inl ⟨rfl, fun w' => by go_simp; rfl⟩); simp only [Act.put, List.setIfInBounds_toArray, List.set_cons_succ, List.set_cons_zero, List.getElem_toArray, List.getElem_cons_succ, List.getElem_cons_zero]
                refine wpAnyF_one (i := 9) rfl ⟨by kernel_rfl, by kernel_rfl⟩ ?_
                intro K hK
                refine step_append_any _ rfl _ _ _ rfl (w.heap.size + 2) 3 i0 _ 1 8 Tryd.underlying22 hi iz0 iz1 iz2 rfl (by decide) (.slice s2 a.fo.length c2) a.fo.length (a.fo.map (Value.int .i64)) rfl (by first | exact o25 | exact o25.alloc _) (some ⟨_, 0, none⟩) 1 1 ([k].map (Value.int .i64)) rfl (by simp) (fun h => by cases h) (RdI.news (rdI_one (t := 3) (by first | exact Box.at _ _ rfl | exact bk _ (by first | omega | (simp; done) | (simp; omega)) _ (by repeat (first | (with_reducible assumption) | (with_reducible refine Box.at _ _ (by first | omega | (simp; done) | (simp; omega))) | (with_reducible refine Box.drew ?_) | (with_reducible refine Box.alloc ?_ _) | (with_reducible refine Box.other ?_ _ _ _ (by first | omega | (simp; done) | (simp; omega))) | (refine Box.below ?_ hb2 (by first | omega | (simp; done) | (simp; omega))) | (refine Box.below ?_ hb3 (by first | omega | (simp; done) | (simp; omega))))) gr5))) (ints_one _) (by omega) (by omega) (by first | omega | (simp; done) | (simp; omega)) ?_
                intro t2 d2 w6 own6 gr6 pl6
                have pl6' : (Value.slice t2 (a.fo.length + 1) d2).ownBlock = (Value.slice s2 a.fo.length c2).ownBlock ∨ ∃ x, w5.heap.size ≤ x ∧ (Value.slice t2 (a.fo.length + 1) d2).ownBlock = some x := by
                  rcases pl6 with p | p
                  · exact .inl p
                  · exact .inr ⟨_, (by first | omega | (simp; done) | (simp; omega)), p⟩
                have nr2 : ∀ x, (x = M ∨ x < w.heap.size + 2) → (Value.slice s2 a.fo.length c2).ownBlock ≠ some x := fun x hx h => by
                  have h1 := (O2.out.lt x h).1; have h2 := L2.out x h; omega
                have b66 : Box w6 M #[.int .i64 a.id, .int .i64 a.hs, .slice s1 a.st.length c1, .slice s2 a.fo.length c2] 24 := Box.grown (by repeat (first | (with_reducible assumption) | (with_reducible refine Box.at _ _ (by first | omega | (simp; done) | (simp; omega))) | (with_reducible refine Box.drew ?_) | (with_reducible refine Box.alloc ?_ _) | (with_reducible refine Box.other ?_ _ _ _ (by first | omega | (simp; done) | (simp; omega))) | (refine Box.below ?_ hb2 (by first | omega | (simp; done) | (simp; omega))) | (refine Box.below ?_ hb3 (by first | omega | (simp; done) | (simp; omega))))) gr6 (nr2 _ (.inl rfl))
                have br6 : Box w6 (w.heap.size + 1) #[.int .i64 0, .int .i64 0, .slice none 0 0, .slice none 0 0] 24 := Box.grown (by repeat (first | (with_reducible assumption) | (with_reducible refine Box.at _ _ (by first | omega | (simp; done) | (simp; omega))) | (with_reducible refine Box.drew ?_) | (with_reducible refine Box.alloc ?_ _) | (with_reducible refine Box.other ?_ _ _ _ (by first | omega | (simp; done) | (simp; omega))) | (refine Box.below ?_ hb2 (by first | omega | (simp; done) | (simp; omega))) | (refine Box.below ?_ hb3 (by first | omega | (simp; done) | (simp; omega))))) gr6 (nr2 _ (.inr (by omega)))
                have hs5' := hw5.size
                have hw6 : Below w.heap.size w w6 := Below.grown (a := w) (by repeat (first | (with_reducible exact Below.refl _ _) | (with_reducible assumption) | (with_reducible refine Below.drew ?_) | (with_reducible refine below_drewN ?_ _) | (with_reducible refine Below.alloc ?_ (by first | omega | (simp; done) | (simp; omega)) _) | (with_reducible refine Below.setCell ?_ (by first | omega | (simp; done) | (simp; omega)) _) | (with_reducible refine Below.trans ?_ (Below.mono (by assumption) (by first | omega | (simp; done) | (simp; omega)))))) gr6 (by first | omega | (simp; done) | (simp; omega)) (fun k hk => by have := (O2.out.lt k hk).1; omega)
                have o16 : w6.ownsRow (w.heap.size + 2) 3 1 (.slice t1 (a.st.length + 1) d1) (a.st.length + 1) (a.st.map (Value.int .i64) ++ [k].map (Value.int .i64)) := own_kept (by first | exact own5 | exact own5.alloc _) gr6 (fun g hg hu => hap5 g hu hg)
                have hap6 : ApartV (.slice t1 (a.st.length + 1) d1) (.slice t2 (a.fo.length + 1) d2) := by
                  rcases pl6' with p | ⟨x, hx, p⟩
                  · exact apart_right hap5 own5 (Nat.le_refl _) (.inl p)
                  · exact apart_right hap5 own5 hx (.inr p)
                have nt1 : (Value.slice t1 (a.st.length + 1) d1).ownBlock ≠ some M := fun h => by
                  rcases pl5' with p | ⟨x, hx, p⟩
                  · rw [p] at h; exact nr M (.inl rfl) h
                  · rw [p] at h; cases h; omega
                have nt2 : (Value.slice t2 (a.fo.length + 1) d2).ownBlock ≠ some M := fun h => by
                  rcases pl6' with p | ⟨x, hx, p⟩
                  · rw [p] at h; exact nr2 M (.inl rfl) h
                  · rw [p] at h; cases h; omega
                have g2 := b66.cell 2; have g3 := b66.cell 3; have k2 := b66.frozen 2; have k3 := b66.frozen 3
                simp at g2 g3
                refine shutN hK (by kernel_rfl) ?_
                refine wpAnyF_one (i := 11) rfl ⟨by kernel_rfl, by kernel_rfl⟩ ?_
                intro K hK
                go_simp
                refine shutN hK (by kernel_rfl) ?_
                (apply wpAnyF_pure (i := 12) rfl (by kernel_rfl) (fun _ _ _ h => h); · first | exact .inr ⟨rfl, rfl⟩ | exact .inl ⟨rfl, fun w' => by go_simp; rfl⟩); simp only [Act.put, List.setIfInBounds_toArray, List.set_cons_succ, List.set_cons_zero, List.getElem_toArray, List.getElem_cons_succ, List.getElem_cons_zero]
                refine wpAnyF_one (i := 13) rfl ⟨by kernel_rfl, by kernel_rfl⟩ ?_
                intro K hK
                go_simp
                refine shutN hK (by kernel_rfl) ?_
                refine wpAnyF_done (by kernel_rfl) ?_ _
                exact ⟨_, _, _, _, _, _, _, _, _, _, _, _, _, _, _, _, _, _, _, _, _, _, _, _, _, _, _, _, _, _, _, _, _, _, _, _, _, _, _, _, _, t1, d1, t2, d2, rfl, rfl, rfl, (hw6.setCell (p := ⟨M, 2, none⟩) (by simp; omega) _).setCell (p := ⟨M, 3, none⟩) (by simp; omega) _, (b66.set 2 _).set 3 _, (br6.other _ _ _ (by omega)).other _ _ _ (by omega), by rw [List.map_append]; exact own_keep (own_keep o16 nt1) nt1, by rw [List.map_append]; exact own_keep (own_keep own6 nt2) nt2, hap6⟩
            ·
              intro K hK
              go_simp
              refine shutS hK (by obtain ⟨s1, s2⟩ := hS.out; exact ⟨by go_simp, by go_simp⟩) (fun hS => ?_)
              refine wpAnyF_one (i := 3) rfl ⟨by kernel_rfl, by kernel_rfl⟩ ?_
              intro K hK
              go_simp
              refine shutS hK (by obtain ⟨s1, s2⟩ := hS.out; exact ⟨by go_simp, by go_simp⟩) (fun hS => ?_)
              refine wpAnyF_one (i := 4) rfl ⟨by kernel_rfl, by kernel_rfl⟩ ?_
              intro K hK
              refine step_append_any _ rfl _ _ _ rfl (w.heap.size + 2) 3 i0 _ 1 8 Tryd.underlying22 hi iz0 iz1 iz2 rfl (by decide) (.slice s1 a.st.length c1) a.st.length (a.st.map (Value.int .i64)) rfl (by first | exact (O1.out.alloc _).drew | exact ((O1.out.alloc _).alloc _).drew) (some ⟨_, 0, none⟩) 1 1 ([k].map (Value.int .i64)) rfl (by simp) (fun h => by cases h) (RdI.news (rdI_one (t := 3) (by repeat (first | (with_reducible assumption) | (with_reducible refine Box.at _ _ (by first | omega | (simp; done) | (simp; omega))) | (with_reducible refine Box.drew ?_) | (with_reducible refine Box.alloc ?_ _) | (with_reducible refine Box.other ?_ _ _ _ (by first | omega | (simp; done) | (simp; omega))) | (refine Box.below ?_ hb2 (by first | omega | (simp; done) | (simp; omega))) | (refine Box.below ?_ hb3 (by first | omega | (simp; done) | (simp; omega))))))) (ints_one _) (by omega) (by omega) (by first | omega | (simp; done) | (simp; omega)) ?_
              intro t1 d1 w5 own5 gr5 pl5
              have hs5 := gr5.size
              have pl5' : (Value.slice t1 (a.st.length + 1) d1).ownBlock = (Value.slice s1 a.st.length c1).ownBlock ∨ ∃ x, w4.heap.size ≤ x ∧ (Value.slice t1 (a.st.length + 1) d1).ownBlock = some x := by
                rcases pl5 with p | p
                · exact .inl p
                · exact .inr ⟨_, (by first | omega | (simp; done) | (simp; omega)), p⟩
              have nr : ∀ x, (x = M ∨ x < w.heap.size + 2 ∨ w4.heap.size ≤ x) → (Value.slice s1 a.st.length c1).ownBlock ≠ some x := fun x hx h => by
                have h1 := (O1.out.lt x h).1; have h2 := L1.out x h; omega
              have b65 : Box w5 M #[.int .i64 a.id, .int .i64 a.hs, .slice s1 a.st.length c1, .slice s2 a.fo.length c2] 24 := Box.grown (by repeat (first | (with_reducible assumption) | (with_reducible refine Box.at _ _ (by first | omega | (simp; done) | (simp; omega))) | (with_reducible refine Box.drew ?_) | (with_reducible refine Box.alloc ?_ _) | (with_reducible refine Box.other ?_ _ _ _ (by first | omega | (simp; done) | (simp; omega))) | (refine Box.below ?_ hb2 (by first | omega | (simp; done) | (simp; omega))) | (refine Box.below ?_ hb3 (by first | omega | (simp; done) | (simp; omega))))) gr5 (nr _ (.inl rfl))
              have br5 : Box w5 (w.heap.size + 1) #[.int .i64 0, .int .i64 0, .slice none 0 0, .slice none 0 0] 24 := Box.grown (by repeat (first | (with_reducible assumption) | (with_reducible refine Box.at _ _ (by first | omega | (simp; done) | (simp; omega))) | (with_reducible refine Box.drew ?_) | (with_reducible refine Box.alloc ?_ _) | (with_reducible refine Box.other ?_ _ _ _ (by first | omega | (simp; done) | (simp; omega))) | (refine Box.below ?_ hb2 (by first | omega | (simp; done) | (simp; omega))) | (refine Box.below ?_ hb3 (by first | omega | (simp; done) | (simp; omega))))) gr5 (nr _ (.inr (.inl (by omega))))
              have hw5 : Below w.heap.size w w5 := Below.grown (a := w) (by repeat (first | (with_reducible exact Below.refl _ _) | (with_reducible assumption) | (with_reducible refine Below.drew ?_) | (with_reducible refine below_drewN ?_ _) | (with_reducible refine Below.alloc ?_ (by first | omega | (simp; done) | (simp; omega)) _) | (with_reducible refine Below.setCell ?_ (by first | omega | (simp; done) | (simp; omega)) _) | (with_reducible refine Below.trans ?_ (Below.mono (by assumption) (by first | omega | (simp; done) | (simp; omega)))))) gr5 (by first | omega | (simp; done) | (simp; omega)) (fun k hk => by have := (O1.out.lt k hk).1; omega)
              have o25 : w5.ownsRow (w.heap.size + 2) 3 1 (.slice s2 a.fo.length c2) a.fo.length (a.fo.map (Value.int .i64)) := own_kept (by first | exact (O2.out.alloc _).drew | exact ((O2.out.alloc _).alloc _).drew) gr5 hap
              have hap5 : ApartV (.slice t1 (a.st.length + 1) d1) (.slice s2 a.fo.length c2) := by
                rcases pl5' with p | ⟨x, hx, p⟩
                · exact apart_left hap O2.out (Nat.le_refl _) (.inl p)
                · exact apart_left hap O2.out hx (.inr p)
              have z65 := b65.lt
              have bk : ∀ B, w4.heap.size ≤ B → ∀ W : World, Box W B #[.int .i64 k] 3 → W.grownBy w5 (Value.slice s1 a.st.length c1).ownBlock → Box w5 B #[.int .i64 k] 3 := fun B hB W hbx hg => Box.grown hbx hg (nr _ (.inr (.inr hB)))
              refine shutS hK ⟨b65.cell 2, b65.cell 3⟩ (fun hS => ?_)
              (apply wpAnyF_pure (i := 10) rfl (by kernel_rfl) (fun _ _ _ h => h); · first | exact .inr ⟨rfl, rfl⟩ | exact .inl ⟨rfl, fun w' => by go_simp; rfl⟩); simp only [Act.put, List.setIfInBounds_toArray, List.set_cons_succ, List.set_cons_zero, List.getElem_toArray, List.getElem_cons_succ, List.getElem_cons_zero]
              refine wpAnyF_one (i := 9) rfl ⟨by kernel_rfl, by kernel_rfl⟩ ?_
              intro K hK
              refine step_append_any _ rfl _ _ _ rfl (w.heap.size + 2) 3 i0 _ 1 8 Tryd.underlying22 hi iz0 iz1 iz2 rfl (by decide) (.slice s2 a.fo.length c2) a.fo.length (a.fo.map (Value.int .i64)) rfl (by first | exact o25 | exact o25.alloc _) (some ⟨_, 0, none⟩) 1 1 ([k].map (Value.int .i64)) rfl (by simp) (fun h => by cases h) (RdI.news (rdI_one (t := 3) (by first | exact Box.at _ _ rfl | exact bk _ (by first | omega | (simp; done) | (simp; omega)) _ (by repeat (first | (with_reducible assumption) | (with_reducible refine Box.at _ _ (by first | omega | (simp; done) | (simp; omega))) | (with_reducible refine Box.drew ?_) | (with_reducible refine Box.alloc ?_ _) | (with_reducible refine Box.other ?_ _ _ _ (by first | omega | (simp; done) | (simp; omega))) | (refine Box.below ?_ hb2 (by first | omega | (simp; done) | (simp; omega))) | (refine Box.below ?_ hb3 (by first | omega | (simp; done) | (simp; omega))))) gr5))) (ints_one _) (by omega) (by omega) (by first | omega | (simp; done) | (simp; omega)) ?_
              intro t2 d2 w6 own6 gr6 pl6
              have pl6' : (Value.slice t2 (a.fo.length + 1) d2).ownBlock = (Value.slice s2 a.fo.length c2).ownBlock ∨ ∃ x, w5.heap.size ≤ x ∧ (Value.slice t2 (a.fo.length + 1) d2).ownBlock = some x := by
                rcases pl6 with p | p
                · exact .inl p
                · exact .inr ⟨_, (by first | omega | (simp; done) | (simp; omega)), p⟩
              have nr2 : ∀ x, (x = M ∨ x < w.heap.size + 2) → (Value.slice s2 a.fo.length c2).ownBlock ≠ some x := fun x hx h => by
                have h1 := (O2.out.lt x h).1; have h2 := L2.out x h; omega
              have b66 : Box w6 M #[.int .i64 a.id, .int .i64 a.hs, .slice s1 a.st.length c1, .slice s2 a.fo.length c2] 24 := Box.grown (by repeat (first | (with_reducible assumption) | (with_reducible refine Box.at _ _ (by first | omega | (simp; done) | (simp; omega))) | (with_reducible refine Box.drew ?_) | (with_reducible refine Box.alloc ?_ _) | (with_reducible refine Box.other ?_ _ _ _ (by first | omega | (simp; done) | (simp; omega))) | (refine Box.below ?_ hb2 (by first | omega | (simp; done) | (simp; omega))) | (refine Box.below ?_ hb3 (by first | omega | (simp; done) | (simp; omega))))) gr6 (nr2 _ (.inl rfl))
              have br6 : Box w6 (w.heap.size + 1) #[.int .i64 0, .int .i64 0, .slice none 0 0, .slice none 0 0] 24 := Box.grown (by repeat (first | (with_reducible assumption) | (with_reducible refine Box.at _ _ (by first | omega | (simp; done) | (simp; omega))) | (with_reducible refine Box.drew ?_) | (with_reducible refine Box.alloc ?_ _) | (with_reducible refine Box.other ?_ _ _ _ (by first | omega | (simp; done) | (simp; omega))) | (refine Box.below ?_ hb2 (by first | omega | (simp; done) | (simp; omega))) | (refine Box.below ?_ hb3 (by first | omega | (simp; done) | (simp; omega))))) gr6 (nr2 _ (.inr (by omega)))
              have hs5' := hw5.size
              have hw6 : Below w.heap.size w w6 := Below.grown (a := w) (by repeat (first | (with_reducible exact Below.refl _ _) | (with_reducible assumption) | (with_reducible refine Below.drew ?_) | (with_reducible refine below_drewN ?_ _) | (with_reducible refine Below.alloc ?_ (by first | omega | (simp; done) | (simp; omega)) _) | (with_reducible refine Below.setCell ?_ (by first | omega | (simp; done) | (simp; omega)) _) | (with_reducible refine Below.trans ?_ (Below.mono (by assumption) (by first | omega | (simp; done) | (simp; omega)))))) gr6 (by first | omega | (simp; done) | (simp; omega)) (fun k hk => by have := (O2.out.lt k hk).1; omega)
              have o16 : w6.ownsRow (w.heap.size + 2) 3 1 (.slice t1 (a.st.length + 1) d1) (a.st.length + 1) (a.st.map (Value.int .i64) ++ [k].map (Value.int .i64)) := own_kept (by first | exact own5 | exact own5.alloc _) gr6 (fun g hg hu => hap5 g hu hg)
              have hap6 : ApartV (.slice t1 (a.st.length + 1) d1) (.slice t2 (a.fo.length + 1) d2) := by
                rcases pl6' with p | ⟨x, hx, p⟩
                · exact apart_right hap5 own5 (Nat.le_refl _) (.inl p)
                · exact apart_right hap5 own5 hx (.inr p)
              have nt1 : (Value.slice t1 (a.st.length + 1) d1).ownBlock ≠ some M := fun h => by
                rcases pl5' with p | ⟨x, hx, p⟩
                · rw [p] at h; exact nr M (.inl rfl) h
                · rw [p] at h; cases h; omega
              have nt2 : (Value.slice t2 (a.fo.length + 1) d2).ownBlock ≠ some M := fun h => by
                rcases pl6' with p | ⟨x, hx, p⟩
                · rw [p] at h; exact nr2 M (.inl rfl) h
                · rw [p] at h; cases h; omega
              have g2 := b66.cell 2; have g3 := b66.cell 3; have k2 := b66.frozen 2; have k3 := b66.frozen 3
              simp at g2 g3
              refine shutN hK (by kernel_rfl) ?_
              refine wpAnyF_one (i := 11) rfl ⟨by kernel_rfl, by kernel_rfl⟩ ?_
              intro K hK
              go_simp
              refine shutN hK (by kernel_rfl) ?_
              (apply wpAnyF_pure (i := 12) rfl (by kernel_rfl) (fun _ _ _ h => h); · first | exact .inr ⟨rfl, rfl⟩ | exact .inl ⟨rfl, fun w' => by go_simp; rfl⟩); simp only [Act.put, List.setIfInBounds_toArray, List.set_cons_succ, List.set_cons_zero, List.getElem_toArray, List.getElem_cons_succ, List.getElem_cons_zero]
              refine wpAnyF_one (i := 13) rfl ⟨by kernel_rfl, by kernel_rfl⟩ ?_
              intro K hK
              go_simp
              refine shutN hK (by kernel_rfl) ?_
              refine wpAnyF_done (by kernel_rfl) ?_ _
              exact ⟨_, _, _, _, _, _, _, _, _, _, _, _, _, _, _, _, _, _, _, _, _, _, _, _, _, _, _, _, _, _, _, _, _, _, _, _, _, _, _, _, _, t1, d1, t2, d2, rfl, rfl, rfl, (hw6.setCell (p := ⟨M, 2, none⟩) (by simp; omega) _).setCell (p := ⟨M, 3, none⟩) (by simp; omega) _, (b66.set 2 _).set 3 _, (br6.other _ _ _ (by omega)).other _ _ _ (by omega), by rw [List.map_append]; exact own_keep (own_keep o16 nt1) nt1, by rw [List.map_append]; exact own_keep (own_keep own6 nt2) nt2, hap6⟩
          · rintro a' w' ⟨x0, x1, x2, x3, x4, x5, x6, x7, x8, x9, x10, x11, x12, x13, x14, x15, x16, x17, x18, x19, x20, x21, x22, x23, x24, x25, x26, x27, x28, x29, x30, x31, x32, x33, x34, x35, x36, x37, x38, x39, x40, t1, d1, t2, d2, rfl, rfl, rfl, hw, b1', b2', o1, o2, hap'⟩
            obtain ⟨st, hst⟩ : ∃ st, st = a.st ++ [k] := ⟨_, rfl⟩
            obtain ⟨fo, hfo⟩ : ∃ fo, fo = a.fo ++ [k] := ⟨_, rfl⟩
            have ln : a.st.length + 1 = st.length := by rw [hst, List.length_append]; rfl
            have ln2 : a.fo.length + 1 = fo.length := by rw [hfo, List.length_append]; rfl
            rw [ln] at b1' o1 hap'
            rw [ln2] at b1' o2 hap'
            rw [← hst] at o1
            rw [← hfo] at o2
            have J2 : Hid (notchF a k = (⟨a.id, a.hs, st, fo⟩, 0)) := by
              show notchF a k = _
              rw [J.out, hst, hfo]
            clear ln ln2 hst hfo b6 br4
            have e0 : w'.cell? ⟨M, 0, none⟩ = some (.int .i64 a.id) := b1'.cell 0
            have e1 : w'.cell? ⟨M, 1, none⟩ = some (.int .i64 a.hs) := b1'.cell 1
            have e2 : w'.cell? ⟨M, 2, none⟩ = some (.slice t1 st.length d1) := b1'.cell 2
            have e3 : w'.cell? ⟨M, 3, none⟩ = some (.slice t2 fo.length d2) := b1'.cell 3
            have r0 : w'.cell? ⟨w.heap.size + 1, 0, none⟩ = some (.int .i64 0) := b2'.cell 0
            have r1 : w'.cell? ⟨w.heap.size + 1, 1, none⟩ = some (.int .i64 0) := b2'.cell 1
            have r2 : w'.cell? ⟨w.heap.size + 1, 2, none⟩ = some (.slice none 0 0) := b2'.cell 2
            have r3 : w'.cell? ⟨w.heap.size + 1, 3, none⟩ = some (.slice none 0 0) := b2'.cell 3
            have k0 := b2'.frozen 0; have k1 := b2'.frozen 1; have k2 := b2'.frozen 2; have k3 := b2'.frozen 3
            have P1 := hid o1; have P2 := hid o2; clear o1 o2
            go_wp2_with fail
            refine bodyPost_ret (v := .tuple #[.agg #[.int .i64 a.id, .int .i64 a.hs, .slice t1 st.length d1, .slice t2 fo.length d2], .int .i64 0]) (by simp [results, Tryd.results21, go_sem, r0, r1, r2, r3]) rfl ?_
            rw [J2.out]
            exact ⟨_, rfl, (by repeat (first | (with_reducible exact Below.refl _ _) | (with_reducible assumption) | (with_reducible refine Below.drew ?_) | (with_reducible refine below_drewN ?_ _) | (with_reducible refine Below.alloc ?_ (by first | omega | (simp; done) | (simp; omega)) _) | (with_reducible refine Below.setCell ?_ (by first | omega | (simp; done) | (simp; omega)) _) | (with_reducible refine Below.trans ?_ (Below.mono (by assumption) (by first | omega | (simp; done) | (simp; omega)))))), t1, d1, t2, d2, rfl, own_base (base := w.heap.size + 2) (own_other (own_other (own_other (own_other P1.out (by first | omega | (simp; done) | (simp; omega))) (by first | omega | (simp; done) | (simp; omega))) (by first | omega | (simp; done) | (simp; omega))) (by first | omega | (simp; done) | (simp; omega))) (by first | omega | (simp; done) | (simp; omega)), own_base (base := w.heap.size + 2) (own_other (own_other (own_other (own_other P2.out (by first | omega | (simp; done) | (simp; omega))) (by first | omega | (simp; done) | (simp; omega))) (by first | omega | (simp; done) | (simp; omega))) (by first | omega | (simp; done) | (simp; omega))) (by first | omega | (simp; done) | (simp; omega)), hap'⟩
    · have hk' : (decide (1 ≤ k) && decide (k ≤ 4)) = false := by simpa using hk
      have J : Hid (notchF a k = (zeroT, 72)) := by show notchF a k = _; rw [notchF_ref, if_neg (by rw [show a.ok = true from HA1.out]; simp), if_pos hk']
      clear hk
      go_wp2_with (refine (within_any _ _ _ _).mono ?_; rintro e w' ⟨rfl, rfl⟩)
      refine bodyPost_ret (v := .tuple #[.agg #[.int .i64 0, .int .i64 0, .slice none 0 0, .slice none 0 0], .int .i64 72]) (by simp [results, Tryd.results21, go_sem, r0, r1, r2, r3]) rfl ?_
      rw [J.out]
      exact ⟨_, rfl, (by repeat (first | (with_reducible exact Below.refl _ _) | (with_reducible assumption) | (with_reducible refine Below.drew ?_) | (with_reducible refine below_drewN ?_ _) | (with_reducible refine Below.alloc ?_ (by first | omega | (simp; done) | (simp; omega)) _) | (with_reducible refine Below.setCell ?_ (by first | omega | (simp; done) | (simp; omega)) _) | (with_reducible refine Below.trans ?_ (Below.mono (by assumption) (by first | omega | (simp; done) | (simp; omega)))))), NewT.zero _ _⟩
  · have ha' : okT a.id a.hs a.st a.fo = false := by simpa using ha
    have J : Hid (notchF a k = (zeroT, 70)) := by show notchF a k = _; rw [notchF_ref, if_pos (show a.ok = false from ha')]
    clear ha
    go_wp2_with fail
    refine bodyPost_ret (v := .tuple #[.agg #[.int .i64 0, .int .i64 0, .slice none 0 0, .slice none 0 0], .int .i64 70]) (by simp [results, Tryd.results21, go_sem, r0, r1, r2, r3]) rfl ?_
    rw [J.out]
    exact ⟨_, rfl, (by repeat (first | (with_reducible exact Below.refl _ _) | (with_reducible assumption) | (with_reducible refine Below.drew ?_) | (with_reducible refine below_drewN ?_ _) | (with_reducible refine Below.alloc ?_ (by first | omega | (simp; done) | (simp; omega)) _) | (with_reducible refine Below.setCell ?_ (by first | omega | (simp; done) | (simp; omega)) _) | (with_reducible refine Below.trans ?_ (Below.mono (by assumption) (by first | omega | (simp; done) | (simp; omega)))))), NewT.zero _ _⟩
end Go.Proofs.YthddoikmgpgakaaDoor
