/- The reference's 'Where'. -/
import Derived.Test.YthddoikmgpgakaaDoorProg
import Derived.Test.YthddoikmgpgakaaDoorBase
import Derived.Outline
import Derived.RangeFuncNested
import Derived.Shelf.Abstract
import Derived.Deep.QuietTactic
import Derived.BigQuiet
import Derived.Deep.RegionHeld3
import Derived.WalkSmall
import Derived.Laws.EntriesVeiled
import Derived.Test.YthddoikmgpgakaaDoorWhere
import Derived.Test.YthddoikmgpgakaaDoorTable
namespace Go.Proofs.YthddoikmgpgakaaDoor
open Go.RowKit Go.Proofs Go.Shelf

/-- The address of a slice from an index on. -/
def dropA (a : Option Addr) (c n : Nat) : Option Addr := if c = n then a else Option.map (fun x => x.add n) a
theorem RdI.dropA {w : World} {a : Option Addr} {xs : List Int} (h : RdI w a xs) {n c : Nat} (hc : xs.length ≤ c) : RdI w (dropA a c n) (xs.drop n) := fun i hi => by
  rw [List.length_drop] at hi
  obtain ⟨b, o, ha, hcell⟩ := h (n + i) (by omega)
  refine ⟨b, o + n, ?_, ?_⟩
  · unfold Go.Proofs.YthddoikmgpgakaaDoor.dropA
    rw [if_neg (by omega), ha]
    have ea : (⟨b, o, Option.none⟩ : Addr).add n = ⟨b, o + n, Option.none⟩ := by unfold Addr.add; split <;> simp_all
    rw [Option.map_some, ea]
  · rw [Nat.add_assoc, hcell, List.getElem_drop]

set_option maxRecDepth 20000 in
set_option maxHeartbeats 4000000 in
theorem refWhere_any (a : Tl) (at' : Int) (sa fa : Option Addr) (sc fc : Nat) (w : World) (hl : a.st.length ≤ 1000) (hl2 : a.fo.length ≤ 1000) (hc : a.st.length ≤ sc) (hc2 : a.fo.length ≤ fc) (h1 : RdI w sa a.st) (h2 : RdI w fa a.fo) :
    Calls Tryd.prog 27 #[.agg #[.int .i64 a.id, .int .i64 a.hs, .slice sa a.st.length sc, .slice fa a.fo.length fc], .int .i64 at'] w
      fun e w' => ∃ r : Int × Int, e = .returned (.tuple #[.int .i64 r.1, .int .i64 r.2]) ∧ CutR a at' r ∧ Below w.heap.size w w' := by
  have H1 := hid h1; have H2 := hid h2; clear h1 h2
  have hm := mixedS
  go_enter Tryd.func27, Tryd.ntmps27
  go_wp2_with fail
  refine (tally_any _ _ _ _ _ _ _ _ _ (by omega) (by omega) (H1.out.below (by repeat (first | (with_reducible exact Below.refl _ _) | (with_reducible assumption) | (with_reducible refine Below.drew ?_) | (with_reducible refine below_drewN ?_ _) | (with_reducible refine Below.alloc ?_ (by first | omega | (simp; done) | (simp; omega)) _) | (with_reducible refine Below.setCell ?_ (by first | omega | (simp; done) | (simp; omega)) _) | (with_reducible refine Below.trans ?_ (Below.mono (by assumption) (by first | omega | (simp; done) | (simp; omega))))))) (H2.out.below (by repeat (first | (with_reducible exact Below.refl _ _) | (with_reducible assumption) | (with_reducible refine Below.drew ?_) | (with_reducible refine below_drewN ?_ _) | (with_reducible refine Below.alloc ?_ (by first | omega | (simp; done) | (simp; omega)) _) | (with_reducible refine Below.setCell ?_ (by first | omega | (simp; done) | (simp; omega)) _) | (with_reducible refine Below.trans ?_ (Below.mono (by assumption) (by first | omega | (simp; done) | (simp; omega)))))))).mono ?_
  rintro e w1 ⟨rfl, hb1⟩
  by_cases hok : okT a.id a.hs a.st a.fo = true
  · have b1 : Box w1 w.heap.size #[.int .i64 a.id, .int .i64 a.hs, .slice sa a.st.length sc, .slice fa a.fo.length fc] 24 := (Box.new w _ _).below hb1 (by simp)
    have c2 : w1.cell? ⟨w.heap.size, 2, none⟩ = some (.slice sa a.st.length sc) := b1.cell 2
    have c3 : w1.cell? ⟨w.heap.size, 3, none⟩ = some (.slice fa a.fo.length fc) := b1.cell 3
    have l1 := b1.lt
    have hbw : Below w.heap.size w w1 := (by repeat (first | (with_reducible exact Below.refl _ _) | (with_reducible assumption) | (with_reducible refine Below.drew ?_) | (with_reducible refine below_drewN ?_ _) | (with_reducible refine Below.alloc ?_ (by first | omega | (simp; done) | (simp; omega)) _) | (with_reducible refine Below.setCell ?_ (by first | omega | (simp; done) | (simp; omega)) _) | (with_reducible refine Below.trans ?_ (Below.mono (by assumption) (by first | omega | (simp; done) | (simp; omega))))))
    have B1 := hid b1; clear b1
    rw [hok]
    have HK := hid hok; clear hok
    go_wp2_with fail
    refine (within_any at' 0 a.st.length w1).mono ?_
    rintro e w2 ⟨rfl, rfl⟩
    by_cases hin : 0 ≤ at' ∧ at' ≤ a.st.length
    · obtain ⟨n, rfl⟩ : ∃ n : Nat, at' = n := ⟨at'.toNat, by omega⟩
      have hn : n ≤ a.st.length := by omega
      have hall : (decide (0 ≤ (n : Int)) && decide ((n : Int) ≤ (a.st.length : Int))) = true := by simp; omega
      rw [hall]
      clear hall hin
      go_wp2_with fail
      go_loopw [6, 7, 8] (fun p q s W => ∃ j : Nat, j ≤ a.fo.length + 1 ∧ s = .int .i64 j ∧ ((j = 0 ∧ p = .int .i64 0 ∧ q = .int .i64 (-1)) ∨ (∃ b, b < j ∧ p = .int .i64 (b : Nat) ∧ q = .int .i64 (cutSum a.st a.fo n b : Nat) ∧ (∀ i, i < j → cutSum a.st a.fo n b ≤ cutSum a.st a.fo n i) ∧ (∀ i, i < b → cutSum a.st a.fo n b < cutSum a.st a.fo n i))) ∧ Box W w.heap.size #[.int .i64 a.id, .int .i64 a.hs, .slice sa a.st.length sc, .slice fa a.fo.length fc] 24 ∧ Below w.heap.size w W) (fun _ _ s _ => (a.fo.length + 1 - (intOf s).toNat))
      case atStart => exact ⟨0, by omega, rfl, .inl ⟨rfl, rfl, rfl⟩, B1.out, hbw⟩
      case round =>
        obtain ⟨j, hj, rfl, hbest, q1, q2⟩ := hrel
        have Hb := hid hbest; clear hbest
        clear B1
        have f3 : wr.cell? ⟨w.heap.size, 3, none⟩ = some (.slice fa a.fo.length fc) := q1.cell 3
        have f2 : wr.cell? ⟨w.heap.size, 2, none⟩ = some (.slice sa a.st.length sc) := q1.cell 2
        have lw := q1.lt
        have Q1 := hid q1; have Q2 := hid q2
        have R1 := hid (H1.out.below q2); have R2 := hid (H2.out.below q2)
        clear q1 q2
        by_cases hlt : j ≤ a.fo.length
        · have hs := cut_le a.st a.fo n j hl hl2
          have e1 : (a.st.take n).length = n := List.length_take_of_le hn
          have e2 : (a.fo.take j).length = j := List.length_take_of_le hlt
          have hnc : n ≤ sc := by omega
          have hjc : j ≤ fc := by omega
          go_wp2_with fail
          refine wp_region_F [1, 5, 10, 14] (fun w' => w'.cell? ⟨w.heap.size, 2, none⟩ = some (.slice sa a.st.length sc) ∧ w'.cell? ⟨w.heap.size, 3, none⟩ = some (.slice fa a.fo.length fc)) hm ⟨by go_simp, by go_simp⟩ ?_
          intro hS0; have hS := hid hS0; clear hS0
          (apply wpAnyF_pure (i := 0) rfl (by kernel_rfl) (fun _ _ _ h => h); · first | exact .inr ⟨rfl, rfl⟩ | exact .inl ⟨rfl, fun w' => by go_simp; rfl⟩); simp only [Act.put, List.setIfInBounds_toArray, List.set_cons_succ, List.set_cons_zero, List.getElem_toArray, List.getElem_cons_succ, List.getElem_cons_zero]
          (apply wpAnyF_held (i := 1) rfl (by kernel_rfl) (fun _ _ _ h => h) hS.out; · first | exact .inr ⟨rfl, rfl⟩ | exact .inl ⟨rfl, fun w' hS' => by (obtain ⟨s1, s2⟩ := hS'; go_simp; rfl)⟩); simp only [Act.put, List.setIfInBounds_toArray, List.set_cons_succ, List.set_cons_zero, List.getElem_toArray, List.getElem_cons_succ, List.getElem_cons_zero]
          (apply wpAnyF_pure (i := 2) rfl (by kernel_rfl) (fun _ _ _ h => h); · first | exact .inr ⟨rfl, rfl⟩ | exact .inl ⟨rfl, fun w' => by go_simp; rfl⟩); simp only [Act.put, List.setIfInBounds_toArray, List.set_cons_succ, List.set_cons_zero, List.getElem_toArray, List.getElem_cons_succ, List.getElem_cons_zero]
          (apply wpAnyF_pure (i := 3) rfl (by kernel_rfl) (fun _ _ _ h => h); · first | exact .inr ⟨rfl, rfl⟩ | exact .inl ⟨rfl, fun w' => by go_simp; rfl⟩); simp only [Act.put, List.setIfInBounds_toArray, List.set_cons_succ, List.set_cons_zero, List.getElem_toArray, List.getElem_cons_succ, List.getElem_cons_zero]
          (apply wpAnyF_pure (i := 4) rfl (by kernel_rfl) (fun _ _ _ h => h); · first | exact .inr ⟨rfl, rfl⟩ | exact .inl ⟨rfl, fun w' => by go_simp; rfl⟩); simp only [Act.put, List.setIfInBounds_toArray, List.set_cons_succ, List.set_cons_zero, List.getElem_toArray, List.getElem_cons_succ, List.getElem_cons_zero]
          (apply wpAnyF_held (i := 5) rfl (by kernel_rfl) (fun _ _ _ h => h) hS.out; · first | exact .inr ⟨rfl, rfl⟩ | exact .inl ⟨rfl, fun w' hS' => by (obtain ⟨s1, s2⟩ := hS'; go_simp; rfl)⟩); simp only [Act.put, List.setIfInBounds_toArray, List.set_cons_succ, List.set_cons_zero, List.getElem_toArray, List.getElem_cons_succ, List.getElem_cons_zero]
          (apply wpAnyF_pure (i := 6) rfl (by kernel_rfl) (fun _ _ _ h => h); · first | exact .inr ⟨rfl, rfl⟩ | exact .inl ⟨rfl, fun w' => by go_simp; rfl⟩); simp only [Act.put, List.setIfInBounds_toArray, List.set_cons_succ, List.set_cons_zero, List.getElem_toArray, List.getElem_cons_succ, List.getElem_cons_zero]
          (apply wpAnyF_pure (i := 7) rfl (by kernel_rfl) (fun _ _ _ h => h); · first | exact .inr ⟨rfl, rfl⟩ | exact .inl ⟨rfl, fun w' => by go_simp; rfl⟩); simp only [Act.put, List.setIfInBounds_toArray, List.set_cons_succ, List.set_cons_zero, List.getElem_toArray, List.getElem_cons_succ, List.getElem_cons_zero]
          (apply wpAnyF_pure (i := 9) rfl (by kernel_rfl) (fun _ _ _ h => h); · first | exact .inr ⟨rfl, rfl⟩ | exact .inl ⟨rfl, fun w' => by go_simp; rfl⟩); simp only [Act.put, List.setIfInBounds_toArray, List.set_cons_succ, List.set_cons_zero, List.getElem_toArray, List.getElem_cons_succ, List.getElem_cons_zero]
          (apply wpAnyF_held (i := 10) rfl (by kernel_rfl) (fun _ _ _ h => h) hS.out; · first | exact .inr ⟨rfl, rfl⟩ | exact .inl ⟨rfl, fun w' hS' => by (obtain ⟨s1, s2⟩ := hS'; go_simp; rfl)⟩); simp only [Act.put, List.setIfInBounds_toArray, List.set_cons_succ, List.set_cons_zero, List.getElem_toArray, List.getElem_cons_succ, List.getElem_cons_zero]
          (apply wpAnyF_pure (i := 11) rfl (by kernel_rfl) (fun _ _ _ h => h); · first | exact .inr ⟨rfl, rfl⟩ | exact .inl ⟨rfl, fun w' => by go_simp; rfl⟩); simp only [Act.put, List.setIfInBounds_toArray, List.set_cons_succ, List.set_cons_zero, List.getElem_toArray, List.getElem_cons_succ, List.getElem_cons_zero]
          (apply wpAnyF_pure (i := 12) rfl (by kernel_rfl) (fun _ _ _ h => h); · first | exact .inr ⟨rfl, rfl⟩ | exact .inl ⟨rfl, fun w' => by go_simp; rfl⟩); simp only [Act.put, List.setIfInBounds_toArray, List.set_cons_succ, List.set_cons_zero, List.getElem_toArray, List.getElem_cons_succ, List.getElem_cons_zero]
          (apply wpAnyF_pure (i := 13) rfl (by kernel_rfl) (fun _ _ _ h => h); · first | exact .inr ⟨rfl, rfl⟩ | exact .inl ⟨rfl, fun w' => by go_simp; rfl⟩); simp only [Act.put, List.setIfInBounds_toArray, List.set_cons_succ, List.set_cons_zero, List.getElem_toArray, List.getElem_cons_succ, List.getElem_cons_zero]
          (apply wpAnyF_held (i := 14) rfl (by kernel_rfl) (fun _ _ _ h => h) hS.out; · first | exact .inr ⟨rfl, rfl⟩ | exact .inl ⟨rfl, fun w' hS' => by (obtain ⟨s1, s2⟩ := hS'; go_simp; rfl)⟩); simp only [Act.put, List.setIfInBounds_toArray, List.set_cons_succ, List.set_cons_zero, List.getElem_toArray, List.getElem_cons_succ, List.getElem_cons_zero]
          (apply wpAnyF_pure (i := 15) rfl (by kernel_rfl) (fun _ _ _ h => h); · first | exact .inr ⟨rfl, rfl⟩ | exact .inl ⟨rfl, fun w' => by go_simp; rfl⟩); simp only [Act.put, List.setIfInBounds_toArray, List.set_cons_succ, List.set_cons_zero, List.getElem_toArray, List.getElem_cons_succ, List.getElem_cons_zero]
          (apply wpAnyF_pure (i := 16) rfl (by kernel_rfl) (fun _ _ _ h => h); · first | exact .inr ⟨rfl, rfl⟩ | exact .inl ⟨rfl, fun w' => by go_simp; rfl⟩); simp only [Act.put, List.setIfInBounds_toArray, List.set_cons_succ, List.set_cons_zero, List.getElem_toArray, List.getElem_cons_succ, List.getElem_cons_zero]
          refine wpAnyF_one (i := 8) rfl ⟨by kernel_rfl, by kernel_rfl⟩ ?_
          intro K hK
          go_simp
          rw [show Value.slice sa n sc = .slice sa (a.st.take n).length sc by rw [e1], show Value.slice fa j fc = .slice fa (a.fo.take j).length fc by rw [e2]]
          refine (refBetween_any (a.st.take n) (a.fo.take j) sa fa sc fc wr.drew (by omega) (by omega) (R1.out.take n).drew (R2.out.take j).drew).mono ?_
          rintro e w5 ⟨rfl, hb5⟩
          have hb5' : Below wr.heap.size wr w5 := ⟨hb5.os, hb5.tape, hb5.output, hb5.size, hb5.block⟩
          refine shutS hK ⟨(hb5'.cell (p := ⟨w.heap.size, 2, none⟩) lw).trans f2, (hb5'.cell (p := ⟨w.heap.size, 3, none⟩) lw).trans f3⟩ (fun hS => ?_)
          refine wpAnyF_one (i := 17) rfl ⟨by kernel_rfl, by kernel_rfl⟩ ?_
          intro K hK
          go_simp
          have e3 : (a.st.drop n).length = a.st.length - n := List.length_drop
          have e4 : (a.fo.drop j).length = a.fo.length - j := List.length_drop
          rw [show Value.slice (if sc = n then sa else Option.map (fun x => x.add n) sa) (a.st.length - n) (sc - n) = .slice (dropA sa sc n) (a.st.drop n).length (sc - n) by rw [e3]; rfl, show Value.slice (if fc = j then fa else Option.map (fun x => x.add j) fa) (a.fo.length - j) (fc - j) = .slice (dropA fa fc j) (a.fo.drop j).length (fc - j) by rw [e4]; rfl]
          refine (refBetween_any (a.st.drop n) (a.fo.drop j) (dropA sa sc n) (dropA fa fc j) (sc - n) (fc - j) w5 (by omega) (by omega) ((R1.out.dropA hc).below hb5') ((R2.out.dropA hc2).below hb5')).mono ?_
          rintro e w6 ⟨rfl, hb6⟩
          refine shutN hK (by kernel_rfl) ?_
          (apply wpAnyF_pure (i := 18) rfl (by kernel_rfl) (fun _ _ _ h => h); · first | exact .inr ⟨rfl, rfl⟩ | exact .inl ⟨rfl, fun w' => by go_simp; rfl⟩); simp only [Act.put, List.setIfInBounds_toArray, List.set_cons_succ, List.set_cons_zero, List.getElem_toArray, List.getElem_cons_succ, List.getElem_cons_zero]
          (apply wpAnyF_pure (i := 19) rfl (by kernel_rfl) (fun _ _ _ h => h); · first | exact .inr ⟨rfl, rfl⟩ | exact .inl ⟨rfl, fun w' => by go_simp; rfl⟩); simp only [Act.put, List.setIfInBounds_toArray, List.set_cons_succ, List.set_cons_zero, List.getElem_toArray, List.getElem_cons_succ, List.getElem_cons_zero]
          refine wpAnyF_done (by kernel_rfl) ?_ _
          clear hS
          have es : cutSum a.st a.fo n j = dist (a.st.take n) (a.fo.take j) + dist (a.st.drop n) (a.fo.drop j) := rfl
          have ei : (dist (a.st.take n) (a.fo.take j) : Int) + (dist (a.st.drop n) (a.fo.drop j) : Int) = (cutSum a.st a.fo n j : Int) := by omega
          have hw := wrap_small (n := (cutSum a.st a.fo n j : Int)) (by omega) (by omega)
          simp only [ei, hw]
          clear hw ei es
          have hb6' : Below wr.heap.size wr w6 := hb5'.trans (hb6.mono hb5'.size)
          have z1 := Q1.out.below hb6' lw
          have z2 := Q2.out.trans (hb6'.mono Q2.out.size)
          rcases Hb.out with ⟨rfl, rfl, rfl⟩ | ⟨b, hbj, rfl, rfl, hmin, hlow⟩
          · go_wp2_with fail
            refine ⟨⟨1, by omega, rfl, .inr ⟨0, by omega, rfl, rfl, fun i hi => ?_, fun i hi => absurd hi (Nat.not_lt_zero _)⟩, z1, z2⟩, by simp [intOf]⟩
            rw [show i = 0 by omega]
            exact Nat.le_refl _
          · have Hmin := hid hmin; have Hlow := hid hlow; clear hmin hlow
            have hnn : ¬ (cutSum a.st a.fo n b : Int) < 0 := by omega
            by_cases hlt2 : (cutSum a.st a.fo n j : Int) < (cutSum a.st a.fo n b : Int)
            · have HL := hid hlt2
              go_wp2_with fail
              refine ⟨⟨j + 1, by omega, by simp, .inr ⟨j, by omega, rfl, rfl, fun i hi => ?_, fun i hi => ?_⟩, z1, z2⟩, by simp [intOf]; omega⟩
              · by_cases hij : i = j
                · rw [hij]; exact Nat.le_refl _
                · have h1 := Hmin.out i (by omega); have h2 := HL.out; omega
              · have h1 := Hmin.out i hi; have h2 := HL.out; omega
            · have HL := hid hlt2
              go_wp2_with fail
              refine ⟨⟨j + 1, by omega, by simp, .inr ⟨b, by omega, rfl, rfl, fun i hi => ?_, Hlow.out⟩, z1, z2⟩, by simp [intOf]; omega⟩
              by_cases hij : i = j
              · rw [hij]; have h2 := HL.out; omega
              · exact Hmin.out i (by omega)
        · rcases Hb.out with ⟨rfl, rfl, rfl⟩ | ⟨b, hbj, rfl, rfl, hmin, hlow⟩
          · exact absurd (Nat.zero_le _) hlt
          · have hcut : IsCut a.st a.fo n b := by
              obtain ⟨j', hj', hle⟩ := cut_ex a.st a.fo n hn
              have h1 := hmin j' (by omega)
              have h2 := cut_ge a.st a.fo n b
              exact ⟨by omega, by omega, fun i hi => by have := hlow i hi; omega⟩
            have HC := hid hcut
            clear hmin hlow hcut
            go_wp2_with fail
            refine bodyPost_ret (results_tmp2 rfl _ _ _) rfl ?_
            exact ⟨((b : Int), 0), rfl, .inr (.inr ⟨HK.out, n, b, rfl, hn, HC.out, rfl⟩), Q2.out⟩
    · have hall : (decide (0 ≤ at') && decide (at' ≤ (a.st.length : Int))) = false := by simp; omega
      rw [hall]
      clear hall
      have HI := hid hin; clear hin
      go_wp2_with fail
      refine bodyPost_ret (results_tmp2 rfl _ _ _) rfl ?_
      exact ⟨(0, 73), rfl, .inr (.inl ⟨HK.out, HI.out, rfl⟩), hbw⟩
  · have hok' : okT a.id a.hs a.st a.fo = false := by simpa using hok
    rw [hok']
    have HK := hid hok'; clear hok hok'
    go_wp2_with fail
    refine bodyPost_ret (results_tmp2 rfl _ _ _) rfl ?_
    exact ⟨(0, 70), rfl, .inl ⟨HK.out, rfl⟩, (by repeat (first | (with_reducible exact Below.refl _ _) | (with_reducible assumption) | (with_reducible refine Below.drew ?_) | (with_reducible refine below_drewN ?_ _) | (with_reducible refine Below.alloc ?_ (by first | omega | (simp; done) | (simp; omega)) _) | (with_reducible refine Below.setCell ?_ (by first | omega | (simp; done) | (simp; omega)) _) | (with_reducible refine Below.trans ?_ (Below.mono (by assumption) (by first | omega | (simp; done) | (simp; omega))))))⟩

end Go.Proofs.YthddoikmgpgakaaDoor
