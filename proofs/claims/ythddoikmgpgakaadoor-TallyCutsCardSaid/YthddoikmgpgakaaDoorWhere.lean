/- 'Where': where the foil is split so that no more is false, by the program. -/
import Derived.Test.YthddoikmgpgakaaDoorProg
import Derived.Test.YthddoikmgpgakaaDoorBase
import Derived.Outline
import Derived.RangeFuncNested
import Derived.Shelf.Abstract
import Derived.Deep.QuietTactic
import Derived.BigQuiet
import Derived.Deep.RegionHeld3
import Derived.WalkSmall
import Derived.Laws.EntriesVeiled
import Derived.WalkMore
import Derived.Test.YthddoikmgpgakaaDoorLeft
import Derived.Test.YthddoikmgpgakaaDoorTl
namespace Go.Proofs.YthddoikmgpgakaaDoor
open Go.RowKit Go.Proofs Go.Shelf

/-- The false notches of both pieces. -/
def cutSum (st fo : List Int) (n j : Nat) : Nat := dist (st.take n) (fo.take j) + dd st fo n j
/-- The first index at which no more is false. -/
def IsCut (st fo : List Int) (n k : Nat) : Prop := k ≤ fo.length ∧ cutSum st fo n k = dist st fo ∧ ∀ j, j < k → dist st fo < cutSum st fo n j
theorem cut_ge (st fo : List Int) (n j : Nat) : dist st fo ≤ cutSum st fo n j := dist_cut st fo n j
theorem cut_ex (st fo : List Int) (n : Nat) (h : n ≤ st.length) : ∃ j, j ≤ fo.length ∧ cutSum st fo n j ≤ dist st fo := dist_split st fo n h
theorem cut_le (st fo : List Int) (n j : Nat) (hl : st.length ≤ 1000) (hl2 : fo.length ≤ 1000) : cutSum st fo n j ≤ 4000 := by
  have h1 := dist_le (st.take n) (fo.take j)
  have h2 := dist_le (st.drop n) (fo.drop j)
  simp only [List.length_take, List.length_drop] at h1 h2
  unfold cutSum dd
  omega
theorem IsCut.unique {st fo : List Int} {n k k' : Nat} (h : IsCut st fo n k) (h' : IsCut st fo n k') : k = k' := by
  rcases Nat.lt_trichotomy k k' with hlt | heq | hlt
  · have := h'.2.2 k hlt; have := h.2.1; omega
  · exact heq
  · have := h.2.2 k' hlt; have := h'.2.1; omega

/-- What 'Where' returns. -/
def CutR (a : Tl) (at' : Int) (r : Int × Int) : Prop := (a.ok = false ∧ r = (0, 70)) ∨ (a.ok = true ∧ ¬ (0 ≤ at' ∧ at' ≤ a.st.length) ∧ r = (0, 73)) ∨
  (a.ok = true ∧ ∃ n k : Nat, at' = n ∧ n ≤ a.st.length ∧ IsCut a.st a.fo n k ∧ r = ((k : Int), 0))
theorem CutR.unique {a : Tl} {at' : Int} {r r' : Int × Int} (h : CutR a at' r) (h' : CutR a at' r') : r = r' := by
  rcases h with ⟨h1, rfl⟩ | ⟨h1, h2, rfl⟩ | ⟨h1, n, k, rfl, h3, h4, rfl⟩ <;> rcases h' with ⟨g1, rfl⟩ | ⟨g1, g2, rfl⟩ | ⟨g1, n', k', g2, g3, g4, rfl⟩
  all_goals first | rfl | (rw [h1] at g1; cases g1) | skip
  · omega
  · omega
  · obtain rfl : n = n' := by omega
    rw [h4.unique g4]

theorem RdI.take {w : World} {a : Option Addr} {xs : List Int} (h : RdI w a xs) (n : Nat) : RdI w a (xs.take n) := fun i hi => by
  rw [List.length_take] at hi
  obtain ⟨b, o, ha, hc⟩ := h i (by omega)
  exact ⟨b, o, ha, by rw [hc, List.getElem_take]⟩

set_option maxRecDepth 20000 in
set_option maxHeartbeats 4000000 in
theorem where_any (a : Tl) (at' : Int) (sa fa : Option Addr) (sc fc : Nat) (w : World) (ht : Tab w) (hl : a.st.length ≤ 1000) (hl2 : a.fo.length ≤ 1000) (hc : a.st.length ≤ sc) (hc2 : a.fo.length ≤ fc) (h1 : RdI w sa a.st) (h2 : RdI w fa a.fo) :
    Calls Tryd.prog 26 #[.agg #[.int .i64 a.id, .int .i64 a.hs, .slice sa a.st.length sc, .slice fa a.fo.length fc], .int .i64 at'] w
      fun e w' => ∃ r : Int × Int, e = .returned (.tuple #[.int .i64 r.1, .int .i64 r.2]) ∧ CutR a at' r ∧ Below w.heap.size w w' := by
  have H1 := hid h1; have H2 := hid h2; clear h1 h2
  have HT := hid ht; clear ht
  have hm := mixedS
  go_enter Tryd.func26, Tryd.ntmps26
  go_wp2_with fail
  go_step3
  go_wp2_with fail
  refine (check_any _ _ _ _ _ _ _ _ _ (HT.out.below (by repeat (first | (with_reducible exact Below.refl _ _) | (with_reducible assumption) | (with_reducible refine Below.drew ?_) | (with_reducible refine below_drewN ?_ _) | (with_reducible refine Below.alloc ?_ (by first | omega | (simp; done) | (simp; omega)) _) | (with_reducible refine Below.setCell ?_ (by first | omega | (simp; done) | (simp; omega)) _) | (with_reducible refine Below.trans ?_ (Below.mono (by assumption) (by first | omega | (simp; done) | (simp; omega))))))) (by omega) (by omega) (H1.out.below (by repeat (first | (with_reducible exact Below.refl _ _) | (with_reducible assumption) | (with_reducible refine Below.drew ?_) | (with_reducible refine below_drewN ?_ _) | (with_reducible refine Below.alloc ?_ (by first | omega | (simp; done) | (simp; omega)) _) | (with_reducible refine Below.setCell ?_ (by first | omega | (simp; done) | (simp; omega)) _) | (with_reducible refine Below.trans ?_ (Below.mono (by assumption) (by first | omega | (simp; done) | (simp; omega))))))) (H2.out.below (by repeat (first | (with_reducible exact Below.refl _ _) | (with_reducible assumption) | (with_reducible refine Below.drew ?_) | (with_reducible refine below_drewN ?_ _) | (with_reducible refine Below.alloc ?_ (by first | omega | (simp; done) | (simp; omega)) _) | (with_reducible refine Below.setCell ?_ (by first | omega | (simp; done) | (simp; omega)) _) | (with_reducible refine Below.trans ?_ (Below.mono (by assumption) (by first | omega | (simp; done) | (simp; omega)))))))).mono ?_
  rintro e w1 ⟨rfl, hb1⟩
  have hz1 := (hb1).size; (try simp only [World.size_alloc, World.size_setCell, World.size_drew, World.heap_drewN] at hz1); obtain ⟨hc1, hf1⟩ := bcell hb1
  by_cases hok : okT a.id a.hs a.st a.fo = true
  · have t1 : (errT (okT a.id a.hs a.st a.fo) != 0) = false := by rw [hok]; rfl
    have HK := hid hok; clear hok
    go_wp2_with fail
    refine (in_any 0 a.st.length _ _ [at'] _ (by simp) ?_).mono ?_
    · intro i hi
      match i, hi with
      | 0, _ => exact ⟨_, _, rfl, by simp [go_sem]⟩
    rintro e w2 ⟨rfl, hb2⟩
    have b1 : Box w1 w.heap.size #[.int .i64 a.id, .int .i64 a.hs, .slice sa a.st.length sc, .slice fa a.fo.length fc] 24 := (Box.new w _ _).below hb1 (by simp)
    have b2 := (b1.alloc (.cells #[.int .i64 at'] 3)).below hb2 (by have := b1.lt; simp; omega)
    have hbw : Below w.heap.size w w2 := (by repeat (first | (with_reducible exact Below.refl _ _) | (with_reducible assumption) | (with_reducible refine Below.drew ?_) | (with_reducible refine below_drewN ?_ _) | (with_reducible refine Below.alloc ?_ (by first | omega | (simp; done) | (simp; omega)) _) | (with_reducible refine Below.setCell ?_ (by first | omega | (simp; done) | (simp; omega)) _) | (with_reducible refine Below.trans ?_ (Below.mono (by assumption) (by first | omega | (simp; done) | (simp; omega))))))
    by_cases hin : 0 ≤ at' ∧ at' ≤ a.st.length
    · obtain ⟨n, rfl⟩ : ∃ n : Nat, at' = n := ⟨at'.toNat, by omega⟩
      have hn : n ≤ a.st.length := by omega
      have hall : ([(n : Int)].all fun n => decide (0 ≤ n) && decide (n ≤ (a.st.length : Int))) = true := by simp; omega
      rw [hall]
      clear hall hin
      have c0 : w2.cell? ⟨w.heap.size, 0, none⟩ = some (.int .i64 a.id) := b2.cell 0
      have c1 : w2.cell? ⟨w.heap.size, 1, none⟩ = some (.int .i64 a.hs) := b2.cell 1
      have c2 : w2.cell? ⟨w.heap.size, 2, none⟩ = some (.slice sa a.st.length sc) := b2.cell 2
      have c3 : w2.cell? ⟨w.heap.size, 3, none⟩ = some (.slice fa a.fo.length fc) := b2.cell 3
      go_wp2_with fail
      refine (halves_any a.id a.hs a.st a.fo sa fa sc fc w2 (by omega) (by omega) (H1.out.below hbw) (H2.out.below hbw)).mono ?_
      rintro e w3 ⟨pb, eb, kb, M, rfl, hb3, hM, hH⟩
      have b3 := b2.below hb3 b2.lt
      have HH := hid hH; clear hH
      have hfd := field_left
      unfold pairC leftV
      go_wp2_with fail
      have hH3 := HH.out.keep ((Keep.refl _ w3).alloc (.cells (pairC a.id a.hs a.st a.fo sa fa sc fc (leftV eb kb pb)) 134)) (HH.out.map.alloc _)
      refine (left_any pb eb kb M a.id a.hs a.st a.fo sa fa sc fc (by omega) (by omega) 0 0 _ (Nat.zero_le _) (Nat.zero_le _) hH3).mono ?_
      rintro e w4 ⟨rfl, hk4, hp4⟩
      have hsz3 := hb3.size
      have l2 := b2.lt
      have hMx : w.heap.size ≠ M := by omega
      have hMB : w3.heap.size ≠ M := by have := HH.out.map.lt; omega
      have hM2 : w2.heap.size ≤ M := hM
      clear c0 c1 c2 c3 b1 hb1 hb2
      go_wp2_with fail
      go_step3
      refine forget (fun W => Box W w.heap.size #[.int .i64 a.id, .int .i64 a.hs, .slice sa a.st.length sc, .slice fa a.fo.length fc] 24 ∧ Box W w3.heap.size (pairC a.id a.hs a.st a.fo sa fa sc fc (leftV eb kb pb)) 134 ∧ Half W pb eb kb M a.id a.hs a.st a.fo sa fa sc fc ∧ Below w.heap.size w W) ⟨?_, ?_, hH3.keep hk4 hp4, ?_⟩ ?_
      · exact hk4.box hMx (b3.alloc _)
      · exact hk4.box hMB (Box.new _ _ _)
      · exact ((hbw.trans (hb3.mono hbw.size)).alloc (by have := hbw.size; omega) _).trans (hk4.below (B := w.heap.size) (fun k hk => show k ≠ M by have := hbw.size; omega) (by simp; have := hbw.size; omega))
      rintro W0 ⟨q1, q2, q3, q4⟩
      clear hk4 hp4 hH3 b2 b3 hb3
      have f3 : W0.cell? ⟨w.heap.size, 3, none⟩ = some (.slice fa a.fo.length fc) := q1.cell 3
      go_wp2_with fail
      have Q1 := hid q1; have Q2 := hid q2; have Q3 := hid q3; have Q4 := hid q4; clear q1 q2 q3 q4 f3
      obtain ⟨X, hX⟩ : ∃ X, X = w3.heap.size := ⟨_, rfl⟩
      have e1 : (a.st.take n).length = n := List.length_take_of_le hn
      have hnc : n ≤ sc := by omega
      rw [← hX] at Q2 hMB ⊢
      have lX : w.heap.size ≤ X := by omega
      clear hX
      go_loopw [32] (fun p W => ∃ j : Nat, j ≤ a.fo.length + 1 ∧ p = .int .i64 j ∧ (∀ i, i < j → dist a.st a.fo < cutSum a.st a.fo n i) ∧ Box W w.heap.size #[.int .i64 a.id, .int .i64 a.hs, .slice sa a.st.length sc, .slice fa a.fo.length fc] 24 ∧ Box W X (pairC a.id a.hs a.st a.fo sa fa sc fc (leftV eb kb pb)) 134 ∧ Half W pb eb kb M a.id a.hs a.st a.fo sa fa sc fc ∧ Below w.heap.size w W) (fun p _ => (a.fo.length + 1 - (intOf p).toNat))
      case atStart => exact ⟨0, by omega, rfl, fun i hi => absurd hi (Nat.not_lt_zero _), Q1.out, Q2.out, Q3.out, Q4.out⟩
      case round =>
        obtain ⟨j, hj, rfl, hno, q1, q2, q3, q4⟩ := hrel
        have Hno := hid hno; clear hno
        clear Q1 Q2 Q3 Q4
        by_cases hlt : j < a.fo.length + 1
        · have hjf : j ≤ a.fo.length := by omega
          have hjc : j ≤ fc := by omega
          have e2 : (a.fo.take j).length = j := List.length_take_of_le hjf
          have g2 : wr.cell? ⟨w.heap.size, 2, none⟩ = some (.slice sa a.st.length sc) := q1.cell 2
          have g3 : wr.cell? ⟨w.heap.size, 3, none⟩ = some (.slice fa a.fo.length fc) := q1.cell 3
          have p4 : wr.cell? ⟨X, 4, none⟩ = some (.func (.func 106) #[] #[.pointer (some ⟨eb, 0, none⟩), .pointer (some ⟨kb, 0, none⟩), .pointer (some ⟨pb, 0, none⟩)]) := q2.cell 4
          have Q1 := hid q1; have Q2 := hid q2; have Q3 := hid q3; have Q4 := hid q4
          have lw := q1.lt; have lX2 := q2.lt
          have r1 := hid (q3.s.take n); have r2 := hid (q3.f.take j)
          have hs := cut_le a.st a.fo n j hl hl2
          clear q1 q2 q3 q4
          go_wp2_with fail
          refine wp_region_F [1, 5, 10] (fun w' => w'.cell? ⟨w.heap.size, 2, none⟩ = some (.slice sa a.st.length sc) ∧ w'.cell? ⟨w.heap.size, 3, none⟩ = some (.slice fa a.fo.length fc) ∧ w'.cell? ⟨X, 4, none⟩ = some (.func (.func 106) #[] #[.pointer (some ⟨eb, 0, none⟩), .pointer (some ⟨kb, 0, none⟩), .pointer (some ⟨pb, 0, none⟩)])) hm ⟨by go_simp, by go_simp, by go_simp⟩ ?_
          intro hS0; have hS := hid hS0; clear hS0
          (apply wpAnyF_pure (i := 0) rfl (by kernel_rfl) (fun _ _ _ h => h); · first | exact .inr ⟨rfl, rfl⟩ | exact .inl ⟨rfl, fun w' => by go_simp; rfl⟩); simp only [Act.put, List.setIfInBounds_toArray, List.set_cons_succ, List.set_cons_zero, List.getElem_toArray, List.getElem_cons_succ, List.getElem_cons_zero]
          (apply wpAnyF_held (i := 1) rfl (by kernel_rfl) (fun _ _ _ h => h) hS.out; · first | exact .inr ⟨rfl, rfl⟩ | exact .inl ⟨rfl, fun w' hS' => by (obtain ⟨s1, s2, s3⟩ := hS'; go_simp; rfl)⟩); simp only [Act.put, List.setIfInBounds_toArray, List.set_cons_succ, List.set_cons_zero, List.getElem_toArray, List.getElem_cons_succ, List.getElem_cons_zero]
          (apply wpAnyF_pure (i := 2) rfl (by kernel_rfl) (fun _ _ _ h => h); · first | exact .inr ⟨rfl, rfl⟩ | exact .inl ⟨rfl, fun w' => by go_simp; rfl⟩); simp only [Act.put, List.setIfInBounds_toArray, List.set_cons_succ, List.set_cons_zero, List.getElem_toArray, List.getElem_cons_succ, List.getElem_cons_zero]
          (apply wpAnyF_pure (i := 3) rfl (by kernel_rfl) (fun _ _ _ h => h); · first | exact .inr ⟨rfl, rfl⟩ | exact .inl ⟨rfl, fun w' => by go_simp; rfl⟩); simp only [Act.put, List.setIfInBounds_toArray, List.set_cons_succ, List.set_cons_zero, List.getElem_toArray, List.getElem_cons_succ, List.getElem_cons_zero]
          (apply wpAnyF_pure (i := 4) rfl (by kernel_rfl) (fun _ _ _ h => h); · first | exact .inr ⟨rfl, rfl⟩ | exact .inl ⟨rfl, fun w' => by go_simp; rfl⟩); simp only [Act.put, List.setIfInBounds_toArray, List.set_cons_succ, List.set_cons_zero, List.getElem_toArray, List.getElem_cons_succ, List.getElem_cons_zero]
          (apply wpAnyF_held (i := 5) rfl (by kernel_rfl) (fun _ _ _ h => h) hS.out; · first | exact .inr ⟨rfl, rfl⟩ | exact .inl ⟨rfl, fun w' hS' => by (obtain ⟨s1, s2, s3⟩ := hS'; go_simp; rfl)⟩); simp only [Act.put, List.setIfInBounds_toArray, List.set_cons_succ, List.set_cons_zero, List.getElem_toArray, List.getElem_cons_succ, List.getElem_cons_zero]
          (apply wpAnyF_pure (i := 6) rfl (by kernel_rfl) (fun _ _ _ h => h); · first | exact .inr ⟨rfl, rfl⟩ | exact .inl ⟨rfl, fun w' => by go_simp; rfl⟩); simp only [Act.put, List.setIfInBounds_toArray, List.set_cons_succ, List.set_cons_zero, List.getElem_toArray, List.getElem_cons_succ, List.getElem_cons_zero]
          (apply wpAnyF_pure (i := 7) rfl (by kernel_rfl) (fun _ _ _ h => h); · first | exact .inr ⟨rfl, rfl⟩ | exact .inl ⟨rfl, fun w' => by go_simp; rfl⟩); simp only [Act.put, List.setIfInBounds_toArray, List.set_cons_succ, List.set_cons_zero, List.getElem_toArray, List.getElem_cons_succ, List.getElem_cons_zero]
          (apply wpAnyF_pure (i := 9) rfl (by kernel_rfl) (fun _ _ _ h => h); · first | exact .inr ⟨rfl, rfl⟩ | exact .inl ⟨rfl, fun w' => by go_simp; rfl⟩); simp only [Act.put, List.setIfInBounds_toArray, List.set_cons_succ, List.set_cons_zero, List.getElem_toArray, List.getElem_cons_succ, List.getElem_cons_zero]
          (apply wpAnyF_held (i := 10) rfl (by kernel_rfl) (fun _ _ _ h => h) hS.out; · first | exact .inr ⟨rfl, rfl⟩ | exact .inl ⟨rfl, fun w' hS' => by (obtain ⟨s1, s2, s3⟩ := hS'; go_simp; rfl)⟩); simp only [Act.put, List.setIfInBounds_toArray, List.set_cons_succ, List.set_cons_zero, List.getElem_toArray, List.getElem_cons_succ, List.getElem_cons_zero]
          (apply wpAnyF_pure (i := 11) rfl (by kernel_rfl) (fun _ _ _ h => h); · first | exact .inr ⟨rfl, rfl⟩ | exact .inl ⟨rfl, fun w' => by go_simp; rfl⟩); simp only [Act.put, List.setIfInBounds_toArray, List.set_cons_succ, List.set_cons_zero, List.getElem_toArray, List.getElem_cons_succ, List.getElem_cons_zero]
          (apply wpAnyF_pure (i := 12) rfl (by kernel_rfl) (fun _ _ _ h => h); · first | exact .inr ⟨rfl, rfl⟩ | exact .inl ⟨rfl, fun w' => by go_simp; rfl⟩); simp only [Act.put, List.setIfInBounds_toArray, List.set_cons_succ, List.set_cons_zero, List.getElem_toArray, List.getElem_cons_succ, List.getElem_cons_zero]
          (apply wpAnyF_pure (i := 13) rfl (by kernel_rfl) (fun _ _ _ h => h); · first | exact .inr ⟨rfl, rfl⟩ | exact .inl ⟨rfl, fun w' => by go_simp; rfl⟩); simp only [Act.put, List.setIfInBounds_toArray, List.set_cons_succ, List.set_cons_zero, List.getElem_toArray, List.getElem_cons_succ, List.getElem_cons_zero]
          (apply wpAnyF_pure (i := 16) rfl (by kernel_rfl) (fun _ _ _ h => h); · first | exact .inr ⟨rfl, rfl⟩ | exact .inl ⟨rfl, fun w' => by go_simp; rfl⟩); simp only [Act.put, List.setIfInBounds_toArray, List.set_cons_succ, List.set_cons_zero, List.getElem_toArray, List.getElem_cons_succ, List.getElem_cons_zero]
          refine wpAnyF_one (i := 8) rfl ⟨by kernel_rfl, by kernel_rfl⟩ ?_
          intro K hK
          go_simp
          rw [show Value.slice sa n sc = .slice sa (a.st.take n).length sc by rw [e1], show Value.slice fa j fc = .slice fa (a.fo.take j).length fc by rw [e2]]
          refine (between_any (a.st.take n) (a.fo.take j) sa fa sc fc wr.drew (by omega) (by omega) r1.out.drew r2.out.drew).mono ?_
          rintro e w5 ⟨rfl, hb5⟩
          have hb5' : Below wr.heap.size wr w5 := ⟨hb5.os, hb5.tape, hb5.output, hb5.size, hb5.block⟩
          refine shutS hK ⟨(hb5'.cell (p := ⟨w.heap.size, 2, none⟩) lw).trans g2, (hb5'.cell (p := ⟨w.heap.size, 3, none⟩) lw).trans g3, (hb5'.cell (p := ⟨X, 4, none⟩) lX2).trans p4⟩ (fun hS => ?_)
          refine wpAnyF_one (i := 14) rfl ⟨by kernel_rfl, by kernel_rfl⟩ ?_
          intro K hK
          go_simp
          have Q3' := Q3.out.keep (Keep.of_below hb5' (fun _ h _ => h)) (Q3.out.map.kept (hb5'.block _ Q3.out.map.lt))
          refine (left_any pb eb kb M a.id a.hs a.st a.fo sa fa sc fc (by omega) (by omega) n j w5 hn hjf Q3').mono ?_
          rintro e w6 ⟨rfl, hk6, hp6⟩
          refine shutN hK (by kernel_rfl) ?_
          (apply wpAnyF_pure (i := 15) rfl (by kernel_rfl) (fun _ _ _ h => h); · first | exact .inr ⟨rfl, rfl⟩ | exact .inl ⟨rfl, fun w' => by go_simp; rfl⟩); simp only [Act.put, List.setIfInBounds_toArray, List.set_cons_succ, List.set_cons_zero, List.getElem_toArray, List.getElem_cons_succ, List.getElem_cons_zero]
          (apply wpAnyF_pure (i := 17) rfl (by kernel_rfl) (fun _ _ _ h => h); · first | exact .inr ⟨rfl, rfl⟩ | exact .inl ⟨rfl, fun w' => by go_simp; rfl⟩); simp only [Act.put, List.setIfInBounds_toArray, List.set_cons_succ, List.set_cons_zero, List.getElem_toArray, List.getElem_cons_succ, List.getElem_cons_zero]
          refine wpAnyF_done (by kernel_rfl) ?_ _
          clear hS
          have hw := wrap_small (n := (dist (a.st.take n) (a.fo.take j) : Int) + (dd a.st a.fo n j : Int)) (by omega) (by unfold cutSum at hs; omega)
          have K6 : Keep (· ≠ M) wr w6 := (Keep.of_below hb5' (fun _ h _ => h)).trans hk6
          have hge := cut_ge a.st a.fo n j
          have e0 : dd a.st a.fo 0 0 = dist a.st a.fo := rfl
          have es : cutSum a.st a.fo n j = dist (a.st.take n) (a.fo.take j) + dd a.st a.fo n j := rfl
          have z1 := K6.box hMx Q1.out
          have z2 := K6.box hMB Q2.out
          have z3 := Q3.out.keep K6 hp6
          have z4 := Q4.out.trans (K6.below (B := w.heap.size) (fun k hk => show k ≠ M by have := hbw.size; omega) (by omega))
          simp only [hw]
          by_cases hgt : (dd a.st a.fo 0 0 : Int) < (dist (a.st.take n) (a.fo.take j) : Int) + (dd a.st a.fo n j : Int)
          · have HG := hid hgt
            go_wp2_with fail
            refine ⟨⟨j + 1, by omega, by simp, fun i hi => ?_, z1, z2, z3, z4⟩, by simp [intOf]; omega⟩
            by_cases hij : i = j
            · subst hij; have := HG.out; omega
            · exact Hno.out i (by omega)
          · have HG := hid hgt
            go_wp2_with fail
            refine bodyPost_ret (results_tmp2 rfl _ _ _) rfl ?_
            exact ⟨((j : Int), 0), rfl, .inr (.inr ⟨HK.out, n, j, rfl, hn, ⟨hjf, by have := HG.out; omega, Hno.out⟩, rfl⟩), z4⟩
        · obtain ⟨j', hj', hle⟩ := cut_ex a.st a.fo n hn
          exact absurd (Hno.out j' (by omega)) (by omega)
    · have hall : ([at'].all fun n => decide (0 ≤ n) && decide (n ≤ (a.st.length : Int))) = false := by simp; omega
      rw [hall]
      clear hall
      have HI := hid hin; clear hin
      go_wp2_with fail
      rw [Exit.noGoto_ret]
      refine bodyPost_ret (results_tmp2 rfl _ _ _) rfl ?_
      exact ⟨(0, 73), rfl, .inr (.inl ⟨HK.out, HI.out, rfl⟩), hbw⟩
  · have hok' : okT a.id a.hs a.st a.fo = false := by simpa using hok
    have t1 : (errT (okT a.id a.hs a.st a.fo) != 0) = true := by rw [hok']; rfl
    have t2 : errT (okT a.id a.hs a.st a.fo) = 70 := by rw [hok']; rfl
    have HK := hid hok'; clear hok hok'
    go_wp2_with fail
    rw [Exit.noGoto_ret]
    refine bodyPost_ret (results_tmp2 rfl _ _ _) rfl ?_
    exact ⟨(0, 70), rfl, .inl ⟨HK.out, rfl⟩, (by repeat (first | (with_reducible exact Below.refl _ _) | (with_reducible assumption) | (with_reducible refine Below.drew ?_) | (with_reducible refine below_drewN ?_ _) | (with_reducible refine Below.alloc ?_ (by first | omega | (simp; done) | (simp; omega)) _) | (with_reducible refine Below.setCell ?_ (by first | omega | (simp; done) | (simp; omega)) _) | (with_reducible refine Below.trans ?_ (Below.mono (by assumption) (by first | omega | (simp; done) | (simp; omega))))))⟩

end Go.Proofs.YthddoikmgpgakaaDoor
