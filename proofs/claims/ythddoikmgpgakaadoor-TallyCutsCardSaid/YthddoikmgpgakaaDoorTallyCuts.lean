/- The walk of the law 'TallyCuts'. -/
import Derived.Test.YthddoikmgpgakaaDoorProg
import Derived.Test.YthddoikmgpgakaaDoorBase
import Derived.Outline
import Derived.RangeFuncNested
import Derived.Shelf.Abstract
import Derived.Deep.QuietTactic
import Derived.BigQuiet
import Derived.Deep.RegionHeld3
import Derived.WalkSmall
import Derived.Laws.EntriesVeiled
import Derived.Test.YthddoikmgpgakaaDoorRefSplit
import Derived.Test.YthddoikmgpgakaaDoorSpoil
import Derived.Test.YthddoikmgpgakaaDoorLeaf2
import Derived.Test.YthddoikmgpgakaaDoorCuts9
namespace Go.Proofs.YthddoikmgpgakaaDoor
open Go.RowKit Go.Proofs Go.Shelf

theorem same_me (N : Tl) (sa fa sa' fa' : Option Addr) (sc fc sc' fc' : Nat) (w : World) (hl : N.st.length ≤ 4000) (hl2 : N.fo.length ≤ 4000) (h1 : RdI w sa N.st) (h2 : RdI w fa N.fo) (h3 : RdI w sa' N.st) (h4 : RdI w fa' N.fo) :
    Calls Tryd.prog 24 #[.agg #[.int .i64 N.id, .int .i64 N.hs, .slice sa N.st.length sc, .slice fa N.fo.length fc], .agg #[.int .i64 N.id, .int .i64 N.hs, .slice sa' N.st.length sc', .slice fa' N.fo.length fc']] w fun e w' => e = .returned (.bool true) ∧ Below w.heap.size w w' := by
  have h := same_any N.id N.hs N.id N.hs N.st N.fo N.st N.fo sa fa sa' fa' sc fc sc' fc' w hl hl2 h1 h2 h3 h4
  have e : sameT N.id N.hs N.id N.hs N.st N.fo N.st N.fo = true := by simp [sameT]
  rw [e] at h
  exact h
theorem below_al {w w' : World} {o : Obj} (h : Below (w.alloc o).heap.size (w.alloc o) w') : Below w.heap.size w w' := ((Below.refl _ w).alloc (Nat.le_refl _) o).trans (h.mono (by simp))
theorem splitF_small (a : Tl) (i j : Int) (hl : a.st.length ≤ 1000) (hl2 : a.fo.length ≤ 1000) : ((splitF a i j).1.st.length ≤ 1000 ∧ (splitF a i j).1.fo.length ≤ 1000) ∧ ((splitF a i j).2.1.st.length ≤ 1000 ∧ (splitF a i j).2.1.fo.length ≤ 1000) := by
  unfold splitF
  split
  · split
    · simp only [List.length_take, List.length_drop]; omega
    · simp [zeroT]
  · simp [zeroT]

theorem own_kp {Z : Nat → Prop} {w w' : World} {B : Nat} {e : TypeId} {size : Nat} {v : Value} {m : Nat} {ys : List Value} (o : w.ownsRow B e size v m ys) (h : Keep Z w w') (hz : ∀ g, v.ownBlock = some g → Z g) : w'.ownsRow B e size v m ys := by
  refine ⟨o.1, o.2.imp (fun x => x) ?_⟩
  rintro ⟨g, cap, cur, hv, hb, hh, r⟩
  refine ⟨g, cap, cur, hv, hb, ?_, r⟩
  exact (h.block g (Array.getElem?_eq_some_iff.1 hh).1 (hz g (by rw [hv]; rfl))).trans hh
theorem rd_below {w w' : World} {B : Nat} {a : Option Addr} {xs : List Int} (h : RdI w a xs) (hb : Below B w w') (hz : xs ≠ [] → ∀ p, a = some p → p.block < B) : RdI w' a xs :=
  (Keep.of_below (Z := fun k => k < B) hb (fun _ _ h => h)).rdI hz h
theorem apart_lies {w : World} {B : Nat} {e : TypeId} {size : Nat} {v v' u : Value} {m : Nat} {ys : List Value} (hap : ApartV v u) (o2 : w.ownsRow B e size u m ys) (pl : v'.ownBlock = v.ownBlock ∨ ∃ x, w.heap.size ≤ x ∧ v'.ownBlock = some x) : ApartV v' u := by
  rcases pl with h | ⟨x, hx, h⟩
  · exact fun g hg hu => hap g (h ▸ hg) hu
  · exact apart_new hap o2 hx (.inr h)

set_option maxRecDepth 20000 in
set_option maxHeartbeats 8000000 in
theorem tallyCuts_any (a : Tl) (i j : Int) (sa fa : Option Addr) (sc fc : Nat) (w : World) (ht : Tab w) (hc : a.st.length ≤ sc) (hc2 : a.fo.length ≤ fc) (h1 : RdI w sa a.st) (h2 : RdI w fa a.fo) :
    Calls Tryd.prog 4 #[.agg #[.int .i64 a.id, .int .i64 a.hs, .slice sa a.st.length sc, .slice fa a.fo.length fc], .int .i64 i, .int .i64 j] w
      fun e w' => e = .returned (.bool true) ∧ Below w.heap.size w w' := by
  have H1 := hid h1; have H2 := hid h2; clear h1 h2
  have HT := hid ht; clear ht
  have hm := mixed
  go_enter Tryd.func4, Tryd.ntmps4
  go_wp2_with fail
  refine (great_any _ _ _ _ _ _ _ _ _).mono ?_
  rintro e w1 ⟨rfl, hb1⟩
  have X1 := hid ((Box.new w #[.int .i64 a.id, .int .i64 a.hs, .slice sa a.st.length sc, .slice fa a.fo.length fc] 24).below hb1 (by simp))
  have W1 := hid (show Below w.heap.size w w1 from (by repeat (first | (with_reducible exact Below.refl _ _) | (with_reducible assumption) | (with_reducible refine Below.drew ?_) | (with_reducible refine below_drewN ?_ _) | (with_reducible refine Below.alloc ?_ (by first | omega | (simp; done) | (simp; omega)) _) | (with_reducible refine Below.setCell ?_ (by first | omega | (simp; done) | (simp; omega)) _) | (with_reducible refine Below.trans ?_ (Below.mono (by assumption) (by first | omega | (simp; done) | (simp; omega)))))))
  clear hb1
  by_cases g1 : (decide ((30 : Int) < (a.st.length : Int)) || decide ((30 : Int) < (a.fo.length : Int))) = true
  · go_wp2_with fail
    go_ret
    exact ⟨rfl, W1.out⟩
  have g1' : (decide ((30 : Int) < (a.st.length : Int)) || decide ((30 : Int) < (a.fo.length : Int))) = false := by simpa using g1
  have hl : a.st.length ≤ 1000 ∧ a.fo.length ≤ 1000 := by simp at g1; exact ⟨by omega, by omega⟩
  obtain ⟨hl1, hl2⟩ := hl
  clear g1
  obtain ⟨⟨c0, c1, c2, c3⟩, _, lx⟩ := box_four X1.out
  go_wp2_with fail
  clear g1'
  refine (twin_any a.id a.hs a.st a.fo sa fa sc fc w1 (by omega) (by omega) (H1.out.below W1.out) (H2.out.below W1.out)).mono ?_
  rintro e w2 ⟨v, rfl, hb2, s1, d1, s2, d2, rfl, o1, o2, -⟩
  dsimp only at o1 o2 ⊢
  have K1 := own_cap o1; have K2 := own_cap o2
  have X2 := hid (X1.out.below hb2 X1.out.lt)
  have W2 := hid (W1.out.trans (hb2.mono W1.out.size))
  have R1 := hid (RdI.of_own o1); have R2 := hid (RdI.of_own o2)
  clear o1 o2 X1 W1 hb2 c0 c1 c2 c3 lx
  go_wp2_with fail
  -- 'own' lies in block p7
  obtain ⟨p7, hp7⟩ : ∃ p, p = w2.heap.size := ⟨_, rfl⟩
  have n7 : w.heap.size < p7 := by have := X2.out.lt; omega
  rw [← hp7]
  refine (where_any a i s1 s2 d1 d2 _ (HT.out.below (W2.out.alloc W2.out.size _)) hl1 hl2 K1 K2 (R1.out.alloc _) (R2.out.alloc _)).mono ?_
  rintro e w3 ⟨r, rfl, hr, hb3⟩
  have hb3a := below_al hb3
  have X := hid (X2.out.below hb3a X2.out.lt)
  have P := hid ((Box.at (w := w2) #[.int .i64 a.id, .int .i64 a.hs, .slice s1 a.st.length d1, .slice s2 a.fo.length d2] 24 hp7).below hb3 (by simp; omega))
  have R1 := hid (R1.out.below hb3a); have R2 := hid (R2.out.below hb3a)
  have Wb := hid (W2.out.trans (hb3a.mono W2.out.size))
  clear X2 W2 hb3 hb3a hp7
  obtain ⟨⟨c0, c1, c2, c3⟩, _, lx⟩ := box_four X.out
  go_wp2_with fail
  refine (refWhere_any a i sa fa sc fc w3 hl1 hl2 hc hc2 (H1.out.below Wb.out) (H2.out.below Wb.out)).mono ?_
  rintro e w4 ⟨r', rfl, hr', hb4⟩
  obtain rfl := hr.unique hr'
  clear hr hr' c0 c1 c2 c3 lx
  have X := hid (X.out.below hb4 X.out.lt); have P := hid (P.out.below hb4 P.out.lt); have R1 := hid (R1.out.below hb4); have R2 := hid (R2.out.below hb4); have Wb := hid (Wb.out.trans ((hb4).mono Wb.out.size))
  clear hb4
  obtain ⟨⟨c0, c1, c2, c3⟩, _, lx⟩ := box_four P.out
  go_wp2_with fail
  obtain ⟨⟨T1, T2, er⟩, hT⟩ : ∃ T, splitF a i j = T := ⟨_, rfl⟩
  have sm := splitF_small a i j hl1 hl2
  rw [hT] at sm
  obtain ⟨⟨l1, l2⟩, l3, l4⟩ := sm
  dsimp only at l1 l2 l3 l4
  have HS := hid hT; clear hT
  refine (split_any a i j s1 s2 d1 d2 w4 (HT.out.below Wb.out) hl1 hl2 K1 K2 R1.out R2.out).mono ?_
  rintro e w5 ⟨v, u, Xs, rfl, hb5, hN, hXs, hU⟩
  rw [HS.out] at hN hU ⊢
  dsimp only at hN hU ⊢
  obtain ⟨q1, g1, q2, g2, rfl, o1, o2, ap12, lt1, lt2⟩ := hN
  obtain ⟨q3, g3, q4, g4, rfl, o3, o4, ap34⟩ := hU
  have O1 := hid o1; have O2 := hid o2; have O3 := hid (own_base o3 hXs); have O4 := hid (own_base o4 hXs)
  have ap13 : ApartV (.slice q1 T1.st.length g1) (.slice q3 T2.st.length g3) := fun g hg hu => by have := lt1 g hg; have := (o3.lt g hu).1; omega
  have ap14 : ApartV (.slice q1 T1.st.length g1) (.slice q4 T2.fo.length g4) := fun g hg hu => by have := lt1 g hg; have := (o4.lt g hu).1; omega
  have ap23 : ApartV (.slice q2 T1.fo.length g2) (.slice q3 T2.st.length g3) := fun g hg hu => by have := lt2 g hg; have := (o3.lt g hu).1; omega
  have ap24 : ApartV (.slice q2 T1.fo.length g2) (.slice q4 T2.fo.length g4) := fun g hg hu => by have := lt2 g hg; have := (o4.lt g hu).1; omega
  have A12 := hid ap12; have A34 := hid ap34; have A13 := hid ap13; have A14 := hid ap14; have A23 := hid ap23; have A24 := hid ap24
  clear o1 o2 o3 o4 ap12 ap34 ap13 ap14 ap23 ap24 lt1 lt2 c0 c1 c2 c3 lx
  obtain ⟨Y, hY⟩ : ∃ Y, Y = w4.heap.size := ⟨_, rfl⟩
  have nY : p7 < Y := by have := P.out.lt; omega
  have NR1 := hid R1.out.lt; have NR2 := hid R2.out.lt
  have G1 := hid (fun g hg => (O1.out.lt g hg).2 : ∀ g, (Value.slice q1 T1.st.length g1).ownBlock = some g → g < w5.heap.size)
  have G2 := hid (fun g hg => (O2.out.lt g hg).2 : ∀ g, (Value.slice q2 T1.fo.length g2).ownBlock = some g → g < w5.heap.size)
  rw [← hY] at O1 O2 O3 O4 hXs NR1 NR2
  have X := hid (X.out.below hb5 X.out.lt); have P := hid (P.out.below hb5 P.out.lt); have R1 := hid (R1.out.below hb5); have R2 := hid (R2.out.below hb5); have Wb := hid (Wb.out.trans ((hb5).mono Wb.out.size))
  have Yw : Y ≤ w5.heap.size := by have := hb5.size; omega
  clear hb5 hY
  obtain ⟨⟨c0, c1, c2, c3⟩, _, lx⟩ := box_four X.out
  go_wp2_with fail
  -- the pieces lie in blocks pc and pc + 1
  obtain ⟨pc, hpc⟩ : ∃ p, p = w5.heap.size := ⟨_, rfl⟩
  have npc : Y ≤ pc := by omega
  have X := hid ((X.out.alloc (.cells #[.int .i64 T1.id, .int .i64 T1.hs, .slice q1 T1.st.length g1, .slice q2 T1.fo.length g2] 24)).alloc (.cells #[.int .i64 T2.id, .int .i64 T2.hs, .slice q3 T2.st.length g3, .slice q4 T2.fo.length g4] 24))
  have P := hid ((P.out.alloc (.cells #[.int .i64 T1.id, .int .i64 T1.hs, .slice q1 T1.st.length g1, .slice q2 T1.fo.length g2] 24)).alloc (.cells #[.int .i64 T2.id, .int .i64 T2.hs, .slice q3 T2.st.length g3, .slice q4 T2.fo.length g4] 24))
  have R1 := hid ((R1.out.alloc (.cells #[.int .i64 T1.id, .int .i64 T1.hs, .slice q1 T1.st.length g1, .slice q2 T1.fo.length g2] 24)).alloc (.cells #[.int .i64 T2.id, .int .i64 T2.hs, .slice q3 T2.st.length g3, .slice q4 T2.fo.length g4] 24)); have R2 := hid ((R2.out.alloc (.cells #[.int .i64 T1.id, .int .i64 T1.hs, .slice q1 T1.st.length g1, .slice q2 T1.fo.length g2] 24)).alloc (.cells #[.int .i64 T2.id, .int .i64 T2.hs, .slice q3 T2.st.length g3, .slice q4 T2.fo.length g4] 24))
  have Wb := hid ((Wb.out.alloc Wb.out.size (.cells #[.int .i64 T1.id, .int .i64 T1.hs, .slice q1 T1.st.length g1, .slice q2 T1.fo.length g2] 24)).alloc (by have := Wb.out.size; simp; omega) (.cells #[.int .i64 T2.id, .int .i64 T2.hs, .slice q3 T2.st.length g3, .slice q4 T2.fo.length g4] 24))
  have O1 := hid ((O1.out.alloc (.cells #[.int .i64 T1.id, .int .i64 T1.hs, .slice q1 T1.st.length g1, .slice q2 T1.fo.length g2] 24)).alloc (.cells #[.int .i64 T2.id, .int .i64 T2.hs, .slice q3 T2.st.length g3, .slice q4 T2.fo.length g4] 24)); have O2 := hid ((O2.out.alloc (.cells #[.int .i64 T1.id, .int .i64 T1.hs, .slice q1 T1.st.length g1, .slice q2 T1.fo.length g2] 24)).alloc (.cells #[.int .i64 T2.id, .int .i64 T2.hs, .slice q3 T2.st.length g3, .slice q4 T2.fo.length g4] 24))
  have O3 := hid ((O3.out.alloc (.cells #[.int .i64 T1.id, .int .i64 T1.hs, .slice q1 T1.st.length g1, .slice q2 T1.fo.length g2] 24)).alloc (.cells #[.int .i64 T2.id, .int .i64 T2.hs, .slice q3 T2.st.length g3, .slice q4 T2.fo.length g4] 24)); have O4 := hid ((O4.out.alloc (.cells #[.int .i64 T1.id, .int .i64 T1.hs, .slice q1 T1.st.length g1, .slice q2 T1.fo.length g2] 24)).alloc (.cells #[.int .i64 T2.id, .int .i64 T2.hs, .slice q3 T2.st.length g3, .slice q4 T2.fo.length g4] 24))
  have C := hid ((Box.at (w := w5) #[.int .i64 T1.id, .int .i64 T1.hs, .slice q1 T1.st.length g1, .slice q2 T1.fo.length g2] 24 hpc).alloc (.cells #[.int .i64 T2.id, .int .i64 T2.hs, .slice q3 T2.st.length g3, .slice q4 T2.fo.length g4] 24))
  have D := hid (Box.at (w := w5.alloc (.cells #[.int .i64 T1.id, .int .i64 T1.hs, .slice q1 T1.st.length g1, .slice q2 T1.fo.length g2] 24)) (n := pc + 1) #[.int .i64 T2.id, .int .i64 T2.hs, .slice q3 T2.st.length g3, .slice q4 T2.fo.length g4] 24 (by simp [hpc]))
  rw [← hpc] at G1 G2 ⊢
  have l6 := hid D.out.lt
  clear hpc c0 c1 c2 c3 lx Yw
  generalize ((w5.alloc (.cells #[.int .i64 T1.id, .int .i64 T1.hs, .slice q1 T1.st.length g1, .slice q2 T1.fo.length g2] 24)).alloc (.cells #[.int .i64 T2.id, .int .i64 T2.hs, .slice q3 T2.st.length g3, .slice q4 T2.fo.length g4] 24)) = w6 at X P R1 R2 Wb O1 O2 O3 O4 C D l6 ⊢
  refine (refSplit_any a i j sa fa sc fc w6 hl1 hl2 (H1.out.below Wb.out) (H2.out.below Wb.out)).mono ?_
  rintro e w7 ⟨mv, nv, rfl, hb7, hM, hNv⟩
  rw [HS.out] at hM hNv ⊢
  dsimp only at hM hNv ⊢
  obtain ⟨y1, z1, y2, z2, rfl, m1, m2, -, -⟩ := hM
  obtain ⟨y3, z3, y4, z4, rfl, m3, m4, n3, n4⟩ := hNv
  have M1 := hid m1; have M2 := hid m2; have M3 := hid m3; have M4 := hid m4
  have NM3 := hid (fun p hp => Nat.lt_of_lt_of_le l6.out (n3 p hp) : ∀ p, y3 = some p → pc + 1 < p.block)
  have NM4 := hid (fun p hp => Nat.lt_of_lt_of_le l6.out (n4 p hp) : ∀ p, y4 = some p → pc + 1 < p.block)
  clear m1 m2 m3 m4 n3 n4 l6
  have X := hid (X.out.below hb7 X.out.lt); have P := hid (P.out.below hb7 P.out.lt); have R1 := hid (R1.out.below hb7); have R2 := hid (R2.out.below hb7); have Wb := hid (Wb.out.trans ((hb7).mono Wb.out.size)); have O1 := hid (own_below O1.out hb7 (Nat.le_refl _)); have O2 := hid (own_below O2.out hb7 (Nat.le_refl _)); have O3 := hid (own_below O3.out hb7 (Nat.le_refl _)); have O4 := hid (own_below O4.out hb7 (Nat.le_refl _)); have C := hid (C.out.below hb7 C.out.lt); have D := hid (D.out.below hb7 D.out.lt)
  clear hb7
  obtain ⟨⟨c0, c1, c2, c3⟩, _, lx⟩ := box_four C.out
  go_wp2_with fail
  obtain ⟨pm, hpm⟩ : ∃ p, p = w7.heap.size := ⟨_, rfl⟩
  have npm : pc + 1 < pm := by have := D.out.lt; omega
  have X := hid ((X.out.alloc (.cells #[.int .i64 T1.id, .int .i64 T1.hs, .slice y1 T1.st.length z1, .slice y2 T1.fo.length z2] 24)).alloc (.cells #[.int .i64 T2.id, .int .i64 T2.hs, .slice y3 T2.st.length z3, .slice y4 T2.fo.length z4] 24))
  have P := hid ((P.out.alloc (.cells #[.int .i64 T1.id, .int .i64 T1.hs, .slice y1 T1.st.length z1, .slice y2 T1.fo.length z2] 24)).alloc (.cells #[.int .i64 T2.id, .int .i64 T2.hs, .slice y3 T2.st.length z3, .slice y4 T2.fo.length z4] 24))
  have R1 := hid ((R1.out.alloc (.cells #[.int .i64 T1.id, .int .i64 T1.hs, .slice y1 T1.st.length z1, .slice y2 T1.fo.length z2] 24)).alloc (.cells #[.int .i64 T2.id, .int .i64 T2.hs, .slice y3 T2.st.length z3, .slice y4 T2.fo.length z4] 24))
  have R2 := hid ((R2.out.alloc (.cells #[.int .i64 T1.id, .int .i64 T1.hs, .slice y1 T1.st.length z1, .slice y2 T1.fo.length z2] 24)).alloc (.cells #[.int .i64 T2.id, .int .i64 T2.hs, .slice y3 T2.st.length z3, .slice y4 T2.fo.length z4] 24))
  have O1 := hid ((O1.out.alloc (.cells #[.int .i64 T1.id, .int .i64 T1.hs, .slice y1 T1.st.length z1, .slice y2 T1.fo.length z2] 24)).alloc (.cells #[.int .i64 T2.id, .int .i64 T2.hs, .slice y3 T2.st.length z3, .slice y4 T2.fo.length z4] 24))
  have O2 := hid ((O2.out.alloc (.cells #[.int .i64 T1.id, .int .i64 T1.hs, .slice y1 T1.st.length z1, .slice y2 T1.fo.length z2] 24)).alloc (.cells #[.int .i64 T2.id, .int .i64 T2.hs, .slice y3 T2.st.length z3, .slice y4 T2.fo.length z4] 24))
  have O3 := hid ((O3.out.alloc (.cells #[.int .i64 T1.id, .int .i64 T1.hs, .slice y1 T1.st.length z1, .slice y2 T1.fo.length z2] 24)).alloc (.cells #[.int .i64 T2.id, .int .i64 T2.hs, .slice y3 T2.st.length z3, .slice y4 T2.fo.length z4] 24))
  have O4 := hid ((O4.out.alloc (.cells #[.int .i64 T1.id, .int .i64 T1.hs, .slice y1 T1.st.length z1, .slice y2 T1.fo.length z2] 24)).alloc (.cells #[.int .i64 T2.id, .int .i64 T2.hs, .slice y3 T2.st.length z3, .slice y4 T2.fo.length z4] 24))
  have C := hid ((C.out.alloc (.cells #[.int .i64 T1.id, .int .i64 T1.hs, .slice y1 T1.st.length z1, .slice y2 T1.fo.length z2] 24)).alloc (.cells #[.int .i64 T2.id, .int .i64 T2.hs, .slice y3 T2.st.length z3, .slice y4 T2.fo.length z4] 24))
  have D := hid ((D.out.alloc (.cells #[.int .i64 T1.id, .int .i64 T1.hs, .slice y1 T1.st.length z1, .slice y2 T1.fo.length z2] 24)).alloc (.cells #[.int .i64 T2.id, .int .i64 T2.hs, .slice y3 T2.st.length z3, .slice y4 T2.fo.length z4] 24))
  have M1 := hid ((M1.out.alloc (.cells #[.int .i64 T1.id, .int .i64 T1.hs, .slice y1 T1.st.length z1, .slice y2 T1.fo.length z2] 24)).alloc (.cells #[.int .i64 T2.id, .int .i64 T2.hs, .slice y3 T2.st.length z3, .slice y4 T2.fo.length z4] 24))
  have M2 := hid ((M2.out.alloc (.cells #[.int .i64 T1.id, .int .i64 T1.hs, .slice y1 T1.st.length z1, .slice y2 T1.fo.length z2] 24)).alloc (.cells #[.int .i64 T2.id, .int .i64 T2.hs, .slice y3 T2.st.length z3, .slice y4 T2.fo.length z4] 24))
  have M3 := hid ((M3.out.alloc (.cells #[.int .i64 T1.id, .int .i64 T1.hs, .slice y1 T1.st.length z1, .slice y2 T1.fo.length z2] 24)).alloc (.cells #[.int .i64 T2.id, .int .i64 T2.hs, .slice y3 T2.st.length z3, .slice y4 T2.fo.length z4] 24))
  have M4 := hid ((M4.out.alloc (.cells #[.int .i64 T1.id, .int .i64 T1.hs, .slice y1 T1.st.length z1, .slice y2 T1.fo.length z2] 24)).alloc (.cells #[.int .i64 T2.id, .int .i64 T2.hs, .slice y3 T2.st.length z3, .slice y4 T2.fo.length z4] 24))
  have Wb := hid ((Wb.out.alloc Wb.out.size (.cells #[.int .i64 T1.id, .int .i64 T1.hs, .slice y1 T1.st.length z1, .slice y2 T1.fo.length z2] 24)).alloc (by have := Wb.out.size; simp; omega) (.cells #[.int .i64 T2.id, .int .i64 T2.hs, .slice y3 T2.st.length z3, .slice y4 T2.fo.length z4] 24))
  have E1 := hid ((Box.at (w := w7) #[.int .i64 T1.id, .int .i64 T1.hs, .slice y1 T1.st.length z1, .slice y2 T1.fo.length z2] 24 hpm).alloc (.cells #[.int .i64 T2.id, .int .i64 T2.hs, .slice y3 T2.st.length z3, .slice y4 T2.fo.length z4] 24))
  have E2 := hid (Box.at (w := w7.alloc (.cells #[.int .i64 T1.id, .int .i64 T1.hs, .slice y1 T1.st.length z1, .slice y2 T1.fo.length z2] 24)) (n := pm + 1) #[.int .i64 T2.id, .int .i64 T2.hs, .slice y3 T2.st.length z3, .slice y4 T2.fo.length z4] 24 (by simp [hpm]))
  rw [← hpm]
  clear hpm c0 c1 c2 c3 lx
  generalize ((w7.alloc (.cells #[.int .i64 T1.id, .int .i64 T1.hs, .slice y1 T1.st.length z1, .slice y2 T1.fo.length z2] 24)).alloc (.cells #[.int .i64 T2.id, .int .i64 T2.hs, .slice y3 T2.st.length z3, .slice y4 T2.fo.length z4] 24)) = w8 at X P R1 R2 Wb O1 O2 O3 O4 C D M1 M2 M3 M4 E1 E2 ⊢
  refine (same_me T1 q1 q2 y1 y2 g1 g2 z1 z2 w8 (by omega) (by omega) (RdI.of_own O1.out) (RdI.of_own O2.out) M1.out M2.out).mono ?_
  rintro e w9 ⟨rfl, hb9⟩
  have X := hid (X.out.below hb9 X.out.lt); have P := hid (P.out.below hb9 P.out.lt); have R1 := hid (R1.out.below hb9); have R2 := hid (R2.out.below hb9); have Wb := hid (Wb.out.trans ((hb9).mono Wb.out.size)); have O1 := hid (own_below O1.out hb9 (Nat.le_refl _)); have O2 := hid (own_below O2.out hb9 (Nat.le_refl _)); have O3 := hid (own_below O3.out hb9 (Nat.le_refl _)); have O4 := hid (own_below O4.out hb9 (Nat.le_refl _)); have C := hid (C.out.below hb9 C.out.lt); have D := hid (D.out.below hb9 D.out.lt); have M1 := hid (M1.out.below hb9); have M2 := hid (M2.out.below hb9); have M3 := hid (M3.out.below hb9); have M4 := hid (M4.out.below hb9); have E1 := hid (E1.out.below hb9 E1.out.lt); have E2 := hid (E2.out.below hb9 E2.out.lt)
  clear hb9
  obtain ⟨⟨c0, c1, c2, c3⟩, _, lx⟩ := box_four D.out
  obtain ⟨⟨b0, b1, b2, b3⟩, _, ly⟩ := box_four E2.out
  go_wp2_with fail
  refine (same_me T2 q3 q4 y3 y4 g3 g4 z3 z4 w9 (by omega) (by omega) (RdI.of_own O3.out) (RdI.of_own O4.out) M3.out M4.out).mono ?_
  rintro e w10 ⟨rfl, hb10⟩
  have X := hid (X.out.below hb10 X.out.lt); have P := hid (P.out.below hb10 P.out.lt); have R1 := hid (R1.out.below hb10); have R2 := hid (R2.out.below hb10); have Wb := hid (Wb.out.trans ((hb10).mono Wb.out.size)); have O1 := hid (own_below O1.out hb10 (Nat.le_refl _)); have O2 := hid (own_below O2.out hb10 (Nat.le_refl _)); have O3 := hid (own_below O3.out hb10 (Nat.le_refl _)); have O4 := hid (own_below O4.out hb10 (Nat.le_refl _)); have C := hid (C.out.below hb10 C.out.lt); have D := hid (D.out.below hb10 D.out.lt); have M1 := hid (M1.out.below hb10); have M2 := hid (M2.out.below hb10); have M3 := hid (M3.out.below hb10); have M4 := hid (M4.out.below hb10); have E1 := hid (E1.out.below hb10 E1.out.lt); have E2 := hid (E2.out.below hb10 E2.out.lt)
  clear hb10 c0 c1 c2 c3 lx b0 b1 b2 b3 ly
  clear M1 M2 E1
  obtain ⟨⟨c0, c1, c2, c3⟩, ⟨k0, k1, k2, k3⟩, lx⟩ := box_four C.out
  go_wp2_with fail
  refine wp_acts rfl ?_
  intro u hu
  refine wp_post (Nine w10 u pc Y T1 (.slice q1 T1.st.length g1) (.slice q2 T1.fo.length g2)) (reg9_any T1 q1 q2 g1 g2 pc Y w10 u l1 l2 (by have := D.out.lt; omega) (hu 12) C O1 O2 A12) ?_
  rintro a' W ⟨f, rfl, a1, k1', a2, k2', xs1, xs2, e3, e7, e12, e13, e16, e18, c_, kp, p1, p2, L1, L2, ap⟩
  have e3' : f 3 = .pointer (some ⟨w.heap.size, 0, none⟩) := e3.trans (hu 3)
  have e7' : f 7 = .pointer (some ⟨p7, 0, none⟩) := e7.trans (hu 7)
  have e13' : f 13 = .pointer (some ⟨pc + 1, 0, none⟩) := e13.trans (hu 13)
  have e16' : f 16 = .pointer (some ⟨pm + 1, 0, none⟩) := e16.trans (hu 16)
  have e18' : f 18 = .bool true := e18.trans (hu 18)
  rw [show (List.range 100).map f = [f 0, f 1, f 2, f 3, f 4, f 5, f 6, f 7, f 8, f 9, f 10, f 11, f 12, f 13, f 14, f 15, f 16, f 17, f 18, f 19, f 20, f 21, f 22, f 23, f 24, f 25, f 26, f 27, f 28, f 29, f 30, f 31, f 32, f 33, f 34, f 35, f 36, f 37, f 38, f 39, f 40, f 41, f 42, f 43, f 44, f 45, f 46, f 47, f 48, f 49, f 50, f 51, f 52, f 53, f 54, f 55, f 56, f 57, f 58, f 59, f 60, f 61, f 62, f 63, f 64, f 65, f 66, f 67, f 68, f 69, f 70, f 71, f 72, f 73, f 74, f 75, f 76, f 77, f 78, f 79, f 80, f 81, f 82, f 83, f 84, f 85, f 86, f 87, f 88, f 89, f 90, f 91, f 92, f 93, f 94, f 95, f 96, f 97, f 98, f 99] from rfl, e3', e7', e12, e13', e16', e18']
  clear e3 e7 e12 e13 e16 e18 e3' e7' e13' e16' e18' hu u c0 c1 c2 c3 k0 k1 k2 k3 lx
  have X := hid (kp.box ⟨by omega, own_ne O1.out X.out, own_ne O2.out X.out⟩ X.out)
  have P := hid (kp.box ⟨by omega, own_ne O1.out P.out, own_ne O2.out P.out⟩ P.out)
  have D := hid (kp.box ⟨by omega, own_ne O1.out D.out, own_ne O2.out D.out⟩ D.out)
  have E2 := hid (kp.box ⟨by omega, own_ne O1.out E2.out, own_ne O2.out E2.out⟩ E2.out)
  have R1 := hid (kp.rdI (fun hx p hp => ⟨by have := NR1.out hx p hp; omega, fun e => by have h1 := NR1.out hx p hp; have h2 := (O1.out.lt _ e).1; omega, fun e => by have h1 := NR1.out hx p hp; have h2 := (O2.out.lt _ e).1; omega⟩) R1.out)
  have R2 := hid (kp.rdI (fun hx p hp => ⟨by have := NR2.out hx p hp; omega, fun e => by have h1 := NR2.out hx p hp; have h2 := (O1.out.lt _ e).1; omega, fun e => by have h1 := NR2.out hx p hp; have h2 := (O2.out.lt _ e).1; omega⟩) R2.out)
  have M3 := hid (kp.rdI (fun hx p hp => ⟨by have := NM3.out p hp; omega, fun e => by have h1 := NM3.out p hp; have h2 := G1.out _ e; omega, fun e => by have h1 := NM3.out p hp; have h2 := G2.out _ e; omega⟩) M3.out)
  have M4 := hid (kp.rdI (fun hx p hp => ⟨by have := NM4.out p hp; omega, fun e => by have h1 := NM4.out p hp; have h2 := G1.out _ e; omega, fun e => by have h1 := NM4.out p hp; have h2 := G2.out _ e; omega⟩) M4.out)
  have Wb := hid (Wb.out.trans (kp.below (B := w.heap.size) (fun k hk => ⟨by omega, fun e => by have h2 := (O1.out.lt _ e).1; omega, fun e => by have h2 := (O2.out.lt _ e).1; omega⟩) Wb.out.size))
  have N13 := hid (apart_lies A13.out O3.out L1); have N14 := hid (apart_lies A14.out O4.out L1); have N23 := hid (apart_lies A23.out O3.out L2); have N24 := hid (apart_lies A24.out O4.out L2)
  have O3 := hid (own_kp O3.out kp (fun g hg => ⟨fun e => own_ne O3.out C.out (e ▸ hg), fun e => A13.out g e hg, fun e => A23.out g e hg⟩))
  have O4 := hid (own_kp O4.out kp (fun g hg => ⟨fun e => own_ne O4.out C.out (e ▸ hg), fun e => A14.out g e hg, fun e => A24.out g e hg⟩))
  have C := hid c_; have O1 := hid p1; have O2 := hid p2
  have zY : Y ≤ W.heap.size := by have := D.out.lt; omega
  clear c_ p1 p2 L1 L2 kp ap A12 A13 A14 A23 A24 G1 G2 NM3 NM4
  obtain ⟨⟨c0, c1, c2, c3⟩, _, lx⟩ := box_four D.out
  obtain ⟨⟨b0, b1, b2, b3⟩, _, ly⟩ := box_four E2.out
  go_wp2_with fail
  refine (same_me T2 q3 q4 y3 y4 g3 g4 z3 z4 W (by omega) (by omega) (RdI.of_own O3.out) (RdI.of_own O4.out) M3.out M4.out).mono ?_
  rintro e w11 ⟨rfl, hb⟩
  have X := hid (X.out.below hb X.out.lt); have P := hid (P.out.below hb P.out.lt); have R1 := hid (R1.out.below hb); have R2 := hid (R2.out.below hb); have Wb := hid (Wb.out.trans ((hb).mono Wb.out.size)); have O1 := hid (own_below O1.out hb (Nat.le_refl _)); have O2 := hid (own_below O2.out hb (Nat.le_refl _)); have O3 := hid (own_below O3.out hb (Nat.le_refl _)); have O4 := hid (own_below O4.out hb (Nat.le_refl _)); have C := hid (C.out.below hb C.out.lt); have D := hid (D.out.below hb D.out.lt)
  have zY : Y ≤ w11.heap.size := by have := D.out.lt; omega
  clear hb c0 c1 c2 c3 lx b0 b1 b2 b3 ly M3 M4 E2
  obtain ⟨⟨c0, c1, c2, c3⟩, _, lx⟩ := box_four C.out
  go_wp2_with fail
  refine (spoil_any Y (fun V => Box V (pc + 1) #[.int .i64 T2.id, .int .i64 T2.hs, .slice q3 T2.st.length g3, .slice q4 T2.fo.length g4] 24 ∧ V.ownsRow Y 3 1 (.slice q3 T2.st.length g3) T2.st.length (T2.st.map (Value.int .i64)) ∧ V.ownsRow Y 3 1 (.slice q4 T2.fo.length g4) T2.fo.length (T2.fo.map (Value.int .i64))) T1.id T1.hs a1 a2 (T1.st.length + 1) (T1.fo.length + 1) k1' k2' xs1 xs2 w11 (by omega) (by omega) zY O1.out O2.out (fun o => ⟨D.out.alloc o, O3.out.alloc o, O4.out.alloc o⟩) (fun wr g k v hg hI => ⟨hI.1.other _ _ _ (fun e => hg.elim (fun h => own_ne O1.out D.out (e ▸ h)) (fun h => own_ne O2.out D.out (e ▸ h))), own_keep1 hI.2.1 (fun e => hg.elim (fun h => N13.out g h e) (fun h => N23.out g h e)), own_keep1 hI.2.2 (fun e => hg.elim (fun h => N14.out g h e) (fun h => N24.out g h e))⟩)).mono ?_
  rintro e w12 ⟨rfl, hb, d_, p3, p4⟩
  have X := hid (X.out.below hb (by omega)); have P := hid (P.out.below hb (by omega)); have R1 := hid (rd_below R1.out hb NR1.out); have R2 := hid (rd_below R2.out hb NR2.out); have Wb := hid (Wb.out.trans (hb.mono (by omega)))
  clear D O3 O4 hb c0 c1 c2 c3 lx C O1 O2 N13 N14 N23 N24
  have D := hid d_; have O3 := hid p3; have O4 := hid p4
  clear d_ p3 p4
  have zY : Y ≤ w12.heap.size := by have := D.out.lt; omega
  obtain ⟨⟨c0, c1, c2, c3⟩, _, lx⟩ := box_four D.out
  go_wp2_with fail
  refine (spoil_any Y (fun V => True) T2.id T2.hs q3 q4 T2.st.length T2.fo.length g3 g4 _ _ w12 (by omega) (by omega) zY O3.out O4.out (fun _ => trivial) (fun _ _ _ _ _ _ => trivial)).mono ?_
  rintro e w13 ⟨rfl, hb, -⟩
  have X := hid (X.out.below hb (by omega)); have P := hid (P.out.below hb (by omega)); have R1 := hid (rd_below R1.out hb NR1.out); have R2 := hid (rd_below R2.out hb NR2.out); have Wb := hid (Wb.out.trans (hb.mono (by omega)))
  clear D O3 O4 hb c0 c1 c2 c3 lx
  obtain ⟨⟨c0, c1, c2, c3⟩, _, lx⟩ := box_four P.out
  obtain ⟨⟨b0, b1, b2, b3⟩, _, ly⟩ := box_four X.out
  go_wp2_with fail
  refine (same_me a s1 s2 sa fa d1 d2 sc fc w13 (by omega) (by omega) R1.out R2.out (H1.out.below Wb.out) (H2.out.below Wb.out)).mono ?_
  rintro e w14 ⟨rfl, hb⟩
  have Wb := hid (Wb.out.trans (hb.mono Wb.out.size))
  clear hb
  go_wp2_with fail
  go_ret
  exact ⟨rfl, Wb.out⟩

end Go.Proofs.YthddoikmgpgakaaDoor
