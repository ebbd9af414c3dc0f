/- The walk of the law 'TallyTells'. -/
import Derived.Test.YthddoikmgpgakaaDoorProg
import Derived.Test.YthddoikmgpgakaaDoorBase
import Derived.Outline
import Derived.RangeFuncNested
import Derived.Shelf.Abstract
import Derived.Deep.QuietTactic
import Derived.BigQuiet
import Derived.Deep.RegionHeld3
import Derived.WalkSmall
import Derived.Laws.EntriesVeiled
import Derived.WalkMore
import Derived.Test.YthddoikmgpgakaaDoorEdits
import Derived.Test.YthddoikmgpgakaaDoorRefEdits
import Derived.Test.YthddoikmgpgakaaDoorIs
import Derived.Test.YthddoikmgpgakaaDoorFalse
import Derived.Test.YthddoikmgpgakaaDoorTwin
import Derived.Test.YthddoikmgpgakaaDoorLeaf2
namespace Go.Proofs.YthddoikmgpgakaaDoor
open Go.RowKit Go.Proofs Go.Shelf

theorem same_self' (N : Tl) (sa fa sa' fa' : Option Addr) (sc fc sc' fc' : Nat) (w : World) (hl : N.st.length ≤ 4000) (hl2 : N.fo.length ≤ 4000) (h1 : RdI w sa N.st) (h2 : RdI w fa N.fo) (h3 : RdI w sa' N.st) (h4 : RdI w fa' N.fo) :
    Calls Tryd.prog 24 #[.agg #[.int .i64 N.id, .int .i64 N.hs, .slice sa N.st.length sc, .slice fa N.fo.length fc], .agg #[.int .i64 N.id, .int .i64 N.hs, .slice sa' N.st.length sc', .slice fa' N.fo.length fc']] w fun e w' => e = .returned (.bool true) ∧ Below w.heap.size w w' := by
  have h := same_any N.id N.hs N.id N.hs N.st N.fo N.st N.fo sa fa sa' fa' sc fc sc' fc' w hl hl2 h1 h2 h3 h4
  have e : sameT N.id N.hs N.id N.hs N.st N.fo N.st N.fo = true := by simp [sameT]
  rw [e] at h
  exact h
theorem sameInts_self (a b : Option Addr) (c d : Nat) (xs : List Int) (w : World) (hl : xs.length ≤ 4000) (hx : RdI w a xs) (hy : RdI w b xs) :
    Calls Tryd.prog 39 #[.slice a xs.length c, .slice b xs.length d] w fun e w' => e = .returned (.bool true) ∧ Below w.heap.size w w' := by
  have h := sameInts7_any a b c d xs xs w hl hx hy
  simpa using h
theorem editsR_len (a : Tl) (hl : a.st.length ≤ 1000) (hl2 : a.fo.length ≤ 1000) : (editsR a).1.length ≤ 4000 := by
  unfold editsR
  split
  · have := edL_len a.st a.fo _ 0 0 (Nat.le_refl _) (Nat.zero_le _) (Nat.zero_le _)
    simp only; omega
  · simp
theorem below_al' {w w' : World} {o : Obj} (h : Below (w.alloc o).heap.size (w.alloc o) w') : Below w.heap.size w w' := ((Below.refl _ w).alloc (Nat.le_refl _) o).trans (h.mono (by simp))

theorem below_grown' {B : Nat} {w X Y : World} {row : Option Nat} (h : Below B w X) (hg : X.grownBy Y row) (hr : ∀ r, row = some r → B ≤ r) (hB : B ≤ w.heap.size) : Below B w Y :=
  ((Keep.of_below (Z := fun k => k < B) h (fun _ _ h => h)).grown hg (fun r e _ h => by have := hr r e; have : r < B := h; omega)).below (fun _ h => h) hB

theorem Below.drew' {w w' : World} (h : Below w.drew.heap.size w.drew w') : Below w.heap.size w w' := ⟨h.os, h.tape, h.output, h.size, h.block⟩

set_option maxRecDepth 20000 in
set_option maxHeartbeats 8000000 in
theorem tallyTells_any (a : Tl) (l : List Int) (sa fa la : Option Addr) (sc fc lc : Nat) (w : World) (ht : Tab w) (h1 : RdI w sa a.st) (h2 : RdI w fa a.fo) (h3 : RdI w la l) :
    Calls Tryd.prog 5 #[.agg #[.int .i64 a.id, .int .i64 a.hs, .slice sa a.st.length sc, .slice fa a.fo.length fc], .slice la l.length lc] w
      fun e w' => e = .returned (.bool true) ∧ Below w.heap.size w w' := by
  have H1 := hid h1; have H2 := hid h2; have H3 := hid h3; clear h1 h2 h3
  have HT := hid ht; clear ht
  have hm := mixedS
  obtain ⟨i0, hi, iz0, iz1, iz2⟩ := info_parts infoInt
  go_enter Tryd.func5, Tryd.ntmps5
  go_wp2_with fail
  refine (great_any _ _ _ _ _ _ _ _ _).mono ?_
  rintro e w1 ⟨rfl, hb1⟩
  have X1 := hid ((Box.new w #[.int .i64 a.id, .int .i64 a.hs, .slice sa a.st.length sc, .slice fa a.fo.length fc] 24).below hb1 (by simp))
  have W1 := hid (show Below w.heap.size w w1 from (by repeat (first | (with_reducible exact Below.refl _ _) | (with_reducible assumption) | (with_reducible refine Below.drew ?_) | (with_reducible refine below_drewN ?_ _) | (with_reducible refine Below.alloc ?_ (by first | omega | (simp; done) | (simp; omega)) _) | (with_reducible refine Below.setCell ?_ (by first | omega | (simp; done) | (simp; omega)) _) | (with_reducible refine Below.trans ?_ (Below.mono (by assumption) (by first | omega | (simp; done) | (simp; omega)))))))
  clear hb1
  by_cases g1 : (decide ((30 : Int) < (a.st.length : Int)) || decide ((30 : Int) < (a.fo.length : Int))) = true
  · go_wp2_with fail
    go_ret
    exact ⟨rfl, W1.out⟩
  have g1' : (decide ((30 : Int) < (a.st.length : Int)) || decide ((30 : Int) < (a.fo.length : Int))) = false := by simpa using g1
  have hl : a.st.length ≤ 1000 ∧ a.fo.length ≤ 1000 := by simp at g1; exact ⟨by omega, by omega⟩
  obtain ⟨hl1, hl2⟩ := hl
  clear g1
  by_cases g2 : (60 : Int) < (l.length : Int)
  · go_wp2_with fail
    go_ret
    exact ⟨rfl, W1.out⟩
  have hl3 : l.length ≤ 1000 := by omega
  obtain ⟨⟨c0, c1, c2, c3⟩, _, lx⟩ := box_quad X1.out
  go_wp2_with fail
  clear g1'
  refine (twin_any a.id a.hs a.st a.fo sa fa sc fc w1 (by omega) (by omega) (H1.out.below W1.out) (H2.out.below W1.out)).mono ?_
  rintro e w2 ⟨v, rfl, hb2, s1, d1, s2, d2, rfl, o1, o2, -⟩
  dsimp only at o1 o2 ⊢
  have X2 := hid (X1.out.below hb2 X1.out.lt)
  have W2 := hid (W1.out.trans (hb2.mono W1.out.size))
  have R1 := hid (RdI.of_own o1); have R2 := hid (RdI.of_own o2)
  clear o1 o2 X1 W1 hb2 c0 c1 c2 c3 lx
  go_wp2_with (at_builtin; refine wpList_append_any _ rfl _ _ _ rfl w2.heap.size 3 i0 _ 1 8 Tryd.underlying22 hi iz0 iz1 iz2 rfl (by decide) (.slice (some ⟨_, 0, none⟩) 0 0) 0 [] rfl (by repeat (first | (with_reducible assumption) | (with_reducible refine World.ownsRow.drew ?_) | ((with_reducible refine own_lit ?_ ?_ ?_ ?_ ?_) <;> first | rfl | omega | (simp; omega)) | (with_reducible refine World.ownsRow.alloc ?_ _) | (with_reducible refine own_other ?_ (by first | omega | (simp; done) | (simp; omega))) | (refine World.ownsRow.kept ?_ (by with_reducible assumption) (.inr (by first | (simp [Value.ownBlock]; done) | (simp [Value.ownBlock]; omega)))))) la l.length lc (l.map (Value.int .i64)) rfl (by simp) (RdI.none H3.out) (RdI.news ((H3.out.below W2.out).alloc _)) (ints_one _) (by omega) (by omega) (by first | omega | (simp; done) | (simp; omega)) ?_; intro a' c' w3 own1 gr1 pl1; apply stand)
  have R3 := hid (RdI.of_own own1)
  have Ko : Below w2.heap.size w2 w3 := below_grown' ((Below.refl _ _).alloc (Nat.le_refl _) _) gr1 (fun r e => by simp [Value.ownBlock] at e; omega) (Nat.le_refl _)
  have X := hid (X2.out.below Ko X2.out.lt)
  have Wb := hid (W2.out.trans (Ko.mono W2.out.size))
  have R1 := hid (R1.out.below Ko); have R2 := hid (R2.out.below Ko)
  clear own1 gr1 pl1 Ko X2 W2
  refine hid ?_
  go_wp2_with fail
  obtain ⟨pq, hpq⟩ : ∃ p, p = w3.heap.size := ⟨_, rfl⟩
  have al := (Below.refl w3.heap.size w3).alloc (Nat.le_refl _) (.cells #[.int .i64 a.id, .int .i64 a.hs, .slice s1 a.st.length d1, .slice s2 a.fo.length d2] 24)
  have P := hid (Box.at (w := w3) #[.int .i64 a.id, .int .i64 a.hs, .slice s1 a.st.length d1, .slice s2 a.fo.length d2] 24 hpq)
  have X := hid (X.out.alloc (.cells #[.int .i64 a.id, .int .i64 a.hs, .slice s1 a.st.length d1, .slice s2 a.fo.length d2] 24)); have R1 := hid (R1.out.below al); have R2 := hid (R2.out.below al); have R3 := hid (R3.out.below al); have Wb := hid (Wb.out.trans (al.mono Wb.out.size))
  rw [← hpq]
  clear al hpq
  generalize w3.alloc (.cells #[.int .i64 a.id, .int .i64 a.hs, .slice s1 a.st.length d1, .slice s2 a.fo.length d2] 24) = w4 at X P R1 R2 R3 Wb ⊢
  refine (false_any a s1 s2 d1 d2 w4 (HT.out.below Wb.out) hl1 hl2 R1.out R2.out).mono ?_
  rintro e w5 ⟨rfl, hb5⟩
  have X := hid (X.out.below hb5 X.out.lt); have P := hid (P.out.below hb5 P.out.lt); have R1 := hid (R1.out.below hb5); have R2 := hid (R2.out.below hb5); have R3 := hid (R3.out.below hb5); have Wb := hid (Wb.out.trans ((hb5).mono Wb.out.size))
  clear hb5
  obtain ⟨⟨c0, c1, c2, c3⟩, _, lx⟩ := box_quad X.out; obtain ⟨⟨b0, b1, b2, b3⟩, _, lp⟩ := box_quad P.out
  go_wp2_with fail
  refine (refFalse_any a sa fa sc fc w5 hl1 hl2 (H1.out.below Wb.out) (H2.out.below Wb.out)).mono ?_
  rintro e w6 ⟨rfl, hb6⟩
  clear c0 c1 c2 c3 lx b0 b1 b2 b3 lp
  have X := hid (X.out.below hb6 X.out.lt); have P := hid (P.out.below hb6 P.out.lt); have R1 := hid (R1.out.below hb6); have R2 := hid (R2.out.below hb6); have R3 := hid (R3.out.below hb6); have Wb := hid (Wb.out.trans ((hb6).mono Wb.out.size))
  clear hb6
  obtain ⟨⟨c0, c1, c2, c3⟩, _, lx⟩ := box_quad X.out; obtain ⟨⟨b0, b1, b2, b3⟩, _, lp⟩ := box_quad P.out
  go_wp2_with fail
  refine (edits_any a s1 s2 d1 d2 w6 (HT.out.below Wb.out) hl1 hl2 R1.out R2.out).mono ?_
  rintro e w7 ⟨ev, rfl, ⟨ea, ec, rfl, er⟩, hb7⟩
  have E1 := hid er
  clear c0 c1 c2 c3 lx b0 b1 b2 b3 lp
  have X := hid (X.out.below hb7 X.out.lt); have P := hid (P.out.below hb7 P.out.lt); have R1 := hid (R1.out.below hb7); have R2 := hid (R2.out.below hb7); have R3 := hid (R3.out.below hb7); have Wb := hid (Wb.out.trans ((hb7).mono Wb.out.size))
  clear hb7 er
  obtain ⟨⟨c0, c1, c2, c3⟩, _, lx⟩ := box_quad X.out; obtain ⟨⟨b0, b1, b2, b3⟩, _, lp⟩ := box_quad P.out
  go_wp2_with fail
  refine (refEdits_any a sa fa sc fc w7 hl1 hl2 (H1.out.below Wb.out) (H2.out.below Wb.out)).mono ?_
  rintro e w8 ⟨ev, rfl, ⟨ra, rc, rfl, er⟩, hb8⟩
  have E2 := hid er
  have E1 := hid (E1.out.below hb8)
  clear c0 c1 c2 c3 lx b0 b1 b2 b3 lp
  have X := hid (X.out.below hb8 X.out.lt); have P := hid (P.out.below hb8 P.out.lt); have R1 := hid (R1.out.below hb8); have R2 := hid (R2.out.below hb8); have R3 := hid (R3.out.below hb8); have Wb := hid (Wb.out.trans ((hb8).mono Wb.out.size))
  clear hb8 er
  obtain ⟨⟨c0, c1, c2, c3⟩, _, lx⟩ := box_quad X.out; obtain ⟨⟨b0, b1, b2, b3⟩, _, lp⟩ := box_quad P.out
  go_wp2_with fail
  refine (is_any a l s1 s2 a' d1 d2 c' w8 (HT.out.below Wb.out) hl1 hl2 hl3 R1.out R2.out R3.out).mono ?_
  rintro e w9 ⟨rfl, hb9⟩
  have E2 := hid (E2.out.below hb9); have E1 := hid (E1.out.below hb9)
  clear c0 c1 c2 c3 lx b0 b1 b2 b3 lp
  have X := hid (X.out.below hb9 X.out.lt); have P := hid (P.out.below hb9 P.out.lt); have R1 := hid (R1.out.below hb9); have R2 := hid (R2.out.below hb9); have R3 := hid (R3.out.below hb9); have Wb := hid (Wb.out.trans ((hb9).mono Wb.out.size))
  clear hb9
  obtain ⟨⟨c0, c1, c2, c3⟩, _, lx⟩ := box_quad X.out; obtain ⟨⟨b0, b1, b2, b3⟩, _, lp⟩ := box_quad P.out
  go_wp2_with fail
  refine (refIs_any a l sa fa la sc fc lc w9 hl1 hl2 hl3 (H1.out.below Wb.out) (H2.out.below Wb.out) (H3.out.below Wb.out)).mono ?_
  rintro e w10 ⟨rfl, hb10⟩
  have E2 := hid (E2.out.below hb10); have E1 := hid (E1.out.below hb10)
  clear c0 c1 c2 c3 lx b0 b1 b2 b3 lp
  have X := hid (X.out.below hb10 X.out.lt); have P := hid (P.out.below hb10 P.out.lt); have R1 := hid (R1.out.below hb10); have R2 := hid (R2.out.below hb10); have R3 := hid (R3.out.below hb10); have Wb := hid (Wb.out.trans ((hb10).mono Wb.out.size))
  clear hb10
  go_wp2_with fail
  have le := editsR_len a hl1 hl2
  obtain ⟨F1, hF1⟩ : ∃ F, (falseR a).1 = F := ⟨_, rfl⟩
  obtain ⟨F2, hF2⟩ : ∃ F, (falseR a).2 = F := ⟨_, rfl⟩
  obtain ⟨G1, hG1⟩ : ∃ F, (editsR a).1 = F := ⟨_, rfl⟩
  obtain ⟨G2, hG2⟩ : ∃ F, (editsR a).2 = F := ⟨_, rfl⟩
  obtain ⟨I1, hI1⟩ : ∃ F, (isR a l).1 = F := ⟨_, rfl⟩
  obtain ⟨I2, hI2⟩ : ∃ F, (isR a l).2 = F := ⟨_, rfl⟩
  rw [hF1, hF2, hG1, hG2, hI1, hI2]
  rw [hG1] at E1 E2 le
  clear hF1 hF2 hG1 hG2 hI1 hI2
  have T1 : ∀ n : Int, (n == n) = true := fun n => beq_self_eq_true n
  have T2 : ∀ b : Bool, (b == b) = true := fun n => beq_self_eq_true n
  refine wp_region_F [0, 2, 36, 37] (fun w' => (w'.cell? ⟨w.heap.size, 0, none⟩ = some (.int .i64 a.id) ∧ w'.cell? ⟨w.heap.size, 1, none⟩ = some (.int .i64 a.hs) ∧ w'.cell? ⟨w.heap.size, 2, none⟩ = some (.slice sa a.st.length sc) ∧ w'.cell? ⟨w.heap.size, 3, none⟩ = some (.slice fa a.fo.length fc)) ∧ (w'.cell? ⟨pq, 0, none⟩ = some (.int .i64 a.id) ∧ w'.cell? ⟨pq, 1, none⟩ = some (.int .i64 a.hs) ∧ w'.cell? ⟨pq, 2, none⟩ = some (.slice s1 a.st.length d1) ∧ w'.cell? ⟨pq, 3, none⟩ = some (.slice s2 a.fo.length d2))) hm ⟨(box_quad X.out).1, (box_quad P.out).1⟩ ?_
  intro hS0; have hS := hid hS0; clear hS0
  (apply wpAnyF_held (i := 0) rfl (by kernel_rfl) (fun _ _ _ h => h) hS.out; · first | exact .inr ⟨rfl, rfl⟩ | exact .inl ⟨rfl, fun w' hS' => by (obtain ⟨s1, s2⟩ := hS'; go_simp; rfl)⟩); simp only [Act.put, List.setIfInBounds_toArray, List.set_cons_succ, List.set_cons_zero, List.getElem_toArray, List.getElem_cons_succ, List.getElem_cons_zero]
  (apply wpAnyF_held (i := 2) rfl (by kernel_rfl) (fun _ _ _ h => h) hS.out; · first | exact .inr ⟨rfl, rfl⟩ | exact .inl ⟨rfl, fun w' hS' => by (obtain ⟨s1, s2⟩ := hS'; go_simp; rfl)⟩); simp only [Act.put, List.setIfInBounds_toArray, List.set_cons_succ, List.set_cons_zero, List.getElem_toArray, List.getElem_cons_succ, List.getElem_cons_zero]
  refine wpAnyF_one (i := 1) rfl ⟨by kernel_rfl, by kernel_rfl⟩ ?_
  intro K hK
  go_simp
  refine (check_any a.id a.hs a.st a.fo s1 s2 d1 d2 w10.drew (HT.out.below Wb.out.drew) (by omega) (by omega) R1.out.drew R2.out.drew).mono ?_
  rintro e w11 ⟨rfl, hb11⟩
  have X := hid (X.out.drew.below hb11 X.out.lt); have P := hid (P.out.drew.below hb11 P.out.lt); have R1 := hid (R1.out.drew.below hb11); have R2 := hid (R2.out.drew.below hb11); have R3 := hid (R3.out.drew.below hb11); have E1 := hid (E1.out.below (Below.drew' hb11)); have E2 := hid (E2.out.below (Below.drew' hb11)); have Wb := hid (Wb.out.drew.trans (hb11.mono Wb.out.size))
  clear hb11
  refine shutS hK ⟨(box_quad X.out).1, (box_quad P.out).1⟩ (fun hS => ?_)
  refine wpAnyF_one (i := 3) rfl ⟨by kernel_rfl, by kernel_rfl⟩ ?_
  intro K hK
  go_simp
  refine (refCheck_any a.id a.hs a.st a.fo sa fa sc fc w11 (by omega) (by omega) (H1.out.below Wb.out) (H2.out.below Wb.out)).mono ?_
  rintro e w12 ⟨rfl, hb12⟩
  have E2 := hid (E2.out.below hb12); have E1 := hid (E1.out.below hb12)
  have X := hid (X.out.below hb12 X.out.lt); have P := hid (P.out.below hb12 P.out.lt); have R1 := hid (R1.out.below hb12); have R2 := hid (R2.out.below hb12); have R3 := hid (R3.out.below hb12); have Wb := hid (Wb.out.trans ((hb12).mono Wb.out.size))
  clear hb12
  refine shutS hK ⟨(box_quad X.out).1, (box_quad P.out).1⟩ (fun hS => ?_)
  (apply wpAnyF_pure (i := 4) rfl (by kernel_rfl) (fun _ _ _ h => h); · first | exact .inr ⟨rfl, rfl⟩ | exact .inl ⟨rfl, fun w' => by go_simp; rfl⟩); simp only [Act.put, List.setIfInBounds_toArray, List.set_cons_succ, List.set_cons_zero, List.getElem_toArray, List.getElem_cons_succ, List.getElem_cons_zero]
  (apply wpAnyF_pure (i := 5) rfl (by kernel_rfl) (fun _ _ _ h => h); · first | exact .inr ⟨rfl, rfl⟩ | exact .inl ⟨rfl, fun w' => by go_simp; rfl⟩); simp only [Act.put, List.setIfInBounds_toArray, List.set_cons_succ, List.set_cons_zero, List.getElem_toArray, List.getElem_cons_succ, List.getElem_cons_zero]
  (apply wpAnyF_pure (i := 6) rfl (by kernel_rfl) (fun _ _ _ h => h); · first | exact .inr ⟨rfl, rfl⟩ | exact .inl ⟨rfl, fun w' => by go_simp; rfl⟩); simp only [Act.put, List.setIfInBounds_toArray, List.set_cons_succ, List.set_cons_zero, List.getElem_toArray, List.getElem_cons_succ, List.getElem_cons_zero]
  (apply wpAnyF_pure (i := 7) rfl (by kernel_rfl) (fun _ _ _ h => h); · first | exact .inr ⟨rfl, rfl⟩ | exact .inl ⟨rfl, fun w' => by go_simp; rfl⟩); simp only [Act.put, List.setIfInBounds_toArray, List.set_cons_succ, List.set_cons_zero, List.getElem_toArray, List.getElem_cons_succ, List.getElem_cons_zero]
  (apply wpAnyF_pure (i := 8) rfl (by kernel_rfl) (fun _ _ _ h => h); · first | exact .inr ⟨rfl, rfl⟩ | exact .inl ⟨rfl, fun w' => by go_simp; rfl⟩); simp only [Act.put, List.setIfInBounds_toArray, List.set_cons_succ, List.set_cons_zero, List.getElem_toArray, List.getElem_cons_succ, List.getElem_cons_zero]
  (apply wpAnyF_pure (i := 9) rfl (by kernel_rfl) (fun _ _ _ h => h); · first | exact .inr ⟨rfl, rfl⟩ | exact .inl ⟨rfl, fun w' => by go_simp; rfl⟩); simp only [Act.put, List.setIfInBounds_toArray, List.set_cons_succ, List.set_cons_zero, List.getElem_toArray, List.getElem_cons_succ, List.getElem_cons_zero]
  (apply wpAnyF_pure (i := 10) rfl (by kernel_rfl) (fun _ _ _ h => h); · first | exact .inr ⟨rfl, rfl⟩ | exact .inl ⟨rfl, fun w' => by go_simp; rfl⟩); simp only [Act.put, List.setIfInBounds_toArray, List.set_cons_succ, List.set_cons_zero, List.getElem_toArray, List.getElem_cons_succ, List.getElem_cons_zero]
  (apply wpAnyF_pure (i := 11) rfl (by kernel_rfl) (fun _ _ _ h => h); · first | exact .inr ⟨rfl, rfl⟩ | exact .inl ⟨rfl, fun w' => by go_simp; rfl⟩); simp only [Act.put, List.setIfInBounds_toArray, List.set_cons_succ, List.set_cons_zero, List.getElem_toArray, List.getElem_cons_succ, List.getElem_cons_zero]
  (apply wpAnyF_pure (i := 12) rfl (by kernel_rfl) (fun _ _ _ h => h); · first | exact .inr ⟨rfl, rfl⟩ | exact .inl ⟨rfl, fun w' => by go_simp; rfl⟩); simp only [Act.put, List.setIfInBounds_toArray, List.set_cons_succ, List.set_cons_zero, List.getElem_toArray, List.getElem_cons_succ, List.getElem_cons_zero]
  (apply wpAnyF_pure (i := 13) rfl (by kernel_rfl) (fun _ _ _ h => h); · first | exact .inr ⟨rfl, rfl⟩ | exact .inl ⟨rfl, fun w' => by go_simp; rfl⟩); simp only [Act.put, List.setIfInBounds_toArray, List.set_cons_succ, List.set_cons_zero, List.getElem_toArray, List.getElem_cons_succ, List.getElem_cons_zero]
  (apply wpAnyF_pure (i := 14) rfl (by kernel_rfl) (fun _ _ _ h => h); · first | exact .inr ⟨rfl, rfl⟩ | exact .inl ⟨rfl, fun w' => by go_simp; rfl⟩); simp only [Act.put, List.setIfInBounds_toArray, List.set_cons_succ, List.set_cons_zero, List.getElem_toArray, List.getElem_cons_succ, List.getElem_cons_zero]
  (apply wpAnyF_pure (i := 15) rfl (by kernel_rfl) (fun _ _ _ h => h); · first | exact .inr ⟨rfl, rfl⟩ | exact .inl ⟨rfl, fun w' => by go_simp; rfl⟩); simp only [Act.put, List.setIfInBounds_toArray, List.set_cons_succ, List.set_cons_zero, List.getElem_toArray, List.getElem_cons_succ, List.getElem_cons_zero]
  (apply wpAnyF_pure (i := 16) rfl (by kernel_rfl) (fun _ _ _ h => h); · first | exact .inr ⟨rfl, rfl⟩ | exact .inl ⟨rfl, fun w' => by go_simp; rfl⟩); simp only [Act.put, List.setIfInBounds_toArray, List.set_cons_succ, List.set_cons_zero, List.getElem_toArray, List.getElem_cons_succ, List.getElem_cons_zero]
  (apply wpAnyF_pure (i := 17) rfl (by kernel_rfl) (fun _ _ _ h => h); · first | exact .inr ⟨rfl, rfl⟩ | exact .inl ⟨rfl, fun w' => by go_simp; rfl⟩); simp only [Act.put, List.setIfInBounds_toArray, List.set_cons_succ, List.set_cons_zero, List.getElem_toArray, List.getElem_cons_succ, List.getElem_cons_zero]
  refine wpAnyF_one (i := 18) rfl ⟨by kernel_rfl, by kernel_rfl⟩ ?_
  intro K hK
  go_simp
  refine (sameEdits_me ea ra ec rc G1 w12 le E1.out E2.out).mono ?_
  rintro e w13 ⟨rfl, hb13⟩
  have X := hid (X.out.below hb13 X.out.lt); have P := hid (P.out.below hb13 P.out.lt); have R1 := hid (R1.out.below hb13); have R2 := hid (R2.out.below hb13); have R3 := hid (R3.out.below hb13); have Wb := hid (Wb.out.trans ((hb13).mono Wb.out.size))
  clear hb13
  refine shutS hK ⟨(box_quad X.out).1, (box_quad P.out).1⟩ (fun hS => ?_)
  (apply wpAnyF_pure (i := 19) rfl (by kernel_rfl) (fun _ _ _ h => h); · first | exact .inr ⟨rfl, rfl⟩ | exact .inl ⟨rfl, fun w' => by go_simp; rfl⟩); simp only [Act.put, List.setIfInBounds_toArray, List.set_cons_succ, List.set_cons_zero, List.getElem_toArray, List.getElem_cons_succ, List.getElem_cons_zero]
  (apply wpAnyF_pure (i := 20) rfl (by kernel_rfl) (fun _ _ _ h => h); · first | exact .inr ⟨rfl, rfl⟩ | exact .inl ⟨rfl, fun w' => by go_simp; rfl⟩); simp only [Act.put, List.setIfInBounds_toArray, List.set_cons_succ, List.set_cons_zero, List.getElem_toArray, List.getElem_cons_succ, List.getElem_cons_zero]
  (apply wpAnyF_pure (i := 21) rfl (by kernel_rfl) (fun _ _ _ h => h); · first | exact .inr ⟨rfl, rfl⟩ | exact .inl ⟨rfl, fun w' => by go_simp; rfl⟩); simp only [Act.put, List.setIfInBounds_toArray, List.set_cons_succ, List.set_cons_zero, List.getElem_toArray, List.getElem_cons_succ, List.getElem_cons_zero]
  (apply wpAnyF_pure (i := 22) rfl (by kernel_rfl) (fun _ _ _ h => h); · first | exact .inr ⟨rfl, rfl⟩ | exact .inl ⟨rfl, fun w' => by go_simp; rfl⟩); simp only [Act.put, List.setIfInBounds_toArray, List.set_cons_succ, List.set_cons_zero, List.getElem_toArray, List.getElem_cons_succ, List.getElem_cons_zero]
  (apply wpAnyF_pure (i := 23) rfl (by kernel_rfl) (fun _ _ _ h => h); · first | exact .inr ⟨rfl, rfl⟩ | exact .inl ⟨rfl, fun w' => by go_simp; rfl⟩); simp only [Act.put, List.setIfInBounds_toArray, List.set_cons_succ, List.set_cons_zero, List.getElem_toArray, List.getElem_cons_succ, List.getElem_cons_zero]
  (apply wpAnyF_pure (i := 24) rfl (by kernel_rfl) (fun _ _ _ h => h); · first | exact .inr ⟨rfl, rfl⟩ | exact .inl ⟨rfl, fun w' => by go_simp; rfl⟩); simp only [Act.put, List.setIfInBounds_toArray, List.set_cons_succ, List.set_cons_zero, List.getElem_toArray, List.getElem_cons_succ, List.getElem_cons_zero]
  (apply wpAnyF_pure (i := 25) rfl (by kernel_rfl) (fun _ _ _ h => h); · first | exact .inr ⟨rfl, rfl⟩ | exact .inl ⟨rfl, fun w' => by go_simp; rfl⟩); simp only [Act.put, List.setIfInBounds_toArray, List.set_cons_succ, List.set_cons_zero, List.getElem_toArray, List.getElem_cons_succ, List.getElem_cons_zero]
  (apply wpAnyF_pure (i := 26) rfl (by kernel_rfl) (fun _ _ _ h => h); · first | exact .inr ⟨rfl, rfl⟩ | exact .inl ⟨rfl, fun w' => by go_simp; rfl⟩); simp only [Act.put, List.setIfInBounds_toArray, List.set_cons_succ, List.set_cons_zero, List.getElem_toArray, List.getElem_cons_succ, List.getElem_cons_zero]
  (apply wpAnyF_pure (i := 27) rfl (by kernel_rfl) (fun _ _ _ h => h); · first | exact .inr ⟨rfl, rfl⟩ | exact .inl ⟨rfl, fun w' => by go_simp; rfl⟩); simp only [Act.put, List.setIfInBounds_toArray, List.set_cons_succ, List.set_cons_zero, List.getElem_toArray, List.getElem_cons_succ, List.getElem_cons_zero]
  (apply wpAnyF_pure (i := 28) rfl (by kernel_rfl) (fun _ _ _ h => h); · first | exact .inr ⟨rfl, rfl⟩ | exact .inl ⟨rfl, fun w' => by go_simp; rfl⟩); simp only [Act.put, List.setIfInBounds_toArray, List.set_cons_succ, List.set_cons_zero, List.getElem_toArray, List.getElem_cons_succ, List.getElem_cons_zero]
  (apply wpAnyF_pure (i := 29) rfl (by kernel_rfl) (fun _ _ _ h => h); · first | exact .inr ⟨rfl, rfl⟩ | exact .inl ⟨rfl, fun w' => by go_simp; rfl⟩); simp only [Act.put, List.setIfInBounds_toArray, List.set_cons_succ, List.set_cons_zero, List.getElem_toArray, List.getElem_cons_succ, List.getElem_cons_zero]
  (apply wpAnyF_pure (i := 30) rfl (by kernel_rfl) (fun _ _ _ h => h); · first | exact .inr ⟨rfl, rfl⟩ | exact .inl ⟨rfl, fun w' => by go_simp; rfl⟩); simp only [Act.put, List.setIfInBounds_toArray, List.set_cons_succ, List.set_cons_zero, List.getElem_toArray, List.getElem_cons_succ, List.getElem_cons_zero]
  (apply wpAnyF_pure (i := 31) rfl (by kernel_rfl) (fun _ _ _ h => h); · first | exact .inr ⟨rfl, rfl⟩ | exact .inl ⟨rfl, fun w' => by go_simp; rfl⟩); simp only [Act.put, List.setIfInBounds_toArray, List.set_cons_succ, List.set_cons_zero, List.getElem_toArray, List.getElem_cons_succ, List.getElem_cons_zero]
  (apply wpAnyF_pure (i := 32) rfl (by kernel_rfl) (fun _ _ _ h => h); · first | exact .inr ⟨rfl, rfl⟩ | exact .inl ⟨rfl, fun w' => by go_simp; rfl⟩); simp only [Act.put, List.setIfInBounds_toArray, List.set_cons_succ, List.set_cons_zero, List.getElem_toArray, List.getElem_cons_succ, List.getElem_cons_zero]
  (apply wpAnyF_pure (i := 33) rfl (by kernel_rfl) (fun _ _ _ h => h); · first | exact .inr ⟨rfl, rfl⟩ | exact .inl ⟨rfl, fun w' => by go_simp; rfl⟩); simp only [Act.put, List.setIfInBounds_toArray, List.set_cons_succ, List.set_cons_zero, List.getElem_toArray, List.getElem_cons_succ, List.getElem_cons_zero]
  (apply wpAnyF_pure (i := 34) rfl (by kernel_rfl) (fun _ _ _ h => h); · first | exact .inr ⟨rfl, rfl⟩ | exact .inl ⟨rfl, fun w' => by go_simp; rfl⟩); simp only [Act.put, List.setIfInBounds_toArray, List.set_cons_succ, List.set_cons_zero, List.getElem_toArray, List.getElem_cons_succ, List.getElem_cons_zero]
  (apply wpAnyF_pure (i := 35) rfl (by kernel_rfl) (fun _ _ _ h => h); · first | exact .inr ⟨rfl, rfl⟩ | exact .inl ⟨rfl, fun w' => by go_simp; rfl⟩); simp only [Act.put, List.setIfInBounds_toArray, List.set_cons_succ, List.set_cons_zero, List.getElem_toArray, List.getElem_cons_succ, List.getElem_cons_zero]
  (apply wpAnyF_held (i := 36) rfl (by kernel_rfl) (fun _ _ _ h => h) hS.out; · first | exact .inr ⟨rfl, rfl⟩ | exact .inl ⟨rfl, fun w' hS' => by (obtain ⟨s1, s2⟩ := hS'; go_simp; rfl)⟩); simp only [Act.put, List.setIfInBounds_toArray, List.set_cons_succ, List.set_cons_zero, List.getElem_toArray, List.getElem_cons_succ, List.getElem_cons_zero]
  (apply wpAnyF_held (i := 37) rfl (by kernel_rfl) (fun _ _ _ h => h) hS.out; · first | exact .inr ⟨rfl, rfl⟩ | exact .inl ⟨rfl, fun w' hS' => by (obtain ⟨s1, s2⟩ := hS'; go_simp; rfl)⟩); simp only [Act.put, List.setIfInBounds_toArray, List.set_cons_succ, List.set_cons_zero, List.getElem_toArray, List.getElem_cons_succ, List.getElem_cons_zero]
  refine wpAnyF_one (i := 38) rfl ⟨by kernel_rfl, by kernel_rfl⟩ ?_
  intro K hK
  go_simp
  refine (same_self' a s1 s2 sa fa d1 d2 sc fc w13 (by omega) (by omega) R1.out R2.out (H1.out.below Wb.out) (H2.out.below Wb.out)).mono ?_
  rintro e w14 ⟨rfl, hb14⟩
  have X := hid (X.out.below hb14 X.out.lt); have P := hid (P.out.below hb14 P.out.lt); have R1 := hid (R1.out.below hb14); have R2 := hid (R2.out.below hb14); have R3 := hid (R3.out.below hb14); have Wb := hid (Wb.out.trans ((hb14).mono Wb.out.size))
  clear hb14
  refine shutS hK ⟨(box_quad X.out).1, (box_quad P.out).1⟩ (fun hS => ?_)
  (apply wpAnyF_pure (i := 39) rfl (by kernel_rfl) (fun _ _ _ h => h); · first | exact .inr ⟨rfl, rfl⟩ | exact .inl ⟨rfl, fun w' => by go_simp; rfl⟩); simp only [Act.put, List.setIfInBounds_toArray, List.set_cons_succ, List.set_cons_zero, List.getElem_toArray, List.getElem_cons_succ, List.getElem_cons_zero]
  (apply wpAnyF_pure (i := 40) rfl (by kernel_rfl) (fun _ _ _ h => h); · first | exact .inr ⟨rfl, rfl⟩ | exact .inl ⟨rfl, fun w' => by go_simp; rfl⟩); simp only [Act.put, List.setIfInBounds_toArray, List.set_cons_succ, List.set_cons_zero, List.getElem_toArray, List.getElem_cons_succ, List.getElem_cons_zero]
  (apply wpAnyF_pure (i := 41) rfl (by kernel_rfl) (fun _ _ _ h => h); · first | exact .inr ⟨rfl, rfl⟩ | exact .inl ⟨rfl, fun w' => by go_simp; rfl⟩); simp only [Act.put, List.setIfInBounds_toArray, List.set_cons_succ, List.set_cons_zero, List.getElem_toArray, List.getElem_cons_succ, List.getElem_cons_zero]
  (apply wpAnyF_pure (i := 42) rfl (by kernel_rfl) (fun _ _ _ h => h); · first | exact .inr ⟨rfl, rfl⟩ | exact .inl ⟨rfl, fun w' => by go_simp; rfl⟩); simp only [Act.put, List.setIfInBounds_toArray, List.set_cons_succ, List.set_cons_zero, List.getElem_toArray, List.getElem_cons_succ, List.getElem_cons_zero]
  refine wpAnyF_one (i := 43) rfl ⟨by kernel_rfl, by kernel_rfl⟩ ?_
  intro K hK
  go_simp
  refine (sameInts_self a' la c' lc l w14 (by omega) R3.out (H3.out.below Wb.out)).mono ?_
  rintro e w15 ⟨rfl, hb15⟩
  have X := hid (X.out.below hb15 X.out.lt); have P := hid (P.out.below hb15 P.out.lt); have R1 := hid (R1.out.below hb15); have R2 := hid (R2.out.below hb15); have R3 := hid (R3.out.below hb15); have Wb := hid (Wb.out.trans ((hb15).mono Wb.out.size))
  clear hb15
  refine shutS hK ⟨(box_quad X.out).1, (box_quad P.out).1⟩ (fun hS => ?_)
  (apply wpAnyF_pure (i := 44) rfl (by kernel_rfl) (fun _ _ _ h => h); · first | exact .inr ⟨rfl, rfl⟩ | exact .inl ⟨rfl, fun w' => by go_simp; rfl⟩); simp only [Act.put, List.setIfInBounds_toArray, List.set_cons_succ, List.set_cons_zero, List.getElem_toArray, List.getElem_cons_succ, List.getElem_cons_zero]
  (apply wpAnyF_pure (i := 45) rfl (by kernel_rfl) (fun _ _ _ h => h); · first | exact .inr ⟨rfl, rfl⟩ | exact .inl ⟨rfl, fun w' => by go_simp; rfl⟩); simp only [Act.put, List.setIfInBounds_toArray, List.set_cons_succ, List.set_cons_zero, List.getElem_toArray, List.getElem_cons_succ, List.getElem_cons_zero]
  refine wpAnyF_done (by kernel_rfl) ?_ _
  go_wp2_with fail
  go_ret
  exact ⟨rfl, Wb.out⟩

end Go.Proofs.YthddoikmgpgakaaDoor
