/- 'TallyCuts', region 9: the two appends, in every order. -/
import Derived.Test.YthddoikmgpgakaaDoorProg
import Derived.Test.YthddoikmgpgakaaDoorBase
import Derived.Outline
import Derived.RangeFuncNested
import Derived.Shelf.Abstract
import Derived.Deep.QuietTactic
import Derived.BigQuiet
import Derived.Deep.RegionHeld3
import Derived.WalkSmall
import Derived.Laws.EntriesVeiled
import Derived.Test.YthddoikmgpgakaaDoorRefSplit5
import Derived.Test.YthddoikmgpgakaaDoorKeep
namespace Go.Proofs.YthddoikmgpgakaaDoor
open Go.RowKit Go.Proofs Go.Shelf

theorem apart_new {w : World} {B : Nat} {e : TypeId} {size : Nat} {v v' u : Value} {m : Nat} {ys : List Value} (hap : ApartV v u) (o2 : w.ownsRow B e size u m ys) {x : Nat} (hx : w.heap.size ≤ x) (pl : v'.ownBlock = v.ownBlock ∨ v'.ownBlock = some x) : ApartV v' u := fun g hg hu => by
  rcases pl with h | h
  · exact hap g (h ▸ hg) hu
  · have := (o2.lt g hu).2
    rw [h] at hg; cases hg; omega
theorem own_kept2 {w w' : World} {B : Nat} {e : TypeId} {size : Nat} {v u : Value} {m : Nat} {ys : List Value} (o2 : w.ownsRow B e size u m ys) (gr : w.grownBy w' v.ownBlock) (hap : ApartV v u) : w'.ownsRow B e size u m ys := by
  refine o2.kept gr ?_
  cases h : u.ownBlock with
  | none => exact .inl rfl
  | some g => exact .inr (fun e => hap g e.symm h)
theorem rd_one {w : World} {n : Nat} {x : Int} {t : TypeId} (hn : n = w.heap.size) : RdI (w.alloc (.cells #[.int .i64 x] t)) (some ⟨n, 0, none⟩) [x] := fun i hi => by
  have h0 : i = 0 := by simp at hi; omega
  subst h0
  exact ⟨n, 0, rfl, (Box.at (w := w) #[.int .i64 x] t hn).cell 0⟩
theorem apart_symm {v u : Value} (h : ApartV v u) : ApartV u v := fun g hg hu => h g hu hg
theorem RdI.grown {w w' : World} {row : Option Nat} {a : Option Addr} {xs : List Int} (h : RdI w a xs) (hg : w.grownBy w' row) (hne : xs ≠ [] → ∀ p, a = some p → row ≠ some p.block) : RdI w' a xs := fun i hi => by
  obtain ⟨b, o, ha, hc⟩ := h i hi
  have hb : w'.heap[b]? = w.heap[b]? := hg.block b (cell_lt hc) (fun e => hne (List.ne_nil_of_length_pos (Nat.lt_of_le_of_lt (Nat.zero_le _) hi)) _ ha e.symm)
  exact ⟨b, o, ha, (World.cell?_of_block (a := ⟨b, o + i, Option.none⟩) hb).trans hc⟩
theorem grownBy_set (w : World) (b j : Nat) (v : Value) : w.grownBy (w.setCell ⟨b, j, none⟩ v) (some b) := ⟨rfl, rfl, rfl, by rw [World.size_setCell]; exact Nat.le_refl _, fun k _ hk => Below.heap_setCell w _ v k (fun e => hk (by rw [e]))⟩
theorem RdI.set {w : World} {a : Option Addr} {xs : List Int} (h : RdI w a xs) {b j : Nat} (hne : xs ≠ [] → ∀ p, a = some p → p.block ≠ b) (v : Value) : RdI (w.setCell ⟨b, j, Option.none⟩ v) a xs :=
  h.grown (grownBy_set w b j v) (fun hx p hp e => hne hx p hp (by cases e; rfl))
theorem RdI.lt {w : World} {a : Option Addr} {xs : List Int} (h : RdI w a xs) : xs ≠ [] → ∀ p, a = some p → p.block < w.heap.size := fun hx p hp => row_lt h hx hp

/-- The blocks that are none of these. -/
def Zof (b : Nat) (v u : Value) (k : Nat) : Prop := k ≠ b ∧ v.ownBlock ≠ some k ∧ u.ownBlock ≠ some k

noncomputable def reg9 : Code := match Tryd.f4.body with | some (.seq _ (.seq _ (.seq _ (.seq _ (.seq _ (.seq _ (.seq _ (.seq _ (.seq r _))))))))) => r | _ => .skip

/-- What lies behind it. -/
def Nine (w1 : World) (f0 : Nat → Value) (pc Y : Nat) (T1 : Tl) (v1 v2 : Value) (a' : Act) (W : World) : Prop := ∃ f : Nat → Value, a' = ⟨((List.range 100).map f).toArray, []⟩ ∧ ∃ a1 k1' a2 k2' xs1 xs2, f 3 = f0 3 ∧ f 7 = f0 7 ∧ f 12 = .pointer (some ⟨pc, 0, none⟩) ∧ f 13 = f0 13 ∧ f 16 = f0 16 ∧ f 18 = f0 18 ∧ Box W pc #[.int .i64 T1.id, .int .i64 T1.hs, .slice a1 (T1.st.length + 1) k1', .slice a2 (T1.fo.length + 1) k2'] 24 ∧ Keep (Zof pc v1 v2) w1 W ∧ W.ownsRow Y 3 1 (.slice a1 (T1.st.length + 1) k1') (T1.st.length + 1) xs1 ∧ W.ownsRow Y 3 1 (.slice a2 (T1.fo.length + 1) k2') (T1.fo.length + 1) xs2 ∧ ((Value.slice a1 (T1.st.length + 1) k1').ownBlock = v1.ownBlock ∨ ∃ x, w1.heap.size ≤ x ∧ (Value.slice a1 (T1.st.length + 1) k1').ownBlock = some x) ∧ ((Value.slice a2 (T1.fo.length + 1) k2').ownBlock = v2.ownBlock ∨ ∃ x, w1.heap.size ≤ x ∧ (Value.slice a2 (T1.fo.length + 1) k2').ownBlock = some x) ∧ ApartV (.slice a1 (T1.st.length + 1) k1') (.slice a2 (T1.fo.length + 1) k2')

set_option maxRecDepth 20000 in
set_option maxHeartbeats 8000000 in
theorem reg9_any (T1 : Tl) (q1 q2 : Option Addr) (g1 g2 pc Y : Nat) (w1 : World) (f : Nat → Value) (l1 : T1.st.length ≤ 1000) (l2 : T1.fo.length ≤ 1000) (hY : Y ≤ w1.heap.size) (f12 : f 12 = .pointer (some ⟨pc, 0, none⟩))
    (C : Hid (Box w1 pc #[.int .i64 T1.id, .int .i64 T1.hs, .slice q1 T1.st.length g1, .slice q2 T1.fo.length g2] 24))
    (O1 : Hid (w1.ownsRow Y 3 1 (.slice q1 T1.st.length g1) T1.st.length (T1.st.map (Value.int .i64)))) (O2 : Hid (w1.ownsRow Y 3 1 (.slice q2 T1.fo.length g2) T1.fo.length (T1.fo.map (Value.int .i64)))) (A12 : Hid (ApartV (.slice q1 T1.st.length g1) (.slice q2 T1.fo.length g2))) :
    reg9.wp Tryd.prog (NormP (Nine w1 f pc Y T1 (.slice q1 T1.st.length g1) (.slice q2 T1.fo.length g2))) ⟨((List.range 100).map f).toArray, []⟩ w1 := by
  have hm := mixed
  obtain ⟨i0, hi, iz0, iz1, iz2⟩ := info_parts infoInt
  have G1 := hid (fun g hg => (O1.out.lt g hg).2 : ∀ g, (Value.slice q1 T1.st.length g1).ownBlock = some g → g < w1.heap.size)
  have G2 := hid (fun g hg => (O2.out.lt g hg).2 : ∀ g, (Value.slice q2 T1.fo.length g2).ownBlock = some g → g < w1.heap.size)
  rw [show (List.range 100).map f = [f 0, f 1, f 2, f 3, f 4, f 5, f 6, f 7, f 8, f 9, f 10, f 11, f 12, f 13, f 14, f 15, f 16, f 17, f 18, f 19, f 20, f 21, f 22, f 23, f 24, f 25, f 26, f 27, f 28, f 29, f 30, f 31, f 32, f 33, f 34, f 35, f 36, f 37, f 38, f 39, f 40, f 41, f 42, f 43, f 44, f 45, f 46, f 47, f 48, f 49, f 50, f 51, f 52, f 53, f 54, f 55, f 56, f 57, f 58, f 59, f 60, f 61, f 62, f 63, f 64, f 65, f 66, f 67, f 68, f 69, f 70, f 71, f 72, f 73, f 74, f 75, f 76, f 77, f 78, f 79, f 80, f 81, f 82, f 83, f 84, f 85, f 86, f 87, f 88, f 89, f 90, f 91, f 92, f 93, f 94, f 95, f 96, f 97, f 98, f 99] from rfl, f12]
  clear f12
  show (match Tryd.f4.body with | some (.seq _ (.seq _ (.seq _ (.seq _ (.seq _ (.seq _ (.seq _ (.seq _ (.seq r _))))))))) => r | _ => .skip : Code).wp _ _ _ _
  dsimp only [Tryd.f4]
  refine wp_region_F [1, 5] (fun w' => w'.cell? ⟨pc, 2, none⟩ = some (.slice q1 T1.st.length g1) ∧ w'.cell? ⟨pc, 3, none⟩ = some (.slice q2 T1.fo.length g2)) hm ⟨C.out.cell 2, C.out.cell 3⟩ ?_
  intro _
  refine any_world (fun W => Box W pc #[.int .i64 T1.id, .int .i64 T1.hs, .slice q1 T1.st.length g1, .slice q2 T1.fo.length g2] 24 ∧ Keep (Zof pc (.slice q1 T1.st.length g1) (.slice q2 T1.fo.length g2)) w1 W ∧ W.ownsRow Y 3 1 (.slice q1 T1.st.length g1) T1.st.length (T1.st.map (Value.int .i64)) ∧ W.ownsRow Y 3 1 (.slice q2 T1.fo.length g2) T1.fo.length (T1.fo.map (Value.int .i64))) ⟨C.out.drew, (Keep.refl _ _).drew, O1.out, O2.out⟩ ?_
  clear C O1 O2
  rintro wc ⟨c_, kp_, o1_, o2_⟩
  have C := hid c_; have Kp := hid kp_; have O1 := hid o1_; have O2 := hid o2_
  have hS := hid (show _ ∧ _ from ⟨C.out.cell 2, C.out.cell 3⟩ : wc.cell? ⟨pc, 2, none⟩ = some (.slice q1 T1.st.length g1) ∧ wc.cell? ⟨pc, 3, none⟩ = some (.slice q2 T1.fo.length g2))
  have lY := Kp.out.size
  clear c_ kp_ o1_ o2_
  (apply wpAnyF_pure (i := 0) rfl (by kernel_rfl) (fun _ _ _ h => h); · first | exact .inr ⟨rfl, rfl⟩ | exact .inl ⟨rfl, fun w' => by go_simp; rfl⟩); simp only [Act.put, List.setIfInBounds_toArray, List.set_cons_succ, List.set_cons_zero, List.getElem_toArray, List.getElem_cons_succ, List.getElem_cons_zero]
  (apply wpAnyF_held (i := 1) rfl (by kernel_rfl) (fun _ _ _ h => h) hS.out; · first | exact .inr ⟨rfl, rfl⟩ | exact .inl ⟨rfl, fun w' hS' => by (obtain ⟨s1, s2⟩ := hS'; go_simp; rfl)⟩); simp only [Act.put, List.setIfInBounds_toArray, List.set_cons_succ, List.set_cons_zero, List.getElem_toArray, List.getElem_cons_succ, List.getElem_cons_zero]
  (apply wpAnyF_pure (i := 4) rfl (by kernel_rfl) (fun _ _ _ h => h); · first | exact .inr ⟨rfl, rfl⟩ | exact .inl ⟨rfl, fun w' => by go_simp; rfl⟩); simp only [Act.put, List.setIfInBounds_toArray, List.set_cons_succ, List.set_cons_zero, List.getElem_toArray, List.getElem_cons_succ, List.getElem_cons_zero]
  (apply wpAnyF_held (i := 5) rfl (by kernel_rfl) (fun _ _ _ h => h) hS.out; · first | exact .inr ⟨rfl, rfl⟩ | exact .inl ⟨rfl, fun w' hS' => by (obtain ⟨s1, s2⟩ := hS'; go_simp; rfl)⟩); simp only [Act.put, List.setIfInBounds_toArray, List.set_cons_succ, List.set_cons_zero, List.getElem_toArray, List.getElem_cons_succ, List.getElem_cons_zero]
  refine wpAnyF_two (i := 2) (j := 6) rfl rfl ⟨by kernel_rfl, by kernel_rfl, by kernel_rfl⟩ ?_ ?_
  ·
    intro K hK
    go_simp
    refine shutS hK ⟨(C.out.alloc _).cell 2, (C.out.alloc _).cell 3⟩ (fun hS => ?_)
    obtain ⟨PB2, hPB2⟩ : ∃ P, P = wc.heap.size := ⟨_, rfl⟩
    have nPB2 : w1.heap.size ≤ PB2 := by omega
    rw [← hPB2]
    refine any_world (fun W => Box W pc #[.int .i64 T1.id, .int .i64 T1.hs, .slice q1 T1.st.length g1, .slice q2 T1.fo.length g2] 24 ∧ Keep (Zof pc (.slice q1 T1.st.length g1) (.slice q2 T1.fo.length g2)) w1 W ∧ W.ownsRow Y 3 1 (.slice q1 T1.st.length g1) T1.st.length (T1.st.map (Value.int .i64)) ∧ W.ownsRow Y 3 1 (.slice q2 T1.fo.length g2) T1.fo.length (T1.fo.map (Value.int .i64)) ∧ RdI W (some ⟨PB2, 0, none⟩) [-7]) ⟨C.out.alloc _, Kp.out.alloc _, O1.out.alloc _, O2.out.alloc _, rd_one hPB2⟩ ?_
    clear hS C Kp O1 O2 hPB2
    rintro wc ⟨c_, kp_, o1_, o2_, b2_⟩
    have C := hid c_; have Kp := hid kp_; have O1 := hid o1_; have O2 := hid o2_; have B2 := hid b2_
    have hS := hid (show _ ∧ _ from ⟨C.out.cell 2, C.out.cell 3⟩ : wc.cell? ⟨pc, 2, none⟩ = some (.slice q1 T1.st.length g1) ∧ wc.cell? ⟨pc, 3, none⟩ = some (.slice q2 T1.fo.length g2))
    have lY := Kp.out.size
    clear c_ kp_ o1_ o2_ b2_
    refine wpAnyF_two (i := 3) (j := 6) rfl rfl ⟨by kernel_rfl, by kernel_rfl, by kernel_rfl⟩ ?_ ?_
    ·
      intro K hK
      refine step_append_any _ rfl _ _ _ rfl Y 3 i0 _ 1 8 Tryd.underlying22 hi iz0 iz1 iz2 rfl (by decide) (.slice q1 T1.st.length g1) (T1.st.length) _ rfl O1.out (some ⟨PB2, 0, none⟩) 1 1 ([-7].map (Value.int .i64)) rfl (by simp) (fun h => by cases h) (RdI.news B2.out) (ints_one _) (by omega) (by omega) (by omega) ?_
      intro a1 k1' wn own1 gr1 pl1
      refine shutS hK ⟨(C.out.grown gr1 (own_ne O1.out C.out)).cell 2, (C.out.grown gr1 (own_ne O1.out C.out)).cell 3⟩ (fun hS => ?_)
      obtain ⟨xs1, hxs1⟩ : ∃ xs, xs = T1.st.map (Value.int .i64) ++ [-7].map (Value.int .i64) := ⟨_, rfl⟩
      rw [← hxs1] at own1
      clear hxs1
      have N12 := hid (apart_new A12.out O2.out (Nat.le_refl _) pl1)
      have L1 : (Value.slice a1 (T1.st.length + 1) k1').ownBlock = (Value.slice q1 T1.st.length g1).ownBlock ∨ ∃ x, w1.heap.size ≤ x ∧ (Value.slice a1 (T1.st.length + 1) k1').ownBlock = some x := pl1.imp id (fun h => ⟨_, lY, h⟩)
      have L1 := hid L1
      clear pl1
      refine any_world (fun W => Box W pc #[.int .i64 T1.id, .int .i64 T1.hs, .slice q1 T1.st.length g1, .slice q2 T1.fo.length g2] 24 ∧ Keep (Zof pc (.slice q1 T1.st.length g1) (.slice q2 T1.fo.length g2)) w1 W ∧ W.ownsRow Y 3 1 (.slice a1 (T1.st.length + 1) k1') (T1.st.length + 1) xs1 ∧ W.ownsRow Y 3 1 (.slice q2 T1.fo.length g2) T1.fo.length (T1.fo.map (Value.int .i64)) ∧ RdI W (some ⟨PB2, 0, none⟩) [-7]) ⟨C.out.grown gr1 (own_ne O1.out C.out), Kp.out.grown gr1 (fun r hr _ => fun z => z.2.1 hr), own1, own_kept2 O2.out gr1 A12.out, B2.out.grown gr1 (fun _ p hp e => by cases hp; have h2 := G1.out _ e; dsimp only at h2; omega)⟩ ?_
      clear hS C Kp O1 O2 gr1 own1 B2
      rintro wc ⟨c_, kp_, o1_, o2_, b2_⟩
      have C := hid c_; have Kp := hid kp_; have O1 := hid o1_; have O2 := hid o2_; have B2 := hid b2_
      have hS := hid (show _ ∧ _ from ⟨C.out.cell 2, C.out.cell 3⟩ : wc.cell? ⟨pc, 2, none⟩ = some (.slice q1 T1.st.length g1) ∧ wc.cell? ⟨pc, 3, none⟩ = some (.slice q2 T1.fo.length g2))
      have lY := Kp.out.size
      clear c_ kp_ o1_ o2_ b2_
      clear A12
      have A12 := N12
      clear N12
      (apply wpAnyF_pure (i := 8) rfl (by kernel_rfl) (fun _ _ _ h => h); · first | exact .inr ⟨rfl, rfl⟩ | exact .inl ⟨rfl, fun w' => by go_simp; rfl⟩); simp only [Act.put, List.setIfInBounds_toArray, List.set_cons_succ, List.set_cons_zero, List.getElem_toArray, List.getElem_cons_succ, List.getElem_cons_zero]
      refine wpAnyF_one (i := 6) rfl ⟨by kernel_rfl, by kernel_rfl⟩ ?_
      intro K hK
      go_simp
      refine shutS hK ⟨(C.out.alloc _).cell 2, (C.out.alloc _).cell 3⟩ (fun hS => ?_)
      obtain ⟨PB6, hPB6⟩ : ∃ P, P = wc.heap.size := ⟨_, rfl⟩
      have nPB6 : w1.heap.size ≤ PB6 := by omega
      rw [← hPB6]
      refine any_world (fun W => Box W pc #[.int .i64 T1.id, .int .i64 T1.hs, .slice q1 T1.st.length g1, .slice q2 T1.fo.length g2] 24 ∧ Keep (Zof pc (.slice q1 T1.st.length g1) (.slice q2 T1.fo.length g2)) w1 W ∧ W.ownsRow Y 3 1 (.slice a1 (T1.st.length + 1) k1') (T1.st.length + 1) xs1 ∧ W.ownsRow Y 3 1 (.slice q2 T1.fo.length g2) T1.fo.length (T1.fo.map (Value.int .i64)) ∧ RdI W (some ⟨PB2, 0, none⟩) [-7] ∧ RdI W (some ⟨PB6, 0, none⟩) [-7]) ⟨C.out.alloc _, Kp.out.alloc _, O1.out.alloc _, O2.out.alloc _, B2.out.alloc _, rd_one hPB6⟩ ?_
      clear hS C Kp O1 O2 hPB6 B2
      rintro wc ⟨c_, kp_, o1_, o2_, b2_, b6_⟩
      have C := hid c_; have Kp := hid kp_; have O1 := hid o1_; have O2 := hid o2_; have B2 := hid b2_; have B6 := hid b6_
      have hS := hid (show _ ∧ _ from ⟨C.out.cell 2, C.out.cell 3⟩ : wc.cell? ⟨pc, 2, none⟩ = some (.slice q1 T1.st.length g1) ∧ wc.cell? ⟨pc, 3, none⟩ = some (.slice q2 T1.fo.length g2))
      have lY := Kp.out.size
      clear c_ kp_ o1_ o2_ b2_ b6_
      refine wpAnyF_one (i := 7) rfl ⟨by kernel_rfl, by kernel_rfl⟩ ?_
      intro K hK
      refine step_append_any _ rfl _ _ _ rfl Y 3 i0 _ 1 8 Tryd.underlying22 hi iz0 iz1 iz2 rfl (by decide) (.slice q2 T1.fo.length g2) (T1.fo.length) _ rfl O2.out (some ⟨PB6, 0, none⟩) 1 1 ([-7].map (Value.int .i64)) rfl (by simp) (fun h => by cases h) (RdI.news B6.out) (ints_one _) (by omega) (by omega) (by omega) ?_
      intro a2 k2' wn own7 gr7 pl7
      refine shutN hK (by kernel_rfl) ?_
      obtain ⟨xs2, hxs2⟩ : ∃ xs, xs = T1.fo.map (Value.int .i64) ++ [-7].map (Value.int .i64) := ⟨_, rfl⟩
      rw [← hxs2] at own7
      clear hxs2
      have N12 := hid (apart_symm (apart_new (apart_symm A12.out) O1.out (Nat.le_refl _) pl7))
      have L2 : (Value.slice a2 (T1.fo.length + 1) k2').ownBlock = (Value.slice q2 T1.fo.length g2).ownBlock ∨ ∃ x, w1.heap.size ≤ x ∧ (Value.slice a2 (T1.fo.length + 1) k2').ownBlock = some x := pl7.imp id (fun h => ⟨_, lY, h⟩)
      have L2 := hid L2
      clear pl7
      refine any_world (fun W => Box W pc #[.int .i64 T1.id, .int .i64 T1.hs, .slice q1 T1.st.length g1, .slice q2 T1.fo.length g2] 24 ∧ Keep (Zof pc (.slice q1 T1.st.length g1) (.slice q2 T1.fo.length g2)) w1 W ∧ W.ownsRow Y 3 1 (.slice a1 (T1.st.length + 1) k1') (T1.st.length + 1) xs1 ∧ W.ownsRow Y 3 1 (.slice a2 (T1.fo.length + 1) k2') (T1.fo.length + 1) xs2 ∧ RdI W (some ⟨PB2, 0, none⟩) [-7] ∧ RdI W (some ⟨PB6, 0, none⟩) [-7]) ⟨C.out.grown gr7 (own_ne O2.out C.out), Kp.out.grown gr7 (fun r hr _ => fun z => z.2.2 hr), own_kept2 O1.out gr7 (apart_symm A12.out), own7, B2.out.grown gr7 (fun _ p hp e => by cases hp; have h2 := G2.out _ e; dsimp only at h2; omega), B6.out.grown gr7 (fun _ p hp e => by cases hp; have h2 := G2.out _ e; dsimp only at h2; omega)⟩ ?_
      clear hS C Kp O1 O2 gr7 own7 B2 B6
      rintro wc ⟨c_, kp_, o1_, o2_, b2_, b6_⟩
      have C := hid c_; have Kp := hid kp_; have O1 := hid o1_; have O2 := hid o2_; have B2 := hid b2_; have B6 := hid b6_
      have hS := hid (show _ ∧ _ from ⟨C.out.cell 2, C.out.cell 3⟩ : wc.cell? ⟨pc, 2, none⟩ = some (.slice q1 T1.st.length g1) ∧ wc.cell? ⟨pc, 3, none⟩ = some (.slice q2 T1.fo.length g2))
      have lY := Kp.out.size
      clear c_ kp_ o1_ o2_ b2_ b6_
      clear A12
      have A12 := N12
      clear N12
      obtain ⟨⟨c0, c1, c2, c3⟩, ⟨k0, k1, k2, k3⟩, lx⟩ := box_four C.out
      refine wpAnyF_one (i := 9) rfl ⟨by kernel_rfl, by kernel_rfl⟩ ?_
      intro K hK
      go_simp
      refine shutN hK (by kernel_rfl) ?_
      (apply wpAnyF_pure (i := 10) rfl (by kernel_rfl) (fun _ _ _ h => h); · first | exact .inr ⟨rfl, rfl⟩ | exact .inl ⟨rfl, fun w' => by go_simp; rfl⟩); simp only [Act.put, List.setIfInBounds_toArray, List.set_cons_succ, List.set_cons_zero, List.getElem_toArray, List.getElem_cons_succ, List.getElem_cons_zero]
      refine wpAnyF_one (i := 11) rfl ⟨by kernel_rfl, by kernel_rfl⟩ ?_
      intro K hK
      go_simp
      refine shutN hK (by kernel_rfl) ?_
      refine wpAnyF_done (by kernel_rfl) ?_ _
      unfold NormP Nine; refine acts_of rfl ?_
      exact ⟨a1, k1', a2, k2', xs1, xs2, rfl, rfl, rfl, rfl, rfl, rfl, (C.out.set 2 _).set 3 _, (Kp.out.setCell ⟨pc, 2, none⟩ _ (fun _ z => z.1 rfl)).setCell ⟨pc, 3, none⟩ _ (fun _ z => z.1 rfl), own_keep1 (own_keep1 O1.out (own_ne O1.out C.out)) (own_ne O1.out C.out), own_keep1 (own_keep1 O2.out (own_ne O2.out C.out)) (own_ne O2.out C.out), L1.out, L2.out, A12.out⟩
    ·
      intro K hK
      go_simp
      refine shutS hK ⟨(C.out.alloc _).cell 2, (C.out.alloc _).cell 3⟩ (fun hS => ?_)
      obtain ⟨PB6, hPB6⟩ : ∃ P, P = wc.heap.size := ⟨_, rfl⟩
      have nPB6 : w1.heap.size ≤ PB6 := by omega
      rw [← hPB6]
      refine any_world (fun W => Box W pc #[.int .i64 T1.id, .int .i64 T1.hs, .slice q1 T1.st.length g1, .slice q2 T1.fo.length g2] 24 ∧ Keep (Zof pc (.slice q1 T1.st.length g1) (.slice q2 T1.fo.length g2)) w1 W ∧ W.ownsRow Y 3 1 (.slice q1 T1.st.length g1) T1.st.length (T1.st.map (Value.int .i64)) ∧ W.ownsRow Y 3 1 (.slice q2 T1.fo.length g2) T1.fo.length (T1.fo.map (Value.int .i64)) ∧ RdI W (some ⟨PB2, 0, none⟩) [-7] ∧ RdI W (some ⟨PB6, 0, none⟩) [-7]) ⟨C.out.alloc _, Kp.out.alloc _, O1.out.alloc _, O2.out.alloc _, B2.out.alloc _, rd_one hPB6⟩ ?_
      clear hS C Kp O1 O2 hPB6 B2
      rintro wc ⟨c_, kp_, o1_, o2_, b2_, b6_⟩
      have C := hid c_; have Kp := hid kp_; have O1 := hid o1_; have O2 := hid o2_; have B2 := hid b2_; have B6 := hid b6_
      have hS := hid (show _ ∧ _ from ⟨C.out.cell 2, C.out.cell 3⟩ : wc.cell? ⟨pc, 2, none⟩ = some (.slice q1 T1.st.length g1) ∧ wc.cell? ⟨pc, 3, none⟩ = some (.slice q2 T1.fo.length g2))
      have lY := Kp.out.size
      clear c_ kp_ o1_ o2_ b2_ b6_
      refine wpAnyF_one (i := 3) rfl ⟨by kernel_rfl, by kernel_rfl⟩ ?_
      intro K hK
      refine step_append_any _ rfl _ _ _ rfl Y 3 i0 _ 1 8 Tryd.underlying22 hi iz0 iz1 iz2 rfl (by decide) (.slice q1 T1.st.length g1) (T1.st.length) _ rfl O1.out (some ⟨PB2, 0, none⟩) 1 1 ([-7].map (Value.int .i64)) rfl (by simp) (fun h => by cases h) (RdI.news B2.out) (ints_one _) (by omega) (by omega) (by omega) ?_
      intro a1 k1' wn own1 gr1 pl1
      refine shutS hK ⟨(C.out.grown gr1 (own_ne O1.out C.out)).cell 2, (C.out.grown gr1 (own_ne O1.out C.out)).cell 3⟩ (fun hS => ?_)
      obtain ⟨xs1, hxs1⟩ : ∃ xs, xs = T1.st.map (Value.int .i64) ++ [-7].map (Value.int .i64) := ⟨_, rfl⟩
      rw [← hxs1] at own1
      clear hxs1
      have N12 := hid (apart_new A12.out O2.out (Nat.le_refl _) pl1)
      have L1 : (Value.slice a1 (T1.st.length + 1) k1').ownBlock = (Value.slice q1 T1.st.length g1).ownBlock ∨ ∃ x, w1.heap.size ≤ x ∧ (Value.slice a1 (T1.st.length + 1) k1').ownBlock = some x := pl1.imp id (fun h => ⟨_, lY, h⟩)
      have L1 := hid L1
      clear pl1
      refine any_world (fun W => Box W pc #[.int .i64 T1.id, .int .i64 T1.hs, .slice q1 T1.st.length g1, .slice q2 T1.fo.length g2] 24 ∧ Keep (Zof pc (.slice q1 T1.st.length g1) (.slice q2 T1.fo.length g2)) w1 W ∧ W.ownsRow Y 3 1 (.slice a1 (T1.st.length + 1) k1') (T1.st.length + 1) xs1 ∧ W.ownsRow Y 3 1 (.slice q2 T1.fo.length g2) T1.fo.length (T1.fo.map (Value.int .i64)) ∧ RdI W (some ⟨PB2, 0, none⟩) [-7] ∧ RdI W (some ⟨PB6, 0, none⟩) [-7]) ⟨C.out.grown gr1 (own_ne O1.out C.out), Kp.out.grown gr1 (fun r hr _ => fun z => z.2.1 hr), own1, own_kept2 O2.out gr1 A12.out, B2.out.grown gr1 (fun _ p hp e => by cases hp; have h2 := G1.out _ e; dsimp only at h2; omega), B6.out.grown gr1 (fun _ p hp e => by cases hp; have h2 := G1.out _ e; dsimp only at h2; omega)⟩ ?_
      clear hS C Kp O1 O2 gr1 own1 B2 B6
      rintro wc ⟨c_, kp_, o1_, o2_, b2_, b6_⟩
      have C := hid c_; have Kp := hid kp_; have O1 := hid o1_; have O2 := hid o2_; have B2 := hid b2_; have B6 := hid b6_
      have hS := hid (show _ ∧ _ from ⟨C.out.cell 2, C.out.cell 3⟩ : wc.cell? ⟨pc, 2, none⟩ = some (.slice q1 T1.st.length g1) ∧ wc.cell? ⟨pc, 3, none⟩ = some (.slice q2 T1.fo.length g2))
      have lY := Kp.out.size
      clear c_ kp_ o1_ o2_ b2_ b6_
      clear A12
      have A12 := N12
      clear N12
      (apply wpAnyF_pure (i := 8) rfl (by kernel_rfl) (fun _ _ _ h => h); · first | exact .inr ⟨rfl, rfl⟩ | exact .inl ⟨rfl, fun w' => by go_simp; rfl⟩); simp only [Act.put, List.setIfInBounds_toArray, List.set_cons_succ, List.set_cons_zero, List.getElem_toArray, List.getElem_cons_succ, List.getElem_cons_zero]
      refine wpAnyF_one (i := 7) rfl ⟨by kernel_rfl, by kernel_rfl⟩ ?_
      intro K hK
      refine step_append_any _ rfl _ _ _ rfl Y 3 i0 _ 1 8 Tryd.underlying22 hi iz0 iz1 iz2 rfl (by decide) (.slice q2 T1.fo.length g2) (T1.fo.length) _ rfl O2.out (some ⟨PB6, 0, none⟩) 1 1 ([-7].map (Value.int .i64)) rfl (by simp) (fun h => by cases h) (RdI.news B6.out) (ints_one _) (by omega) (by omega) (by omega) ?_
      intro a2 k2' wn own7 gr7 pl7
      refine shutN hK (by kernel_rfl) ?_
      obtain ⟨xs2, hxs2⟩ : ∃ xs, xs = T1.fo.map (Value.int .i64) ++ [-7].map (Value.int .i64) := ⟨_, rfl⟩
      rw [← hxs2] at own7
      clear hxs2
      have N12 := hid (apart_symm (apart_new (apart_symm A12.out) O1.out (Nat.le_refl _) pl7))
      have L2 : (Value.slice a2 (T1.fo.length + 1) k2').ownBlock = (Value.slice q2 T1.fo.length g2).ownBlock ∨ ∃ x, w1.heap.size ≤ x ∧ (Value.slice a2 (T1.fo.length + 1) k2').ownBlock = some x := pl7.imp id (fun h => ⟨_, lY, h⟩)
      have L2 := hid L2
      clear pl7
      refine any_world (fun W => Box W pc #[.int .i64 T1.id, .int .i64 T1.hs, .slice q1 T1.st.length g1, .slice q2 T1.fo.length g2] 24 ∧ Keep (Zof pc (.slice q1 T1.st.length g1) (.slice q2 T1.fo.length g2)) w1 W ∧ W.ownsRow Y 3 1 (.slice a1 (T1.st.length + 1) k1') (T1.st.length + 1) xs1 ∧ W.ownsRow Y 3 1 (.slice a2 (T1.fo.length + 1) k2') (T1.fo.length + 1) xs2 ∧ RdI W (some ⟨PB2, 0, none⟩) [-7] ∧ RdI W (some ⟨PB6, 0, none⟩) [-7]) ⟨C.out.grown gr7 (own_ne O2.out C.out), Kp.out.grown gr7 (fun r hr _ => fun z => z.2.2 hr), own_kept2 O1.out gr7 (apart_symm A12.out), own7, B2.out.grown gr7 (fun _ p hp e => by cases hp; have h2 := G2.out _ e; dsimp only at h2; omega), B6.out.grown gr7 (fun _ p hp e => by cases hp; have h2 := G2.out _ e; dsimp only at h2; omega)⟩ ?_
      clear hS C Kp O1 O2 gr7 own7 B2 B6
      rintro wc ⟨c_, kp_, o1_, o2_, b2_, b6_⟩
      have C := hid c_; have Kp := hid kp_; have O1 := hid o1_; have O2 := hid o2_; have B2 := hid b2_; have B6 := hid b6_
      have hS := hid (show _ ∧ _ from ⟨C.out.cell 2, C.out.cell 3⟩ : wc.cell? ⟨pc, 2, none⟩ = some (.slice q1 T1.st.length g1) ∧ wc.cell? ⟨pc, 3, none⟩ = some (.slice q2 T1.fo.length g2))
      have lY := Kp.out.size
      clear c_ kp_ o1_ o2_ b2_ b6_
      clear A12
      have A12 := N12
      clear N12
      obtain ⟨⟨c0, c1, c2, c3⟩, ⟨k0, k1, k2, k3⟩, lx⟩ := box_four C.out
      refine wpAnyF_one (i := 9) rfl ⟨by kernel_rfl, by kernel_rfl⟩ ?_
      intro K hK
      go_simp
      refine shutN hK (by kernel_rfl) ?_
      (apply wpAnyF_pure (i := 10) rfl (by kernel_rfl) (fun _ _ _ h => h); · first | exact .inr ⟨rfl, rfl⟩ | exact .inl ⟨rfl, fun w' => by go_simp; rfl⟩); simp only [Act.put, List.setIfInBounds_toArray, List.set_cons_succ, List.set_cons_zero, List.getElem_toArray, List.getElem_cons_succ, List.getElem_cons_zero]
      refine wpAnyF_one (i := 11) rfl ⟨by kernel_rfl, by kernel_rfl⟩ ?_
      intro K hK
      go_simp
      refine shutN hK (by kernel_rfl) ?_
      refine wpAnyF_done (by kernel_rfl) ?_ _
      unfold NormP Nine; refine acts_of rfl ?_
      exact ⟨a1, k1', a2, k2', xs1, xs2, rfl, rfl, rfl, rfl, rfl, rfl, (C.out.set 2 _).set 3 _, (Kp.out.setCell ⟨pc, 2, none⟩ _ (fun _ z => z.1 rfl)).setCell ⟨pc, 3, none⟩ _ (fun _ z => z.1 rfl), own_keep1 (own_keep1 O1.out (own_ne O1.out C.out)) (own_ne O1.out C.out), own_keep1 (own_keep1 O2.out (own_ne O2.out C.out)) (own_ne O2.out C.out), L1.out, L2.out, A12.out⟩
  ·
    intro K hK
    go_simp
    refine shutS hK ⟨(C.out.alloc _).cell 2, (C.out.alloc _).cell 3⟩ (fun hS => ?_)
    obtain ⟨PB6, hPB6⟩ : ∃ P, P = wc.heap.size := ⟨_, rfl⟩
    have nPB6 : w1.heap.size ≤ PB6 := by omega
    rw [← hPB6]
    refine any_world (fun W => Box W pc #[.int .i64 T1.id, .int .i64 T1.hs, .slice q1 T1.st.length g1, .slice q2 T1.fo.length g2] 24 ∧ Keep (Zof pc (.slice q1 T1.st.length g1) (.slice q2 T1.fo.length g2)) w1 W ∧ W.ownsRow Y 3 1 (.slice q1 T1.st.length g1) T1.st.length (T1.st.map (Value.int .i64)) ∧ W.ownsRow Y 3 1 (.slice q2 T1.fo.length g2) T1.fo.length (T1.fo.map (Value.int .i64)) ∧ RdI W (some ⟨PB6, 0, none⟩) [-7]) ⟨C.out.alloc _, Kp.out.alloc _, O1.out.alloc _, O2.out.alloc _, rd_one hPB6⟩ ?_
    clear hS C Kp O1 O2 hPB6
    rintro wc ⟨c_, kp_, o1_, o2_, b6_⟩
    have C := hid c_; have Kp := hid kp_; have O1 := hid o1_; have O2 := hid o2_; have B6 := hid b6_
    have hS := hid (show _ ∧ _ from ⟨C.out.cell 2, C.out.cell 3⟩ : wc.cell? ⟨pc, 2, none⟩ = some (.slice q1 T1.st.length g1) ∧ wc.cell? ⟨pc, 3, none⟩ = some (.slice q2 T1.fo.length g2))
    have lY := Kp.out.size
    clear c_ kp_ o1_ o2_ b6_
    refine wpAnyF_one (i := 2) rfl ⟨by kernel_rfl, by kernel_rfl⟩ ?_
    intro K hK
    go_simp
    refine shutS hK ⟨(C.out.alloc _).cell 2, (C.out.alloc _).cell 3⟩ (fun hS => ?_)
    obtain ⟨PB2, hPB2⟩ : ∃ P, P = wc.heap.size := ⟨_, rfl⟩
    have nPB2 : w1.heap.size ≤ PB2 := by omega
    rw [← hPB2]
    refine any_world (fun W => Box W pc #[.int .i64 T1.id, .int .i64 T1.hs, .slice q1 T1.st.length g1, .slice q2 T1.fo.length g2] 24 ∧ Keep (Zof pc (.slice q1 T1.st.length g1) (.slice q2 T1.fo.length g2)) w1 W ∧ W.ownsRow Y 3 1 (.slice q1 T1.st.length g1) T1.st.length (T1.st.map (Value.int .i64)) ∧ W.ownsRow Y 3 1 (.slice q2 T1.fo.length g2) T1.fo.length (T1.fo.map (Value.int .i64)) ∧ RdI W (some ⟨PB2, 0, none⟩) [-7] ∧ RdI W (some ⟨PB6, 0, none⟩) [-7]) ⟨C.out.alloc _, Kp.out.alloc _, O1.out.alloc _, O2.out.alloc _, rd_one hPB2, B6.out.alloc _⟩ ?_
    clear hS C Kp O1 O2 hPB2 B6
    rintro wc ⟨c_, kp_, o1_, o2_, b2_, b6_⟩
    have C := hid c_; have Kp := hid kp_; have O1 := hid o1_; have O2 := hid o2_; have B2 := hid b2_; have B6 := hid b6_
    have hS := hid (show _ ∧ _ from ⟨C.out.cell 2, C.out.cell 3⟩ : wc.cell? ⟨pc, 2, none⟩ = some (.slice q1 T1.st.length g1) ∧ wc.cell? ⟨pc, 3, none⟩ = some (.slice q2 T1.fo.length g2))
    have lY := Kp.out.size
    clear c_ kp_ o1_ o2_ b2_ b6_
    refine wpAnyF_one (i := 3) rfl ⟨by kernel_rfl, by kernel_rfl⟩ ?_
    intro K hK
    refine step_append_any _ rfl _ _ _ rfl Y 3 i0 _ 1 8 Tryd.underlying22 hi iz0 iz1 iz2 rfl (by decide) (.slice q1 T1.st.length g1) (T1.st.length) _ rfl O1.out (some ⟨PB2, 0, none⟩) 1 1 ([-7].map (Value.int .i64)) rfl (by simp) (fun h => by cases h) (RdI.news B2.out) (ints_one _) (by omega) (by omega) (by omega) ?_
    intro a1 k1' wn own1 gr1 pl1
    refine shutS hK ⟨(C.out.grown gr1 (own_ne O1.out C.out)).cell 2, (C.out.grown gr1 (own_ne O1.out C.out)).cell 3⟩ (fun hS => ?_)
    obtain ⟨xs1, hxs1⟩ : ∃ xs, xs = T1.st.map (Value.int .i64) ++ [-7].map (Value.int .i64) := ⟨_, rfl⟩
    rw [← hxs1] at own1
    clear hxs1
    have N12 := hid (apart_new A12.out O2.out (Nat.le_refl _) pl1)
    have L1 : (Value.slice a1 (T1.st.length + 1) k1').ownBlock = (Value.slice q1 T1.st.length g1).ownBlock ∨ ∃ x, w1.heap.size ≤ x ∧ (Value.slice a1 (T1.st.length + 1) k1').ownBlock = some x := pl1.imp id (fun h => ⟨_, lY, h⟩)
    have L1 := hid L1
    clear pl1
    refine any_world (fun W => Box W pc #[.int .i64 T1.id, .int .i64 T1.hs, .slice q1 T1.st.length g1, .slice q2 T1.fo.length g2] 24 ∧ Keep (Zof pc (.slice q1 T1.st.length g1) (.slice q2 T1.fo.length g2)) w1 W ∧ W.ownsRow Y 3 1 (.slice a1 (T1.st.length + 1) k1') (T1.st.length + 1) xs1 ∧ W.ownsRow Y 3 1 (.slice q2 T1.fo.length g2) T1.fo.length (T1.fo.map (Value.int .i64)) ∧ RdI W (some ⟨PB2, 0, none⟩) [-7] ∧ RdI W (some ⟨PB6, 0, none⟩) [-7]) ⟨C.out.grown gr1 (own_ne O1.out C.out), Kp.out.grown gr1 (fun r hr _ => fun z => z.2.1 hr), own1, own_kept2 O2.out gr1 A12.out, B2.out.grown gr1 (fun _ p hp e => by cases hp; have h2 := G1.out _ e; dsimp only at h2; omega), B6.out.grown gr1 (fun _ p hp e => by cases hp; have h2 := G1.out _ e; dsimp only at h2; omega)⟩ ?_
    clear hS C Kp O1 O2 gr1 own1 B2 B6
    rintro wc ⟨c_, kp_, o1_, o2_, b2_, b6_⟩
    have C := hid c_; have Kp := hid kp_; have O1 := hid o1_; have O2 := hid o2_; have B2 := hid b2_; have B6 := hid b6_
    have hS := hid (show _ ∧ _ from ⟨C.out.cell 2, C.out.cell 3⟩ : wc.cell? ⟨pc, 2, none⟩ = some (.slice q1 T1.st.length g1) ∧ wc.cell? ⟨pc, 3, none⟩ = some (.slice q2 T1.fo.length g2))
    have lY := Kp.out.size
    clear c_ kp_ o1_ o2_ b2_ b6_
    clear A12
    have A12 := N12
    clear N12
    (apply wpAnyF_pure (i := 8) rfl (by kernel_rfl) (fun _ _ _ h => h); · first | exact .inr ⟨rfl, rfl⟩ | exact .inl ⟨rfl, fun w' => by go_simp; rfl⟩); simp only [Act.put, List.setIfInBounds_toArray, List.set_cons_succ, List.set_cons_zero, List.getElem_toArray, List.getElem_cons_succ, List.getElem_cons_zero]
    refine wpAnyF_one (i := 7) rfl ⟨by kernel_rfl, by kernel_rfl⟩ ?_
    intro K hK
    refine step_append_any _ rfl _ _ _ rfl Y 3 i0 _ 1 8 Tryd.underlying22 hi iz0 iz1 iz2 rfl (by decide) (.slice q2 T1.fo.length g2) (T1.fo.length) _ rfl O2.out (some ⟨PB6, 0, none⟩) 1 1 ([-7].map (Value.int .i64)) rfl (by simp) (fun h => by cases h) (RdI.news B6.out) (ints_one _) (by omega) (by omega) (by omega) ?_
    intro a2 k2' wn own7 gr7 pl7
    refine shutN hK (by kernel_rfl) ?_
    obtain ⟨xs2, hxs2⟩ : ∃ xs, xs = T1.fo.map (Value.int .i64) ++ [-7].map (Value.int .i64) := ⟨_, rfl⟩
    rw [← hxs2] at own7
    clear hxs2
    have N12 := hid (apart_symm (apart_new (apart_symm A12.out) O1.out (Nat.le_refl _) pl7))
    have L2 : (Value.slice a2 (T1.fo.length + 1) k2').ownBlock = (Value.slice q2 T1.fo.length g2).ownBlock ∨ ∃ x, w1.heap.size ≤ x ∧ (Value.slice a2 (T1.fo.length + 1) k2').ownBlock = some x := pl7.imp id (fun h => ⟨_, lY, h⟩)
    have L2 := hid L2
    clear pl7
    refine any_world (fun W => Box W pc #[.int .i64 T1.id, .int .i64 T1.hs, .slice q1 T1.st.length g1, .slice q2 T1.fo.length g2] 24 ∧ Keep (Zof pc (.slice q1 T1.st.length g1) (.slice q2 T1.fo.length g2)) w1 W ∧ W.ownsRow Y 3 1 (.slice a1 (T1.st.length + 1) k1') (T1.st.length + 1) xs1 ∧ W.ownsRow Y 3 1 (.slice a2 (T1.fo.length + 1) k2') (T1.fo.length + 1) xs2 ∧ RdI W (some ⟨PB2, 0, none⟩) [-7] ∧ RdI W (some ⟨PB6, 0, none⟩) [-7]) ⟨C.out.grown gr7 (own_ne O2.out C.out), Kp.out.grown gr7 (fun r hr _ => fun z => z.2.2 hr), own_kept2 O1.out gr7 (apart_symm A12.out), own7, B2.out.grown gr7 (fun _ p hp e => by cases hp; have h2 := G2.out _ e; dsimp only at h2; omega), B6.out.grown gr7 (fun _ p hp e => by cases hp; have h2 := G2.out _ e; dsimp only at h2; omega)⟩ ?_
    clear hS C Kp O1 O2 gr7 own7 B2 B6
    rintro wc ⟨c_, kp_, o1_, o2_, b2_, b6_⟩
    have C := hid c_; have Kp := hid kp_; have O1 := hid o1_; have O2 := hid o2_; have B2 := hid b2_; have B6 := hid b6_
    have hS := hid (show _ ∧ _ from ⟨C.out.cell 2, C.out.cell 3⟩ : wc.cell? ⟨pc, 2, none⟩ = some (.slice q1 T1.st.length g1) ∧ wc.cell? ⟨pc, 3, none⟩ = some (.slice q2 T1.fo.length g2))
    have lY := Kp.out.size
    clear c_ kp_ o1_ o2_ b2_ b6_
    clear A12
    have A12 := N12
    clear N12
    obtain ⟨⟨c0, c1, c2, c3⟩, ⟨k0, k1, k2, k3⟩, lx⟩ := box_four C.out
    refine wpAnyF_one (i := 9) rfl ⟨by kernel_rfl, by kernel_rfl⟩ ?_
    intro K hK
    go_simp
    refine shutN hK (by kernel_rfl) ?_
    (apply wpAnyF_pure (i := 10) rfl (by kernel_rfl) (fun _ _ _ h => h); · first | exact .inr ⟨rfl, rfl⟩ | exact .inl ⟨rfl, fun w' => by go_simp; rfl⟩); simp only [Act.put, List.setIfInBounds_toArray, List.set_cons_succ, List.set_cons_zero, List.getElem_toArray, List.getElem_cons_succ, List.getElem_cons_zero]
    refine wpAnyF_one (i := 11) rfl ⟨by kernel_rfl, by kernel_rfl⟩ ?_
    intro K hK
    go_simp
    refine shutN hK (by kernel_rfl) ?_
    refine wpAnyF_done (by kernel_rfl) ?_ _
    unfold NormP Nine; refine acts_of rfl ?_
    exact ⟨a1, k1', a2, k2', xs1, xs2, rfl, rfl, rfl, rfl, rfl, rfl, (C.out.set 2 _).set 3 _, (Kp.out.setCell ⟨pc, 2, none⟩ _ (fun _ z => z.1 rfl)).setCell ⟨pc, 3, none⟩ _ (fun _ z => z.1 rfl), own_keep1 (own_keep1 O1.out (own_ne O1.out C.out)) (own_ne O1.out C.out), own_keep1 (own_keep1 O2.out (own_ne O2.out C.out)) (own_ne O2.out C.out), L1.out, L2.out, A12.out⟩

end Go.Proofs.YthddoikmgpgakaaDoor
