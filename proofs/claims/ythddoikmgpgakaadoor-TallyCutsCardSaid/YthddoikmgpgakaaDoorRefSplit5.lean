/- The reference's 'Split': the two tallies in new memory (region 5), in every order. -/
import Derived.Test.YthddoikmgpgakaaDoorProg
import Derived.Test.YthddoikmgpgakaaDoorBase
import Derived.Outline
import Derived.RangeFuncNested
import Derived.Shelf.Abstract
import Derived.Deep.QuietTactic
import Derived.BigQuiet
import Derived.Deep.RegionHeld3
import Derived.WalkSmall
import Derived.Laws.EntriesVeiled
import Derived.Test.YthddoikmgpgakaaDoorSplit
namespace Go.Proofs.YthddoikmgpgakaaDoor
open Go.RowKit Go.Proofs Go.Shelf

theorem any_world {P : Program} {ops : Array Oper} {Q : Exit → Act → World → Prop} {held : List Nat} {S : World → Prop} {fuel : Nat} {listed : Array Bool} {a : Act} {w : World} (T : World → Prop) (hT : T w) (h : ∀ w', T w' → wpAnyF P ops Q held S fuel listed a w') : wpAnyF P ops Q held S fuel listed a w := h w hT

/-- A row of ints is no block of a tally. -/
theorem own_ne {w : World} {B b : Nat} {v : Value} {n : Nat} {xs : List Value} {cs : Array Value} (h : w.ownsRow B 3 1 v n xs) (hb : Box w b cs 24) : v.ownBlock ≠ some b := fun e => by
  rcases h.2 with ⟨rfl, _⟩ | ⟨g, cap, cur, rfl, _, hg, _⟩
  · cases e
  · simp only [Value.ownBlock, Option.some.injEq] at e
    subst e
    unfold Box at hb
    rw [hg] at hb
    simp at hb
theorem own_keep1 {w : World} {B : Nat} {e : TypeId} {size : Nat} {v u : Value} {n b j : Nat} {xs : List Value} (h : w.ownsRow B e size v n xs) (hne : v.ownBlock ≠ some b) : (w.setCell ⟨b, j, none⟩ u).ownsRow B e size v n xs := by
  refine ⟨h.1, h.2.imp (fun x => x) ?_⟩
  rintro ⟨g', cap, cur, hv, hb, hh, r⟩
  refine ⟨g', cap, cur, hv, hb, ?_, r⟩
  rw [hv] at hne
  have hg : g' ≠ b := fun e => hne (by simp [Value.ownBlock, e])
  exact (Below.heap_setCell _ _ _ g' hg).trans hh
theorem own_keep4 {w : World} {B : Nat} {v u0 u1 u2 u3 : Value} {n b : Nat} {xs : List Value} (h : w.ownsRow B 3 1 v n xs) (hne : v.ownBlock ≠ some b) :
    ((((w.setCell ⟨b, 0, none⟩ u0).setCell ⟨b, 1, none⟩ u1).setCell ⟨b, 2, none⟩ u2).setCell ⟨b, 3, none⟩ u3).ownsRow B 3 1 v n xs := own_keep1 (own_keep1 (own_keep1 (own_keep1 h hne) hne) hne) hne
theorem own_cap {w : World} {B : Nat} {e : TypeId} {size : Nat} {a : Option Addr} {n c m : Nat} {xs : List Value} (h : w.ownsRow B e size (.slice a n c) m xs) : n ≤ c := by
  rcases h.2 with ⟨h', h0⟩ | ⟨g, cap, cur, h', _, _, hc, _⟩
  · simp only [Value.slice.injEq] at h'; omega
  · simp only [Value.slice.injEq] at h'; omega

/-- The value reads as a tally. -/
def RdV (w : World) (v : Value) (t : Tl) : Prop := ∃ sa sc fa fc, v = .agg #[.int .i64 t.id, .int .i64 t.hs, .slice sa t.st.length sc, .slice fa t.fo.length fc] ∧ RdI w sa t.st ∧ RdI w fa t.fo
theorem RdV.zero (w : World) : RdV w (.agg #[.int .i64 0, .int .i64 0, .slice none 0 0, .slice none 0 0]) zeroT := ⟨none, 0, none, 0, rfl, RdI.nil _ _, RdI.nil _ _⟩


/-- The code of that region. -/
noncomputable def reg5 : Code := match Tryd.f29.body with | some (.seq _ (.seq _ (.seq _ (.seq r _)))) => r | _ => .skip

/-- What lies behind it. -/
def Two (w : World) (a : Tl) (n m : Nat) (a' : Act) (W : World) : Prop := ∃ f : Nat → Value, a' = ⟨((List.range 58).map f).toArray, []⟩ ∧ ∃ P9 Q9 s1 d1 s2 d2 s3 d3 s4 d4, f 1 = .int .i64 n ∧ f 2 = .int .i64 m ∧ f 6 = .pointer (some ⟨w.heap.size + 1, 0, none⟩) ∧ f 7 = .pointer (some ⟨w.heap.size + 1 + 1, 0, none⟩) ∧ f 9 = .pointer (some ⟨P9, 0, none⟩) ∧ f 10 = .pointer (some ⟨Q9, 0, none⟩) ∧ w.heap.size + 1 + 1 < P9 ∧ w.heap.size + 1 + 1 < Q9 ∧ P9 ≠ Q9 ∧ Box W (w.heap.size + 1) #[.int .i64 0, .int .i64 0, .slice none 0 0, .slice none 0 0] 24 ∧ Box W (w.heap.size + 1 + 1) #[.int .i64 0, .int .i64 0, .slice none 0 0, .slice none 0 0] 24 ∧ Below w.heap.size w W ∧ Box W P9 #[.int .i64 a.id, .int .i64 a.hs, .slice s1 a.st.length d1, .slice s2 a.fo.length d2] 24 ∧ Box W Q9 #[.int .i64 a.id, .int .i64 a.hs, .slice s3 a.st.length d3, .slice s4 a.fo.length d4] 24 ∧ W.ownsRow w.heap.size 3 1 (.slice s1 a.st.length d1) a.st.length (a.st.map (Value.int .i64)) ∧ W.ownsRow w.heap.size 3 1 (.slice s2 a.fo.length d2) a.fo.length (a.fo.map (Value.int .i64)) ∧ W.ownsRow w.heap.size 3 1 (.slice s3 a.st.length d3) a.st.length (a.st.map (Value.int .i64)) ∧ W.ownsRow w.heap.size 3 1 (.slice s4 a.fo.length d4) a.fo.length (a.fo.map (Value.int .i64))

set_option maxRecDepth 20000 in
set_option maxHeartbeats 8000000 in
theorem reg5_any (a : Tl) (n m : Nat) (sa fa : Option Addr) (sc fc : Nat) (w w1 : World) (f : Nat → Value) (hl : a.st.length ≤ 1000) (hl2 : a.fo.length ≤ 1000) (H1 : Hid (RdI w sa a.st)) (H2 : Hid (RdI w fa a.fo))
    (f1 : f 1 = .int .i64 n) (f2 : f 2 = .int .i64 m) (f3 : f 3 = .pointer (some ⟨w.heap.size, 0, none⟩)) (f6 : f 6 = .pointer (some ⟨w.heap.size + 1, 0, none⟩)) (f7 : f 7 = .pointer (some ⟨w.heap.size + 1 + 1, 0, none⟩))
    (BX : Hid (Box w1 w.heap.size #[.int .i64 a.id, .int .i64 a.hs, .slice sa a.st.length sc, .slice fa a.fo.length fc] 24)) (B6 : Hid (Box w1 (w.heap.size + 1) #[.int .i64 0, .int .i64 0, .slice none 0 0, .slice none 0 0] 24)) (B7 : Hid (Box w1 (w.heap.size + 1 + 1) #[.int .i64 0, .int .i64 0, .slice none 0 0, .slice none 0 0] 24)) (HB : Hid (Below w.heap.size w w1)) :
    reg5.wp Tryd.prog (NormP (Two w a n m)) ⟨((List.range 58).map f).toArray, []⟩ w1 := by
  have hm := mixed
  rw [show (List.range 58).map f = [f 0, f 1, f 2, f 3, f 4, f 5, f 6, f 7, f 8, f 9, f 10, f 11, f 12, f 13, f 14, f 15, f 16, f 17, f 18, f 19, f 20, f 21, f 22, f 23, f 24, f 25, f 26, f 27, f 28, f 29, f 30, f 31, f 32, f 33, f 34, f 35, f 36, f 37, f 38, f 39, f 40, f 41, f 42, f 43, f 44, f 45, f 46, f 47, f 48, f 49, f 50, f 51, f 52, f 53, f 54, f 55, f 56, f 57] from rfl, f1, f2, f3, f6, f7]
  clear f1 f2 f3 f6 f7
  show (match Tryd.f29.body with | some (.seq _ (.seq _ (.seq _ (.seq r _)))) => r | _ => .skip : Code).wp _ _ _ _
  dsimp only [Tryd.f29]
  refine wp_region_F [0, 2] (fun w' => w'.cell? ⟨w.heap.size, 0, none⟩ = some (.int .i64 a.id) ∧ w'.cell? ⟨w.heap.size, 1, none⟩ = some (.int .i64 a.hs) ∧ w'.cell? ⟨w.heap.size, 2, none⟩ = some (.slice sa a.st.length sc) ∧ w'.cell? ⟨w.heap.size, 3, none⟩ = some (.slice fa a.fo.length fc)) hm (box_four BX.out.drew).1 ?_
  intro _
  refine any_world (fun W => Box W w.heap.size #[.int .i64 a.id, .int .i64 a.hs, .slice sa a.st.length sc, .slice fa a.fo.length fc] 24 ∧ Box W (w.heap.size + 1) #[.int .i64 0, .int .i64 0, .slice none 0 0, .slice none 0 0] 24 ∧ Box W (w.heap.size + 1 + 1) #[.int .i64 0, .int .i64 0, .slice none 0 0, .slice none 0 0] 24 ∧ Below w.heap.size w W) ⟨BX.out.drew, B6.out.drew, B7.out.drew, HB.out.drew⟩ ?_
  clear BX B6 B7 HB
  rintro wc ⟨bx, b6, b7, hbW⟩
  have BX := hid bx; have B6 := hid b6; have B7 := hid b7; have HB := hid hbW
  have hS := hid (box_four bx).1
  clear bx b6 b7 hbW
  (apply wpAnyF_held (i := 0) rfl (by kernel_rfl) (fun _ _ _ h => h) hS.out; · first | exact .inr ⟨rfl, rfl⟩ | exact .inl ⟨rfl, fun w' hS' => by (obtain ⟨s1, s2, s3, s4⟩ := hS'; go_simp; rfl)⟩); simp only [Act.put, List.setIfInBounds_toArray, List.set_cons_succ, List.set_cons_zero, List.getElem_toArray, List.getElem_cons_succ, List.getElem_cons_zero]
  (apply wpAnyF_held (i := 2) rfl (by kernel_rfl) (fun _ _ _ h => h) hS.out; · first | exact .inr ⟨rfl, rfl⟩ | exact .inl ⟨rfl, fun w' hS' => by (obtain ⟨s1, s2, s3, s4⟩ := hS'; go_simp; rfl)⟩); simp only [Act.put, List.setIfInBounds_toArray, List.set_cons_succ, List.set_cons_zero, List.getElem_toArray, List.getElem_cons_succ, List.getElem_cons_zero]
  refine wpAnyF_three (i := 1) (j := 4) (k := 5) rfl rfl rfl ⟨by kernel_rfl, by kernel_rfl, by kernel_rfl, by kernel_rfl⟩ ?_ ?_ ?_
  ·
    intro K hK
    go_simp
    refine (twin_any a.id a.hs a.st a.fo sa fa sc fc wc (by omega) (by omega) (H1.out.below HB.out) (H2.out.below HB.out)).mono ?_
    rintro e w2 ⟨v, rfl, hb2, s1, d1, s2, d2, rfl, o1, o2, -⟩
    have O1 := hid (own_base o1 HB.out.size); have O2 := hid (own_base o2 HB.out.size)
    clear o1 o2
    dsimp only at O1 O2 ⊢
    refine shutS hK (box_four (BX.out.below hb2 BX.out.lt)).1 (fun hS => ?_)
    refine any_world (fun W => Box W w.heap.size #[.int .i64 a.id, .int .i64 a.hs, .slice sa a.st.length sc, .slice fa a.fo.length fc] 24 ∧ Box W (w.heap.size + 1) #[.int .i64 0, .int .i64 0, .slice none 0 0, .slice none 0 0] 24 ∧ Box W (w.heap.size + 1 + 1) #[.int .i64 0, .int .i64 0, .slice none 0 0, .slice none 0 0] 24 ∧ Below w.heap.size w W ∧ W.ownsRow w.heap.size 3 1 (.slice s1 a.st.length d1) a.st.length (a.st.map (Value.int .i64)) ∧ W.ownsRow w.heap.size 3 1 (.slice s2 a.fo.length d2) a.fo.length (a.fo.map (Value.int .i64)) ∧ True) ⟨BX.out.below hb2 BX.out.lt, B6.out.below hb2 B6.out.lt, B7.out.below hb2 B7.out.lt, HB.out.trans (hb2.mono HB.out.size), O1.out, O2.out, trivial⟩ ?_
    clear hS BX B6 B7 HB O1 O2  hb2
    rintro wc ⟨bx, b6, b7, hbW, o1, o2, -⟩
    have BX := hid bx; have B6 := hid b6; have B7 := hid b7; have HB := hid hbW; have O1 := hid o1; have O2 := hid o2; have hS := hid (box_four bx).1
    clear bx b6 b7 hbW o1 o2 
    refine wpAnyF_three (i := 3) (j := 4) (k := 5) rfl rfl rfl ⟨by kernel_rfl, by kernel_rfl, by kernel_rfl, by kernel_rfl⟩ ?_ ?_ ?_
    ·
      intro K hK
      go_simp
      refine (twin_any a.id a.hs a.st a.fo sa fa sc fc wc (by omega) (by omega) (H1.out.below HB.out) (H2.out.below HB.out)).mono ?_
      rintro e w2 ⟨v, rfl, hb2, s3, d3, s4, d4, rfl, o3, o4, -⟩
      have O3 := hid (own_base o3 HB.out.size); have O4 := hid (own_base o4 HB.out.size)
      clear o3 o4
      dsimp only at O3 O4 ⊢
      refine shutN hK (by kernel_rfl) ?_
      refine any_world (fun W => Box W w.heap.size #[.int .i64 a.id, .int .i64 a.hs, .slice sa a.st.length sc, .slice fa a.fo.length fc] 24 ∧ Box W (w.heap.size + 1) #[.int .i64 0, .int .i64 0, .slice none 0 0, .slice none 0 0] 24 ∧ Box W (w.heap.size + 1 + 1) #[.int .i64 0, .int .i64 0, .slice none 0 0, .slice none 0 0] 24 ∧ Below w.heap.size w W ∧ W.ownsRow w.heap.size 3 1 (.slice s1 a.st.length d1) a.st.length (a.st.map (Value.int .i64)) ∧ W.ownsRow w.heap.size 3 1 (.slice s2 a.fo.length d2) a.fo.length (a.fo.map (Value.int .i64)) ∧ W.ownsRow w.heap.size 3 1 (.slice s3 a.st.length d3) a.st.length (a.st.map (Value.int .i64)) ∧ W.ownsRow w.heap.size 3 1 (.slice s4 a.fo.length d4) a.fo.length (a.fo.map (Value.int .i64)) ∧ True) ⟨BX.out.below hb2 BX.out.lt, B6.out.below hb2 B6.out.lt, B7.out.below hb2 B7.out.lt, HB.out.trans (hb2.mono HB.out.size), own_below O1.out hb2 (Nat.le_refl _), own_below O2.out hb2 (Nat.le_refl _), O3.out, O4.out, trivial⟩ ?_
      clear hS BX B6 B7 HB O1 O2 O3 O4  hb2
      rintro wc ⟨bx, b6, b7, hbW, o1, o2, o3, o4, -⟩
      have BX := hid bx; have B6 := hid b6; have B7 := hid b7; have HB := hid hbW; have O1 := hid o1; have O2 := hid o2; have O3 := hid o3; have O4 := hid o4; have hS := hid (box_four bx).1
      clear bx b6 b7 hbW o1 o2 o3 o4 
      refine wpAnyF_two (i := 4) (j := 5) rfl rfl ⟨by kernel_rfl, by kernel_rfl, by kernel_rfl⟩ ?_ ?_
      ·
        intro K hK
        go_simp
        refine shutS hK (box_four (BX.out.alloc _)).1 (fun hS => ?_)
        obtain ⟨P9, hP9⟩ : ∃ P, P = wc.heap.size := ⟨_, rfl⟩
        have nP9 : w.heap.size + 1 + 1 < P9 := by have := B7.out.lt; omega
        
        rw [← hP9]
        refine any_world (fun W => Box W w.heap.size #[.int .i64 a.id, .int .i64 a.hs, .slice sa a.st.length sc, .slice fa a.fo.length fc] 24 ∧ Box W (w.heap.size + 1) #[.int .i64 0, .int .i64 0, .slice none 0 0, .slice none 0 0] 24 ∧ Box W (w.heap.size + 1 + 1) #[.int .i64 0, .int .i64 0, .slice none 0 0, .slice none 0 0] 24 ∧ Below w.heap.size w W ∧ Box W P9 #[.int .i64 0, .int .i64 0, .slice none 0 0, .slice none 0 0] 24 ∧ W.ownsRow w.heap.size 3 1 (.slice s1 a.st.length d1) a.st.length (a.st.map (Value.int .i64)) ∧ W.ownsRow w.heap.size 3 1 (.slice s2 a.fo.length d2) a.fo.length (a.fo.map (Value.int .i64)) ∧ W.ownsRow w.heap.size 3 1 (.slice s3 a.st.length d3) a.st.length (a.st.map (Value.int .i64)) ∧ W.ownsRow w.heap.size 3 1 (.slice s4 a.fo.length d4) a.fo.length (a.fo.map (Value.int .i64)) ∧ True) ⟨BX.out.alloc _, B6.out.alloc _, B7.out.alloc _, HB.out.alloc HB.out.size _, Box.at _ _ hP9, O1.out.alloc _, O2.out.alloc _, O3.out.alloc _, O4.out.alloc _, trivial⟩ ?_
        clear hP9
        clear hS BX B6 B7 HB O1 O2 O3 O4 
        rintro wc ⟨bx, b6, b7, hbW, b9, o1, o2, o3, o4, -⟩
        have BX := hid bx; have B6 := hid b6; have B7 := hid b7; have HB := hid hbW; have B9 := hid b9; have O1 := hid o1; have O2 := hid o2; have O3 := hid o3; have O4 := hid o4; have hS := hid (box_four bx).1
        clear bx b6 b7 hbW b9 o1 o2 o3 o4 
        refine wpAnyF_one (i := 5) rfl ⟨by kernel_rfl, by kernel_rfl⟩ ?_
        intro K hK
        go_simp
        refine shutS hK (box_four (BX.out.alloc _)).1 (fun hS => ?_)
        obtain ⟨Q9, hQ9⟩ : ∃ P, P = wc.heap.size := ⟨_, rfl⟩
        have nQ9 : w.heap.size + 1 + 1 < Q9 := by have := B7.out.lt; omega
        have nPQ : Q9 ≠ P9 := by have := B9.out.lt; omega
        rw [← hQ9]
        refine any_world (fun W => Box W w.heap.size #[.int .i64 a.id, .int .i64 a.hs, .slice sa a.st.length sc, .slice fa a.fo.length fc] 24 ∧ Box W (w.heap.size + 1) #[.int .i64 0, .int .i64 0, .slice none 0 0, .slice none 0 0] 24 ∧ Box W (w.heap.size + 1 + 1) #[.int .i64 0, .int .i64 0, .slice none 0 0, .slice none 0 0] 24 ∧ Below w.heap.size w W ∧ Box W P9 #[.int .i64 0, .int .i64 0, .slice none 0 0, .slice none 0 0] 24 ∧ Box W Q9 #[.int .i64 0, .int .i64 0, .slice none 0 0, .slice none 0 0] 24 ∧ W.ownsRow w.heap.size 3 1 (.slice s1 a.st.length d1) a.st.length (a.st.map (Value.int .i64)) ∧ W.ownsRow w.heap.size 3 1 (.slice s2 a.fo.length d2) a.fo.length (a.fo.map (Value.int .i64)) ∧ W.ownsRow w.heap.size 3 1 (.slice s3 a.st.length d3) a.st.length (a.st.map (Value.int .i64)) ∧ W.ownsRow w.heap.size 3 1 (.slice s4 a.fo.length d4) a.fo.length (a.fo.map (Value.int .i64)) ∧ True) ⟨BX.out.alloc _, B6.out.alloc _, B7.out.alloc _, HB.out.alloc HB.out.size _, B9.out.alloc _, Box.at _ _ hQ9, O1.out.alloc _, O2.out.alloc _, O3.out.alloc _, O4.out.alloc _, trivial⟩ ?_
        clear hQ9
        clear hS BX B6 B7 HB B9 O1 O2 O3 O4 
        rintro wc ⟨bx, b6, b7, hbW, b9, b10, o1, o2, o3, o4, -⟩
        have BX := hid bx; have B6 := hid b6; have B7 := hid b7; have HB := hid hbW; have B9 := hid b9; have B10 := hid b10; have O1 := hid o1; have O2 := hid o2; have O3 := hid o3; have O4 := hid o4; have hS := hid (box_four bx).1
        clear bx b6 b7 hbW b9 b10 o1 o2 o3 o4 
        refine wpAnyF_one (i := 6) rfl ⟨by kernel_rfl, by kernel_rfl⟩ ?_
        intro K hK
        obtain ⟨⟨c60, c61, c62, c63⟩, ⟨k60, k61, k62, k63⟩, l6⟩ := box_four B9.out
        go_simp
        refine shutN hK (by kernel_rfl) ?_
        have hs9 : w.heap.size ≤ P9 := by omega
        refine any_world (fun W => Box W (w.heap.size + 1) #[.int .i64 0, .int .i64 0, .slice none 0 0, .slice none 0 0] 24 ∧ Box W (w.heap.size + 1 + 1) #[.int .i64 0, .int .i64 0, .slice none 0 0, .slice none 0 0] 24 ∧ Below w.heap.size w W ∧ Box W P9 #[.int .i64 a.id, .int .i64 a.hs, .slice s1 a.st.length d1, .slice s2 a.fo.length d2] 24 ∧ Box W Q9 #[.int .i64 0, .int .i64 0, .slice none 0 0, .slice none 0 0] 24 ∧ W.ownsRow w.heap.size 3 1 (.slice s1 a.st.length d1) a.st.length (a.st.map (Value.int .i64)) ∧ W.ownsRow w.heap.size 3 1 (.slice s2 a.fo.length d2) a.fo.length (a.fo.map (Value.int .i64)) ∧ W.ownsRow w.heap.size 3 1 (.slice s3 a.st.length d3) a.st.length (a.st.map (Value.int .i64)) ∧ W.ownsRow w.heap.size 3 1 (.slice s4 a.fo.length d4) a.fo.length (a.fo.map (Value.int .i64))) ⟨box_oth4 B6.out (by omega) _ _ _ _, box_oth4 B7.out (by omega) _ _ _ _, (((HB.out.setCell (p := ⟨P9, 0, none⟩) hs9 _).setCell (p := ⟨P9, 1, none⟩) hs9 _).setCell (p := ⟨P9, 2, none⟩) hs9 _).setCell (p := ⟨P9, 3, none⟩) hs9 _, box_put4 _ _ _ _ B9.out, box_oth4 B10.out (by omega) _ _ _ _, own_keep4 O1.out (own_ne O1.out B9.out), own_keep4 O2.out (own_ne O2.out B9.out), own_keep4 O3.out (own_ne O3.out B9.out), own_keep4 O4.out (own_ne O4.out B9.out)⟩ ?_
        clear hS BX B6 B7 HB B9 B10 O1 O2 O3 O4 c60 c61 c62 c63 k60 k61 k62 k63 l6 hs9
        rintro wc ⟨b6, b7, hbW, b9, b10, o1, o2, o3, o4⟩
        have B6 := hid b6; have B7 := hid b7; have HB := hid hbW; have B9 := hid b9; have B10 := hid b10; have O1 := hid o1; have O2 := hid o2; have O3 := hid o3; have O4 := hid o4
        clear b6 b7 hbW b9 b10 o1 o2 o3 o4
        refine wpAnyF_one (i := 7) rfl ⟨by kernel_rfl, by kernel_rfl⟩ ?_
        intro K hK
        obtain ⟨⟨c60, c61, c62, c63⟩, ⟨k60, k61, k62, k63⟩, l6⟩ := box_four B10.out
        go_simp
        refine shutN hK (by kernel_rfl) ?_
        refine wpAnyF_done (by kernel_rfl) ?_ _
        have hs9 : w.heap.size ≤ Q9 := by omega
        unfold NormP Two; refine acts_of rfl ?_
        exact ⟨P9, Q9, s1, d1, s2, d2, s3, d3, s4, d4, rfl, rfl, rfl, rfl, rfl, rfl, nP9, nQ9, by omega, box_oth4 B6.out (by omega) _ _ _ _, box_oth4 B7.out (by omega) _ _ _ _, (((HB.out.setCell (p := ⟨Q9, 0, none⟩) hs9 _).setCell (p := ⟨Q9, 1, none⟩) hs9 _).setCell (p := ⟨Q9, 2, none⟩) hs9 _).setCell (p := ⟨Q9, 3, none⟩) hs9 _, box_oth4 B9.out (by omega) _ _ _ _, box_put4 _ _ _ _ B10.out, own_keep4 O1.out (own_ne O1.out B10.out), own_keep4 O2.out (own_ne O2.out B10.out), own_keep4 O3.out (own_ne O3.out B10.out), own_keep4 O4.out (own_ne O4.out B10.out)⟩
      ·
        intro K hK
        go_simp
        refine shutS hK (box_four (BX.out.alloc _)).1 (fun hS => ?_)
        obtain ⟨Q9, hQ9⟩ : ∃ P, P = wc.heap.size := ⟨_, rfl⟩
        have nQ9 : w.heap.size + 1 + 1 < Q9 := by have := B7.out.lt; omega
        
        rw [← hQ9]
        refine any_world (fun W => Box W w.heap.size #[.int .i64 a.id, .int .i64 a.hs, .slice sa a.st.length sc, .slice fa a.fo.length fc] 24 ∧ Box W (w.heap.size + 1) #[.int .i64 0, .int .i64 0, .slice none 0 0, .slice none 0 0] 24 ∧ Box W (w.heap.size + 1 + 1) #[.int .i64 0, .int .i64 0, .slice none 0 0, .slice none 0 0] 24 ∧ Below w.heap.size w W ∧ Box W Q9 #[.int .i64 0, .int .i64 0, .slice none 0 0, .slice none 0 0] 24 ∧ W.ownsRow w.heap.size 3 1 (.slice s1 a.st.length d1) a.st.length (a.st.map (Value.int .i64)) ∧ W.ownsRow w.heap.size 3 1 (.slice s2 a.fo.length d2) a.fo.length (a.fo.map (Value.int .i64)) ∧ W.ownsRow w.heap.size 3 1 (.slice s3 a.st.length d3) a.st.length (a.st.map (Value.int .i64)) ∧ W.ownsRow w.heap.size 3 1 (.slice s4 a.fo.length d4) a.fo.length (a.fo.map (Value.int .i64)) ∧ True) ⟨BX.out.alloc _, B6.out.alloc _, B7.out.alloc _, HB.out.alloc HB.out.size _, Box.at _ _ hQ9, O1.out.alloc _, O2.out.alloc _, O3.out.alloc _, O4.out.alloc _, trivial⟩ ?_
        clear hQ9
        clear hS BX B6 B7 HB O1 O2 O3 O4 
        rintro wc ⟨bx, b6, b7, hbW, b10, o1, o2, o3, o4, -⟩
        have BX := hid bx; have B6 := hid b6; have B7 := hid b7; have HB := hid hbW; have B10 := hid b10; have O1 := hid o1; have O2 := hid o2; have O3 := hid o3; have O4 := hid o4; have hS := hid (box_four bx).1
        clear bx b6 b7 hbW b10 o1 o2 o3 o4 
        refine wpAnyF_one (i := 4) rfl ⟨by kernel_rfl, by kernel_rfl⟩ ?_
        intro K hK
        go_simp
        refine shutS hK (box_four (BX.out.alloc _)).1 (fun hS => ?_)
        obtain ⟨P9, hP9⟩ : ∃ P, P = wc.heap.size := ⟨_, rfl⟩
        have nP9 : w.heap.size + 1 + 1 < P9 := by have := B7.out.lt; omega
        have nPQ : P9 ≠ Q9 := by have := B10.out.lt; omega
        rw [← hP9]
        refine any_world (fun W => Box W w.heap.size #[.int .i64 a.id, .int .i64 a.hs, .slice sa a.st.length sc, .slice fa a.fo.length fc] 24 ∧ Box W (w.heap.size + 1) #[.int .i64 0, .int .i64 0, .slice none 0 0, .slice none 0 0] 24 ∧ Box W (w.heap.size + 1 + 1) #[.int .i64 0, .int .i64 0, .slice none 0 0, .slice none 0 0] 24 ∧ Below w.heap.size w W ∧ Box W P9 #[.int .i64 0, .int .i64 0, .slice none 0 0, .slice none 0 0] 24 ∧ Box W Q9 #[.int .i64 0, .int .i64 0, .slice none 0 0, .slice none 0 0] 24 ∧ W.ownsRow w.heap.size 3 1 (.slice s1 a.st.length d1) a.st.length (a.st.map (Value.int .i64)) ∧ W.ownsRow w.heap.size 3 1 (.slice s2 a.fo.length d2) a.fo.length (a.fo.map (Value.int .i64)) ∧ W.ownsRow w.heap.size 3 1 (.slice s3 a.st.length d3) a.st.length (a.st.map (Value.int .i64)) ∧ W.ownsRow w.heap.size 3 1 (.slice s4 a.fo.length d4) a.fo.length (a.fo.map (Value.int .i64)) ∧ True) ⟨BX.out.alloc _, B6.out.alloc _, B7.out.alloc _, HB.out.alloc HB.out.size _, Box.at _ _ hP9, B10.out.alloc _, O1.out.alloc _, O2.out.alloc _, O3.out.alloc _, O4.out.alloc _, trivial⟩ ?_
        clear hP9
        clear hS BX B6 B7 HB B10 O1 O2 O3 O4 
        rintro wc ⟨bx, b6, b7, hbW, b9, b10, o1, o2, o3, o4, -⟩
        have BX := hid bx; have B6 := hid b6; have B7 := hid b7; have HB := hid hbW; have B9 := hid b9; have B10 := hid b10; have O1 := hid o1; have O2 := hid o2; have O3 := hid o3; have O4 := hid o4; have hS := hid (box_four bx).1
        clear bx b6 b7 hbW b9 b10 o1 o2 o3 o4 
        refine wpAnyF_one (i := 6) rfl ⟨by kernel_rfl, by kernel_rfl⟩ ?_
        intro K hK
        obtain ⟨⟨c60, c61, c62, c63⟩, ⟨k60, k61, k62, k63⟩, l6⟩ := box_four B9.out
        go_simp
        refine shutN hK (by kernel_rfl) ?_
        have hs9 : w.heap.size ≤ P9 := by omega
        refine any_world (fun W => Box W (w.heap.size + 1) #[.int .i64 0, .int .i64 0, .slice none 0 0, .slice none 0 0] 24 ∧ Box W (w.heap.size + 1 + 1) #[.int .i64 0, .int .i64 0, .slice none 0 0, .slice none 0 0] 24 ∧ Below w.heap.size w W ∧ Box W P9 #[.int .i64 a.id, .int .i64 a.hs, .slice s1 a.st.length d1, .slice s2 a.fo.length d2] 24 ∧ Box W Q9 #[.int .i64 0, .int .i64 0, .slice none 0 0, .slice none 0 0] 24 ∧ W.ownsRow w.heap.size 3 1 (.slice s1 a.st.length d1) a.st.length (a.st.map (Value.int .i64)) ∧ W.ownsRow w.heap.size 3 1 (.slice s2 a.fo.length d2) a.fo.length (a.fo.map (Value.int .i64)) ∧ W.ownsRow w.heap.size 3 1 (.slice s3 a.st.length d3) a.st.length (a.st.map (Value.int .i64)) ∧ W.ownsRow w.heap.size 3 1 (.slice s4 a.fo.length d4) a.fo.length (a.fo.map (Value.int .i64))) ⟨box_oth4 B6.out (by omega) _ _ _ _, box_oth4 B7.out (by omega) _ _ _ _, (((HB.out.setCell (p := ⟨P9, 0, none⟩) hs9 _).setCell (p := ⟨P9, 1, none⟩) hs9 _).setCell (p := ⟨P9, 2, none⟩) hs9 _).setCell (p := ⟨P9, 3, none⟩) hs9 _, box_put4 _ _ _ _ B9.out, box_oth4 B10.out (by omega) _ _ _ _, own_keep4 O1.out (own_ne O1.out B9.out), own_keep4 O2.out (own_ne O2.out B9.out), own_keep4 O3.out (own_ne O3.out B9.out), own_keep4 O4.out (own_ne O4.out B9.out)⟩ ?_
        clear hS BX B6 B7 HB B9 B10 O1 O2 O3 O4 c60 c61 c62 c63 k60 k61 k62 k63 l6 hs9
        rintro wc ⟨b6, b7, hbW, b9, b10, o1, o2, o3, o4⟩
        have B6 := hid b6; have B7 := hid b7; have HB := hid hbW; have B9 := hid b9; have B10 := hid b10; have O1 := hid o1; have O2 := hid o2; have O3 := hid o3; have O4 := hid o4
        clear b6 b7 hbW b9 b10 o1 o2 o3 o4
        refine wpAnyF_one (i := 7) rfl ⟨by kernel_rfl, by kernel_rfl⟩ ?_
        intro K hK
        obtain ⟨⟨c60, c61, c62, c63⟩, ⟨k60, k61, k62, k63⟩, l6⟩ := box_four B10.out
        go_simp
        refine shutN hK (by kernel_rfl) ?_
        refine wpAnyF_done (by kernel_rfl) ?_ _
        have hs9 : w.heap.size ≤ Q9 := by omega
        unfold NormP Two; refine acts_of rfl ?_
        exact ⟨P9, Q9, s1, d1, s2, d2, s3, d3, s4, d4, rfl, rfl, rfl, rfl, rfl, rfl, nP9, nQ9, by omega, box_oth4 B6.out (by omega) _ _ _ _, box_oth4 B7.out (by omega) _ _ _ _, (((HB.out.setCell (p := ⟨Q9, 0, none⟩) hs9 _).setCell (p := ⟨Q9, 1, none⟩) hs9 _).setCell (p := ⟨Q9, 2, none⟩) hs9 _).setCell (p := ⟨Q9, 3, none⟩) hs9 _, box_oth4 B9.out (by omega) _ _ _ _, box_put4 _ _ _ _ B10.out, own_keep4 O1.out (own_ne O1.out B10.out), own_keep4 O2.out (own_ne O2.out B10.out), own_keep4 O3.out (own_ne O3.out B10.out), own_keep4 O4.out (own_ne O4.out B10.out)⟩
    ·
      intro K hK
      go_simp
      refine shutS hK (box_four (BX.out.alloc _)).1 (fun hS => ?_)
      obtain ⟨P9, hP9⟩ : ∃ P, P = wc.heap.size := ⟨_, rfl⟩
      have nP9 : w.heap.size + 1 + 1 < P9 := by have := B7.out.lt; omega
      
      rw [← hP9]
      refine any_world (fun W => Box W w.heap.size #[.int .i64 a.id, .int .i64 a.hs, .slice sa a.st.length sc, .slice fa a.fo.length fc] 24 ∧ Box W (w.heap.size + 1) #[.int .i64 0, .int .i64 0, .slice none 0 0, .slice none 0 0] 24 ∧ Box W (w.heap.size + 1 + 1) #[.int .i64 0, .int .i64 0, .slice none 0 0, .slice none 0 0] 24 ∧ Below w.heap.size w W ∧ Box W P9 #[.int .i64 0, .int .i64 0, .slice none 0 0, .slice none 0 0] 24 ∧ W.ownsRow w.heap.size 3 1 (.slice s1 a.st.length d1) a.st.length (a.st.map (Value.int .i64)) ∧ W.ownsRow w.heap.size 3 1 (.slice s2 a.fo.length d2) a.fo.length (a.fo.map (Value.int .i64)) ∧ True) ⟨BX.out.alloc _, B6.out.alloc _, B7.out.alloc _, HB.out.alloc HB.out.size _, Box.at _ _ hP9, O1.out.alloc _, O2.out.alloc _, trivial⟩ ?_
      clear hP9
      clear hS BX B6 B7 HB O1 O2 
      rintro wc ⟨bx, b6, b7, hbW, b9, o1, o2, -⟩
      have BX := hid bx; have B6 := hid b6; have B7 := hid b7; have HB := hid hbW; have B9 := hid b9; have O1 := hid o1; have O2 := hid o2; have hS := hid (box_four bx).1
      clear bx b6 b7 hbW b9 o1 o2 
      refine wpAnyF_two (i := 3) (j := 5) rfl rfl ⟨by kernel_rfl, by kernel_rfl, by kernel_rfl⟩ ?_ ?_
      ·
        intro K hK
        go_simp
        refine (twin_any a.id a.hs a.st a.fo sa fa sc fc wc (by omega) (by omega) (H1.out.below HB.out) (H2.out.below HB.out)).mono ?_
        rintro e w2 ⟨v, rfl, hb2, s3, d3, s4, d4, rfl, o3, o4, -⟩
        have O3 := hid (own_base o3 HB.out.size); have O4 := hid (own_base o4 HB.out.size)
        clear o3 o4
        dsimp only at O3 O4 ⊢
        refine shutN hK (by kernel_rfl) ?_
        refine any_world (fun W => Box W w.heap.size #[.int .i64 a.id, .int .i64 a.hs, .slice sa a.st.length sc, .slice fa a.fo.length fc] 24 ∧ Box W (w.heap.size + 1) #[.int .i64 0, .int .i64 0, .slice none 0 0, .slice none 0 0] 24 ∧ Box W (w.heap.size + 1 + 1) #[.int .i64 0, .int .i64 0, .slice none 0 0, .slice none 0 0] 24 ∧ Below w.heap.size w W ∧ Box W P9 #[.int .i64 0, .int .i64 0, .slice none 0 0, .slice none 0 0] 24 ∧ W.ownsRow w.heap.size 3 1 (.slice s1 a.st.length d1) a.st.length (a.st.map (Value.int .i64)) ∧ W.ownsRow w.heap.size 3 1 (.slice s2 a.fo.length d2) a.fo.length (a.fo.map (Value.int .i64)) ∧ W.ownsRow w.heap.size 3 1 (.slice s3 a.st.length d3) a.st.length (a.st.map (Value.int .i64)) ∧ W.ownsRow w.heap.size 3 1 (.slice s4 a.fo.length d4) a.fo.length (a.fo.map (Value.int .i64)) ∧ True) ⟨BX.out.below hb2 BX.out.lt, B6.out.below hb2 B6.out.lt, B7.out.below hb2 B7.out.lt, HB.out.trans (hb2.mono HB.out.size), B9.out.below hb2 B9.out.lt, own_below O1.out hb2 (Nat.le_refl _), own_below O2.out hb2 (Nat.le_refl _), O3.out, O4.out, trivial⟩ ?_
        clear hS BX B6 B7 HB B9 O1 O2 O3 O4  hb2
        rintro wc ⟨bx, b6, b7, hbW, b9, o1, o2, o3, o4, -⟩
        have BX := hid bx; have B6 := hid b6; have B7 := hid b7; have HB := hid hbW; have B9 := hid b9; have O1 := hid o1; have O2 := hid o2; have O3 := hid o3; have O4 := hid o4; have hS := hid (box_four bx).1
        clear bx b6 b7 hbW b9 o1 o2 o3 o4 
        refine wpAnyF_one (i := 5) rfl ⟨by kernel_rfl, by kernel_rfl⟩ ?_
        intro K hK
        go_simp
        refine shutS hK (box_four (BX.out.alloc _)).1 (fun hS => ?_)
        obtain ⟨Q9, hQ9⟩ : ∃ P, P = wc.heap.size := ⟨_, rfl⟩
        have nQ9 : w.heap.size + 1 + 1 < Q9 := by have := B7.out.lt; omega
        have nPQ : Q9 ≠ P9 := by have := B9.out.lt; omega
        rw [← hQ9]
        refine any_world (fun W => Box W w.heap.size #[.int .i64 a.id, .int .i64 a.hs, .slice sa a.st.length sc, .slice fa a.fo.length fc] 24 ∧ Box W (w.heap.size + 1) #[.int .i64 0, .int .i64 0, .slice none 0 0, .slice none 0 0] 24 ∧ Box W (w.heap.size + 1 + 1) #[.int .i64 0, .int .i64 0, .slice none 0 0, .slice none 0 0] 24 ∧ Below w.heap.size w W ∧ Box W P9 #[.int .i64 0, .int .i64 0, .slice none 0 0, .slice none 0 0] 24 ∧ Box W Q9 #[.int .i64 0, .int .i64 0, .slice none 0 0, .slice none 0 0] 24 ∧ W.ownsRow w.heap.size 3 1 (.slice s1 a.st.length d1) a.st.length (a.st.map (Value.int .i64)) ∧ W.ownsRow w.heap.size 3 1 (.slice s2 a.fo.length d2) a.fo.length (a.fo.map (Value.int .i64)) ∧ W.ownsRow w.heap.size 3 1 (.slice s3 a.st.length d3) a.st.length (a.st.map (Value.int .i64)) ∧ W.ownsRow w.heap.size 3 1 (.slice s4 a.fo.length d4) a.fo.length (a.fo.map (Value.int .i64)) ∧ True) ⟨BX.out.alloc _, B6.out.alloc _, B7.out.alloc _, HB.out.alloc HB.out.size _, B9.out.alloc _, Box.at _ _ hQ9, O1.out.alloc _, O2.out.alloc _, O3.out.alloc _, O4.out.alloc _, trivial⟩ ?_
        clear hQ9
        clear hS BX B6 B7 HB B9 O1 O2 O3 O4 
        rintro wc ⟨bx, b6, b7, hbW, b9, b10, o1, o2, o3, o4, -⟩
        have BX := hid bx; have B6 := hid b6; have B7 := hid b7; have HB := hid hbW; have B9 := hid b9; have B10 := hid b10; have O1 := hid o1; have O2 := hid o2; have O3 := hid o3; have O4 := hid o4; have hS := hid (box_four bx).1
        clear bx b6 b7 hbW b9 b10 o1 o2 o3 o4 
        refine wpAnyF_one (i := 6) rfl ⟨by kernel_rfl, by kernel_rfl⟩ ?_
        intro K hK
        obtain ⟨⟨c60, c61, c62, c63⟩, ⟨k60, k61, k62, k63⟩, l6⟩ := box_four B9.out
        go_simp
        refine shutN hK (by kernel_rfl) ?_
        have hs9 : w.heap.size ≤ P9 := by omega
        refine any_world (fun W => Box W (w.heap.size + 1) #[.int .i64 0, .int .i64 0, .slice none 0 0, .slice none 0 0] 24 ∧ Box W (w.heap.size + 1 + 1) #[.int .i64 0, .int .i64 0, .slice none 0 0, .slice none 0 0] 24 ∧ Below w.heap.size w W ∧ Box W P9 #[.int .i64 a.id, .int .i64 a.hs, .slice s1 a.st.length d1, .slice s2 a.fo.length d2] 24 ∧ Box W Q9 #[.int .i64 0, .int .i64 0, .slice none 0 0, .slice none 0 0] 24 ∧ W.ownsRow w.heap.size 3 1 (.slice s1 a.st.length d1) a.st.length (a.st.map (Value.int .i64)) ∧ W.ownsRow w.heap.size 3 1 (.slice s2 a.fo.length d2) a.fo.length (a.fo.map (Value.int .i64)) ∧ W.ownsRow w.heap.size 3 1 (.slice s3 a.st.length d3) a.st.length (a.st.map (Value.int .i64)) ∧ W.ownsRow w.heap.size 3 1 (.slice s4 a.fo.length d4) a.fo.length (a.fo.map (Value.int .i64))) ⟨box_oth4 B6.out (by omega) _ _ _ _, box_oth4 B7.out (by omega) _ _ _ _, (((HB.out.setCell (p := ⟨P9, 0, none⟩) hs9 _).setCell (p := ⟨P9, 1, none⟩) hs9 _).setCell (p := ⟨P9, 2, none⟩) hs9 _).setCell (p := ⟨P9, 3, none⟩) hs9 _, box_put4 _ _ _ _ B9.out, box_oth4 B10.out (by omega) _ _ _ _, own_keep4 O1.out (own_ne O1.out B9.out), own_keep4 O2.out (own_ne O2.out B9.out), own_keep4 O3.out (own_ne O3.out B9.out), own_keep4 O4.out (own_ne O4.out B9.out)⟩ ?_
        clear hS BX B6 B7 HB B9 B10 O1 O2 O3 O4 c60 c61 c62 c63 k60 k61 k62 k63 l6 hs9
        rintro wc ⟨b6, b7, hbW, b9, b10, o1, o2, o3, o4⟩
        have B6 := hid b6; have B7 := hid b7; have HB := hid hbW; have B9 := hid b9; have B10 := hid b10; have O1 := hid o1; have O2 := hid o2; have O3 := hid o3; have O4 := hid o4
        clear b6 b7 hbW b9 b10 o1 o2 o3 o4
        refine wpAnyF_one (i := 7) rfl ⟨by kernel_rfl, by kernel_rfl⟩ ?_
        intro K hK
        obtain ⟨⟨c60, c61, c62, c63⟩, ⟨k60, k61, k62, k63⟩, l6⟩ := box_four B10.out
        go_simp
        refine shutN hK (by kernel_rfl) ?_
        refine wpAnyF_done (by kernel_rfl) ?_ _
        have hs9 : w.heap.size ≤ Q9 := by omega
        unfold NormP Two; refine acts_of rfl ?_
        exact ⟨P9, Q9, s1, d1, s2, d2, s3, d3, s4, d4, rfl, rfl, rfl, rfl, rfl, rfl, nP9, nQ9, by omega, box_oth4 B6.out (by omega) _ _ _ _, box_oth4 B7.out (by omega) _ _ _ _, (((HB.out.setCell (p := ⟨Q9, 0, none⟩) hs9 _).setCell (p := ⟨Q9, 1, none⟩) hs9 _).setCell (p := ⟨Q9, 2, none⟩) hs9 _).setCell (p := ⟨Q9, 3, none⟩) hs9 _, box_oth4 B9.out (by omega) _ _ _ _, box_put4 _ _ _ _ B10.out, own_keep4 O1.out (own_ne O1.out B10.out), own_keep4 O2.out (own_ne O2.out B10.out), own_keep4 O3.out (own_ne O3.out B10.out), own_keep4 O4.out (own_ne O4.out B10.out)⟩
      ·
        intro K hK
        go_simp
        refine shutS hK (box_four (BX.out.alloc _)).1 (fun hS => ?_)
        obtain ⟨Q9, hQ9⟩ : ∃ P, P = wc.heap.size := ⟨_, rfl⟩
        have nQ9 : w.heap.size + 1 + 1 < Q9 := by have := B7.out.lt; omega
        have nPQ : Q9 ≠ P9 := by have := B9.out.lt; omega
        rw [← hQ9]
        refine any_world (fun W => Box W w.heap.size #[.int .i64 a.id, .int .i64 a.hs, .slice sa a.st.length sc, .slice fa a.fo.length fc] 24 ∧ Box W (w.heap.size + 1) #[.int .i64 0, .int .i64 0, .slice none 0 0, .slice none 0 0] 24 ∧ Box W (w.heap.size + 1 + 1) #[.int .i64 0, .int .i64 0, .slice none 0 0, .slice none 0 0] 24 ∧ Below w.heap.size w W ∧ Box W P9 #[.int .i64 0, .int .i64 0, .slice none 0 0, .slice none 0 0] 24 ∧ Box W Q9 #[.int .i64 0, .int .i64 0, .slice none 0 0, .slice none 0 0] 24 ∧ W.ownsRow w.heap.size 3 1 (.slice s1 a.st.length d1) a.st.length (a.st.map (Value.int .i64)) ∧ W.ownsRow w.heap.size 3 1 (.slice s2 a.fo.length d2) a.fo.length (a.fo.map (Value.int .i64)) ∧ True) ⟨BX.out.alloc _, B6.out.alloc _, B7.out.alloc _, HB.out.alloc HB.out.size _, B9.out.alloc _, Box.at _ _ hQ9, O1.out.alloc _, O2.out.alloc _, trivial⟩ ?_
        clear hQ9
        clear hS BX B6 B7 HB B9 O1 O2 
        rintro wc ⟨bx, b6, b7, hbW, b9, b10, o1, o2, -⟩
        have BX := hid bx; have B6 := hid b6; have B7 := hid b7; have HB := hid hbW; have B9 := hid b9; have B10 := hid b10; have O1 := hid o1; have O2 := hid o2; have hS := hid (box_four bx).1
        clear bx b6 b7 hbW b9 b10 o1 o2 
        refine wpAnyF_one (i := 3) rfl ⟨by kernel_rfl, by kernel_rfl⟩ ?_
        intro K hK
        go_simp
        refine (twin_any a.id a.hs a.st a.fo sa fa sc fc wc (by omega) (by omega) (H1.out.below HB.out) (H2.out.below HB.out)).mono ?_
        rintro e w2 ⟨v, rfl, hb2, s3, d3, s4, d4, rfl, o3, o4, -⟩
        have O3 := hid (own_base o3 HB.out.size); have O4 := hid (own_base o4 HB.out.size)
        clear o3 o4
        dsimp only at O3 O4 ⊢
        refine shutN hK (by kernel_rfl) ?_
        refine any_world (fun W => Box W w.heap.size #[.int .i64 a.id, .int .i64 a.hs, .slice sa a.st.length sc, .slice fa a.fo.length fc] 24 ∧ Box W (w.heap.size + 1) #[.int .i64 0, .int .i64 0, .slice none 0 0, .slice none 0 0] 24 ∧ Box W (w.heap.size + 1 + 1) #[.int .i64 0, .int .i64 0, .slice none 0 0, .slice none 0 0] 24 ∧ Below w.heap.size w W ∧ Box W P9 #[.int .i64 0, .int .i64 0, .slice none 0 0, .slice none 0 0] 24 ∧ Box W Q9 #[.int .i64 0, .int .i64 0, .slice none 0 0, .slice none 0 0] 24 ∧ W.ownsRow w.heap.size 3 1 (.slice s1 a.st.length d1) a.st.length (a.st.map (Value.int .i64)) ∧ W.ownsRow w.heap.size 3 1 (.slice s2 a.fo.length d2) a.fo.length (a.fo.map (Value.int .i64)) ∧ W.ownsRow w.heap.size 3 1 (.slice s3 a.st.length d3) a.st.length (a.st.map (Value.int .i64)) ∧ W.ownsRow w.heap.size 3 1 (.slice s4 a.fo.length d4) a.fo.length (a.fo.map (Value.int .i64)) ∧ True) ⟨BX.out.below hb2 BX.out.lt, B6.out.below hb2 B6.out.lt, B7.out.below hb2 B7.out.lt, HB.out.trans (hb2.mono HB.out.size), B9.out.below hb2 B9.out.lt, B10.out.below hb2 B10.out.lt, own_below O1.out hb2 (Nat.le_refl _), own_below O2.out hb2 (Nat.le_refl _), O3.out, O4.out, trivial⟩ ?_
        clear hS BX B6 B7 HB B9 B10 O1 O2 O3 O4  hb2
        rintro wc ⟨bx, b6, b7, hbW, b9, b10, o1, o2, o3, o4, -⟩
        have BX := hid bx; have B6 := hid b6; have B7 := hid b7; have HB := hid hbW; have B9 := hid b9; have B10 := hid b10; have O1 := hid o1; have O2 := hid o2; have O3 := hid o3; have O4 := hid o4; have hS := hid (box_four bx).1
        clear bx b6 b7 hbW b9 b10 o1 o2 o3 o4 
        refine wpAnyF_one (i := 6) rfl ⟨by kernel_rfl, by kernel_rfl⟩ ?_
        intro K hK
        obtain ⟨⟨c60, c61, c62, c63⟩, ⟨k60, k61, k62, k63⟩, l6⟩ := box_four B9.out
        go_simp
        refine shutN hK (by kernel_rfl) ?_
        have hs9 : w.heap.size ≤ P9 := by omega
        refine any_world (fun W => Box W (w.heap.size + 1) #[.int .i64 0, .int .i64 0, .slice none 0 0, .slice none 0 0] 24 ∧ Box W (w.heap.size + 1 + 1) #[.int .i64 0, .int .i64 0, .slice none 0 0, .slice none 0 0] 24 ∧ Below w.heap.size w W ∧ Box W P9 #[.int .i64 a.id, .int .i64 a.hs, .slice s1 a.st.length d1, .slice s2 a.fo.length d2] 24 ∧ Box W Q9 #[.int .i64 0, .int .i64 0, .slice none 0 0, .slice none 0 0] 24 ∧ W.ownsRow w.heap.size 3 1 (.slice s1 a.st.length d1) a.st.length (a.st.map (Value.int .i64)) ∧ W.ownsRow w.heap.size 3 1 (.slice s2 a.fo.length d2) a.fo.length (a.fo.map (Value.int .i64)) ∧ W.ownsRow w.heap.size 3 1 (.slice s3 a.st.length d3) a.st.length (a.st.map (Value.int .i64)) ∧ W.ownsRow w.heap.size 3 1 (.slice s4 a.fo.length d4) a.fo.length (a.fo.map (Value.int .i64))) ⟨box_oth4 B6.out (by omega) _ _ _ _, box_oth4 B7.out (by omega) _ _ _ _, (((HB.out.setCell (p := ⟨P9, 0, none⟩) hs9 _).setCell (p := ⟨P9, 1, none⟩) hs9 _).setCell (p := ⟨P9, 2, none⟩) hs9 _).setCell (p := ⟨P9, 3, none⟩) hs9 _, box_put4 _ _ _ _ B9.out, box_oth4 B10.out (by omega) _ _ _ _, own_keep4 O1.out (own_ne O1.out B9.out), own_keep4 O2.out (own_ne O2.out B9.out), own_keep4 O3.out (own_ne O3.out B9.out), own_keep4 O4.out (own_ne O4.out B9.out)⟩ ?_
        clear hS BX B6 B7 HB B9 B10 O1 O2 O3 O4 c60 c61 c62 c63 k60 k61 k62 k63 l6 hs9
        rintro wc ⟨b6, b7, hbW, b9, b10, o1, o2, o3, o4⟩
        have B6 := hid b6; have B7 := hid b7; have HB := hid hbW; have B9 := hid b9; have B10 := hid b10; have O1 := hid o1; have O2 := hid o2; have O3 := hid o3; have O4 := hid o4
        clear b6 b7 hbW b9 b10 o1 o2 o3 o4
        refine wpAnyF_one (i := 7) rfl ⟨by kernel_rfl, by kernel_rfl⟩ ?_
        intro K hK
        obtain ⟨⟨c60, c61, c62, c63⟩, ⟨k60, k61, k62, k63⟩, l6⟩ := box_four B10.out
        go_simp
        refine shutN hK (by kernel_rfl) ?_
        refine wpAnyF_done (by kernel_rfl) ?_ _
        have hs9 : w.heap.size ≤ Q9 := by omega
        unfold NormP Two; refine acts_of rfl ?_
        exact ⟨P9, Q9, s1, d1, s2, d2, s3, d3, s4, d4, rfl, rfl, rfl, rfl, rfl, rfl, nP9, nQ9, by omega, box_oth4 B6.out (by omega) _ _ _ _, box_oth4 B7.out (by omega) _ _ _ _, (((HB.out.setCell (p := ⟨Q9, 0, none⟩) hs9 _).setCell (p := ⟨Q9, 1, none⟩) hs9 _).setCell (p := ⟨Q9, 2, none⟩) hs9 _).setCell (p := ⟨Q9, 3, none⟩) hs9 _, box_oth4 B9.out (by omega) _ _ _ _, box_put4 _ _ _ _ B10.out, own_keep4 O1.out (own_ne O1.out B10.out), own_keep4 O2.out (own_ne O2.out B10.out), own_keep4 O3.out (own_ne O3.out B10.out), own_keep4 O4.out (own_ne O4.out B10.out)⟩
    ·
      intro K hK
      go_simp
      refine shutS hK (box_four (BX.out.alloc _)).1 (fun hS => ?_)
      obtain ⟨Q9, hQ9⟩ : ∃ P, P = wc.heap.size := ⟨_, rfl⟩
      have nQ9 : w.heap.size + 1 + 1 < Q9 := by have := B7.out.lt; omega
      
      rw [← hQ9]
      refine any_world (fun W => Box W w.heap.size #[.int .i64 a.id, .int .i64 a.hs, .slice sa a.st.length sc, .slice fa a.fo.length fc] 24 ∧ Box W (w.heap.size + 1) #[.int .i64 0, .int .i64 0, .slice none 0 0, .slice none 0 0] 24 ∧ Box W (w.heap.size + 1 + 1) #[.int .i64 0, .int .i64 0, .slice none 0 0, .slice none 0 0] 24 ∧ Below w.heap.size w W ∧ Box W Q9 #[.int .i64 0, .int .i64 0, .slice none 0 0, .slice none 0 0] 24 ∧ W.ownsRow w.heap.size 3 1 (.slice s1 a.st.length d1) a.st.length (a.st.map (Value.int .i64)) ∧ W.ownsRow w.heap.size 3 1 (.slice s2 a.fo.length d2) a.fo.length (a.fo.map (Value.int .i64)) ∧ True) ⟨BX.out.alloc _, B6.out.alloc _, B7.out.alloc _, HB.out.alloc HB.out.size _, Box.at _ _ hQ9, O1.out.alloc _, O2.out.alloc _, trivial⟩ ?_
      clear hQ9
      clear hS BX B6 B7 HB O1 O2 
      rintro wc ⟨bx, b6, b7, hbW, b10, o1, o2, -⟩
      have BX := hid bx; have B6 := hid b6; have B7 := hid b7; have HB := hid hbW; have B10 := hid b10; have O1 := hid o1; have O2 := hid o2; have hS := hid (box_four bx).1
      clear bx b6 b7 hbW b10 o1 o2 
      refine wpAnyF_two (i := 3) (j := 4) rfl rfl ⟨by kernel_rfl, by kernel_rfl, by kernel_rfl⟩ ?_ ?_
      ·
        intro K hK
        go_simp
        refine (twin_any a.id a.hs a.st a.fo sa fa sc fc wc (by omega) (by omega) (H1.out.below HB.out) (H2.out.below HB.out)).mono ?_
        rintro e w2 ⟨v, rfl, hb2, s3, d3, s4, d4, rfl, o3, o4, -⟩
        have O3 := hid (own_base o3 HB.out.size); have O4 := hid (own_base o4 HB.out.size)
        clear o3 o4
        dsimp only at O3 O4 ⊢
        refine shutN hK (by kernel_rfl) ?_
        refine any_world (fun W => Box W w.heap.size #[.int .i64 a.id, .int .i64 a.hs, .slice sa a.st.length sc, .slice fa a.fo.length fc] 24 ∧ Box W (w.heap.size + 1) #[.int .i64 0, .int .i64 0, .slice none 0 0, .slice none 0 0] 24 ∧ Box W (w.heap.size + 1 + 1) #[.int .i64 0, .int .i64 0, .slice none 0 0, .slice none 0 0] 24 ∧ Below w.heap.size w W ∧ Box W Q9 #[.int .i64 0, .int .i64 0, .slice none 0 0, .slice none 0 0] 24 ∧ W.ownsRow w.heap.size 3 1 (.slice s1 a.st.length d1) a.st.length (a.st.map (Value.int .i64)) ∧ W.ownsRow w.heap.size 3 1 (.slice s2 a.fo.length d2) a.fo.length (a.fo.map (Value.int .i64)) ∧ W.ownsRow w.heap.size 3 1 (.slice s3 a.st.length d3) a.st.length (a.st.map (Value.int .i64)) ∧ W.ownsRow w.heap.size 3 1 (.slice s4 a.fo.length d4) a.fo.length (a.fo.map (Value.int .i64)) ∧ True) ⟨BX.out.below hb2 BX.out.lt, B6.out.below hb2 B6.out.lt, B7.out.below hb2 B7.out.lt, HB.out.trans (hb2.mono HB.out.size), B10.out.below hb2 B10.out.lt, own_below O1.out hb2 (Nat.le_refl _), own_below O2.out hb2 (Nat.le_refl _), O3.out, O4.out, trivial⟩ ?_
        clear hS BX B6 B7 HB B10 O1 O2 O3 O4  hb2
        rintro wc ⟨bx, b6, b7, hbW, b10, o1, o2, o3, o4, -⟩
        have BX := hid bx; have B6 := hid b6; have B7 := hid b7; have HB := hid hbW; have B10 := hid b10; have O1 := hid o1; have O2 := hid o2; have O3 := hid o3; have O4 := hid o4; have hS := hid (box_four bx).1
        clear bx b6 b7 hbW b10 o1 o2 o3 o4 
        refine wpAnyF_one (i := 4) rfl ⟨by kernel_rfl, by kernel_rfl⟩ ?_
        intro K hK
        go_simp
        refine shutS hK (box_four (BX.out.alloc _)).1 (fun hS => ?_)
        obtain ⟨P9, hP9⟩ : ∃ P, P = wc.heap.size := ⟨_, rfl⟩
        have nP9 : w.heap.size + 1 + 1 < P9 := by have := B7.out.lt; omega
        have nPQ : P9 ≠ Q9 := by have := B10.out.lt; omega
        rw [← hP9]
        refine any_world (fun W => Box W w.heap.size #[.int .i64 a.id, .int .i64 a.hs, .slice sa a.st.length sc, .slice fa a.fo.length fc] 24 ∧ Box W (w.heap.size + 1) #[.int .i64 0, .int .i64 0, .slice none 0 0, .slice none 0 0] 24 ∧ Box W (w.heap.size + 1 + 1) #[.int .i64 0, .int .i64 0, .slice none 0 0, .slice none 0 0] 24 ∧ Below w.heap.size w W ∧ Box W P9 #[.int .i64 0, .int .i64 0, .slice none 0 0, .slice none 0 0] 24 ∧ Box W Q9 #[.int .i64 0, .int .i64 0, .slice none 0 0, .slice none 0 0] 24 ∧ W.ownsRow w.heap.size 3 1 (.slice s1 a.st.length d1) a.st.length (a.st.map (Value.int .i64)) ∧ W.ownsRow w.heap.size 3 1 (.slice s2 a.fo.length d2) a.fo.length (a.fo.map (Value.int .i64)) ∧ W.ownsRow w.heap.size 3 1 (.slice s3 a.st.length d3) a.st.length (a.st.map (Value.int .i64)) ∧ W.ownsRow w.heap.size 3 1 (.slice s4 a.fo.length d4) a.fo.length (a.fo.map (Value.int .i64)) ∧ True) ⟨BX.out.alloc _, B6.out.alloc _, B7.out.alloc _, HB.out.alloc HB.out.size _, Box.at _ _ hP9, B10.out.alloc _, O1.out.alloc _, O2.out.alloc _, O3.out.alloc _, O4.out.alloc _, trivial⟩ ?_
        clear hP9
        clear hS BX B6 B7 HB B10 O1 O2 O3 O4 
        rintro wc ⟨bx, b6, b7, hbW, b9, b10, o1, o2, o3, o4, -⟩
        have BX := hid bx; have B6 := hid b6; have B7 := hid b7; have HB := hid hbW; have B9 := hid b9; have B10 := hid b10; have O1 := hid o1; have O2 := hid o2; have O3 := hid o3; have O4 := hid o4; have hS := hid (box_four bx).1
        clear bx b6 b7 hbW b9 b10 o1 o2 o3 o4 
        refine wpAnyF_one (i := 6) rfl ⟨by kernel_rfl, by kernel_rfl⟩ ?_
        intro K hK
        obtain ⟨⟨c60, c61, c62, c63⟩, ⟨k60, k61, k62, k63⟩, l6⟩ := box_four B9.out
        go_simp
        refine shutN hK (by kernel_rfl) ?_
        have hs9 : w.heap.size ≤ P9 := by omega
        refine any_world (fun W => Box W (w.heap.size + 1) #[.int .i64 0, .int .i64 0, .slice none 0 0, .slice none 0 0] 24 ∧ Box W (w.heap.size + 1 + 1) #[.int .i64 0, .int .i64 0, .slice none 0 0, .slice none 0 0] 24 ∧ Below w.heap.size w W ∧ Box W P9 #[.int .i64 a.id, .int .i64 a.hs, .slice s1 a.st.length d1, .slice s2 a.fo.length d2] 24 ∧ Box W Q9 #[.int .i64 0, .int .i64 0, .slice none 0 0, .slice none 0 0] 24 ∧ W.ownsRow w.heap.size 3 1 (.slice s1 a.st.length d1) a.st.length (a.st.map (Value.int .i64)) ∧ W.ownsRow w.heap.size 3 1 (.slice s2 a.fo.length d2) a.fo.length (a.fo.map (Value.int .i64)) ∧ W.ownsRow w.heap.size 3 1 (.slice s3 a.st.length d3) a.st.length (a.st.map (Value.int .i64)) ∧ W.ownsRow w.heap.size 3 1 (.slice s4 a.fo.length d4) a.fo.length (a.fo.map (Value.int .i64))) ⟨box_oth4 B6.out (by omega) _ _ _ _, box_oth4 B7.out (by omega) _ _ _ _, (((HB.out.setCell (p := ⟨P9, 0, none⟩) hs9 _).setCell (p := ⟨P9, 1, none⟩) hs9 _).setCell (p := ⟨P9, 2, none⟩) hs9 _).setCell (p := ⟨P9, 3, none⟩) hs9 _, box_put4 _ _ _ _ B9.out, box_oth4 B10.out (by omega) _ _ _ _, own_keep4 O1.out (own_ne O1.out B9.out), own_keep4 O2.out (own_ne O2.out B9.out), own_keep4 O3.out (own_ne O3.out B9.out), own_keep4 O4.out (own_ne O4.out B9.out)⟩ ?_
        clear hS BX B6 B7 HB B9 B10 O1 O2 O3 O4 c60 c61 c62 c63 k60 k61 k62 k63 l6 hs9
        rintro wc ⟨b6, b7, hbW, b9, b10, o1, o2, o3, o4⟩
        have B6 := hid b6; have B7 := hid b7; have HB := hid hbW; have B9 := hid b9; have B10 := hid b10; have O1 := hid o1; have O2 := hid o2; have O3 := hid o3; have O4 := hid o4
        clear b6 b7 hbW b9 b10 o1 o2 o3 o4
        refine wpAnyF_one (i := 7) rfl ⟨by kernel_rfl, by kernel_rfl⟩ ?_
        intro K hK
        obtain ⟨⟨c60, c61, c62, c63⟩, ⟨k60, k61, k62, k63⟩, l6⟩ := box_four B10.out
        go_simp
        refine shutN hK (by kernel_rfl) ?_
        refine wpAnyF_done (by kernel_rfl) ?_ _
        have hs9 : w.heap.size ≤ Q9 := by omega
        unfold NormP Two; refine acts_of rfl ?_
        exact ⟨P9, Q9, s1, d1, s2, d2, s3, d3, s4, d4, rfl, rfl, rfl, rfl, rfl, rfl, nP9, nQ9, by omega, box_oth4 B6.out (by omega) _ _ _ _, box_oth4 B7.out (by omega) _ _ _ _, (((HB.out.setCell (p := ⟨Q9, 0, none⟩) hs9 _).setCell (p := ⟨Q9, 1, none⟩) hs9 _).setCell (p := ⟨Q9, 2, none⟩) hs9 _).setCell (p := ⟨Q9, 3, none⟩) hs9 _, box_oth4 B9.out (by omega) _ _ _ _, box_put4 _ _ _ _ B10.out, own_keep4 O1.out (own_ne O1.out B10.out), own_keep4 O2.out (own_ne O2.out B10.out), own_keep4 O3.out (own_ne O3.out B10.out), own_keep4 O4.out (own_ne O4.out B10.out)⟩
      ·
        intro K hK
        go_simp
        refine shutS hK (box_four (BX.out.alloc _)).1 (fun hS => ?_)
        obtain ⟨P9, hP9⟩ : ∃ P, P = wc.heap.size := ⟨_, rfl⟩
        have nP9 : w.heap.size + 1 + 1 < P9 := by have := B7.out.lt; omega
        have nPQ : P9 ≠ Q9 := by have := B10.out.lt; omega
        rw [← hP9]
        refine any_world (fun W => Box W w.heap.size #[.int .i64 a.id, .int .i64 a.hs, .slice sa a.st.length sc, .slice fa a.fo.length fc] 24 ∧ Box W (w.heap.size + 1) #[.int .i64 0, .int .i64 0, .slice none 0 0, .slice none 0 0] 24 ∧ Box W (w.heap.size + 1 + 1) #[.int .i64 0, .int .i64 0, .slice none 0 0, .slice none 0 0] 24 ∧ Below w.heap.size w W ∧ Box W P9 #[.int .i64 0, .int .i64 0, .slice none 0 0, .slice none 0 0] 24 ∧ Box W Q9 #[.int .i64 0, .int .i64 0, .slice none 0 0, .slice none 0 0] 24 ∧ W.ownsRow w.heap.size 3 1 (.slice s1 a.st.length d1) a.st.length (a.st.map (Value.int .i64)) ∧ W.ownsRow w.heap.size 3 1 (.slice s2 a.fo.length d2) a.fo.length (a.fo.map (Value.int .i64)) ∧ True) ⟨BX.out.alloc _, B6.out.alloc _, B7.out.alloc _, HB.out.alloc HB.out.size _, Box.at _ _ hP9, B10.out.alloc _, O1.out.alloc _, O2.out.alloc _, trivial⟩ ?_
        clear hP9
        clear hS BX B6 B7 HB B10 O1 O2 
        rintro wc ⟨bx, b6, b7, hbW, b9, b10, o1, o2, -⟩
        have BX := hid bx; have B6 := hid b6; have B7 := hid b7; have HB := hid hbW; have B9 := hid b9; have B10 := hid b10; have O1 := hid o1; have O2 := hid o2; have hS := hid (box_four bx).1
        clear bx b6 b7 hbW b9 b10 o1 o2 
        refine wpAnyF_one (i := 3) rfl ⟨by kernel_rfl, by kernel_rfl⟩ ?_
        intro K hK
        go_simp
        refine (twin_any a.id a.hs a.st a.fo sa fa sc fc wc (by omega) (by omega) (H1.out.below HB.out) (H2.out.below HB.out)).mono ?_
        rintro e w2 ⟨v, rfl, hb2, s3, d3, s4, d4, rfl, o3, o4, -⟩
        have O3 := hid (own_base o3 HB.out.size); have O4 := hid (own_base o4 HB.out.size)
        clear o3 o4
        dsimp only at O3 O4 ⊢
        refine shutN hK (by kernel_rfl) ?_
        refine any_world (fun W => Box W w.heap.size #[.int .i64 a.id, .int .i64 a.hs, .slice sa a.st.length sc, .slice fa a.fo.length fc] 24 ∧ Box W (w.heap.size + 1) #[.int .i64 0, .int .i64 0, .slice none 0 0, .slice none 0 0] 24 ∧ Box W (w.heap.size + 1 + 1) #[.int .i64 0, .int .i64 0, .slice none 0 0, .slice none 0 0] 24 ∧ Below w.heap.size w W ∧ Box W P9 #[.int .i64 0, .int .i64 0, .slice none 0 0, .slice none 0 0] 24 ∧ Box W Q9 #[.int .i64 0, .int .i64 0, .slice none 0 0, .slice none 0 0] 24 ∧ W.ownsRow w.heap.size 3 1 (.slice s1 a.st.length d1) a.st.length (a.st.map (Value.int .i64)) ∧ W.ownsRow w.heap.size 3 1 (.slice s2 a.fo.length d2) a.fo.length (a.fo.map (Value.int .i64)) ∧ W.ownsRow w.heap.size 3 1 (.slice s3 a.st.length d3) a.st.length (a.st.map (Value.int .i64)) ∧ W.ownsRow w.heap.size 3 1 (.slice s4 a.fo.length d4) a.fo.length (a.fo.map (Value.int .i64)) ∧ True) ⟨BX.out.below hb2 BX.out.lt, B6.out.below hb2 B6.out.lt, B7.out.below hb2 B7.out.lt, HB.out.trans (hb2.mono HB.out.size), B9.out.below hb2 B9.out.lt, B10.out.below hb2 B10.out.lt, own_below O1.out hb2 (Nat.le_refl _), own_below O2.out hb2 (Nat.le_refl _), O3.out, O4.out, trivial⟩ ?_
        clear hS BX B6 B7 HB B9 B10 O1 O2 O3 O4  hb2
        rintro wc ⟨bx, b6, b7, hbW, b9, b10, o1, o2, o3, o4, -⟩
        have BX := hid bx; have B6 := hid b6; have B7 := hid b7; have HB := hid hbW; have B9 := hid b9; have B10 := hid b10; have O1 := hid o1; have O2 := hid o2; have O3 := hid o3; have O4 := hid o4; have hS := hid (box_four bx).1
        clear bx b6 b7 hbW b9 b10 o1 o2 o3 o4 
        refine wpAnyF_one (i := 6) rfl ⟨by kernel_rfl, by kernel_rfl⟩ ?_
        intro K hK
        obtain ⟨⟨c60, c61, c62, c63⟩, ⟨k60, k61, k62, k63⟩, l6⟩ := box_four B9.out
        go_simp
        refine shutN hK (by kernel_rfl) ?_
        have hs9 : w.heap.size ≤ P9 := by omega
        refine any_world (fun W => Box W (w.heap.size + 1) #[.int .i64 0, .int .i64 0, .slice none 0 0, .slice none 0 0] 24 ∧ Box W (w.heap.size + 1 + 1) #[.int .i64 0, .int .i64 0, .slice none 0 0, .slice none 0 0] 24 ∧ Below w.heap.size w W ∧ Box W P9 #[.int .i64 a.id, .int .i64 a.hs, .slice s1 a.st.length d1, .slice s2 a.fo.length d2] 24 ∧ Box W Q9 #[.int .i64 0, .int .i64 0, .slice none 0 0, .slice none 0 0] 24 ∧ W.ownsRow w.heap.size 3 1 (.slice s1 a.st.length d1) a.st.length (a.st.map (Value.int .i64)) ∧ W.ownsRow w.heap.size 3 1 (.slice s2 a.fo.length d2) a.fo.length (a.fo.map (Value.int .i64)) ∧ W.ownsRow w.heap.size 3 1 (.slice s3 a.st.length d3) a.st.length (a.st.map (Value.int .i64)) ∧ W.ownsRow w.heap.size 3 1 (.slice s4 a.fo.length d4) a.fo.length (a.fo.map (Value.int .i64))) ⟨box_oth4 B6.out (by omega) _ _ _ _, box_oth4 B7.out (by omega) _ _ _ _, (((HB.out.setCell (p := ⟨P9, 0, none⟩) hs9 _).setCell (p := ⟨P9, 1, none⟩) hs9 _).setCell (p := ⟨P9, 2, none⟩) hs9 _).setCell (p := ⟨P9, 3, none⟩) hs9 _, box_put4 _ _ _ _ B9.out, box_oth4 B10.out (by omega) _ _ _ _, own_keep4 O1.out (own_ne O1.out B9.out), own_keep4 O2.out (own_ne O2.out B9.out), own_keep4 O3.out (own_ne O3.out B9.out), own_keep4 O4.out (own_ne O4.out B9.out)⟩ ?_
        clear hS BX B6 B7 HB B9 B10 O1 O2 O3 O4 c60 c61 c62 c63 k60 k61 k62 k63 l6 hs9
        rintro wc ⟨b6, b7, hbW, b9, b10, o1, o2, o3, o4⟩
        have B6 := hid b6; have B7 := hid b7; have HB := hid hbW; have B9 := hid b9; have B10 := hid b10; have O1 := hid o1; have O2 := hid o2; have O3 := hid o3; have O4 := hid o4
        clear b6 b7 hbW b9 b10 o1 o2 o3 o4
        refine wpAnyF_one (i := 7) rfl ⟨by kernel_rfl, by kernel_rfl⟩ ?_
        intro K hK
        obtain ⟨⟨c60, c61, c62, c63⟩, ⟨k60, k61, k62, k63⟩, l6⟩ := box_four B10.out
        go_simp
        refine shutN hK (by kernel_rfl) ?_
        refine wpAnyF_done (by kernel_rfl) ?_ _
        have hs9 : w.heap.size ≤ Q9 := by omega
        unfold NormP Two; refine acts_of rfl ?_
        exact ⟨P9, Q9, s1, d1, s2, d2, s3, d3, s4, d4, rfl, rfl, rfl, rfl, rfl, rfl, nP9, nQ9, by omega, box_oth4 B6.out (by omega) _ _ _ _, box_oth4 B7.out (by omega) _ _ _ _, (((HB.out.setCell (p := ⟨Q9, 0, none⟩) hs9 _).setCell (p := ⟨Q9, 1, none⟩) hs9 _).setCell (p := ⟨Q9, 2, none⟩) hs9 _).setCell (p := ⟨Q9, 3, none⟩) hs9 _, box_oth4 B9.out (by omega) _ _ _ _, box_put4 _ _ _ _ B10.out, own_keep4 O1.out (own_ne O1.out B10.out), own_keep4 O2.out (own_ne O2.out B10.out), own_keep4 O3.out (own_ne O3.out B10.out), own_keep4 O4.out (own_ne O4.out B10.out)⟩
  ·
    intro K hK
    go_simp
    refine shutS hK (box_four (BX.out.alloc _)).1 (fun hS => ?_)
    obtain ⟨P9, hP9⟩ : ∃ P, P = wc.heap.size := ⟨_, rfl⟩
    have nP9 : w.heap.size + 1 + 1 < P9 := by have := B7.out.lt; omega
    
    rw [← hP9]
    refine any_world (fun W => Box W w.heap.size #[.int .i64 a.id, .int .i64 a.hs, .slice sa a.st.length sc, .slice fa a.fo.length fc] 24 ∧ Box W (w.heap.size + 1) #[.int .i64 0, .int .i64 0, .slice none 0 0, .slice none 0 0] 24 ∧ Box W (w.heap.size + 1 + 1) #[.int .i64 0, .int .i64 0, .slice none 0 0, .slice none 0 0] 24 ∧ Below w.heap.size w W ∧ Box W P9 #[.int .i64 0, .int .i64 0, .slice none 0 0, .slice none 0 0] 24 ∧ True) ⟨BX.out.alloc _, B6.out.alloc _, B7.out.alloc _, HB.out.alloc HB.out.size _, Box.at _ _ hP9, trivial⟩ ?_
    clear hP9
    clear hS BX B6 B7 HB 
    rintro wc ⟨bx, b6, b7, hbW, b9, -⟩
    have BX := hid bx; have B6 := hid b6; have B7 := hid b7; have HB := hid hbW; have B9 := hid b9; have hS := hid (box_four bx).1
    clear bx b6 b7 hbW b9 
    refine wpAnyF_two (i := 1) (j := 5) rfl rfl ⟨by kernel_rfl, by kernel_rfl, by kernel_rfl⟩ ?_ ?_
    ·
      intro K hK
      go_simp
      refine (twin_any a.id a.hs a.st a.fo sa fa sc fc wc (by omega) (by omega) (H1.out.below HB.out) (H2.out.below HB.out)).mono ?_
      rintro e w2 ⟨v, rfl, hb2, s1, d1, s2, d2, rfl, o1, o2, -⟩
      have O1 := hid (own_base o1 HB.out.size); have O2 := hid (own_base o2 HB.out.size)
      clear o1 o2
      dsimp only at O1 O2 ⊢
      refine shutS hK (box_four (BX.out.below hb2 BX.out.lt)).1 (fun hS => ?_)
      refine any_world (fun W => Box W w.heap.size #[.int .i64 a.id, .int .i64 a.hs, .slice sa a.st.length sc, .slice fa a.fo.length fc] 24 ∧ Box W (w.heap.size + 1) #[.int .i64 0, .int .i64 0, .slice none 0 0, .slice none 0 0] 24 ∧ Box W (w.heap.size + 1 + 1) #[.int .i64 0, .int .i64 0, .slice none 0 0, .slice none 0 0] 24 ∧ Below w.heap.size w W ∧ Box W P9 #[.int .i64 0, .int .i64 0, .slice none 0 0, .slice none 0 0] 24 ∧ W.ownsRow w.heap.size 3 1 (.slice s1 a.st.length d1) a.st.length (a.st.map (Value.int .i64)) ∧ W.ownsRow w.heap.size 3 1 (.slice s2 a.fo.length d2) a.fo.length (a.fo.map (Value.int .i64)) ∧ True) ⟨BX.out.below hb2 BX.out.lt, B6.out.below hb2 B6.out.lt, B7.out.below hb2 B7.out.lt, HB.out.trans (hb2.mono HB.out.size), B9.out.below hb2 B9.out.lt, O1.out, O2.out, trivial⟩ ?_
      clear hS BX B6 B7 HB B9 O1 O2  hb2
      rintro wc ⟨bx, b6, b7, hbW, b9, o1, o2, -⟩
      have BX := hid bx; have B6 := hid b6; have B7 := hid b7; have HB := hid hbW; have B9 := hid b9; have O1 := hid o1; have O2 := hid o2; have hS := hid (box_four bx).1
      clear bx b6 b7 hbW b9 o1 o2 
      refine wpAnyF_two (i := 3) (j := 5) rfl rfl ⟨by kernel_rfl, by kernel_rfl, by kernel_rfl⟩ ?_ ?_
      ·
        intro K hK
        go_simp
        refine (twin_any a.id a.hs a.st a.fo sa fa sc fc wc (by omega) (by omega) (H1.out.below HB.out) (H2.out.below HB.out)).mono ?_
        rintro e w2 ⟨v, rfl, hb2, s3, d3, s4, d4, rfl, o3, o4, -⟩
        have O3 := hid (own_base o3 HB.out.size); have O4 := hid (own_base o4 HB.out.size)
        clear o3 o4
        dsimp only at O3 O4 ⊢
        refine shutN hK (by kernel_rfl) ?_
        refine any_world (fun W => Box W w.heap.size #[.int .i64 a.id, .int .i64 a.hs, .slice sa a.st.length sc, .slice fa a.fo.length fc] 24 ∧ Box W (w.heap.size + 1) #[.int .i64 0, .int .i64 0, .slice none 0 0, .slice none 0 0] 24 ∧ Box W (w.heap.size + 1 + 1) #[.int .i64 0, .int .i64 0, .slice none 0 0, .slice none 0 0] 24 ∧ Below w.heap.size w W ∧ Box W P9 #[.int .i64 0, .int .i64 0, .slice none 0 0, .slice none 0 0] 24 ∧ W.ownsRow w.heap.size 3 1 (.slice s1 a.st.length d1) a.st.length (a.st.map (Value.int .i64)) ∧ W.ownsRow w.heap.size 3 1 (.slice s2 a.fo.length d2) a.fo.length (a.fo.map (Value.int .i64)) ∧ W.ownsRow w.heap.size 3 1 (.slice s3 a.st.length d3) a.st.length (a.st.map (Value.int .i64)) ∧ W.ownsRow w.heap.size 3 1 (.slice s4 a.fo.length d4) a.fo.length (a.fo.map (Value.int .i64)) ∧ True) ⟨BX.out.below hb2 BX.out.lt, B6.out.below hb2 B6.out.lt, B7.out.below hb2 B7.out.lt, HB.out.trans (hb2.mono HB.out.size), B9.out.below hb2 B9.out.lt, own_below O1.out hb2 (Nat.le_refl _), own_below O2.out hb2 (Nat.le_refl _), O3.out, O4.out, trivial⟩ ?_
        clear hS BX B6 B7 HB B9 O1 O2 O3 O4  hb2
        rintro wc ⟨bx, b6, b7, hbW, b9, o1, o2, o3, o4, -⟩
        have BX := hid bx; have B6 := hid b6; have B7 := hid b7; have HB := hid hbW; have B9 := hid b9; have O1 := hid o1; have O2 := hid o2; have O3 := hid o3; have O4 := hid o4; have hS := hid (box_four bx).1
        clear bx b6 b7 hbW b9 o1 o2 o3 o4 
        refine wpAnyF_one (i := 5) rfl ⟨by kernel_rfl, by kernel_rfl⟩ ?_
        intro K hK
        go_simp
        refine shutS hK (box_four (BX.out.alloc _)).1 (fun hS => ?_)
        obtain ⟨Q9, hQ9⟩ : ∃ P, P = wc.heap.size := ⟨_, rfl⟩
        have nQ9 : w.heap.size + 1 + 1 < Q9 := by have := B7.out.lt; omega
        have nPQ : Q9 ≠ P9 := by have := B9.out.lt; omega
        rw [← hQ9]
        refine any_world (fun W => Box W w.heap.size #[.int .i64 a.id, .int .i64 a.hs, .slice sa a.st.length sc, .slice fa a.fo.length fc] 24 ∧ Box W (w.heap.size + 1) #[.int .i64 0, .int .i64 0, .slice none 0 0, .slice none 0 0] 24 ∧ Box W (w.heap.size + 1 + 1) #[.int .i64 0, .int .i64 0, .slice none 0 0, .slice none 0 0] 24 ∧ Below w.heap.size w W ∧ Box W P9 #[.int .i64 0, .int .i64 0, .slice none 0 0, .slice none 0 0] 24 ∧ Box W Q9 #[.int .i64 0, .int .i64 0, .slice none 0 0, .slice none 0 0] 24 ∧ W.ownsRow w.heap.size 3 1 (.slice s1 a.st.length d1) a.st.length (a.st.map (Value.int .i64)) ∧ W.ownsRow w.heap.size 3 1 (.slice s2 a.fo.length d2) a.fo.length (a.fo.map (Value.int .i64)) ∧ W.ownsRow w.heap.size 3 1 (.slice s3 a.st.length d3) a.st.length (a.st.map (Value.int .i64)) ∧ W.ownsRow w.heap.size 3 1 (.slice s4 a.fo.length d4) a.fo.length (a.fo.map (Value.int .i64)) ∧ True) ⟨BX.out.alloc _, B6.out.alloc _, B7.out.alloc _, HB.out.alloc HB.out.size _, B9.out.alloc _, Box.at _ _ hQ9, O1.out.alloc _, O2.out.alloc _, O3.out.alloc _, O4.out.alloc _, trivial⟩ ?_
        clear hQ9
        clear hS BX B6 B7 HB B9 O1 O2 O3 O4 
        rintro wc ⟨bx, b6, b7, hbW, b9, b10, o1, o2, o3, o4, -⟩
        have BX := hid bx; have B6 := hid b6; have B7 := hid b7; have HB := hid hbW; have B9 := hid b9; have B10 := hid b10; have O1 := hid o1; have O2 := hid o2; have O3 := hid o3; have O4 := hid o4; have hS := hid (box_four bx).1
        clear bx b6 b7 hbW b9 b10 o1 o2 o3 o4 
        refine wpAnyF_one (i := 6) rfl ⟨by kernel_rfl, by kernel_rfl⟩ ?_
        intro K hK
        obtain ⟨⟨c60, c61, c62, c63⟩, ⟨k60, k61, k62, k63⟩, l6⟩ := box_four B9.out
        go_simp
        refine shutN hK (by kernel_rfl) ?_
        have hs9 : w.heap.size ≤ P9 := by omega
        refine any_world (fun W => Box W (w.heap.size + 1) #[.int .i64 0, .int .i64 0, .slice none 0 0, .slice none 0 0] 24 ∧ Box W (w.heap.size + 1 + 1) #[.int .i64 0, .int .i64 0, .slice none 0 0, .slice none 0 0] 24 ∧ Below w.heap.size w W ∧ Box W P9 #[.int .i64 a.id, .int .i64 a.hs, .slice s1 a.st.length d1, .slice s2 a.fo.length d2] 24 ∧ Box W Q9 #[.int .i64 0, .int .i64 0, .slice none 0 0, .slice none 0 0] 24 ∧ W.ownsRow w.heap.size 3 1 (.slice s1 a.st.length d1) a.st.length (a.st.map (Value.int .i64)) ∧ W.ownsRow w.heap.size 3 1 (.slice s2 a.fo.length d2) a.fo.length (a.fo.map (Value.int .i64)) ∧ W.ownsRow w.heap.size 3 1 (.slice s3 a.st.length d3) a.st.length (a.st.map (Value.int .i64)) ∧ W.ownsRow w.heap.size 3 1 (.slice s4 a.fo.length d4) a.fo.length (a.fo.map (Value.int .i64))) ⟨box_oth4 B6.out (by omega) _ _ _ _, box_oth4 B7.out (by omega) _ _ _ _, (((HB.out.setCell (p := ⟨P9, 0, none⟩) hs9 _).setCell (p := ⟨P9, 1, none⟩) hs9 _).setCell (p := ⟨P9, 2, none⟩) hs9 _).setCell (p := ⟨P9, 3, none⟩) hs9 _, box_put4 _ _ _ _ B9.out, box_oth4 B10.out (by omega) _ _ _ _, own_keep4 O1.out (own_ne O1.out B9.out), own_keep4 O2.out (own_ne O2.out B9.out), own_keep4 O3.out (own_ne O3.out B9.out), own_keep4 O4.out (own_ne O4.out B9.out)⟩ ?_
        clear hS BX B6 B7 HB B9 B10 O1 O2 O3 O4 c60 c61 c62 c63 k60 k61 k62 k63 l6 hs9
        rintro wc ⟨b6, b7, hbW, b9, b10, o1, o2, o3, o4⟩
        have B6 := hid b6; have B7 := hid b7; have HB := hid hbW; have B9 := hid b9; have B10 := hid b10; have O1 := hid o1; have O2 := hid o2; have O3 := hid o3; have O4 := hid o4
        clear b6 b7 hbW b9 b10 o1 o2 o3 o4
        refine wpAnyF_one (i := 7) rfl ⟨by kernel_rfl, by kernel_rfl⟩ ?_
        intro K hK
        obtain ⟨⟨c60, c61, c62, c63⟩, ⟨k60, k61, k62, k63⟩, l6⟩ := box_four B10.out
        go_simp
        refine shutN hK (by kernel_rfl) ?_
        refine wpAnyF_done (by kernel_rfl) ?_ _
        have hs9 : w.heap.size ≤ Q9 := by omega
        unfold NormP Two; refine acts_of rfl ?_
        exact ⟨P9, Q9, s1, d1, s2, d2, s3, d3, s4, d4, rfl, rfl, rfl, rfl, rfl, rfl, nP9, nQ9, by omega, box_oth4 B6.out (by omega) _ _ _ _, box_oth4 B7.out (by omega) _ _ _ _, (((HB.out.setCell (p := ⟨Q9, 0, none⟩) hs9 _).setCell (p := ⟨Q9, 1, none⟩) hs9 _).setCell (p := ⟨Q9, 2, none⟩) hs9 _).setCell (p := ⟨Q9, 3, none⟩) hs9 _, box_oth4 B9.out (by omega) _ _ _ _, box_put4 _ _ _ _ B10.out, own_keep4 O1.out (own_ne O1.out B10.out), own_keep4 O2.out (own_ne O2.out B10.out), own_keep4 O3.out (own_ne O3.out B10.out), own_keep4 O4.out (own_ne O4.out B10.out)⟩
      ·
        intro K hK
        go_simp
        refine shutS hK (box_four (BX.out.alloc _)).1 (fun hS => ?_)
        obtain ⟨Q9, hQ9⟩ : ∃ P, P = wc.heap.size := ⟨_, rfl⟩
        have nQ9 : w.heap.size + 1 + 1 < Q9 := by have := B7.out.lt; omega
        have nPQ : Q9 ≠ P9 := by have := B9.out.lt; omega
        rw [← hQ9]
        refine any_world (fun W => Box W w.heap.size #[.int .i64 a.id, .int .i64 a.hs, .slice sa a.st.length sc, .slice fa a.fo.length fc] 24 ∧ Box W (w.heap.size + 1) #[.int .i64 0, .int .i64 0, .slice none 0 0, .slice none 0 0] 24 ∧ Box W (w.heap.size + 1 + 1) #[.int .i64 0, .int .i64 0, .slice none 0 0, .slice none 0 0] 24 ∧ Below w.heap.size w W ∧ Box W P9 #[.int .i64 0, .int .i64 0, .slice none 0 0, .slice none 0 0] 24 ∧ Box W Q9 #[.int .i64 0, .int .i64 0, .slice none 0 0, .slice none 0 0] 24 ∧ W.ownsRow w.heap.size 3 1 (.slice s1 a.st.length d1) a.st.length (a.st.map (Value.int .i64)) ∧ W.ownsRow w.heap.size 3 1 (.slice s2 a.fo.length d2) a.fo.length (a.fo.map (Value.int .i64)) ∧ True) ⟨BX.out.alloc _, B6.out.alloc _, B7.out.alloc _, HB.out.alloc HB.out.size _, B9.out.alloc _, Box.at _ _ hQ9, O1.out.alloc _, O2.out.alloc _, trivial⟩ ?_
        clear hQ9
        clear hS BX B6 B7 HB B9 O1 O2 
        rintro wc ⟨bx, b6, b7, hbW, b9, b10, o1, o2, -⟩
        have BX := hid bx; have B6 := hid b6; have B7 := hid b7; have HB := hid hbW; have B9 := hid b9; have B10 := hid b10; have O1 := hid o1; have O2 := hid o2; have hS := hid (box_four bx).1
        clear bx b6 b7 hbW b9 b10 o1 o2 
        refine wpAnyF_one (i := 3) rfl ⟨by kernel_rfl, by kernel_rfl⟩ ?_
        intro K hK
        go_simp
        refine (twin_any a.id a.hs a.st a.fo sa fa sc fc wc (by omega) (by omega) (H1.out.below HB.out) (H2.out.below HB.out)).mono ?_
        rintro e w2 ⟨v, rfl, hb2, s3, d3, s4, d4, rfl, o3, o4, -⟩
        have O3 := hid (own_base o3 HB.out.size); have O4 := hid (own_base o4 HB.out.size)
        clear o3 o4
        dsimp only at O3 O4 ⊢
        refine shutN hK (by kernel_rfl) ?_
        refine any_world (fun W => Box W w.heap.size #[.int .i64 a.id, .int .i64 a.hs, .slice sa a.st.length sc, .slice fa a.fo.length fc] 24 ∧ Box W (w.heap.size + 1) #[.int .i64 0, .int .i64 0, .slice none 0 0, .slice none 0 0] 24 ∧ Box W (w.heap.size + 1 + 1) #[.int .i64 0, .int .i64 0, .slice none 0 0, .slice none 0 0] 24 ∧ Below w.heap.size w W ∧ Box W P9 #[.int .i64 0, .int .i64 0, .slice none 0 0, .slice none 0 0] 24 ∧ Box W Q9 #[.int .i64 0, .int .i64 0, .slice none 0 0, .slice none 0 0] 24 ∧ W.ownsRow w.heap.size 3 1 (.slice s1 a.st.length d1) a.st.length (a.st.map (Value.int .i64)) ∧ W.ownsRow w.heap.size 3 1 (.slice s2 a.fo.length d2) a.fo.length (a.fo.map (Value.int .i64)) ∧ W.ownsRow w.heap.size 3 1 (.slice s3 a.st.length d3) a.st.length (a.st.map (Value.int .i64)) ∧ W.ownsRow w.heap.size 3 1 (.slice s4 a.fo.length d4) a.fo.length (a.fo.map (Value.int .i64)) ∧ True) ⟨BX.out.below hb2 BX.out.lt, B6.out.below hb2 B6.out.lt, B7.out.below hb2 B7.out.lt, HB.out.trans (hb2.mono HB.out.size), B9.out.below hb2 B9.out.lt, B10.out.below hb2 B10.out.lt, own_below O1.out hb2 (Nat.le_refl _), own_below O2.out hb2 (Nat.le_refl _), O3.out, O4.out, trivial⟩ ?_
        clear hS BX B6 B7 HB B9 B10 O1 O2 O3 O4  hb2
        rintro wc ⟨bx, b6, b7, hbW, b9, b10, o1, o2, o3, o4, -⟩
        have BX := hid bx; have B6 := hid b6; have B7 := hid b7; have HB := hid hbW; have B9 := hid b9; have B10 := hid b10; have O1 := hid o1; have O2 := hid o2; have O3 := hid o3; have O4 := hid o4; have hS := hid (box_four bx).1
        clear bx b6 b7 hbW b9 b10 o1 o2 o3 o4 
        refine wpAnyF_one (i := 6) rfl ⟨by kernel_rfl, by kernel_rfl⟩ ?_
        intro K hK
        obtain ⟨⟨c60, c61, c62, c63⟩, ⟨k60, k61, k62, k63⟩, l6⟩ := box_four B9.out
        go_simp
        refine shutN hK (by kernel_rfl) ?_
        have hs9 : w.heap.size ≤ P9 := by omega
        refine any_world (fun W => Box W (w.heap.size + 1) #[.int .i64 0, .int .i64 0, .slice none 0 0, .slice none 0 0] 24 ∧ Box W (w.heap.size + 1 + 1) #[.int .i64 0, .int .i64 0, .slice none 0 0, .slice none 0 0] 24 ∧ Below w.heap.size w W ∧ Box W P9 #[.int .i64 a.id, .int .i64 a.hs, .slice s1 a.st.length d1, .slice s2 a.fo.length d2] 24 ∧ Box W Q9 #[.int .i64 0, .int .i64 0, .slice none 0 0, .slice none 0 0] 24 ∧ W.ownsRow w.heap.size 3 1 (.slice s1 a.st.length d1) a.st.length (a.st.map (Value.int .i64)) ∧ W.ownsRow w.heap.size 3 1 (.slice s2 a.fo.length d2) a.fo.length (a.fo.map (Value.int .i64)) ∧ W.ownsRow w.heap.size 3 1 (.slice s3 a.st.length d3) a.st.length (a.st.map (Value.int .i64)) ∧ W.ownsRow w.heap.size 3 1 (.slice s4 a.fo.length d4) a.fo.length (a.fo.map (Value.int .i64))) ⟨box_oth4 B6.out (by omega) _ _ _ _, box_oth4 B7.out (by omega) _ _ _ _, (((HB.out.setCell (p := ⟨P9, 0, none⟩) hs9 _).setCell (p := ⟨P9, 1, none⟩) hs9 _).setCell (p := ⟨P9, 2, none⟩) hs9 _).setCell (p := ⟨P9, 3, none⟩) hs9 _, box_put4 _ _ _ _ B9.out, box_oth4 B10.out (by omega) _ _ _ _, own_keep4 O1.out (own_ne O1.out B9.out), own_keep4 O2.out (own_ne O2.out B9.out), own_keep4 O3.out (own_ne O3.out B9.out), own_keep4 O4.out (own_ne O4.out B9.out)⟩ ?_
        clear hS BX B6 B7 HB B9 B10 O1 O2 O3 O4 c60 c61 c62 c63 k60 k61 k62 k63 l6 hs9
        rintro wc ⟨b6, b7, hbW, b9, b10, o1, o2, o3, o4⟩
        have B6 := hid b6; have B7 := hid b7; have HB := hid hbW; have B9 := hid b9; have B10 := hid b10; have O1 := hid o1; have O2 := hid o2; have O3 := hid o3; have O4 := hid o4
        clear b6 b7 hbW b9 b10 o1 o2 o3 o4
        refine wpAnyF_one (i := 7) rfl ⟨by kernel_rfl, by kernel_rfl⟩ ?_
        intro K hK
        obtain ⟨⟨c60, c61, c62, c63⟩, ⟨k60, k61, k62, k63⟩, l6⟩ := box_four B10.out
        go_simp
        refine shutN hK (by kernel_rfl) ?_
        refine wpAnyF_done (by kernel_rfl) ?_ _
        have hs9 : w.heap.size ≤ Q9 := by omega
        unfold NormP Two; refine acts_of rfl ?_
        exact ⟨P9, Q9, s1, d1, s2, d2, s3, d3, s4, d4, rfl, rfl, rfl, rfl, rfl, rfl, nP9, nQ9, by omega, box_oth4 B6.out (by omega) _ _ _ _, box_oth4 B7.out (by omega) _ _ _ _, (((HB.out.setCell (p := ⟨Q9, 0, none⟩) hs9 _).setCell (p := ⟨Q9, 1, none⟩) hs9 _).setCell (p := ⟨Q9, 2, none⟩) hs9 _).setCell (p := ⟨Q9, 3, none⟩) hs9 _, box_oth4 B9.out (by omega) _ _ _ _, box_put4 _ _ _ _ B10.out, own_keep4 O1.out (own_ne O1.out B10.out), own_keep4 O2.out (own_ne O2.out B10.out), own_keep4 O3.out (own_ne O3.out B10.out), own_keep4 O4.out (own_ne O4.out B10.out)⟩
    ·
      intro K hK
      go_simp
      refine shutS hK (box_four (BX.out.alloc _)).1 (fun hS => ?_)
      obtain ⟨Q9, hQ9⟩ : ∃ P, P = wc.heap.size := ⟨_, rfl⟩
      have nQ9 : w.heap.size + 1 + 1 < Q9 := by have := B7.out.lt; omega
      have nPQ : Q9 ≠ P9 := by have := B9.out.lt; omega
      rw [← hQ9]
      refine any_world (fun W => Box W w.heap.size #[.int .i64 a.id, .int .i64 a.hs, .slice sa a.st.length sc, .slice fa a.fo.length fc] 24 ∧ Box W (w.heap.size + 1) #[.int .i64 0, .int .i64 0, .slice none 0 0, .slice none 0 0] 24 ∧ Box W (w.heap.size + 1 + 1) #[.int .i64 0, .int .i64 0, .slice none 0 0, .slice none 0 0] 24 ∧ Below w.heap.size w W ∧ Box W P9 #[.int .i64 0, .int .i64 0, .slice none 0 0, .slice none 0 0] 24 ∧ Box W Q9 #[.int .i64 0, .int .i64 0, .slice none 0 0, .slice none 0 0] 24 ∧ True) ⟨BX.out.alloc _, B6.out.alloc _, B7.out.alloc _, HB.out.alloc HB.out.size _, B9.out.alloc _, Box.at _ _ hQ9, trivial⟩ ?_
      clear hQ9
      clear hS BX B6 B7 HB B9 
      rintro wc ⟨bx, b6, b7, hbW, b9, b10, -⟩
      have BX := hid bx; have B6 := hid b6; have B7 := hid b7; have HB := hid hbW; have B9 := hid b9; have B10 := hid b10; have hS := hid (box_four bx).1
      clear bx b6 b7 hbW b9 b10 
      refine wpAnyF_one (i := 1) rfl ⟨by kernel_rfl, by kernel_rfl⟩ ?_
      intro K hK
      go_simp
      refine (twin_any a.id a.hs a.st a.fo sa fa sc fc wc (by omega) (by omega) (H1.out.below HB.out) (H2.out.below HB.out)).mono ?_
      rintro e w2 ⟨v, rfl, hb2, s1, d1, s2, d2, rfl, o1, o2, -⟩
      have O1 := hid (own_base o1 HB.out.size); have O2 := hid (own_base o2 HB.out.size)
      clear o1 o2
      dsimp only at O1 O2 ⊢
      refine shutS hK (box_four (BX.out.below hb2 BX.out.lt)).1 (fun hS => ?_)
      refine any_world (fun W => Box W w.heap.size #[.int .i64 a.id, .int .i64 a.hs, .slice sa a.st.length sc, .slice fa a.fo.length fc] 24 ∧ Box W (w.heap.size + 1) #[.int .i64 0, .int .i64 0, .slice none 0 0, .slice none 0 0] 24 ∧ Box W (w.heap.size + 1 + 1) #[.int .i64 0, .int .i64 0, .slice none 0 0, .slice none 0 0] 24 ∧ Below w.heap.size w W ∧ Box W P9 #[.int .i64 0, .int .i64 0, .slice none 0 0, .slice none 0 0] 24 ∧ Box W Q9 #[.int .i64 0, .int .i64 0, .slice none 0 0, .slice none 0 0] 24 ∧ W.ownsRow w.heap.size 3 1 (.slice s1 a.st.length d1) a.st.length (a.st.map (Value.int .i64)) ∧ W.ownsRow w.heap.size 3 1 (.slice s2 a.fo.length d2) a.fo.length (a.fo.map (Value.int .i64)) ∧ True) ⟨BX.out.below hb2 BX.out.lt, B6.out.below hb2 B6.out.lt, B7.out.below hb2 B7.out.lt, HB.out.trans (hb2.mono HB.out.size), B9.out.below hb2 B9.out.lt, B10.out.below hb2 B10.out.lt, O1.out, O2.out, trivial⟩ ?_
      clear hS BX B6 B7 HB B9 B10 O1 O2  hb2
      rintro wc ⟨bx, b6, b7, hbW, b9, b10, o1, o2, -⟩
      have BX := hid bx; have B6 := hid b6; have B7 := hid b7; have HB := hid hbW; have B9 := hid b9; have B10 := hid b10; have O1 := hid o1; have O2 := hid o2; have hS := hid (box_four bx).1
      clear bx b6 b7 hbW b9 b10 o1 o2 
      refine wpAnyF_one (i := 3) rfl ⟨by kernel_rfl, by kernel_rfl⟩ ?_
      intro K hK
      go_simp
      refine (twin_any a.id a.hs a.st a.fo sa fa sc fc wc (by omega) (by omega) (H1.out.below HB.out) (H2.out.below HB.out)).mono ?_
      rintro e w2 ⟨v, rfl, hb2, s3, d3, s4, d4, rfl, o3, o4, -⟩
      have O3 := hid (own_base o3 HB.out.size); have O4 := hid (own_base o4 HB.out.size)
      clear o3 o4
      dsimp only at O3 O4 ⊢
      refine shutN hK (by kernel_rfl) ?_
      refine any_world (fun W => Box W w.heap.size #[.int .i64 a.id, .int .i64 a.hs, .slice sa a.st.length sc, .slice fa a.fo.length fc] 24 ∧ Box W (w.heap.size + 1) #[.int .i64 0, .int .i64 0, .slice none 0 0, .slice none 0 0] 24 ∧ Box W (w.heap.size + 1 + 1) #[.int .i64 0, .int .i64 0, .slice none 0 0, .slice none 0 0] 24 ∧ Below w.heap.size w W ∧ Box W P9 #[.int .i64 0, .int .i64 0, .slice none 0 0, .slice none 0 0] 24 ∧ Box W Q9 #[.int .i64 0, .int .i64 0, .slice none 0 0, .slice none 0 0] 24 ∧ W.ownsRow w.heap.size 3 1 (.slice s1 a.st.length d1) a.st.length (a.st.map (Value.int .i64)) ∧ W.ownsRow w.heap.size 3 1 (.slice s2 a.fo.length d2) a.fo.length (a.fo.map (Value.int .i64)) ∧ W.ownsRow w.heap.size 3 1 (.slice s3 a.st.length d3) a.st.length (a.st.map (Value.int .i64)) ∧ W.ownsRow w.heap.size 3 1 (.slice s4 a.fo.length d4) a.fo.length (a.fo.map (Value.int .i64)) ∧ True) ⟨BX.out.below hb2 BX.out.lt, B6.out.below hb2 B6.out.lt, B7.out.below hb2 B7.out.lt, HB.out.trans (hb2.mono HB.out.size), B9.out.below hb2 B9.out.lt, B10.out.below hb2 B10.out.lt, own_below O1.out hb2 (Nat.le_refl _), own_below O2.out hb2 (Nat.le_refl _), O3.out, O4.out, trivial⟩ ?_
      clear hS BX B6 B7 HB B9 B10 O1 O2 O3 O4  hb2
      rintro wc ⟨bx, b6, b7, hbW, b9, b10, o1, o2, o3, o4, -⟩
      have BX := hid bx; have B6 := hid b6; have B7 := hid b7; have HB := hid hbW; have B9 := hid b9; have B10 := hid b10; have O1 := hid o1; have O2 := hid o2; have O3 := hid o3; have O4 := hid o4; have hS := hid (box_four bx).1
      clear bx b6 b7 hbW b9 b10 o1 o2 o3 o4 
      refine wpAnyF_one (i := 6) rfl ⟨by kernel_rfl, by kernel_rfl⟩ ?_
      intro K hK
      obtain ⟨⟨c60, c61, c62, c63⟩, ⟨k60, k61, k62, k63⟩, l6⟩ := box_four B9.out
      go_simp
      refine shutN hK (by kernel_rfl) ?_
      have hs9 : w.heap.size ≤ P9 := by omega
      refine any_world (fun W => Box W (w.heap.size + 1) #[.int .i64 0, .int .i64 0, .slice none 0 0, .slice none 0 0] 24 ∧ Box W (w.heap.size + 1 + 1) #[.int .i64 0, .int .i64 0, .slice none 0 0, .slice none 0 0] 24 ∧ Below w.heap.size w W ∧ Box W P9 #[.int .i64 a.id, .int .i64 a.hs, .slice s1 a.st.length d1, .slice s2 a.fo.length d2] 24 ∧ Box W Q9 #[.int .i64 0, .int .i64 0, .slice none 0 0, .slice none 0 0] 24 ∧ W.ownsRow w.heap.size 3 1 (.slice s1 a.st.length d1) a.st.length (a.st.map (Value.int .i64)) ∧ W.ownsRow w.heap.size 3 1 (.slice s2 a.fo.length d2) a.fo.length (a.fo.map (Value.int .i64)) ∧ W.ownsRow w.heap.size 3 1 (.slice s3 a.st.length d3) a.st.length (a.st.map (Value.int .i64)) ∧ W.ownsRow w.heap.size 3 1 (.slice s4 a.fo.length d4) a.fo.length (a.fo.map (Value.int .i64))) ⟨box_oth4 B6.out (by omega) _ _ _ _, box_oth4 B7.out (by omega) _ _ _ _, (((HB.out.setCell (p := ⟨P9, 0, none⟩) hs9 _).setCell (p := ⟨P9, 1, none⟩) hs9 _).setCell (p := ⟨P9, 2, none⟩) hs9 _).setCell (p := ⟨P9, 3, none⟩) hs9 _, box_put4 _ _ _ _ B9.out, box_oth4 B10.out (by omega) _ _ _ _, own_keep4 O1.out (own_ne O1.out B9.out), own_keep4 O2.out (own_ne O2.out B9.out), own_keep4 O3.out (own_ne O3.out B9.out), own_keep4 O4.out (own_ne O4.out B9.out)⟩ ?_
      clear hS BX B6 B7 HB B9 B10 O1 O2 O3 O4 c60 c61 c62 c63 k60 k61 k62 k63 l6 hs9
      rintro wc ⟨b6, b7, hbW, b9, b10, o1, o2, o3, o4⟩
      have B6 := hid b6; have B7 := hid b7; have HB := hid hbW; have B9 := hid b9; have B10 := hid b10; have O1 := hid o1; have O2 := hid o2; have O3 := hid o3; have O4 := hid o4
      clear b6 b7 hbW b9 b10 o1 o2 o3 o4
      refine wpAnyF_one (i := 7) rfl ⟨by kernel_rfl, by kernel_rfl⟩ ?_
      intro K hK
      obtain ⟨⟨c60, c61, c62, c63⟩, ⟨k60, k61, k62, k63⟩, l6⟩ := box_four B10.out
      go_simp
      refine shutN hK (by kernel_rfl) ?_
      refine wpAnyF_done (by kernel_rfl) ?_ _
      have hs9 : w.heap.size ≤ Q9 := by omega
      unfold NormP Two; refine acts_of rfl ?_
      exact ⟨P9, Q9, s1, d1, s2, d2, s3, d3, s4, d4, rfl, rfl, rfl, rfl, rfl, rfl, nP9, nQ9, by omega, box_oth4 B6.out (by omega) _ _ _ _, box_oth4 B7.out (by omega) _ _ _ _, (((HB.out.setCell (p := ⟨Q9, 0, none⟩) hs9 _).setCell (p := ⟨Q9, 1, none⟩) hs9 _).setCell (p := ⟨Q9, 2, none⟩) hs9 _).setCell (p := ⟨Q9, 3, none⟩) hs9 _, box_oth4 B9.out (by omega) _ _ _ _, box_put4 _ _ _ _ B10.out, own_keep4 O1.out (own_ne O1.out B10.out), own_keep4 O2.out (own_ne O2.out B10.out), own_keep4 O3.out (own_ne O3.out B10.out), own_keep4 O4.out (own_ne O4.out B10.out)⟩
  ·
    intro K hK
    go_simp
    refine shutS hK (box_four (BX.out.alloc _)).1 (fun hS => ?_)
    obtain ⟨Q9, hQ9⟩ : ∃ P, P = wc.heap.size := ⟨_, rfl⟩
    have nQ9 : w.heap.size + 1 + 1 < Q9 := by have := B7.out.lt; omega
    
    rw [← hQ9]
    refine any_world (fun W => Box W w.heap.size #[.int .i64 a.id, .int .i64 a.hs, .slice sa a.st.length sc, .slice fa a.fo.length fc] 24 ∧ Box W (w.heap.size + 1) #[.int .i64 0, .int .i64 0, .slice none 0 0, .slice none 0 0] 24 ∧ Box W (w.heap.size + 1 + 1) #[.int .i64 0, .int .i64 0, .slice none 0 0, .slice none 0 0] 24 ∧ Below w.heap.size w W ∧ Box W Q9 #[.int .i64 0, .int .i64 0, .slice none 0 0, .slice none 0 0] 24 ∧ True) ⟨BX.out.alloc _, B6.out.alloc _, B7.out.alloc _, HB.out.alloc HB.out.size _, Box.at _ _ hQ9, trivial⟩ ?_
    clear hQ9
    clear hS BX B6 B7 HB 
    rintro wc ⟨bx, b6, b7, hbW, b10, -⟩
    have BX := hid bx; have B6 := hid b6; have B7 := hid b7; have HB := hid hbW; have B10 := hid b10; have hS := hid (box_four bx).1
    clear bx b6 b7 hbW b10 
    refine wpAnyF_two (i := 1) (j := 4) rfl rfl ⟨by kernel_rfl, by kernel_rfl, by kernel_rfl⟩ ?_ ?_
    ·
      intro K hK
      go_simp
      refine (twin_any a.id a.hs a.st a.fo sa fa sc fc wc (by omega) (by omega) (H1.out.below HB.out) (H2.out.below HB.out)).mono ?_
      rintro e w2 ⟨v, rfl, hb2, s1, d1, s2, d2, rfl, o1, o2, -⟩
      have O1 := hid (own_base o1 HB.out.size); have O2 := hid (own_base o2 HB.out.size)
      clear o1 o2
      dsimp only at O1 O2 ⊢
      refine shutS hK (box_four (BX.out.below hb2 BX.out.lt)).1 (fun hS => ?_)
      refine any_world (fun W => Box W w.heap.size #[.int .i64 a.id, .int .i64 a.hs, .slice sa a.st.length sc, .slice fa a.fo.length fc] 24 ∧ Box W (w.heap.size + 1) #[.int .i64 0, .int .i64 0, .slice none 0 0, .slice none 0 0] 24 ∧ Box W (w.heap.size + 1 + 1) #[.int .i64 0, .int .i64 0, .slice none 0 0, .slice none 0 0] 24 ∧ Below w.heap.size w W ∧ Box W Q9 #[.int .i64 0, .int .i64 0, .slice none 0 0, .slice none 0 0] 24 ∧ W.ownsRow w.heap.size 3 1 (.slice s1 a.st.length d1) a.st.length (a.st.map (Value.int .i64)) ∧ W.ownsRow w.heap.size 3 1 (.slice s2 a.fo.length d2) a.fo.length (a.fo.map (Value.int .i64)) ∧ True) ⟨BX.out.below hb2 BX.out.lt, B6.out.below hb2 B6.out.lt, B7.out.below hb2 B7.out.lt, HB.out.trans (hb2.mono HB.out.size), B10.out.below hb2 B10.out.lt, O1.out, O2.out, trivial⟩ ?_
      clear hS BX B6 B7 HB B10 O1 O2  hb2
      rintro wc ⟨bx, b6, b7, hbW, b10, o1, o2, -⟩
      have BX := hid bx; have B6 := hid b6; have B7 := hid b7; have HB := hid hbW; have B10 := hid b10; have O1 := hid o1; have O2 := hid o2; have hS := hid (box_four bx).1
      clear bx b6 b7 hbW b10 o1 o2 
      refine wpAnyF_two (i := 3) (j := 4) rfl rfl ⟨by kernel_rfl, by kernel_rfl, by kernel_rfl⟩ ?_ ?_
      ·
        intro K hK
        go_simp
        refine (twin_any a.id a.hs a.st a.fo sa fa sc fc wc (by omega) (by omega) (H1.out.below HB.out) (H2.out.below HB.out)).mono ?_
        rintro e w2 ⟨v, rfl, hb2, s3, d3, s4, d4, rfl, o3, o4, -⟩
        have O3 := hid (own_base o3 HB.out.size); have O4 := hid (own_base o4 HB.out.size)
        clear o3 o4
        dsimp only at O3 O4 ⊢
        refine shutN hK (by kernel_rfl) ?_
        refine any_world (fun W => Box W w.heap.size #[.int .i64 a.id, .int .i64 a.hs, .slice sa a.st.length sc, .slice fa a.fo.length fc] 24 ∧ Box W (w.heap.size + 1) #[.int .i64 0, .int .i64 0, .slice none 0 0, .slice none 0 0] 24 ∧ Box W (w.heap.size + 1 + 1) #[.int .i64 0, .int .i64 0, .slice none 0 0, .slice none 0 0] 24 ∧ Below w.heap.size w W ∧ Box W Q9 #[.int .i64 0, .int .i64 0, .slice none 0 0, .slice none 0 0] 24 ∧ W.ownsRow w.heap.size 3 1 (.slice s1 a.st.length d1) a.st.length (a.st.map (Value.int .i64)) ∧ W.ownsRow w.heap.size 3 1 (.slice s2 a.fo.length d2) a.fo.length (a.fo.map (Value.int .i64)) ∧ W.ownsRow w.heap.size 3 1 (.slice s3 a.st.length d3) a.st.length (a.st.map (Value.int .i64)) ∧ W.ownsRow w.heap.size 3 1 (.slice s4 a.fo.length d4) a.fo.length (a.fo.map (Value.int .i64)) ∧ True) ⟨BX.out.below hb2 BX.out.lt, B6.out.below hb2 B6.out.lt, B7.out.below hb2 B7.out.lt, HB.out.trans (hb2.mono HB.out.size), B10.out.below hb2 B10.out.lt, own_below O1.out hb2 (Nat.le_refl _), own_below O2.out hb2 (Nat.le_refl _), O3.out, O4.out, trivial⟩ ?_
        clear hS BX B6 B7 HB B10 O1 O2 O3 O4  hb2
        rintro wc ⟨bx, b6, b7, hbW, b10, o1, o2, o3, o4, -⟩
        have BX := hid bx; have B6 := hid b6; have B7 := hid b7; have HB := hid hbW; have B10 := hid b10; have O1 := hid o1; have O2 := hid o2; have O3 := hid o3; have O4 := hid o4; have hS := hid (box_four bx).1
        clear bx b6 b7 hbW b10 o1 o2 o3 o4 
        refine wpAnyF_one (i := 4) rfl ⟨by kernel_rfl, by kernel_rfl⟩ ?_
        intro K hK
        go_simp
        refine shutS hK (box_four (BX.out.alloc _)).1 (fun hS => ?_)
        obtain ⟨P9, hP9⟩ : ∃ P, P = wc.heap.size := ⟨_, rfl⟩
        have nP9 : w.heap.size + 1 + 1 < P9 := by have := B7.out.lt; omega
        have nPQ : P9 ≠ Q9 := by have := B10.out.lt; omega
        rw [← hP9]
        refine any_world (fun W => Box W w.heap.size #[.int .i64 a.id, .int .i64 a.hs, .slice sa a.st.length sc, .slice fa a.fo.length fc] 24 ∧ Box W (w.heap.size + 1) #[.int .i64 0, .int .i64 0, .slice none 0 0, .slice none 0 0] 24 ∧ Box W (w.heap.size + 1 + 1) #[.int .i64 0, .int .i64 0, .slice none 0 0, .slice none 0 0] 24 ∧ Below w.heap.size w W ∧ Box W P9 #[.int .i64 0, .int .i64 0, .slice none 0 0, .slice none 0 0] 24 ∧ Box W Q9 #[.int .i64 0, .int .i64 0, .slice none 0 0, .slice none 0 0] 24 ∧ W.ownsRow w.heap.size 3 1 (.slice s1 a.st.length d1) a.st.length (a.st.map (Value.int .i64)) ∧ W.ownsRow w.heap.size 3 1 (.slice s2 a.fo.length d2) a.fo.length (a.fo.map (Value.int .i64)) ∧ W.ownsRow w.heap.size 3 1 (.slice s3 a.st.length d3) a.st.length (a.st.map (Value.int .i64)) ∧ W.ownsRow w.heap.size 3 1 (.slice s4 a.fo.length d4) a.fo.length (a.fo.map (Value.int .i64)) ∧ True) ⟨BX.out.alloc _, B6.out.alloc _, B7.out.alloc _, HB.out.alloc HB.out.size _, Box.at _ _ hP9, B10.out.alloc _, O1.out.alloc _, O2.out.alloc _, O3.out.alloc _, O4.out.alloc _, trivial⟩ ?_
        clear hP9
        clear hS BX B6 B7 HB B10 O1 O2 O3 O4 
        rintro wc ⟨bx, b6, b7, hbW, b9, b10, o1, o2, o3, o4, -⟩
        have BX := hid bx; have B6 := hid b6; have B7 := hid b7; have HB := hid hbW; have B9 := hid b9; have B10 := hid b10; have O1 := hid o1; have O2 := hid o2; have O3 := hid o3; have O4 := hid o4; have hS := hid (box_four bx).1
        clear bx b6 b7 hbW b9 b10 o1 o2 o3 o4 
        refine wpAnyF_one (i := 6) rfl ⟨by kernel_rfl, by kernel_rfl⟩ ?_
        intro K hK
        obtain ⟨⟨c60, c61, c62, c63⟩, ⟨k60, k61, k62, k63⟩, l6⟩ := box_four B9.out
        go_simp
        refine shutN hK (by kernel_rfl) ?_
        have hs9 : w.heap.size ≤ P9 := by omega
        refine any_world (fun W => Box W (w.heap.size + 1) #[.int .i64 0, .int .i64 0, .slice none 0 0, .slice none 0 0] 24 ∧ Box W (w.heap.size + 1 + 1) #[.int .i64 0, .int .i64 0, .slice none 0 0, .slice none 0 0] 24 ∧ Below w.heap.size w W ∧ Box W P9 #[.int .i64 a.id, .int .i64 a.hs, .slice s1 a.st.length d1, .slice s2 a.fo.length d2] 24 ∧ Box W Q9 #[.int .i64 0, .int .i64 0, .slice none 0 0, .slice none 0 0] 24 ∧ W.ownsRow w.heap.size 3 1 (.slice s1 a.st.length d1) a.st.length (a.st.map (Value.int .i64)) ∧ W.ownsRow w.heap.size 3 1 (.slice s2 a.fo.length d2) a.fo.length (a.fo.map (Value.int .i64)) ∧ W.ownsRow w.heap.size 3 1 (.slice s3 a.st.length d3) a.st.length (a.st.map (Value.int .i64)) ∧ W.ownsRow w.heap.size 3 1 (.slice s4 a.fo.length d4) a.fo.length (a.fo.map (Value.int .i64))) ⟨box_oth4 B6.out (by omega) _ _ _ _, box_oth4 B7.out (by omega) _ _ _ _, (((HB.out.setCell (p := ⟨P9, 0, none⟩) hs9 _).setCell (p := ⟨P9, 1, none⟩) hs9 _).setCell (p := ⟨P9, 2, none⟩) hs9 _).setCell (p := ⟨P9, 3, none⟩) hs9 _, box_put4 _ _ _ _ B9.out, box_oth4 B10.out (by omega) _ _ _ _, own_keep4 O1.out (own_ne O1.out B9.out), own_keep4 O2.out (own_ne O2.out B9.out), own_keep4 O3.out (own_ne O3.out B9.out), own_keep4 O4.out (own_ne O4.out B9.out)⟩ ?_
        clear hS BX B6 B7 HB B9 B10 O1 O2 O3 O4 c60 c61 c62 c63 k60 k61 k62 k63 l6 hs9
        rintro wc ⟨b6, b7, hbW, b9, b10, o1, o2, o3, o4⟩
        have B6 := hid b6; have B7 := hid b7; have HB := hid hbW; have B9 := hid b9; have B10 := hid b10; have O1 := hid o1; have O2 := hid o2; have O3 := hid o3; have O4 := hid o4
        clear b6 b7 hbW b9 b10 o1 o2 o3 o4
        refine wpAnyF_one (i := 7) rfl ⟨by kernel_rfl, by kernel_rfl⟩ ?_
        intro K hK
        obtain ⟨⟨c60, c61, c62, c63⟩, ⟨k60, k61, k62, k63⟩, l6⟩ := box_four B10.out
        go_simp
        refine shutN hK (by kernel_rfl) ?_
        refine wpAnyF_done (by kernel_rfl) ?_ _
        have hs9 : w.heap.size ≤ Q9 := by omega
        unfold NormP Two; refine acts_of rfl ?_
        exact ⟨P9, Q9, s1, d1, s2, d2, s3, d3, s4, d4, rfl, rfl, rfl, rfl, rfl, rfl, nP9, nQ9, by omega, box_oth4 B6.out (by omega) _ _ _ _, box_oth4 B7.out (by omega) _ _ _ _, (((HB.out.setCell (p := ⟨Q9, 0, none⟩) hs9 _).setCell (p := ⟨Q9, 1, none⟩) hs9 _).setCell (p := ⟨Q9, 2, none⟩) hs9 _).setCell (p := ⟨Q9, 3, none⟩) hs9 _, box_oth4 B9.out (by omega) _ _ _ _, box_put4 _ _ _ _ B10.out, own_keep4 O1.out (own_ne O1.out B10.out), own_keep4 O2.out (own_ne O2.out B10.out), own_keep4 O3.out (own_ne O3.out B10.out), own_keep4 O4.out (own_ne O4.out B10.out)⟩
      ·
        intro K hK
        go_simp
        refine shutS hK (box_four (BX.out.alloc _)).1 (fun hS => ?_)
        obtain ⟨P9, hP9⟩ : ∃ P, P = wc.heap.size := ⟨_, rfl⟩
        have nP9 : w.heap.size + 1 + 1 < P9 := by have := B7.out.lt; omega
        have nPQ : P9 ≠ Q9 := by have := B10.out.lt; omega
        rw [← hP9]
        refine any_world (fun W => Box W w.heap.size #[.int .i64 a.id, .int .i64 a.hs, .slice sa a.st.length sc, .slice fa a.fo.length fc] 24 ∧ Box W (w.heap.size + 1) #[.int .i64 0, .int .i64 0, .slice none 0 0, .slice none 0 0] 24 ∧ Box W (w.heap.size + 1 + 1) #[.int .i64 0, .int .i64 0, .slice none 0 0, .slice none 0 0] 24 ∧ Below w.heap.size w W ∧ Box W P9 #[.int .i64 0, .int .i64 0, .slice none 0 0, .slice none 0 0] 24 ∧ Box W Q9 #[.int .i64 0, .int .i64 0, .slice none 0 0, .slice none 0 0] 24 ∧ W.ownsRow w.heap.size 3 1 (.slice s1 a.st.length d1) a.st.length (a.st.map (Value.int .i64)) ∧ W.ownsRow w.heap.size 3 1 (.slice s2 a.fo.length d2) a.fo.length (a.fo.map (Value.int .i64)) ∧ True) ⟨BX.out.alloc _, B6.out.alloc _, B7.out.alloc _, HB.out.alloc HB.out.size _, Box.at _ _ hP9, B10.out.alloc _, O1.out.alloc _, O2.out.alloc _, trivial⟩ ?_
        clear hP9
        clear hS BX B6 B7 HB B10 O1 O2 
        rintro wc ⟨bx, b6, b7, hbW, b9, b10, o1, o2, -⟩
        have BX := hid bx; have B6 := hid b6; have B7 := hid b7; have HB := hid hbW; have B9 := hid b9; have B10 := hid b10; have O1 := hid o1; have O2 := hid o2; have hS := hid (box_four bx).1
        clear bx b6 b7 hbW b9 b10 o1 o2 
        refine wpAnyF_one (i := 3) rfl ⟨by kernel_rfl, by kernel_rfl⟩ ?_
        intro K hK
        go_simp
        refine (twin_any a.id a.hs a.st a.fo sa fa sc fc wc (by omega) (by omega) (H1.out.below HB.out) (H2.out.below HB.out)).mono ?_
        rintro e w2 ⟨v, rfl, hb2, s3, d3, s4, d4, rfl, o3, o4, -⟩
        have O3 := hid (own_base o3 HB.out.size); have O4 := hid (own_base o4 HB.out.size)
        clear o3 o4
        dsimp only at O3 O4 ⊢
        refine shutN hK (by kernel_rfl) ?_
        refine any_world (fun W => Box W w.heap.size #[.int .i64 a.id, .int .i64 a.hs, .slice sa a.st.length sc, .slice fa a.fo.length fc] 24 ∧ Box W (w.heap.size + 1) #[.int .i64 0, .int .i64 0, .slice none 0 0, .slice none 0 0] 24 ∧ Box W (w.heap.size + 1 + 1) #[.int .i64 0, .int .i64 0, .slice none 0 0, .slice none 0 0] 24 ∧ Below w.heap.size w W ∧ Box W P9 #[.int .i64 0, .int .i64 0, .slice none 0 0, .slice none 0 0] 24 ∧ Box W Q9 #[.int .i64 0, .int .i64 0, .slice none 0 0, .slice none 0 0] 24 ∧ W.ownsRow w.heap.size 3 1 (.slice s1 a.st.length d1) a.st.length (a.st.map (Value.int .i64)) ∧ W.ownsRow w.heap.size 3 1 (.slice s2 a.fo.length d2) a.fo.length (a.fo.map (Value.int .i64)) ∧ W.ownsRow w.heap.size 3 1 (.slice s3 a.st.length d3) a.st.length (a.st.map (Value.int .i64)) ∧ W.ownsRow w.heap.size 3 1 (.slice s4 a.fo.length d4) a.fo.length (a.fo.map (Value.int .i64)) ∧ True) ⟨BX.out.below hb2 BX.out.lt, B6.out.below hb2 B6.out.lt, B7.out.below hb2 B7.out.lt, HB.out.trans (hb2.mono HB.out.size), B9.out.below hb2 B9.out.lt, B10.out.below hb2 B10.out.lt, own_below O1.out hb2 (Nat.le_refl _), own_below O2.out hb2 (Nat.le_refl _), O3.out, O4.out, trivial⟩ ?_
        clear hS BX B6 B7 HB B9 B10 O1 O2 O3 O4  hb2
        rintro wc ⟨bx, b6, b7, hbW, b9, b10, o1, o2, o3, o4, -⟩
        have BX := hid bx; have B6 := hid b6; have B7 := hid b7; have HB := hid hbW; have B9 := hid b9; have B10 := hid b10; have O1 := hid o1; have O2 := hid o2; have O3 := hid o3; have O4 := hid o4; have hS := hid (box_four bx).1
        clear bx b6 b7 hbW b9 b10 o1 o2 o3 o4 
        refine wpAnyF_one (i := 6) rfl ⟨by kernel_rfl, by kernel_rfl⟩ ?_
        intro K hK
        obtain ⟨⟨c60, c61, c62, c63⟩, ⟨k60, k61, k62, k63⟩, l6⟩ := box_four B9.out
        go_simp
        refine shutN hK (by kernel_rfl) ?_
        have hs9 : w.heap.size ≤ P9 := by omega
        refine any_world (fun W => Box W (w.heap.size + 1) #[.int .i64 0, .int .i64 0, .slice none 0 0, .slice none 0 0] 24 ∧ Box W (w.heap.size + 1 + 1) #[.int .i64 0, .int .i64 0, .slice none 0 0, .slice none 0 0] 24 ∧ Below w.heap.size w W ∧ Box W P9 #[.int .i64 a.id, .int .i64 a.hs, .slice s1 a.st.length d1, .slice s2 a.fo.length d2] 24 ∧ Box W Q9 #[.int .i64 0, .int .i64 0, .slice none 0 0, .slice none 0 0] 24 ∧ W.ownsRow w.heap.size 3 1 (.slice s1 a.st.length d1) a.st.length (a.st.map (Value.int .i64)) ∧ W.ownsRow w.heap.size 3 1 (.slice s2 a.fo.length d2) a.fo.length (a.fo.map (Value.int .i64)) ∧ W.ownsRow w.heap.size 3 1 (.slice s3 a.st.length d3) a.st.length (a.st.map (Value.int .i64)) ∧ W.ownsRow w.heap.size 3 1 (.slice s4 a.fo.length d4) a.fo.length (a.fo.map (Value.int .i64))) ⟨box_oth4 B6.out (by omega) _ _ _ _, box_oth4 B7.out (by omega) _ _ _ _, (((HB.out.setCell (p := ⟨P9, 0, none⟩) hs9 _).setCell (p := ⟨P9, 1, none⟩) hs9 _).setCell (p := ⟨P9, 2, none⟩) hs9 _).setCell (p := ⟨P9, 3, none⟩) hs9 _, box_put4 _ _ _ _ B9.out, box_oth4 B10.out (by omega) _ _ _ _, own_keep4 O1.out (own_ne O1.out B9.out), own_keep4 O2.out (own_ne O2.out B9.out), own_keep4 O3.out (own_ne O3.out B9.out), own_keep4 O4.out (own_ne O4.out B9.out)⟩ ?_
        clear hS BX B6 B7 HB B9 B10 O1 O2 O3 O4 c60 c61 c62 c63 k60 k61 k62 k63 l6 hs9
        rintro wc ⟨b6, b7, hbW, b9, b10, o1, o2, o3, o4⟩
        have B6 := hid b6; have B7 := hid b7; have HB := hid hbW; have B9 := hid b9; have B10 := hid b10; have O1 := hid o1; have O2 := hid o2; have O3 := hid o3; have O4 := hid o4
        clear b6 b7 hbW b9 b10 o1 o2 o3 o4
        refine wpAnyF_one (i := 7) rfl ⟨by kernel_rfl, by kernel_rfl⟩ ?_
        intro K hK
        obtain ⟨⟨c60, c61, c62, c63⟩, ⟨k60, k61, k62, k63⟩, l6⟩ := box_four B10.out
        go_simp
        refine shutN hK (by kernel_rfl) ?_
        refine wpAnyF_done (by kernel_rfl) ?_ _
        have hs9 : w.heap.size ≤ Q9 := by omega
        unfold NormP Two; refine acts_of rfl ?_
        exact ⟨P9, Q9, s1, d1, s2, d2, s3, d3, s4, d4, rfl, rfl, rfl, rfl, rfl, rfl, nP9, nQ9, by omega, box_oth4 B6.out (by omega) _ _ _ _, box_oth4 B7.out (by omega) _ _ _ _, (((HB.out.setCell (p := ⟨Q9, 0, none⟩) hs9 _).setCell (p := ⟨Q9, 1, none⟩) hs9 _).setCell (p := ⟨Q9, 2, none⟩) hs9 _).setCell (p := ⟨Q9, 3, none⟩) hs9 _, box_oth4 B9.out (by omega) _ _ _ _, box_put4 _ _ _ _ B10.out, own_keep4 O1.out (own_ne O1.out B10.out), own_keep4 O2.out (own_ne O2.out B10.out), own_keep4 O3.out (own_ne O3.out B10.out), own_keep4 O4.out (own_ne O4.out B10.out)⟩
    ·
      intro K hK
      go_simp
      refine shutS hK (box_four (BX.out.alloc _)).1 (fun hS => ?_)
      obtain ⟨P9, hP9⟩ : ∃ P, P = wc.heap.size := ⟨_, rfl⟩
      have nP9 : w.heap.size + 1 + 1 < P9 := by have := B7.out.lt; omega
      have nPQ : P9 ≠ Q9 := by have := B10.out.lt; omega
      rw [← hP9]
      refine any_world (fun W => Box W w.heap.size #[.int .i64 a.id, .int .i64 a.hs, .slice sa a.st.length sc, .slice fa a.fo.length fc] 24 ∧ Box W (w.heap.size + 1) #[.int .i64 0, .int .i64 0, .slice none 0 0, .slice none 0 0] 24 ∧ Box W (w.heap.size + 1 + 1) #[.int .i64 0, .int .i64 0, .slice none 0 0, .slice none 0 0] 24 ∧ Below w.heap.size w W ∧ Box W P9 #[.int .i64 0, .int .i64 0, .slice none 0 0, .slice none 0 0] 24 ∧ Box W Q9 #[.int .i64 0, .int .i64 0, .slice none 0 0, .slice none 0 0] 24 ∧ True) ⟨BX.out.alloc _, B6.out.alloc _, B7.out.alloc _, HB.out.alloc HB.out.size _, Box.at _ _ hP9, B10.out.alloc _, trivial⟩ ?_
      clear hP9
      clear hS BX B6 B7 HB B10 
      rintro wc ⟨bx, b6, b7, hbW, b9, b10, -⟩
      have BX := hid bx; have B6 := hid b6; have B7 := hid b7; have HB := hid hbW; have B9 := hid b9; have B10 := hid b10; have hS := hid (box_four bx).1
      clear bx b6 b7 hbW b9 b10 
      refine wpAnyF_one (i := 1) rfl ⟨by kernel_rfl, by kernel_rfl⟩ ?_
      intro K hK
      go_simp
      refine (twin_any a.id a.hs a.st a.fo sa fa sc fc wc (by omega) (by omega) (H1.out.below HB.out) (H2.out.below HB.out)).mono ?_
      rintro e w2 ⟨v, rfl, hb2, s1, d1, s2, d2, rfl, o1, o2, -⟩
      have O1 := hid (own_base o1 HB.out.size); have O2 := hid (own_base o2 HB.out.size)
      clear o1 o2
      dsimp only at O1 O2 ⊢
      refine shutS hK (box_four (BX.out.below hb2 BX.out.lt)).1 (fun hS => ?_)
      refine any_world (fun W => Box W w.heap.size #[.int .i64 a.id, .int .i64 a.hs, .slice sa a.st.length sc, .slice fa a.fo.length fc] 24 ∧ Box W (w.heap.size + 1) #[.int .i64 0, .int .i64 0, .slice none 0 0, .slice none 0 0] 24 ∧ Box W (w.heap.size + 1 + 1) #[.int .i64 0, .int .i64 0, .slice none 0 0, .slice none 0 0] 24 ∧ Below w.heap.size w W ∧ Box W P9 #[.int .i64 0, .int .i64 0, .slice none 0 0, .slice none 0 0] 24 ∧ Box W Q9 #[.int .i64 0, .int .i64 0, .slice none 0 0, .slice none 0 0] 24 ∧ W.ownsRow w.heap.size 3 1 (.slice s1 a.st.length d1) a.st.length (a.st.map (Value.int .i64)) ∧ W.ownsRow w.heap.size 3 1 (.slice s2 a.fo.length d2) a.fo.length (a.fo.map (Value.int .i64)) ∧ True) ⟨BX.out.below hb2 BX.out.lt, B6.out.below hb2 B6.out.lt, B7.out.below hb2 B7.out.lt, HB.out.trans (hb2.mono HB.out.size), B9.out.below hb2 B9.out.lt, B10.out.below hb2 B10.out.lt, O1.out, O2.out, trivial⟩ ?_
      clear hS BX B6 B7 HB B9 B10 O1 O2  hb2
      rintro wc ⟨bx, b6, b7, hbW, b9, b10, o1, o2, -⟩
      have BX := hid bx; have B6 := hid b6; have B7 := hid b7; have HB := hid hbW; have B9 := hid b9; have B10 := hid b10; have O1 := hid o1; have O2 := hid o2; have hS := hid (box_four bx).1
      clear bx b6 b7 hbW b9 b10 o1 o2 
      refine wpAnyF_one (i := 3) rfl ⟨by kernel_rfl, by kernel_rfl⟩ ?_
      intro K hK
      go_simp
      refine (twin_any a.id a.hs a.st a.fo sa fa sc fc wc (by omega) (by omega) (H1.out.below HB.out) (H2.out.below HB.out)).mono ?_
      rintro e w2 ⟨v, rfl, hb2, s3, d3, s4, d4, rfl, o3, o4, -⟩
      have O3 := hid (own_base o3 HB.out.size); have O4 := hid (own_base o4 HB.out.size)
      clear o3 o4
      dsimp only at O3 O4 ⊢
      refine shutN hK (by kernel_rfl) ?_
      refine any_world (fun W => Box W w.heap.size #[.int .i64 a.id, .int .i64 a.hs, .slice sa a.st.length sc, .slice fa a.fo.length fc] 24 ∧ Box W (w.heap.size + 1) #[.int .i64 0, .int .i64 0, .slice none 0 0, .slice none 0 0] 24 ∧ Box W (w.heap.size + 1 + 1) #[.int .i64 0, .int .i64 0, .slice none 0 0, .slice none 0 0] 24 ∧ Below w.heap.size w W ∧ Box W P9 #[.int .i64 0, .int .i64 0, .slice none 0 0, .slice none 0 0] 24 ∧ Box W Q9 #[.int .i64 0, .int .i64 0, .slice none 0 0, .slice none 0 0] 24 ∧ W.ownsRow w.heap.size 3 1 (.slice s1 a.st.length d1) a.st.length (a.st.map (Value.int .i64)) ∧ W.ownsRow w.heap.size 3 1 (.slice s2 a.fo.length d2) a.fo.length (a.fo.map (Value.int .i64)) ∧ W.ownsRow w.heap.size 3 1 (.slice s3 a.st.length d3) a.st.length (a.st.map (Value.int .i64)) ∧ W.ownsRow w.heap.size 3 1 (.slice s4 a.fo.length d4) a.fo.length (a.fo.map (Value.int .i64)) ∧ True) ⟨BX.out.below hb2 BX.out.lt, B6.out.below hb2 B6.out.lt, B7.out.below hb2 B7.out.lt, HB.out.trans (hb2.mono HB.out.size), B9.out.below hb2 B9.out.lt, B10.out.below hb2 B10.out.lt, own_below O1.out hb2 (Nat.le_refl _), own_below O2.out hb2 (Nat.le_refl _), O3.out, O4.out, trivial⟩ ?_
      clear hS BX B6 B7 HB B9 B10 O1 O2 O3 O4  hb2
      rintro wc ⟨bx, b6, b7, hbW, b9, b10, o1, o2, o3, o4, -⟩
      have BX := hid bx; have B6 := hid b6; have B7 := hid b7; have HB := hid hbW; have B9 := hid b9; have B10 := hid b10; have O1 := hid o1; have O2 := hid o2; have O3 := hid o3; have O4 := hid o4; have hS := hid (box_four bx).1
      clear bx b6 b7 hbW b9 b10 o1 o2 o3 o4 
      refine wpAnyF_one (i := 6) rfl ⟨by kernel_rfl, by kernel_rfl⟩ ?_
      intro K hK
      obtain ⟨⟨c60, c61, c62, c63⟩, ⟨k60, k61, k62, k63⟩, l6⟩ := box_four B9.out
      go_simp
      refine shutN hK (by kernel_rfl) ?_
      have hs9 : w.heap.size ≤ P9 := by omega
      refine any_world (fun W => Box W (w.heap.size + 1) #[.int .i64 0, .int .i64 0, .slice none 0 0, .slice none 0 0] 24 ∧ Box W (w.heap.size + 1 + 1) #[.int .i64 0, .int .i64 0, .slice none 0 0, .slice none 0 0] 24 ∧ Below w.heap.size w W ∧ Box W P9 #[.int .i64 a.id, .int .i64 a.hs, .slice s1 a.st.length d1, .slice s2 a.fo.length d2] 24 ∧ Box W Q9 #[.int .i64 0, .int .i64 0, .slice none 0 0, .slice none 0 0] 24 ∧ W.ownsRow w.heap.size 3 1 (.slice s1 a.st.length d1) a.st.length (a.st.map (Value.int .i64)) ∧ W.ownsRow w.heap.size 3 1 (.slice s2 a.fo.length d2) a.fo.length (a.fo.map (Value.int .i64)) ∧ W.ownsRow w.heap.size 3 1 (.slice s3 a.st.length d3) a.st.length (a.st.map (Value.int .i64)) ∧ W.ownsRow w.heap.size 3 1 (.slice s4 a.fo.length d4) a.fo.length (a.fo.map (Value.int .i64))) ⟨box_oth4 B6.out (by omega) _ _ _ _, box_oth4 B7.out (by omega) _ _ _ _, (((HB.out.setCell (p := ⟨P9, 0, none⟩) hs9 _).setCell (p := ⟨P9, 1, none⟩) hs9 _).setCell (p := ⟨P9, 2, none⟩) hs9 _).setCell (p := ⟨P9, 3, none⟩) hs9 _, box_put4 _ _ _ _ B9.out, box_oth4 B10.out (by omega) _ _ _ _, own_keep4 O1.out (own_ne O1.out B9.out), own_keep4 O2.out (own_ne O2.out B9.out), own_keep4 O3.out (own_ne O3.out B9.out), own_keep4 O4.out (own_ne O4.out B9.out)⟩ ?_
      clear hS BX B6 B7 HB B9 B10 O1 O2 O3 O4 c60 c61 c62 c63 k60 k61 k62 k63 l6 hs9
      rintro wc ⟨b6, b7, hbW, b9, b10, o1, o2, o3, o4⟩
      have B6 := hid b6; have B7 := hid b7; have HB := hid hbW; have B9 := hid b9; have B10 := hid b10; have O1 := hid o1; have O2 := hid o2; have O3 := hid o3; have O4 := hid o4
      clear b6 b7 hbW b9 b10 o1 o2 o3 o4
      refine wpAnyF_one (i := 7) rfl ⟨by kernel_rfl, by kernel_rfl⟩ ?_
      intro K hK
      obtain ⟨⟨c60, c61, c62, c63⟩, ⟨k60, k61, k62, k63⟩, l6⟩ := box_four B10.out
      go_simp
      refine shutN hK (by kernel_rfl) ?_
      refine wpAnyF_done (by kernel_rfl) ?_ _
      have hs9 : w.heap.size ≤ Q9 := by omega
      unfold NormP Two; refine acts_of rfl ?_
      exact ⟨P9, Q9, s1, d1, s2, d2, s3, d3, s4, d4, rfl, rfl, rfl, rfl, rfl, rfl, nP9, nQ9, by omega, box_oth4 B6.out (by omega) _ _ _ _, box_oth4 B7.out (by omega) _ _ _ _, (((HB.out.setCell (p := ⟨Q9, 0, none⟩) hs9 _).setCell (p := ⟨Q9, 1, none⟩) hs9 _).setCell (p := ⟨Q9, 2, none⟩) hs9 _).setCell (p := ⟨Q9, 3, none⟩) hs9 _, box_oth4 B9.out (by omega) _ _ _ _, box_put4 _ _ _ _ B10.out, own_keep4 O1.out (own_ne O1.out B10.out), own_keep4 O2.out (own_ne O2.out B10.out), own_keep4 O3.out (own_ne O3.out B10.out), own_keep4 O4.out (own_ne O4.out B10.out)⟩

end Go.Proofs.YthddoikmgpgakaaDoor
