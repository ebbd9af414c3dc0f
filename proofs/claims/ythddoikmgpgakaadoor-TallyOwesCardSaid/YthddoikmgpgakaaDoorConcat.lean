/- 'slices.Grow' of nil, 'slices.Concat' of two lists, 'slices.Clone'. -/
import Derived.Test.YthddoikmgpgakaaDoorProg
import Derived.Test.YthddoikmgpgakaaDoorBase
import Derived.Outline
import Derived.RangeFuncNested
import Derived.Shelf.Abstract
import Derived.Deep.QuietTactic
import Derived.BigQuiet
import Derived.Deep.RegionHeld3
import Derived.WalkSmall
import Derived.Laws.EntriesVeiled
import Derived.Test.YthddoikmgpgakaaDoorApp
import Derived.Lib.AppendZerosOnto
import Derived.Lib.Walk
import Derived.Lib.SliceRun
namespace Go.Proofs.YthddoikmgpgakaaDoor
open Go.RowKit Go.Proofs Go.Shelf

theorem infoInt : (Tryd.prog.info? 3).map (fun i => (i.zero, i.size, i.bytes)) = some (some (.int .i64 0), 1, 8) := by kernel_rfl

set_option maxRecDepth 20000 in
theorem growNil_any (n : Nat) (hn : n ≤ 4000) (w : World) :
    Calls Tryd.prog 103 #[.slice none 0 0, .int .i64 n] w fun e w' => ∃ a c, e = .returned (.slice a 0 c) ∧ Below w.heap.size w w' ∧ w'.ownsRow w.heap.size 3 1 (.slice a 0 c) 0 [] := by
  have k1 : ¬ ((n : Int) < 0) := by omega
  rcases Nat.eq_zero_or_pos n with rfl | hp
  · go_enter Tryd.func103, Tryd.ntmps103
    go_wp2
    go_ret
    exact ⟨none, 0, rfl, Below.refl _ _, World.ownsRow_nil _ _ _ _⟩
  · obtain ⟨i0, hi, iz0, iz1, iz2⟩ := info_parts infoInt
    have hold : (Builtin.firstCells i0.size 0 (.slice none 0 0)).run Tryd.prog w.drew = .ok ([] : List Value).toArray w.drew := run_firstCells_none w.drew i0.size 0 0 0
    have hrz : ∀ ty, (Builtin.append_ #[22, 3] ty #[.slice none 0 0, .int .i64 (n : Int)]).run Tryd.prog w =
        .ok (.slice (some ⟨w.heap.size, 0, none⟩) n (grownCap w n 0 3)) (w.drew.alloc (.cells (([] : List Value).toArray ++ Builtin.zeroCells #[.int .i64 0] n ++ Builtin.zeroCells #[.int .i64 0] (grownCap w n 0 3 - n)) 3)) := fun ty => by
      have h := Lib.run_append_grow_zeros w 22 3 ty 3 i0 _ .i64 .i64 Tryd.underlying22 Tryd.underlying3 hi iz0 none 0 0 [] hold n hp (by omega) (by omega) (by omega) (by rw [iz2]; omega) (growslice_fits (by omega) (by rw [iz2]; omega))
      simpa [Value.cells] using h
    have hGn : n ≤ grownCap w n 0 3 := grownCap_ge w _ _ _
    have hGm : grownCap w n 0 3 ≤ maxLen := grownCap_le_maxLen w _ _ _ (by simp only [maxLen]; omega)
    obtain ⟨G, hG⟩ : ∃ G, G = grownCap w n 0 3 := ⟨_, rfl⟩
    rw [← hG] at hrz hGn hGm
    have hG63 : G ≤ 9223372036854775807 := by simp only [maxLen] at hGm; omega
    have HG := hid hGm
    clear hold hG hGm iz0 iz1 iz2 hi
    have own := World.ownsRow_made (e := 3) (size := 1) (base := w.heap.size) w.drew (([] : List Value).toArray ++ Builtin.zeroCells #[.int .i64 0] n ++ Builtin.zeroCells #[.int .i64 0] (G - n)) G (Nat.le_refl _) HG.out (by simp [size_zeroCells]; omega)
    have OW := hid own; clear own
    have h4 : (n : Int) > 0 := by omega
    go_enter Tryd.func103, Tryd.ntmps103
    go_wp2_with (at_builtin; refine Lib.wpList_append_run _ rfl _ _ _ _ rfl _ _ rfl rfl _ _ (hrz _) ?_)
    all_goals (go_ret; exact ⟨_, _, rfl, (by repeat (first | (with_reducible exact Below.refl _ _) | (with_reducible assumption) | (with_reducible refine Below.drew ?_) | (with_reducible refine below_drewN ?_ _) | (with_reducible refine Below.alloc ?_ (by first | omega | (simp; done) | (simp; omega)) _) | (with_reducible refine Below.setCell ?_ (by first | omega | (simp; done) | (simp; omega)) _) | (with_reducible refine Below.trans ?_ (Below.mono (by assumption) (by first | omega | (simp; done) | (simp; omega)))))), by simpa using (show (w.alloc (.cells _ _)).drew.ownsRow _ _ _ _ _ _ from OW.out)⟩)

theorem clone_any (a : Option Addr) (c : Nat) (xs : List Int) (w : World) (hl : xs.length ≤ 4000) (h : RdI w a xs) :
    Calls Tryd.prog 102 #[.slice a xs.length c] w fun e w' => ∃ a' c', e = .returned (.slice a' xs.length c') ∧ Below w.heap.size w w' ∧ w'.ownsRow w.heap.size 3 1 (.slice a' xs.length c') xs.length (xs.map (Value.int .i64)) := by
  have qT : ∀ (w : World) (a : Option Addr) (n c n' c' : Nat), (binOp .eql 22 (.slice a n c) (.slice none n' c')).run Tryd.prog w = .ok (.bool a.isNone) w := fun w a n c n' c' => Lib.run_eql_slice_nil w _ _ a n c n' c' Tryd.underlying22
  have H := hid h; clear h
  cases a with
  | none =>
    have hx : xs = [] := List.length_eq_zero_iff.1 (RdI.none H.out rfl)
    subst hx
    go_enter Tryd.func102, Tryd.ntmps102
    go_wp2_with fail
    go_ret
    exact ⟨none, 0, rfl, Below.refl _ _, World.ownsRow_nil _ _ _ _⟩
  | some ad =>
    obtain ⟨i0, hi, iz0, iz1, iz2⟩ := info_parts infoInt
    go_enter Tryd.func102, Tryd.ntmps102
    go_wp2_with (at_builtin; refine wpList_append_any _ rfl _ _ _ rfl w.heap.size 3 i0 _ 1 8 Tryd.underlying22 hi iz0 iz1 iz2 rfl (by decide) (.slice (some ⟨_, 0, none⟩) 0 0) 0 [] rfl (by repeat (first | (with_reducible assumption) | (with_reducible refine World.ownsRow.drew ?_) | ((with_reducible refine own_lit ?_ ?_ ?_ ?_ ?_) <;> first | rfl | omega | (simp; omega)) | (with_reducible refine World.ownsRow.alloc ?_ _) | (with_reducible refine own_other ?_ (by first | omega | (simp; done) | (simp; omega))) | (refine World.ownsRow.kept ?_ (by with_reducible assumption) (.inr (by first | (simp [Value.ownBlock]; done) | (simp [Value.ownBlock]; omega)))))) (some ad) xs.length c (xs.map (Value.int .i64)) rfl (by simp) (RdI.none (H.out.below (by repeat (first | (with_reducible exact Below.refl _ _) | (with_reducible assumption) | (with_reducible refine Below.drew ?_) | (with_reducible refine below_drewN ?_ _) | (with_reducible refine Below.alloc ?_ (by first | omega | (simp; done) | (simp; omega)) _) | (with_reducible refine Below.setCell ?_ (by first | omega | (simp; done) | (simp; omega)) _) | (with_reducible refine Below.trans ?_ (Below.mono (by assumption) (by first | omega | (simp; done) | (simp; omega)))))))) (RdI.news (H.out.below (by repeat (first | (with_reducible exact Below.refl _ _) | (with_reducible assumption) | (with_reducible refine Below.drew ?_) | (with_reducible refine below_drewN ?_ _) | (with_reducible refine Below.alloc ?_ (by first | omega | (simp; done) | (simp; omega)) _) | (with_reducible refine Below.setCell ?_ (by first | omega | (simp; done) | (simp; omega)) _) | (with_reducible refine Below.trans ?_ (Below.mono (by assumption) (by first | omega | (simp; done) | (simp; omega)))))))) (ints_one _) (by omega) (by omega) (by first | omega | (simp; done) | (simp; omega)) ?_; intro a' c' w1 own1 gr1 pl1)
    go_ret
    exact ⟨a', c', by simp, Below.grown (a := w) (by repeat (first | (with_reducible exact Below.refl _ _) | (with_reducible assumption) | (with_reducible refine Below.drew ?_) | (with_reducible refine below_drewN ?_ _) | (with_reducible refine Below.alloc ?_ (by first | omega | (simp; done) | (simp; omega)) _) | (with_reducible refine Below.setCell ?_ (by first | omega | (simp; done) | (simp; omega)) _) | (with_reducible refine Below.trans ?_ (Below.mono (by assumption) (by first | omega | (simp; done) | (simp; omega)))))) gr1 (by first | omega | (simp; done) | (simp; omega)) (by intro k hk; simp [Value.ownBlock] at hk; omega), by simpa using own1⟩

set_option maxRecDepth 20000 in
theorem concat_any (B : Nat) (a b : Option Addr) (c d : Nat) (xs ys : List Int) (w : World) (hl : xs.length ≤ 1000) (hl2 : ys.length ≤ 1000) (h1 : RdI w a xs) (h2 : RdI w b ys)
    (c0 : w.cell? ⟨B, 0, none⟩ = some (.slice a xs.length c)) (c1 : w.cell? ⟨B, 1, none⟩ = some (.slice b ys.length d)) :
    Calls Tryd.prog 80 #[.slice (some ⟨B, 0, none⟩) 2 2] w fun e w' => ∃ a' c', e = .returned (.slice a' (xs.length + ys.length) c') ∧ Below w.heap.size w w' ∧ w'.ownsRow w.heap.size 3 1 (.slice a' (xs.length + ys.length) c') (xs.length + ys.length) ((xs ++ ys).map (Value.int .i64)) := by
  have HX := hid h1; clear h1
  have HY := hid h2; clear h2
  have hB := cell_lt c0
  simp only at hB
  obtain ⟨i0, hi, iz0, iz1, iz2⟩ := info_parts infoInt
  have n1 : ¬ ((xs.length : Int) < 0) := by omega
  have n2 : ¬ ((xs.length : Int) + (ys.length : Int) < 0) := by omega
  go_enter Tryd.func80, Tryd.ntmps80
  go_wp2_with fail
  refine wp_loop_rounds 3 ?_
  rw [rounds_succ]; go_wp2_with fail
  rw [rounds_succ]; go_wp2_with fail
  rw [rounds_succ]; go_wp2_with fail
  refine (growNil_any (xs.length + ys.length) (by omega) w).mono ?_
  rintro e w1 ⟨ga, gc, rfl, hb1, own1⟩
  have hz1 := (hb1).size; (try simp only [World.size_alloc, World.size_setCell, World.size_drew, World.heap_drewN] at hz1); obtain ⟨hc1, hf1⟩ := bcell hb1
  have d0 : w1.cell? ⟨B, 0, none⟩ = some (.slice a xs.length c) := (hc1 B 0 hB).trans c0
  have d1 : w1.cell? ⟨B, 1, none⟩ = some (.slice b ys.length d) := (hc1 B 1 hB).trans c1
  clear hc1 hf1 c0 c1
  go_wp2_with fail
  refine wp_loop_rounds 3 ?_
  rw [rounds_succ]
  go_wp2_with (at_builtin; refine wpList_append_any _ rfl _ _ _ rfl w.heap.size 3 i0 _ 1 8 Tryd.underlying22 hi iz0 iz1 iz2 rfl (by decide) (.slice ga 0 gc) 0 [] rfl own1 a xs.length c (xs.map (Value.int .i64)) rfl (by simp) (RdI.none (HX.out.below (by repeat (first | (with_reducible exact Below.refl _ _) | (with_reducible assumption) | (with_reducible refine Below.drew ?_) | (with_reducible refine below_drewN ?_ _) | (with_reducible refine Below.alloc ?_ (by first | omega | (simp; done) | (simp; omega)) _) | (with_reducible refine Below.setCell ?_ (by first | omega | (simp; done) | (simp; omega)) _) | (with_reducible refine Below.trans ?_ (Below.mono (by assumption) (by first | omega | (simp; done) | (simp; omega)))))))) (RdI.news (HX.out.below (by repeat (first | (with_reducible exact Below.refl _ _) | (with_reducible assumption) | (with_reducible refine Below.drew ?_) | (with_reducible refine below_drewN ?_ _) | (with_reducible refine Below.alloc ?_ (by first | omega | (simp; done) | (simp; omega)) _) | (with_reducible refine Below.setCell ?_ (by first | omega | (simp; done) | (simp; omega)) _) | (with_reducible refine Below.trans ?_ (Below.mono (by assumption) (by first | omega | (simp; done) | (simp; omega)))))))) (ints_one _) (by omega) (by omega) (by first | omega | (simp; done) | (simp; omega)) ?_; intro a2 c2 w2 own2 gr2 pl2)
  simp only [Nat.zero_add, List.nil_append] at own2 pl2 ⊢
  have hz2' := gr2.size
  have hb2 : Below w.heap.size w w2 := Below.grown (a := w) (hb1.trans (Below.refl _ _)) gr2 (by first | omega | (simp; done) | (simp; omega)) (fun k hk => (own1.lt k hk).1)
  have ne1 : (Value.slice ga 0 gc).ownBlock ≠ some B := fun h => by have := (own1.lt _ h).1; omega
  have d2 : w2.cell? ⟨B, 1, none⟩ = some (.slice b ys.length d) := (gr2.cell_far _ (by simp; omega) (Ne.symm ne1)).trans d1
  clear d0 d1
  rw [rounds_succ]
  go_wp2_with (at_builtin; refine wpList_append_any _ rfl _ _ _ rfl w.heap.size 3 i0 _ 1 8 Tryd.underlying22 hi iz0 iz1 iz2 rfl (by decide) (.slice a2 xs.length c2) xs.length (xs.map (Value.int .i64)) rfl own2 b ys.length d (ys.map (Value.int .i64)) rfl (by simp) (RdI.none (HY.out.below (by repeat (first | (with_reducible exact Below.refl _ _) | (with_reducible assumption) | (with_reducible refine Below.drew ?_) | (with_reducible refine below_drewN ?_ _) | (with_reducible refine Below.alloc ?_ (by first | omega | (simp; done) | (simp; omega)) _) | (with_reducible refine Below.setCell ?_ (by first | omega | (simp; done) | (simp; omega)) _) | (with_reducible refine Below.trans ?_ (Below.mono (by assumption) (by first | omega | (simp; done) | (simp; omega)))))))) (RdI.news (HY.out.below (by repeat (first | (with_reducible exact Below.refl _ _) | (with_reducible assumption) | (with_reducible refine Below.drew ?_) | (with_reducible refine below_drewN ?_ _) | (with_reducible refine Below.alloc ?_ (by first | omega | (simp; done) | (simp; omega)) _) | (with_reducible refine Below.setCell ?_ (by first | omega | (simp; done) | (simp; omega)) _) | (with_reducible refine Below.trans ?_ (Below.mono (by assumption) (by first | omega | (simp; done) | (simp; omega)))))))) (ints_one _) (by omega) (by omega) (by first | omega | (simp; done) | (simp; omega)) ?_; intro a3 c3 w3 own3 gr3 pl3)
  have hb3 : Below w.heap.size w w3 := Below.grown (a := w) hb2 gr3 (by first | omega | (simp; done) | (simp; omega)) (fun k hk => (own2.lt k hk).1)
  rw [rounds_succ]
  go_wp2_with fail
  go_ret
  exact ⟨a3, c3, by simp, hb3, by simpa using own3⟩
end Go.Proofs.YthddoikmgpgakaaDoor
