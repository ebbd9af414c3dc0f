/- 'copied': a tally in new memory. -/
import Derived.Test.YthddoikmgpgakaaDoorProg
import Derived.Test.YthddoikmgpgakaaDoorBase
import Derived.Outline
import Derived.RangeFuncNested
import Derived.Shelf.Abstract
import Derived.Deep.QuietTactic
import Derived.BigQuiet
import Derived.Deep.RegionHeld3
import Derived.WalkSmall
import Derived.Laws.EntriesVeiled
import Derived.Test.YthddoikmgpgakaaDoorTwin
namespace Go.Proofs.YthddoikmgpgakaaDoor
open Go.RowKit Go.Proofs Go.Shelf

theorem wp_goal {K : Act → World → Prop} {a : Act} {w : World} (T : World → Prop) (hT : T w) (h : ∀ w', T w' → K a w') : K a w := h w hT

set_option maxRecDepth 20000 in
set_option maxHeartbeats 1000000 in
theorem copied_any (t : Tl) (sa fa : Option Addr) (sc fc : Nat) (w : World) (hl : t.st.length ≤ 4000) (hl2 : t.fo.length ≤ 4000) (h1 : RdI w sa t.st) (h2 : RdI w fa t.fo) :
    Calls Tryd.prog 86 #[.agg #[.int .i64 t.id, .int .i64 t.hs, .slice sa t.st.length sc, .slice fa t.fo.length fc]] w fun e w' => ∃ v, e = .returned v ∧ Below w.heap.size w w' ∧ NewT w.heap.size w' v t := by
  have HX := hid h1; clear h1
  have HY := hid h2; clear h2
  have hm := mixed
  go_enter Tryd.func86, Tryd.ntmps86
  go_wp2_with fail
  refine wp_world (fun w0 => Box w0 w.heap.size #[.int .i64 t.id, .int .i64 t.hs, .slice sa t.st.length sc, .slice fa t.fo.length fc] 24 ∧ Box w0 (w.heap.size + 1) #[.int .i64 0, .int .i64 0, .slice none 0 0, .slice none 0 0] 24 ∧ w0.heap.size = w.heap.size + 2 ∧ Below w.heap.size w w0) ⟨(Box.new _ _ _).alloc _, by simpa using Box.new (w.alloc _) _ _, by simp, (by repeat (first | (with_reducible exact Below.refl _ _) | (with_reducible assumption) | (with_reducible refine Below.drew ?_) | (with_reducible refine below_drewN ?_ _) | (with_reducible refine Below.alloc ?_ (by first | omega | (simp; done) | (simp; omega)) _) | (with_reducible refine Below.setCell ?_ (by first | omega | (simp; done) | (simp; omega)) _) | (with_reducible refine Below.trans ?_ (Below.mono (by assumption) (by first | omega | (simp; done) | (simp; omega))))))⟩ ?_
  rintro w0 ⟨b1, b2, hz, hb0⟩
  have c2 : w0.cell? ⟨w.heap.size, 2, none⟩ = some (.slice sa t.st.length sc) := b1.cell 2
  have c3 : w0.cell? ⟨w.heap.size, 3, none⟩ = some (.slice fa t.fo.length fc) := b1.cell 3
  have hlt : w.heap.size < w0.heap.size := b1.lt
  have hlt2 : w.heap.size + 1 < w0.heap.size := b2.lt
  have B1 := hid b1; have B2 := hid b2; clear b1 b2
  refine wp_region_F [1, 4] (fun w' => w'.cell? ⟨w.heap.size, 2, none⟩ = some (.slice sa t.st.length sc) ∧ w'.cell? ⟨w.heap.size, 3, none⟩ = some (.slice fa t.fo.length fc)) hm ⟨by go_simp, by go_simp⟩ ?_
  intro hS0; have hS := hid hS0; clear hS0
  (apply wpAnyF_pure (i := 0) rfl (by kernel_rfl) (fun _ _ _ h => h); · first | exact .inr ⟨rfl, rfl⟩ | exact .inl ⟨rfl, fun w' => by go_simp; rfl⟩); simp only [Act.put, List.setIfInBounds_toArray, List.set_cons_succ, List.set_cons_zero, List.getElem_toArray, List.getElem_cons_succ, List.getElem_cons_zero]
  (apply wpAnyF_held (i := 1) rfl (by kernel_rfl) (fun _ _ _ h => h) hS.out; · first | exact .inr ⟨rfl, rfl⟩ | exact .inl ⟨rfl, fun w' hS' => by (obtain ⟨s1, s2⟩ := hS'; go_simp; rfl)⟩); simp only [Act.put, List.setIfInBounds_toArray, List.set_cons_succ, List.set_cons_zero, List.getElem_toArray, List.getElem_cons_succ, List.getElem_cons_zero]
  (apply wpAnyF_pure (i := 3) rfl (by kernel_rfl) (fun _ _ _ h => h); · first | exact .inr ⟨rfl, rfl⟩ | exact .inl ⟨rfl, fun w' => by go_simp; rfl⟩); simp only [Act.put, List.setIfInBounds_toArray, List.set_cons_succ, List.set_cons_zero, List.getElem_toArray, List.getElem_cons_succ, List.getElem_cons_zero]
  (apply wpAnyF_held (i := 4) rfl (by kernel_rfl) (fun _ _ _ h => h) hS.out; · first | exact .inr ⟨rfl, rfl⟩ | exact .inl ⟨rfl, fun w' hS' => by (obtain ⟨s1, s2⟩ := hS'; go_simp; rfl)⟩); simp only [Act.put, List.setIfInBounds_toArray, List.set_cons_succ, List.set_cons_zero, List.getElem_toArray, List.getElem_cons_succ, List.getElem_cons_zero]
  refine wpAnyF_one (i := 2) rfl ⟨by kernel_rfl, by kernel_rfl⟩ ?_
  intro K hK
  go_simp
  refine (clone_any sa sc t.st w0.drew hl ((HX.out.below hb0).drew)).mono ?_
  rintro e w1 ⟨sa', sc', rfl, hb1, o1⟩
  have hb1' : Below w0.heap.size w0 w1 := ⟨hb1.os, hb1.tape, hb1.output, hb1.size, hb1.block⟩
  refine shutS hK ⟨(hb1'.cell (p := ⟨w.heap.size, 2, none⟩) hlt).trans c2, (hb1'.cell (p := ⟨w.heap.size, 3, none⟩) hlt).trans c3⟩ (fun hS => ?_)
  (apply wpAnyF_pure (i := 6) rfl (by kernel_rfl) (fun _ _ _ h => h); · first | exact .inr ⟨rfl, rfl⟩ | exact .inl ⟨rfl, fun w' => by go_simp; rfl⟩); simp only [Act.put, List.setIfInBounds_toArray, List.set_cons_succ, List.set_cons_zero, List.getElem_toArray, List.getElem_cons_succ, List.getElem_cons_zero]
  refine wpAnyF_one (i := 5) rfl ⟨by kernel_rfl, by kernel_rfl⟩ ?_
  intro K hK
  go_simp
  refine (clone_any fa fc t.fo w1 hl2 ((HY.out.below hb0).below hb1')).mono ?_
  rintro e w2 ⟨fa', fc', rfl, hb2, o2⟩
  have B12 := (B1.out.below hb1' hlt).below hb2 (by have := hb1'.size; omega)
  have B22 := (B2.out.below hb1' hlt2).below hb2 (by have := hb1'.size; omega)
  have g2 : w2.cell? ⟨w.heap.size, 2, none⟩ = some (.slice sa t.st.length sc) := B12.cell 2
  have g3 : w2.cell? ⟨w.heap.size, 3, none⟩ = some (.slice fa t.fo.length fc) := B12.cell 3
  have k2 := B12.frozen 2; have k3 := B12.frozen 3
  have l12 := B12.lt
  refine shutN hK (by kernel_rfl) ?_
  refine wpAnyF_one (i := 7) rfl ⟨by kernel_rfl, by kernel_rfl⟩ ?_
  intro K hK
  go_simp
  refine shutN hK (by kernel_rfl) ?_
  (apply wpAnyF_pure (i := 8) rfl (by kernel_rfl) (fun _ _ _ h => h); · first | exact .inr ⟨rfl, rfl⟩ | exact .inl ⟨rfl, fun w' => by go_simp; rfl⟩); simp only [Act.put, List.setIfInBounds_toArray, List.set_cons_succ, List.set_cons_zero, List.getElem_toArray, List.getElem_cons_succ, List.getElem_cons_zero]
  refine wpAnyF_one (i := 9) rfl ⟨by kernel_rfl, by kernel_rfl⟩ ?_
  intro K hK
  go_simp
  refine shutN hK (by kernel_rfl) ?_
  refine wpAnyF_done (by kernel_rfl) ?_ _
  clear hS
  have hap := own_apart o1 o2 (Nat.le_refl _)
  have o1' : w2.ownsRow w0.heap.size 3 1 (.slice sa' t.st.length sc') t.st.length (t.st.map (Value.int .i64)) := own_below o1 hb2 (Nat.le_refl _)
  have hsz1 := hb1'.size
  have hbw : Below w.heap.size w w2 := (hb0.trans (hb1'.mono (by omega))).trans (hb2.mono (by omega))
  refine wp_goal (fun W => Box W w.heap.size #[.int .i64 t.id, .int .i64 t.hs, .slice sa' t.st.length sc', .slice fa' t.fo.length fc'] 24 ∧ Box W (w.heap.size + 1) #[.int .i64 0, .int .i64 0, .slice none 0 0, .slice none 0 0] 24 ∧ W.ownsRow w0.heap.size 3 1 (.slice sa' t.st.length sc') t.st.length (t.st.map (Value.int .i64)) ∧ W.ownsRow w0.heap.size 3 1 (.slice fa' t.fo.length fc') t.fo.length (t.fo.map (Value.int .i64)) ∧ Below w.heap.size w W) ⟨(B12.set 2 _).set 3 _, (B22.other _ _ _ (by omega)).other _ _ _ (by omega), own_other (own_other o1' hlt) hlt, own_other (own_other (own_base o2 hsz1) hlt) hlt, (hbw.setCell (p := ⟨w.heap.size, 2, none⟩) (Nat.le_refl _) _).setCell (p := ⟨w.heap.size, 3, none⟩) (Nat.le_refl _) _⟩ ?_
  rintro W ⟨d1, d2, r1, r2, hbW⟩
  clear B12 B22 o1' o1 o2 hbw hb1 hb2 hb1' g2 g3 k2 k3 l12
  have e0 : W.cell? ⟨w.heap.size, 0, none⟩ = some (.int .i64 t.id) := d1.cell 0
  have e1 : W.cell? ⟨w.heap.size, 1, none⟩ = some (.int .i64 t.hs) := d1.cell 1
  have e2 : W.cell? ⟨w.heap.size, 2, none⟩ = some (.slice sa' t.st.length sc') := d1.cell 2
  have e3 : W.cell? ⟨w.heap.size, 3, none⟩ = some (.slice fa' t.fo.length fc') := d1.cell 3
  have q0 : W.cell? ⟨w.heap.size + 1, 0, none⟩ = some (.int .i64 0) := d2.cell 0
  have q1 : W.cell? ⟨w.heap.size + 1, 1, none⟩ = some (.int .i64 0) := d2.cell 1
  have q2 : W.cell? ⟨w.heap.size + 1, 2, none⟩ = some (.slice none 0 0) := d2.cell 2
  have q3 : W.cell? ⟨w.heap.size + 1, 3, none⟩ = some (.slice none 0 0) := d2.cell 3
  have k0 := d2.frozen 0; have k1 := d2.frozen 1; have k2 := d2.frozen 2; have k3 := d2.frozen 3
  have ld1 := d1.lt; have ld2 := d2.lt
  have R1 := hid r1; have R2 := hid r2; clear r1 r2
  go_wp2_with fail
  refine bodyPost_ret (v := .agg #[.int .i64 t.id, .int .i64 t.hs, .slice sa' t.st.length sc', .slice fa' t.fo.length fc']) (by simp [results, Tryd.results86, go_sem, q0, q1, q2, q3]) rfl ?_
  have hlt3 : w.heap.size + 1 < w0.heap.size := hlt2
  exact ⟨_, rfl, (((hbW.setCell (p := ⟨w.heap.size + 1, 0, none⟩) (Nat.le_succ _) _).setCell (p := ⟨w.heap.size + 1, 1, none⟩) (Nat.le_succ _) _).setCell (p := ⟨w.heap.size + 1, 2, none⟩) (Nat.le_succ _) _).setCell (p := ⟨w.heap.size + 1, 3, none⟩) (Nat.le_succ _) _,
    sa', sc', fa', fc', rfl, own_base (own_other (own_other (own_other (own_other R1.out hlt3) hlt3) hlt3) hlt3) (by omega), own_base (own_other (own_other (own_other (own_other R2.out hlt3) hlt3) hlt3) hlt3) (by omega), hap⟩

end Go.Proofs.YthddoikmgpgakaaDoor
