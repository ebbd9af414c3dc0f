/- The program's 'Edits'. -/
import Derived.Test.YthddoikmgpgakaaDoorProg
import Derived.Test.YthddoikmgpgakaaDoorBase
import Derived.Outline
import Derived.RangeFuncNested
import Derived.Shelf.Abstract
import Derived.Deep.QuietTactic
import Derived.BigQuiet
import Derived.Deep.RegionHeld3
import Derived.WalkSmall
import Derived.Laws.EntriesVeiled
import Derived.WalkMore
import Derived.Test.YthddoikmgpgakaaDoorEdL
import Derived.Test.YthddoikmgpgakaaDoorMarks
namespace Go.Proofs.YthddoikmgpgakaaDoor
open Go.RowKit Go.Proofs Go.Shelf

attribute [local go_sem] Oper.semAt_some
attribute [local go_sem] eqPlace

/-- The value of an edit. -/
def Ed.val (e : Ed) : Value := .agg #[.int .i64 e.kd, .int .i64 e.at', .int .i64 e.nt]
/-- The edit of a step, as a struct: that of none, if nothing is false. -/
def edV (x : St) (k : Nat) : Ed := if x.wr = 0 then ⟨0, 0, 0⟩ else if x.f = 0 then ⟨1, k, 0⟩ else if x.s = 0 then ⟨2, k, x.f⟩ else ⟨3, k, x.f⟩

set_option maxRecDepth 20000 in
theorem edit_any (x : St) (k : Nat) (w : World) :
    Calls Tryd.prog 88 #[x.val, .int .i64 k] w fun e w' => e = .returned (edV x k).val ∧ Below w.heap.size w w' := by
  unfold St.val
  go_enter Tryd.func88, Tryd.ntmps88
  by_cases h1 : x.wr = 0
  · have t1 : (x.wr == 0) = true := by simp [h1]
    have H1 := hid h1; clear h1
    go_wp2_with fail
    refine bodyPost_ret (v := .agg #[.int .i64 0, .int .i64 0, .int .i64 0]) (by simp [results, Tryd.results88, go_sem]) rfl ?_
    exact ⟨by unfold edV; rw [if_pos H1.out]; rfl, (by repeat (first | (with_reducible exact Below.refl _ _) | (with_reducible assumption) | (with_reducible refine Below.drew ?_) | (with_reducible refine below_drewN ?_ _) | (with_reducible refine Below.alloc ?_ (by first | omega | (simp; done) | (simp; omega)) _) | (with_reducible refine Below.setCell ?_ (by first | omega | (simp; done) | (simp; omega)) _) | (with_reducible refine Below.trans ?_ (Below.mono (by assumption) (by first | omega | (simp; done) | (simp; omega))))))⟩
  · have t1 : (x.wr == 0) = false := by simp [h1]
    have H1 := hid h1; clear h1
    by_cases h2 : x.f = 0
    · have t2 : (x.f == 0) = true := by simp [h2]
      have H2 := hid h2; clear h2
      go_wp2_with fail
      refine bodyPost_ret (v := .agg #[.int .i64 1, .int .i64 k, .int .i64 0]) (by simp [results, Tryd.results88, go_sem]) rfl ?_
      exact ⟨by unfold edV; rw [if_neg H1.out, if_pos H2.out]; rfl, (by repeat (first | (with_reducible exact Below.refl _ _) | (with_reducible assumption) | (with_reducible refine Below.drew ?_) | (with_reducible refine below_drewN ?_ _) | (with_reducible refine Below.alloc ?_ (by first | omega | (simp; done) | (simp; omega)) _) | (with_reducible refine Below.setCell ?_ (by first | omega | (simp; done) | (simp; omega)) _) | (with_reducible refine Below.trans ?_ (Below.mono (by assumption) (by first | omega | (simp; done) | (simp; omega))))))⟩
    · have t2 : (x.f == 0) = false := by simp [h2]
      have H2 := hid h2; clear h2
      by_cases h3 : x.s = 0
      · have t3 : (x.s == 0) = true := by simp [h3]
        have H3 := hid h3; clear h3
        go_wp2_with fail
        refine bodyPost_ret (v := .agg #[.int .i64 2, .int .i64 k, .int .i64 x.f]) (by simp [results, Tryd.results88, go_sem]) rfl ?_
        exact ⟨by unfold edV; rw [if_neg H1.out, if_neg H2.out, if_pos H3.out]; rfl, (by repeat (first | (with_reducible exact Below.refl _ _) | (with_reducible assumption) | (with_reducible refine Below.drew ?_) | (with_reducible refine below_drewN ?_ _) | (with_reducible refine Below.alloc ?_ (by first | omega | (simp; done) | (simp; omega)) _) | (with_reducible refine Below.setCell ?_ (by first | omega | (simp; done) | (simp; omega)) _) | (with_reducible refine Below.trans ?_ (Below.mono (by assumption) (by first | omega | (simp; done) | (simp; omega))))))⟩
      · have t3 : (x.s == 0) = false := by simp [h3]
        have H3 := hid h3; clear h3
        go_wp2_with fail
        refine bodyPost_ret (v := .agg #[.int .i64 3, .int .i64 k, .int .i64 x.f]) (by simp [results, Tryd.results88, go_sem]) rfl ?_
        exact ⟨by unfold edV; rw [if_neg H1.out, if_neg H2.out, if_neg H3.out]; rfl, (by repeat (first | (with_reducible exact Below.refl _ _) | (with_reducible assumption) | (with_reducible refine Below.drew ?_) | (with_reducible refine below_drewN ?_ _) | (with_reducible refine Below.alloc ?_ (by first | omega | (simp; done) | (simp; omega)) _) | (with_reducible refine Below.setCell ?_ (by first | omega | (simp; done) | (simp; omega)) _) | (with_reducible refine Below.trans ?_ (Below.mono (by assumption) (by first | omega | (simp; done) | (simp; omega))))))⟩

/-- Between two edits. -/
structure EdInv (a : Tl) (sa fa : Option Addr) (sc fc : Nat) (w0 : World) (px N pb eb kb M : Nat) (i k p7 : Nat) (ds : List Deferred) (W : World) : Prop where
  hi : i ≤ a.st.length
  hk : k ≤ a.fo.length
  x : Box W px (#[.int .i64 a.id, .int .i64 a.hs, .slice sa a.st.length sc, .slice fa a.fo.length fc]) 24
  p5 : Box W N (pairC a.id a.hs a.st a.fo sa fa sc fc (leftV eb kb pb)) 134
  l6 : ∃ acc la lc, Box W (N + 1) #[.slice la acc.length lc] 48 ∧ W.ownsRow (N + 2) 109 3 (.slice la acc.length lc) acc.length (edCells acc) ∧ acc ++ edL a.st a.fo i k = edL a.st a.fo 0 0 ∧ acc.length ≤ i + k
  a7 : Box W p7 #[.int .i64 i, .int .i64 k] 137
  h7 : N + 2 ≤ p7
  half : Half W pb eb kb M a.id a.hs a.st a.fo sa fa sc fc
  bel : Below w0.heap.size w0 W
  marks : Marks (N + 2) W ds

/-- Behind an edit, ahead of the turn of the place. -/
structure EdOut (a : Tl) (sa fa : Option Addr) (sc fc : Nat) (w0 : World) (px N pb eb kb M : Nat) (i k : Nat) (y : St) (p7 : Nat) (ds : List Deferred) (W : World) : Prop where
  x : Box W px (#[.int .i64 a.id, .int .i64 a.hs, .slice sa a.st.length sc, .slice fa a.fo.length fc]) 24
  p5 : Box W N (pairC a.id a.hs a.st a.fo sa fa sc fc (leftV eb kb pb)) 134
  l6 : ∃ acc es la lc, Box W (N + 1) #[.slice la (acc ++ es).length lc] 48 ∧ W.ownsRow (N + 2) 109 3 (.slice la (acc ++ es).length lc) (acc ++ es).length (edCells (acc ++ es)) ∧ acc ++ edL a.st a.fo i k = edL a.st a.fo 0 0 ∧ acc.length ≤ i + k ∧ es = edOf y k
  a7 : Box W p7 #[.int .i64 y.i, .int .i64 y.k] 137
  h7 : N + 2 ≤ p7
  half : Half W pb eb kb M a.id a.hs a.st a.fo sa fa sc fc
  bel : Below w0.heap.size w0 W
  marks : Marks (N + 2) W ds

theorem Half.keepZ {W W' : World} {Z : Nat → Prop} {pb eb kb M : Nat} {id hs : Int} {st fo : List Int} {sa fa : Option Addr} {sc fc : Nat} (h : Half W pb eb kb M id hs st fo sa fa sc fc) (kp : Keep Z W W') (hz : ∀ b, CellAt W b → Z b) (hm : PMap W' M st.length fo.length (Known st fo)) :
    Half W' pb eb kb M id hs st fo sa fa sc fc :=
  ⟨kp.box (hz _ h.pair.at_) h.pair, kp.box (hz _ h.fin.at_) h.fin, kp.box (hz _ h.known.at_) h.known, hm, kp.rdI (fun hx _ hp => hz _ (rd_at h.s hx hp)) h.s, kp.rdI (fun hx _ hp => hz _ (rd_at h.f hx hp)) h.f⟩
/-- Nothing old that is cells has turned. -/
theorem EdInv.keepZ {a : Tl} {sa fa : Option Addr} {sc fc : Nat} {w0 : World} {px N pb eb kb M i k p7 : Nat} {ds : List Deferred} {W W' : World} {Z : Nat → Prop} (h : EdInv a sa fa sc fc w0 px N pb eb kb M i k p7 ds W) (kp : Keep Z W W') (hz : ∀ b, CellAt W b → Z b) (h0 : ∀ b, b < w0.heap.size → Z b) (hm : PMap W' M a.st.length a.fo.length (Known a.st a.fo)) (hk : Marks (N + 2) W' ds) :
    EdInv a sa fa sc fc w0 px N pb eb kb M i k p7 ds W' := by
  obtain ⟨acc, la, lc, g1, g2, g3, g4⟩ := h.l6
  exact ⟨h.hi, h.hk, kp.box (hz _ h.x.at_) h.x, kp.box (hz _ h.p5.at_) h.p5, ⟨acc, la, lc, kp.box (hz _ g1.at_) g1, own_kp' g2 kp (fun g hg => hz _ (own_at g2 g hg)), g3, g4⟩, kp.box (hz _ h.a7.at_) h.a7, h.h7, h.half.keepZ kp hz hm, h.bel.trans (kp.below h0 h.bel.size), hk⟩
theorem EdInv.keep {a : Tl} {sa fa : Option Addr} {sc fc : Nat} {w0 : World} {px N pb eb kb M i k p7 : Nat} {ds : List Deferred} {W W' : World} (h : EdInv a sa fa sc fc w0 px N pb eb kb M i k p7 ds W) (kp : Keep (· ≠ M) W W') (hM : M < N) (h0 : w0.heap.size ≤ M) (hm : PMap W' M a.st.length a.fo.length (Known a.st a.fo)) :
    EdInv a sa fa sc fc w0 px N pb eb kb M i k p7 ds W' := h.keepZ kp (fun b hb => map_not_cell h.half.map hb) (fun b hb => show b ≠ M by omega) hm (h.marks.keep kp (by omega))
theorem EdInv.alloc {a : Tl} {sa fa : Option Addr} {sc fc : Nat} {w0 : World} {px N pb eb kb M i k p7 : Nat} {ds : List Deferred} {W : World} (h : EdInv a sa fa sc fc w0 px N pb eb kb M i k p7 ds W) (hM : M < N) (h0 : w0.heap.size ≤ M) (o : Obj) :
    EdInv a sa fa sc fc w0 px N pb eb kb M i k p7 ds (W.alloc o) := h.keep ((Keep.refl _ _).alloc _) hM h0 (h.half.map.alloc _)
theorem EdOut.keepZ {a : Tl} {sa fa : Option Addr} {sc fc : Nat} {w0 : World} {px N pb eb kb M i k p7 : Nat} {y : St} {ds : List Deferred} {W W' : World} {Z : Nat → Prop} (h : EdOut a sa fa sc fc w0 px N pb eb kb M i k y p7 ds W) (kp : Keep Z W W') (hz : ∀ b, CellAt W b → Z b) (h0 : ∀ b, b < w0.heap.size → Z b) (hm : PMap W' M a.st.length a.fo.length (Known a.st a.fo)) (hk : Marks (N + 2) W' ds) :
    EdOut a sa fa sc fc w0 px N pb eb kb M i k y p7 ds W' := by
  obtain ⟨acc, es, la, lc, g1, g2, g3⟩ := h.l6
  exact ⟨kp.box (hz _ h.x.at_) h.x, kp.box (hz _ h.p5.at_) h.p5, ⟨acc, es, la, lc, kp.box (hz _ g1.at_) g1, own_kp' g2 kp (fun g hg => hz _ (own_at g2 g hg)), g3⟩, kp.box (hz _ h.a7.at_) h.a7, h.h7, h.half.keepZ kp hz hm, h.bel.trans (kp.below h0 h.bel.size), hk⟩

/-- What lies below the call's own boxes. -/
structure EdLt (a : Tl) (sa fa : Option Addr) (px N pb eb kb M : Nat) : Prop where
  x : px < N
  p : pb < N
  e : eb < N
  k : kb < N
  m : M < N
  s : a.st ≠ [] → ∀ p, sa = some p → p.block < N
  f : a.fo ≠ [] → ∀ p, fa = some p → p.block < N
theorem EdInv.outs {a : Tl} {sa fa : Option Addr} {sc fc : Nat} {w0 : World} {px N pb eb kb M i k p7 : Nat} {y : St} {ds : List Deferred} {W W' : World} (h : EdInv a sa fa sc fc w0 px N pb eb kb M i k p7 ds W) (hlt : EdLt a sa fa px N pb eb kb M) (h0 : w0.heap.size ≤ N) (kp : Keep (· < N + 1) W W') (hk : KeepsFrom (N + 2) W W')
    (l6 : ∃ acc es la lc, Box W' (N + 1) #[.slice la (acc ++ es).length lc] 48 ∧ W'.ownsRow (N + 2) 109 3 (.slice la (acc ++ es).length lc) (acc ++ es).length (edCells (acc ++ es)) ∧ acc ++ edL a.st a.fo i k = edL a.st a.fo 0 0 ∧ acc.length ≤ i + k ∧ es = edOf y k)
    (a7 : Box W' p7 #[.int .i64 y.i, .int .i64 y.k] 137) : EdOut a sa fa sc fc w0 px N pb eb kb M i k y p7 ds W' :=
  ⟨kp.box (show px < N + 1 by have := hlt.x; omega) h.x, kp.box (show N < N + 1 by omega) h.p5, l6, a7, h.h7,
    ⟨kp.box (show pb < N + 1 by have := hlt.p; omega) h.half.pair, kp.box (show eb < N + 1 by have := hlt.e; omega) h.half.fin, kp.box (show kb < N + 1 by have := hlt.k; omega) h.half.known, kp.pmap (show M < N + 1 by have := hlt.m; omega) h.half.map, kp.rdI (fun hx p hp => Nat.lt_succ_of_lt (hlt.s hx p hp)) h.half.s, kp.rdI (fun hx p hp => Nat.lt_succ_of_lt (hlt.f hx p hp)) h.half.f⟩,
    h.bel.trans (kp.below (fun b hb => show b < N + 1 by omega) h.bel.size), h.marks.from hk (Nat.le_refl _)⟩

theorem eqEdit (a b c d e f : Int) (w : World) : (Op.equalIn 10000 109 (.agg #[.int .i64 a, .int .i64 b, .int .i64 c]) (.agg #[.int .i64 d, .int .i64 e, .int .i64 f])).run Tryd.prog w = .ok (a == d && (b == e && c == f)) w := by
  have u3 := Tryd.underlying3
  have a3 := Tryd.isAgg3
  have z3 := Tryd.sizeOf3
  rw [show (10000 : Nat) = 9999 + 1 from rfl, Op.equalIn]
  simp only [Sem.run_bind, run_underlying Tryd.underlying109, Result.andThen_ok]
  go_simp
  by_cases h1 : a = d <;> by_cases h2 : b = e <;> by_cases h3 : c = f <;> simp [h1, h2, h3]
attribute [local go_sem] eqEdit
theorem edV_zero {x : St} {k : Nat} : ((edV x k).kd == 0 && ((edV x k).at' == 0 && (edV x k).nt == 0)) = decide (x.wr = 0) := by
  unfold edV
  split
  · rename_i h; simp [h]
  · rename_i h
    split
    · simp [h]
    · split <;> simp [h]
theorem edOf_V {x : St} {k : Nat} (h : ¬ x.wr = 0) : edOf x k = [edV x k] := by
  unfold edOf edV
  rw [if_neg h, if_neg h]
  split
  · rfl
  · split <;> rfl
theorem infoEd : (Tryd.prog.info? 109).map (fun i => (i.zero, i.size, i.bytes)) = some (some (.agg #[.int .i64 0, .int .i64 0, .int .i64 0]), 3, 24) := by kernel_rfl

theorem okT_okN {id hs : Int} {st fo : List Int} (h : okT id hs st fo = true) : okN st = true ∧ okN fo = true := by
  unfold okT at h
  simp only [Bool.and_eq_true] at h
  exact ⟨h.1.2, h.2⟩
/-- On from behind an edit. -/
theorem EdOut.next {a : Tl} {sa fa : Option Addr} {sc fc : Nat} {w0 : World} {px N pb eb kb M i k p7 D : Nat} {y : St} {ds : List Deferred} {W : World} (h : EdOut a sa fa sc fc w0 px N pb eb kb M i k y p7 ds W) (hs : okN a.st = true) (hf : okN a.fo = true) (hi : i ≤ a.st.length) (hk : k ≤ a.fo.length) (hn : i < a.st.length ∨ k < a.fo.length)
    (hy : ∃ t, bestL a.st a.fo i k = y :: t) (hM : M < N) (h0 : w0.heap.size ≤ M) (hN : N ≤ W.heap.size) (hm : Marks (N + 2) W ({ target := .collected D, args := #[] } :: ds)) :
    EdInv a sa fa sc fc w0 px N pb eb kb M y.i y.k W.heap.size ({ target := .collected D, args := #[] } :: ds) (W.alloc (.cells #[.int .i64 y.i, .int .i64 y.k] 137)) ∧ (a.st.length - y.i) + (a.fo.length - y.k) < (a.st.length - i) + (a.fo.length - k) := by
  obtain ⟨x, t, e, e1, e2, e3⟩ := best_head hs hf hi hk hn
  obtain ⟨t', e'⟩ := hy
  rw [e] at e'
  obtain ⟨rfl, rfl⟩ := List.cons.inj e'
  obtain ⟨g1, g2, g3, g4⟩ := nxt_step (st := a.st) (fo := a.fo) hn hi hk
  have h7 := h.h7
  have l7 := h.a7.lt
  obtain ⟨acc, es, la, lc, q1, q2, q3, q4, rfl⟩ := h.l6
  rw [e1, e2]
  refine ⟨⟨g1, g2, h.x.alloc _, h.p5.alloc _, ⟨acc ++ edOf x k, la, lc, q1.alloc _, q2.alloc _, ?_, ?_⟩, Box.new _ _ _, by omega, h.half.keep ((Keep.refl _ _).alloc _) (h.half.map.alloc _), h.bel.trans (((Below.refl _ _).alloc (Nat.le_refl _) _).mono h.bel.size), hm.below (((Below.refl _ _).alloc (Nat.le_refl _) _))⟩, g3⟩
  · rw [List.append_assoc, e3, ← edL_step hn hi hk]; exact q3
  · rw [List.length_append, e3]; omega

set_option maxRecDepth 20000 in
set_option maxHeartbeats 4000000 in
theorem edits_any (a : Tl) (sa fa : Option Addr) (sc fc : Nat) (w : World) (ht : Tab w) (hl : a.st.length ≤ 1000) (hl2 : a.fo.length ≤ 1000) (h1 : RdI w sa a.st) (h2 : RdI w fa a.fo) :
    Calls Tryd.prog 32 #[.agg #[.int .i64 a.id, .int .i64 a.hs, .slice sa a.st.length sc, .slice fa a.fo.length fc]] w
      fun e w' => ∃ v, e = .returned (.tuple #[v, .int .i64 (editsR a).2]) ∧ EdV w' v (editsR a).1 ∧ Below w.heap.size w w' := by
  have hm := mixedS
  obtain ⟨i0, hi0, iz0, iz1, iz2⟩ := info_parts infoEd
  have H1 := hid h1; have H2 := hid h2; clear h1 h2
  have HT := hid ht; clear ht
  apply (callsIn_wide (n := 4)).1
  refine callsIn_of_wp_marks Tryd.func32 rfl trivial ?_ rfl
  simp only [Tryd.ntmps32, List.size_toArray, List.length_cons, List.length_nil, Nat.reduceAdd, Nat.reduceSub, Array.replicate_succ, Array.replicate_zero, List.push_toArray, List.append_toArray, List.nil_append, List.cons_append]
  gi_wp2_with (fail)
  refine ⟨trivial, ?_⟩
  gi_at_call 36
  refine (callsIn_wide.2 (check_any _ _ _ _ _ _ _ _ _ (HT.out.below (by repeat (first | (with_reducible exact Below.refl _ _) | (with_reducible assumption) | (with_reducible refine Below.drew ?_) | (with_reducible refine below_drewN ?_ _) | (with_reducible refine Below.alloc ?_ (by first | omega | (simp; done) | (simp; omega)) _) | (with_reducible refine Below.setCell ?_ (by first | omega | (simp; done) | (simp; omega)) _) | (with_reducible refine Below.trans ?_ (Below.mono (by assumption) (by first | omega | (simp; done) | (simp; omega))))))) (by omega) (by omega) (H1.out.below (by repeat (first | (with_reducible exact Below.refl _ _) | (with_reducible assumption) | (with_reducible refine Below.drew ?_) | (with_reducible refine below_drewN ?_ _) | (with_reducible refine Below.alloc ?_ (by first | omega | (simp; done) | (simp; omega)) _) | (with_reducible refine Below.setCell ?_ (by first | omega | (simp; done) | (simp; omega)) _) | (with_reducible refine Below.trans ?_ (Below.mono (by assumption) (by first | omega | (simp; done) | (simp; omega))))))) (H2.out.below (by repeat (first | (with_reducible exact Below.refl _ _) | (with_reducible assumption) | (with_reducible refine Below.drew ?_) | (with_reducible refine below_drewN ?_ _) | (with_reducible refine Below.alloc ?_ (by first | omega | (simp; done) | (simp; omega)) _) | (with_reducible refine Below.setCell ?_ (by first | omega | (simp; done) | (simp; omega)) _) | (with_reducible refine Below.trans ?_ (Below.mono (by assumption) (by first | omega | (simp; done) | (simp; omega))))))))).mono ?_
  rintro e w1 ⟨rfl, hb1⟩
  have b1 := (Box.new w (#[.int .i64 a.id, .int .i64 a.hs, .slice sa a.st.length sc, .slice fa a.fo.length fc]) 24).below hb1 (by simp)
  have hbw : Below w.heap.size w w1 := (by repeat (first | (with_reducible exact Below.refl _ _) | (with_reducible assumption) | (with_reducible refine Below.drew ?_) | (with_reducible refine below_drewN ?_ _) | (with_reducible refine Below.alloc ?_ (by first | omega | (simp; done) | (simp; omega)) _) | (with_reducible refine Below.setCell ?_ (by first | omega | (simp; done) | (simp; omega)) _) | (with_reducible refine Below.trans ?_ (Below.mono (by assumption) (by first | omega | (simp; done) | (simp; omega))))))
  have BX := hid b1
  clear b1 hb1
  obtain ⟨⟨c0, c1, c2, c3⟩, _, lx⟩ := box_quad BX.out
  by_cases hok : okT a.id a.hs a.st a.fo = true
  · have t1 : (errT (okT a.id a.hs a.st a.fo) != 0) = false := by rw [hok]; rfl
    have HK := hid hok; clear hok
    gi_wp2_with (fail)
    refine ⟨trivial, ?_⟩
    gi_at_call 83
    refine (callsIn_wide.2 (halves_any a.id a.hs a.st a.fo sa fa sc fc w1 (by omega) (by omega) (H1.out.below hbw) (H2.out.below hbw))).mono ?_
    rintro e w2 ⟨pb, eb, kb, M, rfl, hb2, hM, hH⟩
    have BX := hid (BX.out.below hb2 BX.out.lt)
    clear c0 c1 c2 c3 lx
    obtain ⟨N, hN⟩ : ∃ N, N = w2.heap.size := ⟨_, rfl⟩
    have HH := hid hH
    have M0 : w.heap.size ≤ M := by have := hbw.size; omega
    have hb := hbw.trans (hb2.mono hbw.size)
    have WB := hid hb
    clear hbw hb2 hH hb
    unfold pairC leftV
    gi_wp2_with (fail)
    refine wpIn_world (fun W => Box W w.heap.size (#[.int .i64 a.id, .int .i64 a.hs, .slice sa a.st.length sc, .slice fa a.fo.length fc]) 24 ∧ Box W N (pairC a.id a.hs a.st a.fo sa fa sc fc (leftV eb kb pb)) 134 ∧ Box W (N + 1) #[.slice none 0 0] 48 ∧ Box W (N + 2) #[.int .i64 (0 : Nat), .int .i64 (0 : Nat)] 137 ∧ Half W pb eb kb M a.id a.hs a.st a.fo sa fa sc fc ∧ Below w.heap.size w W) ⟨?_, ?_, ?_, ?_, ?_, ?_⟩ ?_
    · exact ((BX.out.alloc _).alloc _).alloc _
    · rw [hN]; exact ((Box.at _ _ (by first | omega | (simp; done) | (simp; omega))).alloc _).alloc _
    · rw [hN]; exact (Box.at _ _ (by first | omega | (simp; done) | (simp; omega))).alloc _
    · rw [hN]; exact Box.at _ _ (by first | omega | (simp; done) | (simp; omega))
    · exact HH.out.keep ((((Keep.refl _ _).alloc _).alloc _).alloc _) (((HH.out.map.alloc _).alloc _).alloc _)
    · exact ((WB.out.alloc WB.out.size _).alloc (by have := WB.out.size; simp; omega) _).alloc (by have := WB.out.size; simp; omega) _
    rintro W0 ⟨i1, i2, i3, i4, i5, i6⟩
    have MN : M < N := by have := HH.out.map.lt; omega
    have LT : EdLt a sa fa w.heap.size N pb eb kb M := ⟨by have := BX.out.lt; omega, by have := HH.out.pair.lt; omega, by have := HH.out.fin.lt; omega, by have := HH.out.known.lt; omega, MN, fun hx p hp => by have := row_lt HH.out.s hx hp; omega, fun hx p hp => by have := row_lt HH.out.f hx hp; omega⟩
    rw [← hN]
    clear hN
    refine wpIn_loop_rounds 2001 ?_
    refine (?key : ∀ (m : Nat) (A : Act) (W : World), (∃ ds i k p7, ∃ f : Nat → Value, A = ⟨((List.range 46).map f).toArray, ds⟩ ∧ f 1 = .pointer (some ⟨w.heap.size, 0, none⟩) ∧ f 5 = .pointer (some ⟨N, 0, none⟩) ∧ f 6 = .pointer (some ⟨N + 1, 0, none⟩) ∧ f 7 = .pointer (some ⟨p7, 0, none⟩) ∧ EdInv a sa fa sc fc w w.heap.size N pb eb kb M i k p7 ds W ∧ (a.st.length - i) + (a.fo.length - k) < m) → Code.roundsIn Fence.wide 4 Tryd.prog _ _ m A W) 2001 _ _ ?start
    case start =>
      exact ⟨[], 0, 0, N + 2, acts_of' rfl ⟨rfl, rfl, rfl, rfl, ⟨Nat.zero_le _, Nat.zero_le _, i1, i2, ⟨[], none, 0, i3, World.ownsRow_nil _ _ _ _, rfl, Nat.zero_le _⟩, i4, Nat.le_refl _, i5, i6, Marks.nil _ _⟩, by omega⟩⟩
    case key =>
      clear i1 i2 i3 i4 i5 i6 BX HH WB W0
      intro m
      induction m with
      | zero => rintro A W ⟨ds, i, k, p7, f, _, _, _, _, _, _, h⟩; omega
      | succ m ih =>
        rintro A W ⟨ds, i, k, p7, f, rfl, f1, f5, f6, f7, I, hlt⟩
        rw [roundsIn_succ]
        rw [show (List.range 46).map f = [f 0, f 1, f 2, f 3, f 4, f 5, f 6, f 7, f 8, f 9, f 10, f 11, f 12, f 13, f 14, f 15, f 16, f 17, f 18, f 19, f 20, f 21, f 22, f 23, f 24, f 25, f 26, f 27, f 28, f 29, f 30, f 31, f 32, f 33, f 34, f 35, f 36, f 37, f 38, f 39, f 40, f 41, f 42, f 43, f 44, f 45] from rfl, f1, f5, f6, f7]
        clear f1 f5 f6 f7
        have IH := hid ih; clear ih
        obtain ⟨⟨x0, x1, x2, x3⟩, _, lx⟩ := box_quad I.x
        have q0 := I.a7.cell 0; have q1 := I.a7.cell 1
        simp only [List.getElem?_toArray, List.getElem?_cons_zero, List.getElem?_cons_succ] at q0 q1
        have II := hid I; clear I
        by_cases hend : i = a.st.length ∧ k = a.fo.length
        · have hq : ((i : Int) == (a.st.length : Int) && (k : Int) == (a.fo.length : Int)) = true := by rw [hend.1, hend.2]; simp
          have HE := hid hend; clear hend
          obtain ⟨acc, la, lc, g1, g2, g3, g4⟩ := II.out.l6
          have r0 : W.cell? ⟨N + 1, 0, none⟩ = some (.slice la acc.length lc) := g1.cell 0
          gi_wp2_with (fail)
          refine leaves_marks (fun h => by cases h) ds W II.out.marks fun W' hk => ?_
          refine ⟨_, results_tmp2 rfl _ _ _, ?_⟩
          rw [HE.out.1, HE.out.2, edL_end, List.append_nil] at g3
          unfold editsR; rw [if_pos HK.out]
          have hg : W'.ownsRow (N + 2) 109 3 (.slice la acc.length lc) acc.length (edCells acc) := own_keep_marks g2 hk
          refine ⟨_, rfl, ⟨la, lc, by rw [g3]; rfl, by rw [← g3]; exact RdE.of_own hg⟩, II.out.bel.trans (hk.below (fun b hb => .inl (by have := II.out.p5.lt; omega)) II.out.bel.size)⟩
        · have hq : ((i : Int) == (a.st.length : Int) && (k : Int) == (a.fo.length : Int)) = false := by
            rw [Bool.and_eq_false_iff]; simp only [beq_eq_false_iff_ne, ne_eq]; omega
          have HE := hid hend; clear hend
          have P5 := hid II.out.p5
          have y0 : W.cell? ⟨N, 0, none⟩ = some (.int .i64 a.id) := P5.out.cell 0
          have y1 : W.cell? ⟨N, 1, none⟩ = some (.int .i64 a.hs) := P5.out.cell 1
          have y2 : W.cell? ⟨N, 2, none⟩ = some (.slice sa a.st.length sc) := P5.out.cell 2
          have y3 : W.cell? ⟨N, 3, none⟩ = some (.slice fa a.fo.length fc) := P5.out.cell 3
          have y4 : W.cell? ⟨N, 4, none⟩ = some (leftV eb kb pb) := P5.out.cell 4
          gi_wp2_with (fail)
          refine ⟨trivial, ?_⟩
          gi_at_call 87
          refine (callsIn_wide.2 (best_any #[.int .i64 a.id, .int .i64 a.hs, .slice sa a.st.length sc, .slice fa a.fo.length fc, leftV eb kb pb] i k W rfl)).mono ?_
          rintro e w3 ⟨rfl, rfl⟩
          gi_wp2_with (fail)
          refine wpIn_world (fun wL => Box wL W.heap.size #[.int .i64 a.id, .int .i64 a.hs, .slice sa a.st.length sc, .slice fa a.fo.length fc, leftV eb kb pb] 134 ∧ Box wL (W.heap.size + 1) #[.int .i64 i, .int .i64 k] 137 ∧ EdInv a sa fa sc fc w w.heap.size N pb eb kb M i k p7 ds wL ∧ W.heap.size + 2 ≤ wL.heap.size) ⟨?_, ?_, ?_, ?_⟩ ?_
          · exact (Box.new _ _ _).alloc _
          · exact Box.at _ _ (by simp)
          · exact (II.out.alloc MN M0 _).alloc MN M0 _
          · simp
          rintro wL ⟨bC, bD, I, zL⟩
          clear x0 x1 x2 x3 lx q0 q1 y0 y1 y2 y3 y4 P5 II
          have hH := I.half
          have ML : M < wL.heap.size := hH.map.lt
          have R3 := fun hx {p} => row_lt (p := p) hH.s hx; have R4 := fun hx {p} => row_lt (p := p) hH.f hx
          have hmk : ∀ D, ({ target := .collected D, args := #[] } : Deferred) ∈ ds → D < wL.heap.size := marks_lt I.marks
          refine wpIn_range_X rfl (by omega) (gf := 108) (lb := #[.pointer (some ⟨W.heap.size, 0, none⟩), .pointer (some ⟨W.heap.size + 1, 0, none⟩)]) rfl trivial (enters_of Tryd.func108 (by kernel_rfl) rfl)
            (best1_stops W.heap.size (W.heap.size + 1) pb eb kb M a.id a.hs a.st a.fo sa fa sc fc i k I.hi I.hk (by omega) (by omega) (fun b => b ≠ M ∧ b < wL.heap.size) (fun h => h.1 rfl) (fun hx p hp => ⟨hH.map.ne_row hH.s hx hp, R3 hx hp⟩) (fun hx p hp => ⟨hH.map.ne_row hH.f hx hp, R4 hx hp⟩) wL bC bD hH)
            (fun h k => h.trans k) ?kb (Below.refl _ _) (fun _ => rfl) ?hSt
            (fun pre W' => pre = [] ∧ EdInv a sa fa sc fc w w.heap.size N pb eb kb M i k p7 ds W' ∧ wL.heap.size ≤ W'.heap.size)
            (fun c pre W' => c = .exit 2 ∧ ∃ x, pre = [x] ∧ EdOut a sa fa sc fc w w.heap.size N pb eb kb M i k x.1 p7 ds W' ∧ wL.heap.size ≤ W'.heap.size) ?hI ?hIx ⟨rfl, I, Nat.le_refl _⟩
            (fun x a' W' => ∃ Bx, wL.heap.size ≤ Bx ∧ Box W' Bx #[.int .i64 x.1.i, .int .i64 x.1.k, .int .i64 x.1.s, .int .i64 x.1.f, .int .i64 x.1.wr] 142 ∧ ∃ f : Nat → Value, a' = ⟨((List.range 46).map f).toArray, []⟩ ∧ f 6 = .pointer (some ⟨N + 1, 0, none⟩) ∧ f 7 = .pointer (some ⟨p7, 0, none⟩) ∧ f 8 = .pointer (some ⟨Bx, 0, none⟩)) ?hAx ?assign ?body ?done ?stop
          case kb =>
            intro W1 l1 o o' hl1 ho hc _
            have k1 : Keep (· ≠ l1) W1 (W1.putObj l1 o') := (Keep.refl _ _).putObj _ _ (fun _ h => h rfl)
            exact ⟨rfl, rfl, rfl, by simp, fun b cs t hb _ => k1.box (fun e => by subst e; rw [show W1.heap[b]? = _ from hb] at ho; cases ho; cases hc) hb, fun b hb hR => k1.block b hb (show b ≠ l1 by have := hR.2; omega), fun h => h.kept (World.putObj_heap_other (show M ≠ l1 by omega))⟩
          case hSt => exact fun A B h => keepsFrom_of h.1 (show M < wL.heap.size by omega)
          case hI =>
            refine ⟨?_, ?_⟩
            · rintro pre W1 W2 row ⟨rfl, I1, z1⟩ hg hr
              have hrc : ∀ r, row = some r → ∃ o : Obj, W1.heap[r]? = some o ∧ o.isCells = false := fun r e => (hr r e).2
              exact ⟨rfl, I1.keepZ (keep_of_grown hg) (fun b hb => cell_not_row hrc hb) (fun b hb e => by have := (hr b e).1; omega) (I1.half.map.kept (hg.block M I1.half.map.lt (fun e => by have := (hr M e.symm).1; omega))) (marks_own I1.marks hmk hg (fun r e => (hr r e).1)), Nat.le_trans z1 hg.size⟩
            · rintro pre W1 W2 ⟨rfl, I1, z1⟩ ⟨hk, hp⟩
              exact ⟨rfl, I1.keep hk MN M0 (hp I1.half.map), Nat.le_trans z1 hk.size⟩
          case hIx =>
            intro c
            refine ⟨?_, ?_⟩
            · rintro pre W1 W2 row ⟨rfl, x, rfl, I1, z1⟩ hg hr
              have hrc : ∀ r, row = some r → ∃ o : Obj, W1.heap[r]? = some o ∧ o.isCells = false := fun r e => (hr r e).2
              exact ⟨rfl, x, rfl, I1.keepZ (keep_of_grown hg) (fun b hb => cell_not_row hrc hb) (fun b hb e => by have := (hr b e).1; omega) (I1.half.map.kept (hg.block M I1.half.map.lt (fun e => by have := (hr M e.symm).1; omega))) (marks_own I1.marks hmk hg (fun r e => (hr r e).1)), Nat.le_trans z1 hg.size⟩
            · rintro pre W1 W2 ⟨rfl, x, rfl, I1, z1⟩ ⟨hk, hp⟩
              exact ⟨rfl, x, rfl, I1.keepZ hk (fun b hb => map_not_cell I1.half.map hb) (fun b hb => show b ≠ M by omega) (hp I1.half.map) (I1.marks.keep hk (by omega)), Nat.le_trans z1 hk.size⟩
          case hAx =>
            rintro x a' _ W1 W2 row ⟨Bx, hB, hb, hf⟩ hg hr
            exact ⟨Bx, hB, box_own hb hg (fun r e => (hr r e).2), hf⟩
          case assign =>
            rintro l2 pre ⟨x, hx⟩ W1 K ⟨rfl, I1, z1⟩ hK
            simp only [St.val]
            gi_wp2
            refine hK _ _ ((KeepsOthers.alloc _ _).from _) ?_ ⟨trivial, I1.alloc MN M0 _, by simp; omega⟩ ⟨W1.heap.size, z1, Box.new _ _ _, ?_⟩
            · exact ⟨rfl, rfl, rfl, by simp, fun b cs t hb _ => hb.alloc _, fun b hb _ => Below.heap_alloc _ _ b hb, fun h => h.alloc _⟩
            · refine acts_of' rfl ?_
              exact ⟨rfl, rfl, rfl⟩
          case body =>
            rintro l2 pre ⟨x, hx⟩ a' W1 hl' ⟨r, hr⟩ ⟨rfl, I1, z1⟩ ⟨Bx, hBx, bX, f, rfl, f6, f7, f8⟩ hlt2
            rw [show (List.range 46).map f = [f 0, f 1, f 2, f 3, f 4, f 5, f 6, f 7, f 8, f 9, f 10, f 11, f 12, f 13, f 14, f 15, f 16, f 17, f 18, f 19, f 20, f 21, f 22, f 23, f 24, f 25, f 26, f 27, f 28, f 29, f 30, f 31, f 32, f 33, f 34, f 35, f 36, f 37, f 38, f 39, f 40, f 41, f 42, f 43, f 44, f 45] from rfl, f6, f7, f8]
            clear f6 f7 f8
            have x0 : W1.cell? ⟨Bx, 0, none⟩ = some (.int .i64 x.i) := bX.cell 0
            have x1 : W1.cell? ⟨Bx, 1, none⟩ = some (.int .i64 x.k) := bX.cell 1
            have x2 : W1.cell? ⟨Bx, 2, none⟩ = some (.int .i64 x.s) := bX.cell 2
            have x3 : W1.cell? ⟨Bx, 3, none⟩ = some (.int .i64 x.f) := bX.cell 3
            have x4 : W1.cell? ⟨Bx, 4, none⟩ = some (.int .i64 x.wr) := bX.cell 4
            have q1 : W1.cell? ⟨p7, 1, none⟩ = some (.int .i64 k) := I1.a7.cell 1
            have II := hid I1; have BB := hid bX
            gi_wp2_with (fail)
            refine ⟨trivial, ?_⟩
            gi_at_call 88
            refine (CallsIn.inRound l2 (callsIn_wide.2 (edit_any x k W1))).mono ?_
            rintro e w5 ⟨rfl, hb5⟩
            have I5 := II.out.keepZ (Keep.of_below (Z := fun b => b < W1.heap.size) hb5 (fun _ _ h => h)) (fun b ⟨o, ho, _⟩ => (Array.getElem?_eq_some_iff.1 ho).1) (fun b hb => by omega) (II.out.half.map.kept (hb5.block _ II.out.half.map.lt)) (II.out.marks.below hb5)
            have B5 := BB.out.below hb5 BB.out.lt
            have z5 := hb5.size
            have KF5 : KeepsFrom wL.heap.size W1 w5 := kf_below hb5
            clear x0 x1 x2 x3 x4 q1 hb5 bX I1
            obtain ⟨acc, la, lc, g1, g2, g3, g4⟩ := I5.l6
            have lacc : acc.length ≤ 2000 := by have := I5.hi; have := I5.hk; omega
            have I5 := hid I5; have B5 := hid B5
            have hez := edV_zero (x := x) (k := k)
            obtain ⟨E, hE⟩ : ∃ E, edV x k = E := ⟨_, rfl⟩
            rw [hE] at hez ⊢
            have HE2 := hid hE; clear hE
            obtain ⟨e1, e2, e3⟩ := E
            simp only [Ed.val] at hez ⊢
            have y0 : w5.cell? ⟨N + 1, 0, none⟩ = some (.slice la acc.length lc) := g1.cell 0
            have y1 : w5.frozen? ⟨N + 1, 0, none⟩ = false := g1.frozen 0
            have y2 := g1.lt
            have u0 : w5.cell? ⟨Bx, 0, none⟩ = some (.int .i64 x.i) := B5.out.cell 0
            have u1 : w5.cell? ⟨Bx, 1, none⟩ = some (.int .i64 x.k) := B5.out.cell 1
            have v0 := I5.out.a7.cell 0; have v1 := I5.out.a7.cell 1; have v2 := I5.out.a7.frozen 0; have v3 := I5.out.a7.frozen 1
            simp only [List.getElem?_toArray, List.getElem?_cons_zero, List.getElem?_cons_succ] at v0 v1
            have l5 := B5.out.lt; have l7 := I5.out.a7.lt
            have G1 := hid g1; have G2 := hid g2; have G3 := hid g3; clear g1 g2 g3
            by_cases hwr : x.wr = 0
            · rw [hwr] at hez
              simp at hez
              obtain ⟨rfl, rfl, rfl⟩ := hez
              have HW := hid hwr; clear hwr
              gi_wp2_with (fail)
              have h7 := I5.out.h7
              have k1 : KeepsFrom wL.heap.size w5 (((w5.setCell ⟨p7, 0, none⟩ (.int .i64 x.i)).setCell ⟨p7, 1, none⟩ (.int .i64 x.k)).alloc (.cells #[.int .i64 0, .int .i64 0, .int .i64 0] 109)) := (((KeepsOthers.setCell _ _ _).trans (KeepsOthers.setCell _ _ _)).trans (KeepsOthers.alloc _ _)).from _
              have k2 : KeepsFrom (N + 2) w5 (((w5.setCell ⟨p7, 0, none⟩ (.int .i64 x.i)).setCell ⟨p7, 1, none⟩ (.int .i64 x.k)).alloc (.cells #[.int .i64 0, .int .i64 0, .int .i64 0] 109)) := (((KeepsOthers.setCell _ _ _).trans (KeepsOthers.setCell _ _ _)).trans (KeepsOthers.alloc _ _)).from _
              have kq : Keep (· ≠ p7) w5 (((w5.setCell ⟨p7, 0, none⟩ (.int .i64 x.i)).setCell ⟨p7, 1, none⟩ (.int .i64 x.k)).alloc (.cells #[.int .i64 0, .int .i64 0, .int .i64 0] 109)) := (((Keep.refl _ _).setCell _ _ (fun _ h => h rfl)).setCell _ _ (fun _ h => h rfl)).alloc _
              refine ⟨KF5.trans k1, rfl, ⟨x, hx⟩, rfl, I5.out.outs LT (by omega) (kq.mono (fun b _ hb => show b ≠ p7 by have : b < N + 1 := hb; omega)) k2 ⟨acc, [], la, lc, ?_, ?_, G3.out, g4, by unfold edOf; rw [if_pos HW.out]⟩ (((I5.out.a7.set 0 _).set 1 _).alloc _), by simp; omega⟩
              · rw [List.append_nil]; exact kq.box (show N + 1 ≠ p7 by omega) G1.out
              · rw [List.append_nil]; exact own_kp' G2.out kq (fun g hg e => own_ne' G2.out I5.out.a7 (by decide) (e ▸ hg))
            · have t0 : (e1 == 0) = false := by
                have h := HE2.out
                unfold edV at h
                rw [if_neg hwr] at h
                split at h
                · cases h; rfl
                · split at h <;> (cases h; rfl)
              have HW := hid hwr; clear hwr hez
              gi_wp2_with (gi_at_builtin; refine wpListIn_append_any _ rfl _ _ _ rfl (N + 2) 109 i0 _ 3 24 Tryd.underlying48 hi0 iz0 iz1 iz2 rfl (by decide) (.slice la acc.length lc) acc.length (edCells acc) rfl ((G2.out.alloc _).alloc _) (some ⟨w5.heap.size + 1, 0, none⟩) 1 1 [.int .i64 e1, .int .i64 e2, .int .i64 e3] rfl rfl (fun h => by cases h) (box_news (Box.at _ _ (by simp)) rfl) (by simp [Value.oneCell']) (by omega) (by omega) (by have := z5; simp; omega) ?_; intro la2 lc2 w6 own6 gr6 pl6; apply stand)
              have OO := (G2.out.alloc (.cells #[.int .i64 e1, .int .i64 e2, .int .i64 e3] 109)).alloc (.cells #[.int .i64 e1, .int .i64 e2, .int .i64 e3] 109)
              have q6 := ((G1.out.alloc (.cells #[.int .i64 e1, .int .i64 e2, .int .i64 e3] 109)).alloc (.cells #[.int .i64 e1, .int .i64 e2, .int .i64 e3] 109))
              have Q6 := q6.grown gr6 (own_ne' OO q6 (by decide))
              have q7 := ((I5.out.a7.alloc (.cells #[.int .i64 e1, .int .i64 e2, .int .i64 e3] 109)).alloc (.cells #[.int .i64 e1, .int .i64 e2, .int .i64 e3] 109))
              have Q7 := q7.grown gr6 (own_ne' OO q7 (by decide))
              have q8 := ((B5.out.alloc (.cells #[.int .i64 e1, .int .i64 e2, .int .i64 e3] 109)).alloc (.cells #[.int .i64 e1, .int .i64 e2, .int .i64 e3] 109))
              have Q8 := q8.grown gr6 (own_ne' OO q8 (by decide))
              have h7 := I5.out.h7
              have n76 : N + 1 ≠ p7 := by omega
              have n8 : Bx ≠ N + 1 := fun e => by subst e; have h1 := Q6; have h2 := Q8; unfold Box at h1 h2; rw [h1] at h2; simp at h2
              have n9 : Bx ≠ p7 := fun e => by subst e; have h1 := Q7; have h2 := Q8; unfold Box at h1 h2; rw [h1] at h2; simp at h2
              have kf6 : KeepsFrom wL.heap.size w5 w6 := (((KeepsOthers.alloc _ _).trans (KeepsOthers.alloc _ _)).from _).trans (kf_own OO gr6)
              have kf7 : KeepsFrom (N + 2) w5 w6 := (((KeepsOthers.alloc _ _).trans (KeepsOthers.alloc _ _)).from _).trans (kf_own OO gr6)
              have kp6 : Keep (· < N + 2) w5 w6 := (((Keep.refl _ _).alloc _).alloc _).grown gr6 (fun r e hr hz => by have := (OO.lt r e).1; omega)
              have z6 := kp6.size
              have c6 : w6.cell? ⟨N + 1, 0, none⟩ = some (.slice la acc.length lc) := Q6.cell 0
              have c7 := Q6.frozen 0; have c8 := Q6.lt
              have s0 : w6.cell? ⟨Bx, 0, none⟩ = some (.int .i64 x.i) := Q8.cell 0
              have s1 : w6.cell? ⟨Bx, 1, none⟩ = some (.int .i64 x.k) := Q8.cell 1
              have r0 := Q7.cell 0; have r1 := Q7.cell 1; have r2 := Q7.frozen 0; have r3 := Q7.frozen 1; have r4 := Q7.lt
              simp only [List.getElem?_toArray, List.getElem?_cons_zero, List.getElem?_cons_succ] at r0 r1
              have QQ6 := hid Q6; have QQ7 := hid Q7
              have OW := hid own6
              clear q6 q7 q8 Q6 Q7 Q8 OO own6 y0 y1 y2 u0 u1 v0 v1 v2 v3 l5 l7 gr6 pl6
              refine hid ?_
              gi_wp2_with (fail)
              have kq : Keep (· < N + 1) w6 (((w6.setCell ⟨N + 1, 0, none⟩ (.slice la2 (acc.length + 1) lc2)).setCell ⟨p7, 0, none⟩ (.int .i64 x.i)).setCell ⟨p7, 1, none⟩ (.int .i64 x.k)) := (((Keep.refl _ _).setCell _ _ (fun _ h => by have : N + 1 < N + 1 := h; omega)).setCell _ _ (fun _ h => by have : p7 < N + 1 := h; omega)).setCell _ _ (fun _ h => by have : p7 < N + 1 := h; omega)
              have ks : ∀ C, KeepsFrom C w6 (((w6.setCell ⟨N + 1, 0, none⟩ (.slice la2 (acc.length + 1) lc2)).setCell ⟨p7, 0, none⟩ (.int .i64 x.i)).setCell ⟨p7, 1, none⟩ (.int .i64 x.k)) := fun C => (((KeepsOthers.setCell _ _ _).trans (KeepsOthers.setCell _ _ _)).trans (KeepsOthers.setCell _ _ _)).from C
              have kr : Keep (fun b => b ≠ N + 1 ∧ b ≠ p7) w6 (((w6.setCell ⟨N + 1, 0, none⟩ (.slice la2 (acc.length + 1) lc2)).setCell ⟨p7, 0, none⟩ (.int .i64 x.i)).setCell ⟨p7, 1, none⟩ (.int .i64 x.k)) := (((Keep.refl _ _).setCell _ _ (fun _ h => h.1 rfl)).setCell _ _ (fun _ h => h.2 rfl)).setCell _ _ (fun _ h => h.2 rfl)
              have es : edOf x k = [⟨e1, e2, e3⟩] := by rw [edOf_V HW.out, HE2.out]
              refine ⟨KF5.trans (kf6.trans (ks _)), rfl, ⟨x, hx⟩, rfl, I5.out.outs LT (by omega) ((kp6.mono (fun b _ hb => by have : b < N + 1 := hb; show b < N + 2; omega)).trans kq) (kf7.trans (ks _)) ⟨acc, [⟨e1, e2, e3⟩], la2, lc2, ?_, ?_, G3.out, g4, es.symm⟩ ?_, by simp; omega⟩
              · rw [List.length_append]; exact ((QQ6.out.set 0 _).other p7 0 _ n76).other p7 1 _ n76
              · rw [List.length_append, edCells_append]; exact own_kp' OW.out kr (fun g hg => ⟨fun e => own_ne' OW.out QQ6.out (by decide) (e ▸ hg), fun e => own_ne' OW.out QQ7.out (by decide) (e ▸ hg)⟩)
              · exact ((QQ7.out.other (N + 1) 0 _ (Ne.symm n76)).set 0 _).set 1 _
          case done =>
            rintro D ys W1 hD hall ⟨rfl, _, _⟩ hKD
            exfalso
            obtain ⟨x, t, e, _⟩ := best_head (okT_okN HK.out).1 (okT_okN HK.out).2 I.hi I.hk (by have := HE.out; have := I.hi; have := I.hk; omega)
            have h : ([] : List (StAt a.st a.fo i k)).map (·.1) = bestL a.st a.fo i k := hall
            rw [e] at h
            cases h
          case stop =>
            rintro D c pre W1 hD hpart ⟨rfl, x, rfl, I1, z1⟩ hKD
            have hh : ∃ t, bestL a.st a.fo i k = x.1 :: t := by
              obtain ⟨t, ht⟩ := (hpart : [x].map (·.1) <+: bestL a.st a.fo i k)
              exact ⟨t, ht.symm⟩
            have v0 := I1.a7.cell 0; have v1 := I1.a7.cell 1
            simp only [List.getElem?_toArray, List.getElem?_cons_zero, List.getElem?_cons_succ] at v0 v1
            obtain ⟨n1, n2⟩ := I1.next (D := D) (okT_okN HK.out).1 (okT_okN HK.out).2 I.hi I.hk (by have := HE.out; have := I.hi; have := I.hk; omega) hh MN M0 (by have := I.p5.lt; omega) (marks_cons I1.marks hmk hD (by have := I.p5.lt; have := I.h7; have := I.a7.lt; omega) hKD)
            have N1 := hid n1; have N2 := hid n2
            clear n1 n2 I1 I
            gi_wp2_with (fail)
            exact IH.out _ _ ⟨_, _, _, _, acts_of' rfl ⟨rfl, rfl, rfl, rfl, N1.out, by have := N2.out; omega⟩⟩
  · have t1 : (errT (okT a.id a.hs a.st a.fo) != 0) = true := by rw [Bool.not_eq_true] at hok; rw [hok]; rfl
    have t2 : errT (okT a.id a.hs a.st a.fo) = 70 := by rw [Bool.not_eq_true] at hok; rw [hok]; rfl
    have HK := hid hok; clear hok
    rw [t2] at t1 ⊢
    clear t2
    gi_wp2
    refine ⟨_, results_tmp2 rfl _ _ _, ?_⟩
    unfold editsR; rw [if_neg HK.out]
    exact ⟨_, rfl, ⟨none, 0, rfl, RdE.nil _ _⟩, hbw⟩

end Go.Proofs.YthddoikmgpgakaaDoor
