/- 'best': the steps from a place with which no more is false than has to be; the iterator asks the memo, so its contract is IterX's. -/
import Derived.Test.YthddoikmgpgakaaDoorProg
import Derived.Test.YthddoikmgpgakaaDoorBase
import Derived.Outline
import Derived.RangeFuncNested
import Derived.Shelf.Abstract
import Derived.Deep.QuietTactic
import Derived.BigQuiet
import Derived.Deep.RegionHeld3
import Derived.WalkSmall
import Derived.Laws.EntriesVeiled
import Derived.Test.YthddoikmgpgakaaDoorLeft
import Derived.Test.YthddoikmgpgakaaDoorIterX
namespace Go.Proofs.YthddoikmgpgakaaDoor
open Go.RowKit Go.Proofs Go.Shelf

attribute [local go_sem] Oper.semAt_some

/-- The steps with which no more is false than has to be. -/
def isBest (st fo : List Int) (i k : Nat) (x : St) : Bool := decide (x.wr + (dd st fo x.i x.k : Int) = (dd st fo i k : Int))
def bestL (st fo : List Int) (i k : Nat) : List St := (stepsL st fo i k).filter (isBest st fo i k)
def AllBest (st fo : List Int) (i k : Nat) (ys : List (StAt st fo i k)) : Prop := ys.map (·.1) = bestL st fo i k
def PartBest (st fo : List Int) (i k : Nat) (ys : List (StAt st fo i k)) : Prop := ys.map (·.1) <+: bestL st fo i k

theorem box_own {W W' : World} {row : Option Nat} {b : Nat} {cs : Array Value} {t : TypeId} (h : Box W b cs t) (hg : W.grownBy W' row) (hr : ∀ r, row = some r → ∃ o : Obj, W.heap[r]? = some o ∧ o.isCells = false) : Box W' b cs t :=
  h.grown hg (fun e => by
    obtain ⟨o, ho, hc⟩ := hr b e
    rw [show W.heap[b]? = _ from h] at ho
    cases ho
    cases hc)
theorem rd_own {W W' : World} {row : Option Nat} {a : Option Addr} {xs : List Int} (h : RdI W a xs) (hg : W.grownBy W' row) (hr : ∀ r, row = some r → ∃ o : Obj, W.heap[r]? = some o ∧ o.isCells = false) : RdI W' a xs := fun i hi => by
  obtain ⟨b, o, ha, hc⟩ := h i hi
  refine ⟨b, o, ha, (World.cell?_of_block (a := ⟨b, o + i, none⟩) (hg.block b (cell_lt hc) (fun e => ?_))).trans hc⟩
  obtain ⟨q, hq, hn⟩ := hr b e.symm
  unfold World.cell? at hc
  cases q <;> simp_all [Obj.isCells]
theorem Half.own {W W' : World} {row : Option Nat} {pb eb kb M : Nat} {id hs : Int} {st fo : List Int} {sa fa : Option Addr} {sc fc : Nat} (h : Half W pb eb kb M id hs st fo sa fa sc fc) (hg : W.grownBy W' row) (hr : ∀ r, row = some r → ∃ o : Obj, W.heap[r]? = some o ∧ o.isCells = false) (hM : row ≠ some M) :
    Half W' pb eb kb M id hs st fo sa fa sc fc :=
  ⟨box_own h.pair hg hr, box_own h.fin hg hr, box_own h.known hg hr, h.map.kept (hg.block M h.map.lt (fun e => hM e.symm)), rd_own h.s hg hr, rd_own h.f hg hr⟩

/-- The memo's own steps. -/
def MSt (M : Nat) (st fo : List Int) (W W' : World) : Prop := Keep (· ≠ M) W W' ∧ (PMap W M st.length fo.length (Known st fo) → PMap W' M st.length fo.length (Known st fo))

/-- What a round over 'best' keeps for it. -/
structure KpB (R : Nat → Prop) (M : Nat) (st fo : List Int) (W W' : World) : Prop where
  os : W'.os = W.os
  tape : W'.tape = W.tape
  output : W'.output = W.output
  size : W.heap.size ≤ W'.heap.size
  box : ∀ b cs t, Box W b cs t → (t = 134 ∨ t = 137 ∨ t = 170 ∨ t = 172) → Box W' b cs t
  row : ∀ k, k < W.heap.size → R k → W'.heap[k]? = W.heap[k]?
  map : PMap W M st.length fo.length (Known st fo) → PMap W' M st.length fo.length (Known st fo)

theorem KpB.refl (R : Nat → Prop) (M : Nat) (st fo : List Int) (W : World) : KpB R M st fo W W := ⟨rfl, rfl, rfl, Nat.le_refl _, fun _ _ _ h _ => h, fun _ _ _ => rfl, fun h => h⟩
theorem KpB.trans {R : Nat → Prop} {M : Nat} {st fo : List Int} {A B C : World} (h : KpB R M st fo A B) (k : KpB R M st fo B C) : KpB R M st fo A C :=
  ⟨k.os.trans h.os, k.tape.trans h.tape, k.output.trans h.output, Nat.le_trans h.size k.size, fun b cs t hb ht => k.box b cs t (h.box b cs t hb ht) ht, fun i hi hr => (k.row i (Nat.lt_of_lt_of_le hi h.size) hr).trans (h.row i hi hr), fun hm => k.map (h.map hm)⟩
theorem KpB.rd {R : Nat → Prop} {M : Nat} {st fo : List Int} {W W' : World} (h : KpB R M st fo W W') {a : Option Addr} {xs : List Int} (hr : RdI W a xs) (hR : xs ≠ [] → ∀ p, a = some p → R p.block) : RdI W' a xs := fun i hi => by
  obtain ⟨b, o, ha, hc⟩ := hr i hi
  exact ⟨b, o, ha, (World.cell?_of_block (a := ⟨b, o + i, none⟩) (h.row b (cell_lt hc) (hR (List.ne_nil_of_length_pos (Nat.lt_of_le_of_lt (Nat.zero_le _) hi)) _ ha))).trans hc⟩
theorem KpB.half {R : Nat → Prop} {M : Nat} {st fo : List Int} {W W' : World} (h : KpB R M st fo W W') {pb eb kb : Nat} {id hs : Int} {sa fa : Option Addr} {sc fc : Nat} (hH : Half W pb eb kb M id hs st fo sa fa sc fc)
    (hR3 : st ≠ [] → ∀ p, sa = some p → R p.block) (hR4 : fo ≠ [] → ∀ p, fa = some p → R p.block) : Half W' pb eb kb M id hs st fo sa fa sc fc :=
  ⟨h.box _ _ _ hH.pair (.inl rfl), h.box _ _ _ hH.fin (.inr (.inl rfl)), h.box _ _ _ hH.known (.inr (.inr (.inl rfl))), h.map hH.map, h.rd hH.s hR3, h.rd hH.f hR4⟩
theorem KpB.of_mst {R : Nat → Prop} {M : Nat} {st fo : List Int} {W W' : World} (h : MSt M st fo W W') (hM : PMap W M st.length fo.length (Known st fo)) (hR : ¬ R M) : KpB R M st fo W W' :=
  ⟨h.1.os, h.1.tape, h.1.output, h.1.size, fun b _ _ hb _ => h.1.box (hM.ne_box hb) hb, fun k hk hr => h.1.block k hk (fun e => hR (e ▸ hr)), h.2⟩

theorem roundIn_wide {n m : Nat} {P : Program} {l l' : Nat} {f : FuncId} {tmps : Array Value} {assign body : Code} {w : World} {R : Ending → World → Prop} (h : RoundIn Fence.wide n P l f tmps assign body w R) : RoundIn (Fence.wide.inRound l') m P l f tmps assign body w R :=
  ⟨h.1, fun c cs _ => h.2 c cs (by simp [Fence.room, Fence.wide])⟩

/-- 'best': the receiver and the place are boxed. -/
theorem best_any (cs : Array Value) (i k : Nat) (w : World) (hcs : cs.size = 5) :
    Calls Tryd.prog 87 #[.agg cs, plc i k] w fun e w' => e = .returned (.func (.func 108) #[] #[.pointer (some ⟨w.heap.size, 0, none⟩), .pointer (some ⟨w.heap.size + 1, 0, none⟩)]) ∧ w' = (w.alloc (.cells cs 134)).alloc (.cells #[.int .i64 i, .int .i64 k] 137) := by
  go_enter Tryd.func87, Tryd.ntmps87
  unfold plc
  go_wp2_with fail
  go_ret
  exact ⟨by simp, by simp [Value.cells]⟩

set_option maxRecDepth 20000 in
set_option maxHeartbeats 4000000 in
theorem best1_in (l xb qb pb eb kb M : Nat) (id hs : Int) (st fo : List Int) (sa fa : Option Addr) (sc fc : Nat) (i k : Nat) (hi : i ≤ st.length) (hk : k ≤ fo.length) (hl : st.length ≤ 2000) (hl2 : fo.length ≤ 2000)
    (R : Nat → Prop) (hRM : ¬ R M) (hR3 : st ≠ [] → ∀ p, sa = some p → R p.block) (hR4 : fo ≠ [] → ∀ p, fa = some p → R p.block) (w : World) (J Jx : List (StAt st fo i k) → World → Prop) (hJ : Bears w.heap.size (MSt M st fo) J) (hJx : Bears w.heap.size (MSt M st fo) Jx)
    (hY : ∀ pre (x : StAt st fo i k) W1, J pre W1 → pre.length < 3 → YieldAt Fence.wide 2 Tryd.prog l #[x.1.val] W1 fun e W' =>
      KeepsFrom w.heap.size W1 W' ∧ ((e = .returned (.bool true) ∧ J (pre ++ [x]) W' ∧ KpB R M st fo W1 W') ∨ (e = .returned (.bool false) ∧ Jx (pre ++ [x]) W')))
    (hX : Box w xb (pairC id hs st fo sa fa sc fc (leftV eb kb pb)) 134) (hQ : Box w qb #[.int .i64 i, .int .i64 k] 137) (hH : Half w pb eb kb M id hs st fo sa fa sc fc) (h0 : J [] w) :
    CallsIn Fence.wide 3 Tryd.prog 108 #[.func (.yield l) #[] #[], .pointer (some ⟨xb, 0, none⟩), .pointer (some ⟨qb, 0, none⟩)] w fun e W' => (∃ v, e = .returned v) ∧
      ((∃ ys, AllBest st fo i k ys ∧ J ys W') ∨ (∃ pre, PartBest st fo i k pre ∧ Jx pre W')) := by
  have hm := mixedS
  have HY := hid hY; clear hY
  have HJ := hid hJ; have HJx := hid hJx; clear hJ hJx
  have HH := hid hH; have J0 := hid h0; clear h0
  have l1 := hX.lt; have l2 := hQ.lt; have l4 := hH.map.lt
  have xM : xb ≠ M := hH.map.ne_box hX
  have qM : qb ≠ M := hH.map.ne_box hQ
  have c0 : w.cell? ⟨xb, 0, none⟩ = some (.int .i64 id) := hX.cell 0
  have c1 : w.cell? ⟨xb, 1, none⟩ = some (.int .i64 hs) := hX.cell 1
  have c2 : w.cell? ⟨xb, 2, none⟩ = some (.slice sa st.length sc) := hX.cell 2
  have c3 : w.cell? ⟨xb, 3, none⟩ = some (.slice fa fo.length fc) := hX.cell 3
  have c4 : w.cell? ⟨xb, 4, none⟩ = some (.func (.func 106) #[] #[.pointer (some ⟨eb, 0, none⟩), .pointer (some ⟨kb, 0, none⟩), .pointer (some ⟨pb, 0, none⟩)]) := hX.cell 4
  have q0 : w.cell? ⟨qb, 0, none⟩ = some (.int .i64 i) := hQ.cell 0
  have q1 : w.cell? ⟨qb, 1, none⟩ = some (.int .i64 k) := hQ.cell 1
  refine callsIn_of_wp_marks Tryd.func108 rfl trivial ?_ rfl
  simp only [Tryd.ntmps108, List.size_toArray, List.length_cons, List.length_nil, Nat.reduceAdd, Nat.reduceSub, Array.replicate_succ, Array.replicate_zero, List.push_toArray, List.append_toArray, List.nil_append, List.cons_append]
  clear hH
  gi_wp2_with (refine ⟨trivial, ?_⟩; gi_at_call 107; refine (callsIn_wide.2 (steps_any _ i k _ rfl)).mono ?_; rintro e w' ⟨rfl, rfl⟩)
  obtain ⟨W0, hW0⟩ : ∃ W0, W0 = w := ⟨_, rfl⟩
  refine wpIn_world (fun wL => Box wL w.heap.size #[.func (.yield l) #[] #[]] 172 ∧ Box wL (w.heap.size + 1) (pairC id hs st fo sa fa sc fc (leftV eb kb pb)) 134 ∧ Box wL (w.heap.size + 1 + 1) #[.int .i64 i, .int .i64 k] 137 ∧ w.heap.size + 3 ≤ wL.heap.size ∧ Below w.heap.size w wL) ⟨?_, ?_, ?_, by simp, ?_⟩ ?_
  · exact ((Box.at _ _ (by first | omega | (simp; done) | (simp; omega))).alloc _).alloc _
  · exact (Box.at _ _ (by first | omega | (simp; done) | (simp; omega))).alloc _
  · exact Box.at _ _ (by first | omega | (simp; done) | (simp; omega))
  · exact (by repeat (first | (with_reducible exact Below.refl _ _) | (with_reducible assumption) | (with_reducible refine Below.drew ?_) | (with_reducible refine below_drewN ?_ _) | (with_reducible refine Below.alloc ?_ (by first | omega | (simp; done) | (simp; omega)) _) | (with_reducible refine Below.setCell ?_ (by first | omega | (simp; done) | (simp; omega)) _) | (with_reducible refine Below.trans ?_ (Below.mono (by assumption) (by first | omega | (simp; done) | (simp; omega))))))
  rintro wL ⟨bY, bC, bD, zL, hbL⟩
  clear c0 c1 c2 c3 c4 q0 q1 hW0 W0
  have JL := hid (HJ.out.1 [] w wL none J0.out (grown_of_below hbL) (by simp))
  have hHL := HH.out.keep (w' := wL) (Keep.of_below hbL (fun _ h _ => h)) (HH.out.map.kept (hbL.block _ l4))
  have bX := hX.below hbL l1; have bQ := hQ.below hbL l2
  refine wpIn_rangeFunc_ownH rfl (by omega) (gf := 125) (lb := #[.pointer (some ⟨w.heap.size + 1 + 1, 0, none⟩), .pointer (some ⟨w.heap.size + 1, 0, none⟩)]) rfl trivial (enters_of Tryd.func125 (by kernel_rfl) rfl)
    (steps1_stops 2 (w.heap.size + 1 + 1) (w.heap.size + 1) id hs st fo sa fa sc fc (leftV eb kb pb) i k hi hk (by omega) (by omega) (fun b => b = w.heap.size + 1 + 1 ∨ b = w.heap.size + 1 ∨ (R b ∧ b < w.heap.size))
      (.inl rfl) (.inr (.inl rfl)) (fun hx p hp => .inr (.inr ⟨hR3 hx p hp, row_lt HH.out.s hx hp⟩)) (fun hx p hp => .inr (.inr ⟨hR4 hx p hp, row_lt HH.out.f hx hp⟩)) wL ⟨bD, bC, hHL.s, hHL.f⟩)
    (fun h k => h.trans k) ?kb (Below.refl _ _) (fun _ => rfl)
    (fun pre W => ∃ pre' : List (StAt st fo i k), pre'.map (·.1) = (pre.map (·.1)).filter (isBest st fo i k) ∧ J pre' W ∧ Half W pb eb kb M id hs st fo sa fa sc fc ∧ Box W xb (pairC id hs st fo sa fa sc fc (leftV eb kb pb)) 134 ∧ Box W qb #[.int .i64 i, .int .i64 k] 137 ∧
      Box W w.heap.size #[.func (.yield l) #[] #[]] 172 ∧ Box W (w.heap.size + 1) (pairC id hs st fo sa fa sc fc (leftV eb kb pb)) 134 ∧ Box W (w.heap.size + 1 + 1) #[.int .i64 i, .int .i64 k] 137 ∧ wL.heap.size ≤ W.heap.size)
    (fun c pre W => c = .ret ∧ ∃ pre' : List (StAt st fo i k), pre'.map (·.1) = (pre.map (·.1)).filter (isBest st fo i k) ∧ Jx pre' W) ?hI ?hIx ⟨[], rfl, JL.out, hHL, bX, bQ, bY, bC, bD, Nat.le_refl _⟩
    (fun x a' W => ∃ Bx, wL.heap.size ≤ Bx ∧ Box W Bx #[.int .i64 x.1.i, .int .i64 x.1.k, .int .i64 x.1.s, .int .i64 x.1.f, .int .i64 x.1.wr] 142 ∧ ∃ f : Nat → Value, a' = ⟨((List.range 28).map f).toArray, []⟩ ∧ f 1 = .pointer (some ⟨xb, 0, none⟩) ∧ f 2 = .pointer (some ⟨qb, 0, none⟩) ∧ f 3 = .pointer (some ⟨w.heap.size, 0, none⟩) ∧ f 4 = .pointer (some ⟨Bx, 0, none⟩)) ?hAx ?assign ?body ?done ?stop
  case kb => exact fun W l' o o' hl' ho hc _ => (Keep.refl _ _).putObj l' o' (fun _ hz => by rcases hz with h | h | ⟨_, h⟩ <;> omega)
  case hI =>
    rintro pre W W' row ⟨pre', ip, ij, iH, iX, iQ, iY, iC, iD, iz⟩ hg hr
    have hrc : ∀ r, row = some r → ∃ o : Obj, W.heap[r]? = some o ∧ o.isCells = false := fun r e => (hr r e).2
    exact ⟨pre', ip, HJ.out.1 pre' W W' row ij hg (fun r e => ⟨by have := (hr r e).1; omega, (hr r e).2⟩), iH.own hg hrc (fun e => by have := (hr _ e).1; omega), box_own iX hg hrc, box_own iQ hg hrc, box_own iY hg hrc, box_own iC hg hrc, box_own iD hg hrc, Nat.le_trans iz hg.size⟩
  case hIx =>
    rintro c pre W W' row ⟨hc, pre', ip, ij⟩ hg hr
    exact ⟨hc, pre', ip, HJx.out.1 pre' W W' row ij hg (fun r e => ⟨by have := (hr r e).1; omega, (hr r e).2⟩)⟩
  case hAx =>
    rintro x a' _ W W' row ⟨Bx, hB, hb, hf⟩ hg hr
    exact ⟨Bx, hB, box_own hb hg (fun r e => (hr r e).2), hf⟩
  case assign =>
    rintro l2 pre ⟨x, hx⟩ W K ⟨pre', ip, ij, iH, iX, iQ, iY, iC, iD, iz⟩ hK
    simp only [St.val]
    gi_wp2
    refine hK _ _ ((KeepsOthers.alloc _ _).from _) ((Keep.refl _ _).alloc _) ⟨pre', ip, HJ.out.1.alloc _ ij, iH.keep ((Keep.refl _ _).alloc _) (iH.map.kept (Below.heap_alloc _ _ _ iH.map.lt)), iX.alloc _, iQ.alloc _, iY.alloc _, iC.alloc _, iD.alloc _, by simp; omega⟩ ⟨W.heap.size, iz, Box.new _ _ _, ?_⟩
    refine acts_of rfl ?_
    exact ⟨rfl, rfl, rfl, rfl⟩
  case body =>
    rintro l2 pre ⟨x, hx⟩ a' W hl' ⟨r, hr⟩ ⟨pre', ip, ij, iH, iX, iQ, iY, iC, iD, iz⟩ ⟨Bx, hBx, bX', f, rfl, f1, f2, f3, f4⟩ hlt
    obtain ⟨b1, b2, b3, b4, b5⟩ := step_bound hx hi hk
    have d1 := dd_le st fo x.i x.k hl hl2
    have d2 := dd_le st fo i k hl hl2
    rw [show (List.range 28).map f = [f 0, f 1, f 2, f 3, f 4, f 5, f 6, f 7, f 8, f 9, f 10, f 11, f 12, f 13, f 14, f 15, f 16, f 17, f 18, f 19, f 20, f 21, f 22, f 23, f 24, f 25, f 26, f 27] from rfl, f1, f2, f3, f4]
    clear f1 f2 f3 f4
    have hp3 : pre'.length < 3 := by
      have h1 := congrArg List.length ip
      have h2 := List.length_filter_le (isBest st fo i k) (pre.map (·.1))
      simp only [List.length_map] at h1 h2
      omega
    have HHW := hid iH
    have x0 : W.cell? ⟨Bx, 0, none⟩ = some (.int .i64 x.i) := bX'.cell 0
    have x1 : W.cell? ⟨Bx, 1, none⟩ = some (.int .i64 x.k) := bX'.cell 1
    have x2 : W.cell? ⟨Bx, 2, none⟩ = some (.int .i64 x.s) := bX'.cell 2
    have x3 : W.cell? ⟨Bx, 3, none⟩ = some (.int .i64 x.f) := bX'.cell 3
    have x4 : W.cell? ⟨Bx, 4, none⟩ = some (.int .i64 x.wr) := bX'.cell 4
    have p4 : W.cell? ⟨xb, 4, none⟩ = some (.func (.func 106) #[] #[.pointer (some ⟨eb, 0, none⟩), .pointer (some ⟨kb, 0, none⟩), .pointer (some ⟨pb, 0, none⟩)]) := iX.cell 4
    have q0 : W.cell? ⟨qb, 0, none⟩ = some (.int .i64 i) := iQ.cell 0
    have q1 : W.cell? ⟨qb, 1, none⟩ = some (.int .i64 k) := iQ.cell 1
    have y0 : W.cell? ⟨w.heap.size, 0, none⟩ = some (.func (.yield l) #[] #[]) := iY.cell 0
    have IX := hid iX; have IQ := hid iQ; have IY := hid iY; have IC := hid iC; have ID := hid iD
    clear iX iQ iY iC iD iH bX'
    have hw := wrap_small (n := x.wr + (dd st fo x.i x.k : Int)) (by omega) (by omega)
    obtain ⟨dX, hdX⟩ : ∃ d : Int, d = (dd st fo x.i x.k : Int) := ⟨_, rfl⟩
    obtain ⟨dP, hdP⟩ : ∃ d : Int, d = (dd st fo i k : Int) := ⟨_, rfl⟩
    rw [← hdX] at hw
    have HdX := hid hdX; have HdP := hid hdP; clear hdX hdP
    by_cases hit : x.wr + dX = dP
    · rw [hit] at hw
      have hbq : (dP == dP) = true := by simp
      have HIT := hid hit
      gi_wp2
      refine wpIn_region_G [1, 3, 5, 9, 10, 14, 15] (fun w' => w'.cell? ⟨Bx, 0, none⟩ = some (.int .i64 x.i) ∧ w'.cell? ⟨Bx, 1, none⟩ = some (.int .i64 x.k) ∧ w'.cell? ⟨Bx, 2, none⟩ = some (.int .i64 x.s) ∧ w'.cell? ⟨Bx, 3, none⟩ = some (.int .i64 x.f) ∧ w'.cell? ⟨Bx, 4, none⟩ = some (.int .i64 x.wr) ∧ w'.cell? ⟨xb, 4, none⟩ = some (.func (.func 106) #[] #[.pointer (some ⟨eb, 0, none⟩), .pointer (some ⟨kb, 0, none⟩), .pointer (some ⟨pb, 0, none⟩)]) ∧ w'.cell? ⟨qb, 0, none⟩ = some (.int .i64 i) ∧ w'.cell? ⟨qb, 1, none⟩ = some (.int .i64 k) ∧ w'.cell? ⟨w.heap.size, 0, none⟩ = some (.func (.yield l) #[] #[])) hm ⟨by go_simp, by go_simp, by go_simp, by go_simp, by go_simp, by go_simp, by go_simp, by go_simp, by go_simp⟩ ?_
      intro hS0; have hS := hid hS0; clear hS0
      (apply wpAnyG_pure (wide_round _) (i := 0) rfl (by kernel_rfl) (fun _ _ _ h => h); · first | exact .inr ⟨rfl, rfl⟩ | exact .inl ⟨rfl, fun w' => by go_simp; rfl⟩); simp only [Act.put, List.setIfInBounds_toArray, List.set_cons_succ, List.set_cons_zero, List.getElem_toArray, List.getElem_cons_succ, List.getElem_cons_zero]
      (apply wpAnyG_held (wide_round _) (i := 1) rfl (by kernel_rfl) (fun _ _ _ h => h) hS.out; · first | exact .inr ⟨rfl, rfl⟩ | exact .inl ⟨rfl, fun w' hS' => by (obtain ⟨s1, s2, s3, s4, s5, s6, s7, s8, s9⟩ := hS'; go_simp; rfl)⟩); simp only [Act.put, List.setIfInBounds_toArray, List.set_cons_succ, List.set_cons_zero, List.getElem_toArray, List.getElem_cons_succ, List.getElem_cons_zero]
      (apply wpAnyG_pure (wide_round _) (i := 2) rfl (by kernel_rfl) (fun _ _ _ h => h); · first | exact .inr ⟨rfl, rfl⟩ | exact .inl ⟨rfl, fun w' => by go_simp; rfl⟩); simp only [Act.put, List.setIfInBounds_toArray, List.set_cons_succ, List.set_cons_zero, List.getElem_toArray, List.getElem_cons_succ, List.getElem_cons_zero]
      (apply wpAnyG_held (wide_round _) (i := 3) rfl (by kernel_rfl) (fun _ _ _ h => h) hS.out; · first | exact .inr ⟨rfl, rfl⟩ | exact .inl ⟨rfl, fun w' hS' => by (obtain ⟨s1, s2, s3, s4, s5, s6, s7, s8, s9⟩ := hS'; go_simp; rfl)⟩); simp only [Act.put, List.setIfInBounds_toArray, List.set_cons_succ, List.set_cons_zero, List.getElem_toArray, List.getElem_cons_succ, List.getElem_cons_zero]
      (apply wpAnyG_pure (wide_round _) (i := 4) rfl (by kernel_rfl) (fun _ _ _ h => h); · first | exact .inr ⟨rfl, rfl⟩ | exact .inl ⟨rfl, fun w' => by go_simp; rfl⟩); simp only [Act.put, List.setIfInBounds_toArray, List.set_cons_succ, List.set_cons_zero, List.getElem_toArray, List.getElem_cons_succ, List.getElem_cons_zero]
      (apply wpAnyG_held (wide_round _) (i := 5) rfl (by kernel_rfl) (fun _ _ _ h => h) hS.out; · first | exact .inr ⟨rfl, rfl⟩ | exact .inl ⟨rfl, fun w' hS' => by (obtain ⟨s1, s2, s3, s4, s5, s6, s7, s8, s9⟩ := hS'; go_simp; rfl)⟩); simp only [Act.put, List.setIfInBounds_toArray, List.set_cons_succ, List.set_cons_zero, List.getElem_toArray, List.getElem_cons_succ, List.getElem_cons_zero]
      (apply wpAnyG_pure (wide_round _) (i := 8) rfl (by kernel_rfl) (fun _ _ _ h => h); · first | exact .inr ⟨rfl, rfl⟩ | exact .inl ⟨rfl, fun w' => by go_simp; rfl⟩); simp only [Act.put, List.setIfInBounds_toArray, List.set_cons_succ, List.set_cons_zero, List.getElem_toArray, List.getElem_cons_succ, List.getElem_cons_zero]
      (apply wpAnyG_held (wide_round _) (i := 9) rfl (by kernel_rfl) (fun _ _ _ h => h) hS.out; · first | exact .inr ⟨rfl, rfl⟩ | exact .inl ⟨rfl, fun w' hS' => by (obtain ⟨s1, s2, s3, s4, s5, s6, s7, s8, s9⟩ := hS'; go_simp; rfl)⟩); simp only [Act.put, List.setIfInBounds_toArray, List.set_cons_succ, List.set_cons_zero, List.getElem_toArray, List.getElem_cons_succ, List.getElem_cons_zero]
      (apply wpAnyG_held (wide_round _) (i := 10) rfl (by kernel_rfl) (fun _ _ _ h => h) hS.out; · first | exact .inr ⟨rfl, rfl⟩ | exact .inl ⟨rfl, fun w' hS' => by (obtain ⟨s1, s2, s3, s4, s5, s6, s7, s8, s9⟩ := hS'; go_simp; rfl)⟩); simp only [Act.put, List.setIfInBounds_toArray, List.set_cons_succ, List.set_cons_zero, List.getElem_toArray, List.getElem_cons_succ, List.getElem_cons_zero]
      refine wpAnyG_one (i := 6) rfl ⟨by kernel_rfl, by kernel_rfl⟩ ?_
      intro K hK
      go_simp
      refine ⟨trivial, ?_⟩
      refine (CallsIn.inRound l2 (callsIn_wide.2 (left_any pb eb kb M id hs st fo sa fa sc fc hl hl2 x.i x.k _ b1 b2 (HHW.out.keep (Keep.drew (Keep.refl _ _)) (HHW.out.map.kept rfl))))).mono ?_
      rintro e w6 ⟨he, hk6, hp6⟩
      rw [← HdX.out] at he
      subst he
      have KW : Keep (· ≠ M) W w6 := (Keep.drew (Keep.refl _ W)).trans hk6
      have H6 := hid (HHW.out.keep KW hp6)
      refine shutSG hK ⟨KW.cell (show _ ≠ M by omega) x0, KW.cell (show _ ≠ M by omega) x1, KW.cell (show _ ≠ M by omega) x2, KW.cell (show _ ≠ M by omega) x3, KW.cell (show _ ≠ M by omega) x4, KW.cell (show _ ≠ M by omega) p4, KW.cell (show _ ≠ M by omega) q0, KW.cell (show _ ≠ M by omega) q1, KW.cell (show _ ≠ M by omega) y0⟩ (fun hS => ?_)
      clear hK K
      (apply wpAnyG_pure (wide_round _) (i := 7) rfl (by kernel_rfl) (fun _ _ _ h => h); · first | exact .inr ⟨rfl, rfl⟩ | exact .inl ⟨rfl, fun w' => by go_simp; rfl⟩); simp only [Act.put, List.setIfInBounds_toArray, List.set_cons_succ, List.set_cons_zero, List.getElem_toArray, List.getElem_cons_succ, List.getElem_cons_zero]
      refine wpAnyG_one (i := 11) rfl ⟨by kernel_rfl, by kernel_rfl⟩ ?_
      intro K hK
      go_simp
      refine ⟨trivial, ?_⟩
      refine (CallsIn.inRound l2 (callsIn_wide.2 (left_any pb eb kb M id hs st fo sa fa sc fc hl hl2 i k w6 hi hk H6.out))).mono ?_
      rintro e w11 ⟨he, hk11, hp11⟩
      rw [← HdP.out] at he
      subst he
      have KW2 : Keep (· ≠ M) W w11 := KW.trans hk11
      have H11 := hid (H6.out.keep hk11 hp11)
      refine shutSG hK ⟨KW2.cell (show _ ≠ M by omega) x0, KW2.cell (show _ ≠ M by omega) x1, KW2.cell (show _ ≠ M by omega) x2, KW2.cell (show _ ≠ M by omega) x3, KW2.cell (show _ ≠ M by omega) x4, KW2.cell (show _ ≠ M by omega) p4, KW2.cell (show _ ≠ M by omega) q0, KW2.cell (show _ ≠ M by omega) q1, KW2.cell (show _ ≠ M by omega) y0⟩ (fun hS => ?_)
      clear hK K
      (apply wpAnyG_pure (wide_round _) (i := 12) rfl (by kernel_rfl) (fun _ _ _ h => h); · first | exact .inr ⟨rfl, rfl⟩ | exact .inl ⟨rfl, fun w' => by go_simp; rfl⟩); simp only [Act.put, List.setIfInBounds_toArray, List.set_cons_succ, List.set_cons_zero, List.getElem_toArray, List.getElem_cons_succ, List.getElem_cons_zero]
      (apply wpAnyG_pure (wide_round _) (i := 13) rfl (by kernel_rfl) (fun _ _ _ h => h); · first | exact .inr ⟨rfl, rfl⟩ | exact .inl ⟨rfl, fun w' => by go_simp; rfl⟩); simp only [Act.put, List.setIfInBounds_toArray, List.set_cons_succ, List.set_cons_zero, List.getElem_toArray, List.getElem_cons_succ, List.getElem_cons_zero]
      (apply wpAnyG_held (wide_round _) (i := 14) rfl (by kernel_rfl) (fun _ _ _ h => h) hS.out; · first | exact .inr ⟨rfl, rfl⟩ | exact .inl ⟨rfl, fun w' hS' => by (obtain ⟨s1, s2, s3, s4, s5, s6, s7, s8, s9⟩ := hS'; go_simp; rfl)⟩); simp only [Act.put, List.setIfInBounds_toArray, List.set_cons_succ, List.set_cons_zero, List.getElem_toArray, List.getElem_cons_succ, List.getElem_cons_zero]
      (apply wpAnyG_held (wide_round _) (i := 15) rfl (by kernel_rfl) (fun _ _ _ h => h) hS.out; · first | exact .inr ⟨rfl, rfl⟩ | exact .inl ⟨rfl, fun w' hS' => by (obtain ⟨s1, s2, s3, s4, s5, s6, s7, s8, s9⟩ := hS'; go_simp; rfl)⟩); simp only [Act.put, List.setIfInBounds_toArray, List.set_cons_succ, List.set_cons_zero, List.getElem_toArray, List.getElem_cons_succ, List.getElem_cons_zero]
      refine wpAnyG_one (i := 16) rfl ⟨by kernel_rfl, by kernel_rfl⟩ ?_
      intro K hK
      have hj11 := HJ.out.2 pre' W w11 ij ⟨KW2, fun _ => hp11⟩
      obtain ⟨fn, tmps, assign, body, hy, hR⟩ := HY.out pre' ⟨x, hx⟩ w11 hj11 (by omega)
      simp [St.val] at hy
      go_simp
      refine (roundIn_wide hR).mono ?_
      rintro e w16 ⟨kf, hd⟩
      obtain ⟨b, rfl, ht, hf⟩ := yield_bool hd
      clear hd
      refine shutNG hK (by kernel_rfl) ?_
      clear hK K
      (apply wpAnyG_pure (wide_round _) (i := 17) rfl (by kernel_rfl) (fun _ _ _ h => h); · first | exact .inr ⟨rfl, rfl⟩ | exact .inl ⟨rfl, fun w' => by go_simp; rfl⟩); simp only [Act.put, List.setIfInBounds_toArray, List.set_cons_succ, List.set_cons_zero, List.getElem_toArray, List.getElem_cons_succ, List.getElem_cons_zero]
      (apply wpAnyG_pure (wide_round _) (i := 18) rfl (by kernel_rfl) (fun _ _ _ h => h); · first | exact .inr ⟨rfl, rfl⟩ | exact .inl ⟨rfl, fun w' => by go_simp; rfl⟩); simp only [Act.put, List.setIfInBounds_toArray, List.set_cons_succ, List.set_cons_zero, List.getElem_toArray, List.getElem_cons_succ, List.getElem_cons_zero]
      refine wpAnyG_done (by kernel_rfl) ?_ _
      have hbest : isBest st fo i k x = true := by unfold isBest; rw [← HdX.out, ← HdP.out]; simpa using HIT.out
      have hpm : (pre' ++ [(⟨x, hx⟩ : StAt st fo i k)]).map (fun y : StAt st fo i k => y.1) = ((pre ++ [(⟨x, hx⟩ : StAt st fo i k)]).map (fun y : StAt st fo i k => y.1)).filter (isBest st fo i k) := by
        rw [List.map_append, ip, List.map_append, List.filter_append]; simp [hbest]
      have KF : KeepsFrom wL.heap.size W w16 := (keepsFrom_of KW2 (B := wL.heap.size) (by omega)).trans (kf_up kf (by omega))
      have X11 := KW2.box xM IX.out; have Q11 := KW2.box qM IQ.out
      have Y11 := KW2.box (show w.heap.size ≠ M by omega) IY.out; have C11 := KW2.box (show w.heap.size + 1 ≠ M by omega) IC.out; have D11 := KW2.box (show w.heap.size + 1 + 1 ≠ M by omega) ID.out
      have z11 := KW2.size
      cases b with
      | true =>
        obtain ⟨hj, kp⟩ := ht rfl
        have KZ : Keep (fun b => b = w.heap.size + 1 + 1 ∨ b = w.heap.size + 1 ∨ (R b ∧ b < w.heap.size)) W w16 :=
          (KW2.mono (fun b _ hz => show b ≠ M from by
            rcases hz with h | h | ⟨h, _⟩
            · omega
            · omega
            · exact fun e => hRM (e ▸ h))).trans ⟨kp.os, kp.tape, kp.output, kp.size, fun b hb hz => by
              rcases hz with h | h | ⟨h, _⟩
              · subst h; exact (kp.box _ _ _ D11 (.inr (.inl rfl))).trans D11.symm
              · subst h; exact (kp.box _ _ _ C11 (.inl rfl)).trans C11.symm
              · exact kp.row b hb h⟩
        have kz := kp.size
        gi_wp2
        exact ⟨KF, KZ, pre' ++ [(⟨x, hx⟩ : StAt st fo i k)], hpm, hj, kp.half H11.out hR3 hR4, kp.box _ _ _ X11 (.inl rfl), kp.box _ _ _ Q11 (.inr (.inl rfl)), kp.box _ _ _ Y11 (.inr (.inr (.inr rfl))), kp.box _ _ _ C11 (.inl rfl), kp.box _ _ _ D11 (.inr (.inl rfl)), by omega⟩
      | false =>
        have hjx := hf rfl
        gi_wp2
        exact ⟨KF, rfl, pre' ++ [(⟨x, hx⟩ : StAt st fo i k)], hpm, hjx⟩
    · have hbq : (x.wr + dX == dP) = false := by simp [hit]
      have HIT := hid hit
      clear hit
      gi_wp2
      refine wpIn_region_G [1, 3, 5, 9, 10, 14, 15] (fun w' => w'.cell? ⟨Bx, 0, none⟩ = some (.int .i64 x.i) ∧ w'.cell? ⟨Bx, 1, none⟩ = some (.int .i64 x.k) ∧ w'.cell? ⟨Bx, 2, none⟩ = some (.int .i64 x.s) ∧ w'.cell? ⟨Bx, 3, none⟩ = some (.int .i64 x.f) ∧ w'.cell? ⟨Bx, 4, none⟩ = some (.int .i64 x.wr) ∧ w'.cell? ⟨xb, 4, none⟩ = some (.func (.func 106) #[] #[.pointer (some ⟨eb, 0, none⟩), .pointer (some ⟨kb, 0, none⟩), .pointer (some ⟨pb, 0, none⟩)]) ∧ w'.cell? ⟨qb, 0, none⟩ = some (.int .i64 i) ∧ w'.cell? ⟨qb, 1, none⟩ = some (.int .i64 k) ∧ w'.cell? ⟨w.heap.size, 0, none⟩ = some (.func (.yield l) #[] #[])) hm ⟨by go_simp, by go_simp, by go_simp, by go_simp, by go_simp, by go_simp, by go_simp, by go_simp, by go_simp⟩ ?_
      intro hS0; have hS := hid hS0; clear hS0
      (apply wpAnyG_pure (wide_round _) (i := 0) rfl (by kernel_rfl) (fun _ _ _ h => h); · first | exact .inr ⟨rfl, rfl⟩ | exact .inl ⟨rfl, fun w' => by go_simp; rfl⟩); simp only [Act.put, List.setIfInBounds_toArray, List.set_cons_succ, List.set_cons_zero, List.getElem_toArray, List.getElem_cons_succ, List.getElem_cons_zero]
      (apply wpAnyG_held (wide_round _) (i := 1) rfl (by kernel_rfl) (fun _ _ _ h => h) hS.out; · first | exact .inr ⟨rfl, rfl⟩ | exact .inl ⟨rfl, fun w' hS' => by (obtain ⟨s1, s2, s3, s4, s5, s6, s7, s8, s9⟩ := hS'; go_simp; rfl)⟩); simp only [Act.put, List.setIfInBounds_toArray, List.set_cons_succ, List.set_cons_zero, List.getElem_toArray, List.getElem_cons_succ, List.getElem_cons_zero]
      (apply wpAnyG_pure (wide_round _) (i := 2) rfl (by kernel_rfl) (fun _ _ _ h => h); · first | exact .inr ⟨rfl, rfl⟩ | exact .inl ⟨rfl, fun w' => by go_simp; rfl⟩); simp only [Act.put, List.setIfInBounds_toArray, List.set_cons_succ, List.set_cons_zero, List.getElem_toArray, List.getElem_cons_succ, List.getElem_cons_zero]
      (apply wpAnyG_held (wide_round _) (i := 3) rfl (by kernel_rfl) (fun _ _ _ h => h) hS.out; · first | exact .inr ⟨rfl, rfl⟩ | exact .inl ⟨rfl, fun w' hS' => by (obtain ⟨s1, s2, s3, s4, s5, s6, s7, s8, s9⟩ := hS'; go_simp; rfl)⟩); simp only [Act.put, List.setIfInBounds_toArray, List.set_cons_succ, List.set_cons_zero, List.getElem_toArray, List.getElem_cons_succ, List.getElem_cons_zero]
      (apply wpAnyG_pure (wide_round _) (i := 4) rfl (by kernel_rfl) (fun _ _ _ h => h); · first | exact .inr ⟨rfl, rfl⟩ | exact .inl ⟨rfl, fun w' => by go_simp; rfl⟩); simp only [Act.put, List.setIfInBounds_toArray, List.set_cons_succ, List.set_cons_zero, List.getElem_toArray, List.getElem_cons_succ, List.getElem_cons_zero]
      (apply wpAnyG_held (wide_round _) (i := 5) rfl (by kernel_rfl) (fun _ _ _ h => h) hS.out; · first | exact .inr ⟨rfl, rfl⟩ | exact .inl ⟨rfl, fun w' hS' => by (obtain ⟨s1, s2, s3, s4, s5, s6, s7, s8, s9⟩ := hS'; go_simp; rfl)⟩); simp only [Act.put, List.setIfInBounds_toArray, List.set_cons_succ, List.set_cons_zero, List.getElem_toArray, List.getElem_cons_succ, List.getElem_cons_zero]
      (apply wpAnyG_pure (wide_round _) (i := 8) rfl (by kernel_rfl) (fun _ _ _ h => h); · first | exact .inr ⟨rfl, rfl⟩ | exact .inl ⟨rfl, fun w' => by go_simp; rfl⟩); simp only [Act.put, List.setIfInBounds_toArray, List.set_cons_succ, List.set_cons_zero, List.getElem_toArray, List.getElem_cons_succ, List.getElem_cons_zero]
      (apply wpAnyG_held (wide_round _) (i := 9) rfl (by kernel_rfl) (fun _ _ _ h => h) hS.out; · first | exact .inr ⟨rfl, rfl⟩ | exact .inl ⟨rfl, fun w' hS' => by (obtain ⟨s1, s2, s3, s4, s5, s6, s7, s8, s9⟩ := hS'; go_simp; rfl)⟩); simp only [Act.put, List.setIfInBounds_toArray, List.set_cons_succ, List.set_cons_zero, List.getElem_toArray, List.getElem_cons_succ, List.getElem_cons_zero]
      (apply wpAnyG_held (wide_round _) (i := 10) rfl (by kernel_rfl) (fun _ _ _ h => h) hS.out; · first | exact .inr ⟨rfl, rfl⟩ | exact .inl ⟨rfl, fun w' hS' => by (obtain ⟨s1, s2, s3, s4, s5, s6, s7, s8, s9⟩ := hS'; go_simp; rfl)⟩); simp only [Act.put, List.setIfInBounds_toArray, List.set_cons_succ, List.set_cons_zero, List.getElem_toArray, List.getElem_cons_succ, List.getElem_cons_zero]
      refine wpAnyG_one (i := 6) rfl ⟨by kernel_rfl, by kernel_rfl⟩ ?_
      intro K hK
      go_simp
      refine ⟨trivial, ?_⟩
      refine (CallsIn.inRound l2 (callsIn_wide.2 (left_any pb eb kb M id hs st fo sa fa sc fc hl hl2 x.i x.k _ b1 b2 (HHW.out.keep (Keep.drew (Keep.refl _ _)) (HHW.out.map.kept rfl))))).mono ?_
      rintro e w6 ⟨he, hk6, hp6⟩
      rw [← HdX.out] at he
      subst he
      have KW : Keep (· ≠ M) W w6 := (Keep.drew (Keep.refl _ W)).trans hk6
      have H6 := hid (HHW.out.keep KW hp6)
      refine shutSG hK ⟨KW.cell (show _ ≠ M by omega) x0, KW.cell (show _ ≠ M by omega) x1, KW.cell (show _ ≠ M by omega) x2, KW.cell (show _ ≠ M by omega) x3, KW.cell (show _ ≠ M by omega) x4, KW.cell (show _ ≠ M by omega) p4, KW.cell (show _ ≠ M by omega) q0, KW.cell (show _ ≠ M by omega) q1, KW.cell (show _ ≠ M by omega) y0⟩ (fun hS => ?_)
      clear hK K
      (apply wpAnyG_pure (wide_round _) (i := 7) rfl (by kernel_rfl) (fun _ _ _ h => h); · first | exact .inr ⟨rfl, rfl⟩ | exact .inl ⟨rfl, fun w' => by go_simp; rfl⟩); simp only [Act.put, List.setIfInBounds_toArray, List.set_cons_succ, List.set_cons_zero, List.getElem_toArray, List.getElem_cons_succ, List.getElem_cons_zero]
      refine wpAnyG_one (i := 11) rfl ⟨by kernel_rfl, by kernel_rfl⟩ ?_
      intro K hK
      go_simp
      refine ⟨trivial, ?_⟩
      refine (CallsIn.inRound l2 (callsIn_wide.2 (left_any pb eb kb M id hs st fo sa fa sc fc hl hl2 i k w6 hi hk H6.out))).mono ?_
      rintro e w11 ⟨he, hk11, hp11⟩
      rw [← HdP.out] at he
      subst he
      have KW2 : Keep (· ≠ M) W w11 := KW.trans hk11
      have H11 := hid (H6.out.keep hk11 hp11)
      refine shutSG hK ⟨KW2.cell (show _ ≠ M by omega) x0, KW2.cell (show _ ≠ M by omega) x1, KW2.cell (show _ ≠ M by omega) x2, KW2.cell (show _ ≠ M by omega) x3, KW2.cell (show _ ≠ M by omega) x4, KW2.cell (show _ ≠ M by omega) p4, KW2.cell (show _ ≠ M by omega) q0, KW2.cell (show _ ≠ M by omega) q1, KW2.cell (show _ ≠ M by omega) y0⟩ (fun hS => ?_)
      clear hK K
      (apply wpAnyG_pure (wide_round _) (i := 12) rfl (by kernel_rfl) (fun _ _ _ h => h); · first | exact .inr ⟨rfl, rfl⟩ | exact .inl ⟨rfl, fun w' => by go_simp; rfl⟩); simp only [Act.put, List.setIfInBounds_toArray, List.set_cons_succ, List.set_cons_zero, List.getElem_toArray, List.getElem_cons_succ, List.getElem_cons_zero]
      (apply wpAnyG_pure (wide_round _) (i := 13) rfl (by kernel_rfl) (fun _ _ _ h => h); · first | exact .inr ⟨rfl, rfl⟩ | exact .inl ⟨rfl, fun w' => by go_simp; rfl⟩); simp only [Act.put, List.setIfInBounds_toArray, List.set_cons_succ, List.set_cons_zero, List.getElem_toArray, List.getElem_cons_succ, List.getElem_cons_zero]
      (apply wpAnyG_held (wide_round _) (i := 14) rfl (by kernel_rfl) (fun _ _ _ h => h) hS.out; · first | exact .inr ⟨rfl, rfl⟩ | exact .inl ⟨rfl, fun w' hS' => by (obtain ⟨s1, s2, s3, s4, s5, s6, s7, s8, s9⟩ := hS'; go_simp; rfl)⟩); simp only [Act.put, List.setIfInBounds_toArray, List.set_cons_succ, List.set_cons_zero, List.getElem_toArray, List.getElem_cons_succ, List.getElem_cons_zero]
      (apply wpAnyG_held (wide_round _) (i := 15) rfl (by kernel_rfl) (fun _ _ _ h => h) hS.out; · first | exact .inr ⟨rfl, rfl⟩ | exact .inl ⟨rfl, fun w' hS' => by (obtain ⟨s1, s2, s3, s4, s5, s6, s7, s8, s9⟩ := hS'; go_simp; rfl)⟩); simp only [Act.put, List.setIfInBounds_toArray, List.set_cons_succ, List.set_cons_zero, List.getElem_toArray, List.getElem_cons_succ, List.getElem_cons_zero]
      refine wpAnyG_one (i := 16) rfl ⟨by kernel_rfl, by kernel_rfl⟩ ?_
      intro K hK
      go_simp
      refine ⟨fun _ _ => trivial, ?_⟩
      refine shutNG hK (by kernel_rfl) ?_
      clear hK K
      (apply wpAnyG_pure (wide_round _) (i := 17) rfl (by kernel_rfl) (fun _ _ _ h => h); · first | exact .inr ⟨rfl, rfl⟩ | exact .inl ⟨rfl, fun w' => by go_simp; rfl⟩); simp only [Act.put, List.setIfInBounds_toArray, List.set_cons_succ, List.set_cons_zero, List.getElem_toArray, List.getElem_cons_succ, List.getElem_cons_zero]
      (apply wpAnyG_pure (wide_round _) (i := 18) rfl (by kernel_rfl) (fun _ _ _ h => h); · first | exact .inr ⟨rfl, rfl⟩ | exact .inl ⟨rfl, fun w' => by go_simp; rfl⟩); simp only [Act.put, List.setIfInBounds_toArray, List.set_cons_succ, List.set_cons_zero, List.getElem_toArray, List.getElem_cons_succ, List.getElem_cons_zero]
      refine wpAnyG_done (by kernel_rfl) ?_ _
      have hbest : isBest st fo i k x = false := by unfold isBest; rw [← HdX.out, ← HdP.out]; simpa using HIT.out
      have hpm : pre'.map (fun y : StAt st fo i k => y.1) = ((pre ++ [(⟨x, hx⟩ : StAt st fo i k)]).map (fun y : StAt st fo i k => y.1)).filter (isBest st fo i k) := by
        rw [ip, List.map_append, List.filter_append]; simp [hbest]
      have KF : KeepsFrom wL.heap.size W w11 := keepsFrom_of KW2 (B := wL.heap.size) (by omega)
      have hj11 := HJ.out.2 pre' W w11 ij ⟨KW2, fun _ => hp11⟩
      have z11 := KW2.size
      have KZ : Keep (fun b => b = w.heap.size + 1 + 1 ∨ b = w.heap.size + 1 ∨ (R b ∧ b < w.heap.size)) W w11 :=
          KW2.mono (fun b _ hz => show b ≠ M from by
            rcases hz with h | h | ⟨h, _⟩
            · omega
            · omega
            · exact fun e => hRM (e ▸ h))
      gi_wp2
      exact ⟨KF, KZ, pre', hpm, hj11, H11.out, KW2.box xM IX.out, KW2.box qM IQ.out, KW2.box (show w.heap.size ≠ M by omega) IY.out, KW2.box (show w.heap.size + 1 ≠ M by omega) IC.out, KW2.box (show w.heap.size + 1 + 1 ≠ M by omega) ID.out, by omega⟩
  case done =>
    rintro D ys W hD hall ⟨pre', ip, ij, iH, iX, iQ, iY, iC, iD, iz⟩ hKD
    have hab : AllBest st fo i k pre' := by unfold AllBest bestL; rw [ip, show ys.map (·.1) = _ from hall]
    have hj := HJ.out.1.putObj (.deferred none) ij (by omega) hKD rfl
    clear ip ij iH iX iQ iY iC iD
    gi_wp2
    refine ⟨by simp, .inl ⟨_, _, rfl, run_takeDeferred hKD, ?_⟩⟩
    exact ⟨_, results_none rfl _ _ _, ⟨_, rfl⟩, .inl ⟨pre', hab, hj⟩⟩
  case stop =>
    rintro D c pre W hD hpart ⟨rfl, pre', ip, ij⟩ hKD
    have hab : PartBest st fo i k pre' := by unfold PartBest bestL; rw [ip]; exact List.IsPrefix.filter _ hpart
    have hj := HJx.out.1.putObj (.deferred none) ij (by omega) hKD rfl
    clear ip ij
    gi_wp2
    refine ⟨by simp, .inl ⟨_, _, rfl, run_takeDeferred hKD, ?_⟩⟩
    exact ⟨_, results_none rfl _ _ _, ⟨_, rfl⟩, .inr ⟨pre', hab, hj⟩⟩

/-- What 'best' hands back yields the best steps, or a part. -/
theorem best1_stops (xb qb pb eb kb M : Nat) (id hs : Int) (st fo : List Int) (sa fa : Option Addr) (sc fc : Nat) (i k : Nat) (hi : i ≤ st.length) (hk : k ≤ fo.length) (hl : st.length ≤ 2000) (hl2 : fo.length ≤ 2000)
    (R : Nat → Prop) (hRM : ¬ R M) (hR3 : st ≠ [] → ∀ p, sa = some p → R p.block) (hR4 : fo ≠ [] → ∀ p, fa = some p → R p.block) (w : World)
    (hX : Box w xb (pairC id hs st fo sa fa sc fc (leftV eb kb pb)) 134) (hQ : Box w qb #[.int .i64 i, .int .i64 k] 137) (hH : Half w pb eb kb M id hs st fo sa fa sc fc) :
    SeqX Fence.wide 3 Tryd.prog 108 #[.pointer (some ⟨xb, 0, none⟩), .pointer (some ⟨qb, 0, none⟩)] (fun x : StAt st fo i k => #[x.1.val]) (KpB R M st fo) (MSt M st fo) (AllBest st fo i k) (PartBest st fo i k) 3 w :=
  fun l J Jx W hW hJ hJx hY h0 => best1_in l xb qb pb eb kb M id hs st fo sa fa sc fc i k hi hk hl hl2 R hRM hR3 hR4 W J Jx hJ hJx hY (hX.below hW hX.lt) (hQ.below hW hQ.lt)
    (hH.keep (Keep.of_below hW (fun _ h _ => h)) (hH.map.kept (hW.block _ hH.map.lt))) h0

end Go.Proofs.YthddoikmgpgakaaDoor
