/- Proofs for the seat's cards: Best, EdL, True, Spans, Pmap2, Comes, All. No condition of its own. -/
import Derived.Test.YthddoikmgpgakaaDoorProg
import Derived.Outline
import Derived.RangeFuncNested
import Derived.Shelf.Abstract
import Derived.Deep.QuietTactic
import Derived.BigQuiet
import Derived.Deep.RegionHeld3
import Derived.WalkSmall
import Derived.Laws.EntriesVeiled
import Derived.WalkMore
import Derived.Maps.Views
import Derived.LoopNIn
import Derived.LoopIn
import Derived.Test.YthddoikmgpgakaaDoorNa3
set_option linter.unusedVariables false
set_option linter.unusedSimpArgs false
set_option maxRecDepth 40000
set_option maxHeartbeats 32000000
namespace Go.Proofs.YthddoikmgpgakaaDoor
open Go.RowKit Go.Proofs Go.Shelf
attribute [local go_sem] Oper.semAt_some
def isBest (st fo : List Int) (i k : Nat) (x : St) : Bool := decide (x.wr + (dd st fo x.i x.k : Int) = (dd st fo i k : Int))
def bestL (st fo : List Int) (i k : Nat) : List St := (stepsL st fo i k).filter (isBest st fo i k)
def AllBest (st fo : List Int) (i k : Nat) (ys : List (StAt st fo i k)) : Prop := ys.map (·.1) = bestL st fo i k
def PartBest (st fo : List Int) (i k : Nat) (ys : List (StAt st fo i k)) : Prop := ys.map (·.1) <+: bestL st fo i k
theorem box_own {W W' : World} {row : Option Nat} {b : Nat} {cs : Array Value} {t : TypeId} (h : Box W b cs t) (hg : W.grownBy W' row) (hr : ∀ r, row = some r → ∃ o : Obj, W.heap[r]? = some o ∧ o.isCells = false) : Box W' b cs t :=
 h.grown hg (fun e => by
  obtain ⟨o, ho, hc⟩ := hr b e
  rw [show W.heap[b]? = _ from h] at ho
  cases ho
  cases hc)
theorem rd_own {W W' : World} {row : Option Nat} {a : Option Addr} {xs : List Int} (h : RdI W a xs) (hg : W.grownBy W' row) (hr : ∀ r, row = some r → ∃ o : Obj, W.heap[r]? = some o ∧ o.isCells = false) : RdI W' a xs := fun i hi => by
 obtain ⟨b, o, ha, hc⟩ := h i hi
 refine ⟨b, o, ha, (World.cell?_of_block (a := ⟨b, o + i, none⟩) (hg.block b (cell_lt hc) (fun e => ?_))).trans hc⟩
 obtain ⟨q, hq, hn⟩ := hr b e.symm
 unfold World.cell? at hc
 cases q <;> simp_all [Obj.isCells]
theorem Half.own {W W' : World} {row : Option Nat} {pb eb kb M : Nat} {id hs : Int} {st fo : List Int} {sa fa : Option Addr} {sc fc : Nat} (h : Half W pb eb kb M id hs st fo sa fa sc fc) (hg : W.grownBy W' row) (hr : ∀ r, row = some r → ∃ o : Obj, W.heap[r]? = some o ∧ o.isCells = false) (hM : row ≠ some M) :
  Half W' pb eb kb M id hs st fo sa fa sc fc :=
 ⟨box_own h.pair hg hr, box_own h.fin hg hr, box_own h.known hg hr, h.map.kept (hg.block M h.map.lt (fun e => hM e.symm)), rd_own h.s hg hr, rd_own h.f hg hr⟩
def MSt (M : Nat) (st fo : List Int) (W W' : World) : Prop := Keep (· ≠ M) W W' ∧ (PMap W M st.length fo.length (Known st fo) → PMap W' M st.length fo.length (Known st fo))
structure KpB (R : Nat → Prop) (M : Nat) (st fo : List Int) (W W' : World) : Prop where
 os : W'.os = W.os
 tape : W'.tape = W.tape
 output : W'.output = W.output
 size : W.heap.size ≤ W'.heap.size
 box : ∀ b cs t, Box W b cs t → (t = 134 ∨ t = 137 ∨ t = 170 ∨ t = 172) → Box W' b cs t
 row : ∀ k, k < W.heap.size → R k → W'.heap[k]? = W.heap[k]?
 map : PMap W M st.length fo.length (Known st fo) → PMap W' M st.length fo.length (Known st fo)
theorem KpB.refl (R : Nat → Prop) (M : Nat) (st fo : List Int) (W : World) : KpB R M st fo W W := ⟨rfl, rfl, rfl, Nat.le_refl _, fun _ _ _ h _ => h, fun _ _ _ => rfl, fun h => h⟩
theorem KpB.trans {R : Nat → Prop} {M : Nat} {st fo : List Int} {A B C : World} (h : KpB R M st fo A B) (k : KpB R M st fo B C) : KpB R M st fo A C :=
 ⟨k.os.trans h.os, k.tape.trans h.tape, k.output.trans h.output, Nat.le_trans h.size k.size, fun b cs t hb ht => k.box b cs t (h.box b cs t hb ht) ht, fun i hi hr => (k.row i (Nat.lt_of_lt_of_le hi h.size) hr).trans (h.row i hi hr), fun hm => k.map (h.map hm)⟩
theorem KpB.rd {R : Nat → Prop} {M : Nat} {st fo : List Int} {W W' : World} (h : KpB R M st fo W W') {a : Option Addr} {xs : List Int} (hr : RdI W a xs) (hR : xs ≠ [] → ∀ p, a = some p → R p.block) : RdI W' a xs := fun i hi => by
 obtain ⟨b, o, ha, hc⟩ := hr i hi
 exact ⟨b, o, ha, (World.cell?_of_block (a := ⟨b, o + i, none⟩) (h.row b (cell_lt hc) (hR (List.ne_nil_of_length_pos (Nat.lt_of_le_of_lt (Nat.zero_le _) hi)) _ ha))).trans hc⟩
theorem KpB.half {R : Nat → Prop} {M : Nat} {st fo : List Int} {W W' : World} (h : KpB R M st fo W W') {pb eb kb : Nat} {id hs : Int} {sa fa : Option Addr} {sc fc : Nat} (hH : Half W pb eb kb M id hs st fo sa fa sc fc)
  (hR3 : st ≠ [] → ∀ p, sa = some p → R p.block) (hR4 : fo ≠ [] → ∀ p, fa = some p → R p.block) : Half W' pb eb kb M id hs st fo sa fa sc fc :=
 ⟨h.box _ _ _ hH.pair (.inl rfl), h.box _ _ _ hH.fin (.inr (.inl rfl)), h.box _ _ _ hH.known (.inr (.inr (.inl rfl))), h.map hH.map, h.rd hH.s hR3, h.rd hH.f hR4⟩
theorem roundIn_wide {n m : Nat} {P : Program} {l l' : Nat} {f : FuncId} {tmps : Array Value} {assign body : Code} {w : World} {R : Ending → World → Prop} (h : RoundIn Fence.wide n P l f tmps assign body w R) : RoundIn (Fence.wide.inRound l') m P l f tmps assign body w R :=
 ⟨h.1, fun c cs _ => h.2 c cs (by simp [Fence.room, Fence.wide])⟩
theorem best_any (cs : Array Value) (i k : Nat) (w : World) (hcs : cs.size = 5) :
  Calls Tryd.prog 87 #[.agg cs, plc i k] w fun e w' => e = .returned (.func (.func 108) #[] #[.pointer (some ⟨w.heap.size, 0, none⟩), .pointer (some ⟨w.heap.size + 1, 0, none⟩)]) ∧ w' = (w.alloc (.cells cs 134)).alloc (.cells #[.int .i64 i, .int .i64 k] 137) := by
 go_enter Tryd.func87, Tryd.ntmps87
 unfold plc
 go_wp2_with fail
 go_ret
 exact ⟨by simp, by simp [Value.cells]⟩
theorem best1_in (l xb qb pb eb kb M : Nat) (id hs : Int) (st fo : List Int) (sa fa : Option Addr) (sc fc : Nat) (i k : Nat) (hi : i ≤ st.length) (hk : k ≤ fo.length) (hl : st.length ≤ 2000) (hl2 : fo.length ≤ 2000)
  (R : Nat → Prop) (hRM : ¬ R M) (hR3 : st ≠ [] → ∀ p, sa = some p → R p.block) (hR4 : fo ≠ [] → ∀ p, fa = some p → R p.block) (w : World) (J Jx : List (StAt st fo i k) → World → Prop) (hJ : Bears w.heap.size (MSt M st fo) J) (hJx : Bears w.heap.size (MSt M st fo) Jx)
  (hY : ∀ pre (x : StAt st fo i k) W1, J pre W1 → pre.length < 3 → YieldAt Fence.wide 2 Tryd.prog l #[x.1.val] W1 fun e W' =>
   KeepsFrom w.heap.size W1 W' ∧ ((e = .returned (.bool true) ∧ J (pre ++ [x]) W' ∧ KpB R M st fo W1 W') ∨ (e = .returned (.bool false) ∧ Jx (pre ++ [x]) W')))
  (hX : Box w xb (pairC id hs st fo sa fa sc fc (leftV eb kb pb)) 134) (hQ : Box w qb #[.int .i64 i, .int .i64 k] 137) (hH : Half w pb eb kb M id hs st fo sa fa sc fc) (h0 : J [] w) :
  CallsIn Fence.wide 3 Tryd.prog 108 #[.func (.yield l) #[] #[], .pointer (some ⟨xb, 0, none⟩), .pointer (some ⟨qb, 0, none⟩)] w fun e W' => (∃ v, e = .returned v) ∧
   ((∃ ys, AllBest st fo i k ys ∧ J ys W') ∨ (∃ pre, PartBest st fo i k pre ∧ Jx pre W')) := by
 have hm := mixedS
 have HY := hid hY; clear hY
 have HJ := hid hJ; have HJx := hid hJx; clear hJ hJx
 have HH := hid hH; have J0 := hid h0; clear h0
 have l1 := hX.lt; have l2 := hQ.lt; have l4 := hH.map.lt
 have xM : xb ≠ M := hH.map.ne_box hX
 have qM : qb ≠ M := hH.map.ne_box hQ
 have c0 : w.cell? ⟨xb, 0, none⟩ = some (.int .i64 id) := hX.cell 0
 have c1 : w.cell? ⟨xb, 1, none⟩ = some (.int .i64 hs) := hX.cell 1
 have c2 : w.cell? ⟨xb, 2, none⟩ = some (.slice sa st.length sc) := hX.cell 2
 have c3 : w.cell? ⟨xb, 3, none⟩ = some (.slice fa fo.length fc) := hX.cell 3
 have c4 : w.cell? ⟨xb, 4, none⟩ = some (.func (.func 106) #[] #[.pointer (some ⟨eb, 0, none⟩), .pointer (some ⟨kb, 0, none⟩), .pointer (some ⟨pb, 0, none⟩)]) := hX.cell 4
 have q0 : w.cell? ⟨qb, 0, none⟩ = some (.int .i64 i) := hQ.cell 0
 have q1 : w.cell? ⟨qb, 1, none⟩ = some (.int .i64 k) := hQ.cell 1
 refine callsIn_of_wp_marks Tryd.func108 rfl trivial ?_ rfl
 simp only [Tryd.ntmps108, List.size_toArray, List.length_cons, List.length_nil, Nat.reduceAdd, Nat.reduceSub, Array.replicate_succ, Array.replicate_zero, List.push_toArray, List.append_toArray, List.nil_append, List.cons_append]
 clear hH
 gi_wp2_with (refine ⟨trivial, ?_⟩; gi_at_call 107; refine (callsIn_wide.2 (steps_any _ i k _ rfl)).mono ?_; rintro e w' ⟨rfl, rfl⟩)
 obtain ⟨W0, hW0⟩ : ∃ W0, W0 = w := ⟨_, rfl⟩
 refine wpIn_world (fun wL => Box wL w.heap.size #[.func (.yield l) #[] #[]] 172 ∧ Box wL (w.heap.size + 1) (pairC id hs st fo sa fa sc fc (leftV eb kb pb)) 134 ∧ Box wL (w.heap.size + 1 + 1) #[.int .i64 i, .int .i64 k] 137 ∧ w.heap.size + 3 ≤ wL.heap.size ∧ Below w.heap.size w wL) ⟨?_, ?_, ?_, by simp, ?_⟩ ?_
 ·exact ((Box.at _ _ yL).alloc _).alloc _
 ·exact (Box.at _ _ yL).alloc _
 ·exact Box.at _ _ yL
 ·exact goBl
 rintro wL ⟨bY, bC, bD, zL, hbL⟩
 clear c0 c1 c2 c3 c4 q0 q1 hW0 W0
 have JL := hid (HJ.out.1 [] w wL none J0.out (grown_of_below hbL) (by simp))
 have hHL := HH.out.keep (w' := wL) (Keep.of_below hbL (fun _ h _ => h)) (HH.out.map.kept (hbL.block _ l4))
 have bX := hX.below hbL l1; have bQ := hQ.below hbL l2
 refine wpIn_rangeFunc_ownH rfl (by omega) (gf := 125) (lb := #[.pointer (some ⟨w.heap.size + 1 + 1, 0, none⟩), .pointer (some ⟨w.heap.size + 1, 0, none⟩)]) rfl trivial (enters_of Tryd.func125 (by kernel_rfl) rfl)
  (steps1_stops 2 (w.heap.size + 1 + 1) (w.heap.size + 1) id hs st fo sa fa sc fc (leftV eb kb pb) i k hi hk (by omega) (by omega) (fun b => b = w.heap.size + 1 + 1 ∨ b = w.heap.size + 1 ∨ (R b ∧ b < w.heap.size))
   (.inl rfl) (.inr (.inl rfl)) (fun hx p hp => .inr (.inr ⟨hR3 hx p hp, row_lt HH.out.s hx hp⟩)) (fun hx p hp => .inr (.inr ⟨hR4 hx p hp, row_lt HH.out.f hx hp⟩)) wL ⟨bD, bC, hHL.s, hHL.f⟩)
  (fun h k => h.trans k) ?kb (Below.refl _ _) (fun _ => rfl)
  (fun pre W => ∃ pre' : List (StAt st fo i k), pre'.map (·.1) = (pre.map (·.1)).filter (isBest st fo i k) ∧ J pre' W ∧ Half W pb eb kb M id hs st fo sa fa sc fc ∧ Box W xb (pairC id hs st fo sa fa sc fc (leftV eb kb pb)) 134 ∧ Box W qb #[.int .i64 i, .int .i64 k] 137 ∧
   Box W w.heap.size #[.func (.yield l) #[] #[]] 172 ∧ Box W (w.heap.size + 1) (pairC id hs st fo sa fa sc fc (leftV eb kb pb)) 134 ∧ Box W (w.heap.size + 1 + 1) #[.int .i64 i, .int .i64 k] 137 ∧ wL.heap.size ≤ W.heap.size)
  (fun c pre W => c = .ret ∧ ∃ pre' : List (StAt st fo i k), pre'.map (·.1) = (pre.map (·.1)).filter (isBest st fo i k) ∧ Jx pre' W) ?hI ?hIx ⟨[], rfl, JL.out, hHL, bX, bQ, bY, bC, bD, Nat.le_refl _⟩
  (fun x a' W => ∃ Bx, wL.heap.size ≤ Bx ∧ Box W Bx #[.int .i64 x.1.i, .int .i64 x.1.k, .int .i64 x.1.s, .int .i64 x.1.f, .int .i64 x.1.wr] 142 ∧ ∃ f : Nat → Value, a' = ⟨((List.range 28).map f).toArray, []⟩ ∧ f 1 = .pointer (some ⟨xb, 0, none⟩) ∧ f 2 = .pointer (some ⟨qb, 0, none⟩) ∧ f 3 = .pointer (some ⟨w.heap.size, 0, none⟩) ∧ f 4 = .pointer (some ⟨Bx, 0, none⟩)) ?hAx ?assign ?body ?done ?stop
 case kb => exact fun W l' o o' hl' ho hc _ => (Keep.refl _ _).putObj l' o' (fun _ hz => by rcases hz with h | h | ⟨_, h⟩ <;> omega)
 case hI =>
  rintro pre W W' row ⟨pre', ip, ij, iH, iX, iQ, iY, iC, iD, iz⟩ hg hr
  have hrc : ∀ r, row = some r → ∃ o : Obj, W.heap[r]? = some o ∧ o.isCells = false := fun r e => (hr r e).2
  exact ⟨pre', ip, HJ.out.1 pre' W W' row ij hg (fun r e => ⟨by have := (hr r e).1; omega, (hr r e).2⟩), iH.own hg hrc (fun e => by have := (hr _ e).1; omega), box_own iX hg hrc, box_own iQ hg hrc, box_own iY hg hrc, box_own iC hg hrc, box_own iD hg hrc, Nat.le_trans iz hg.size⟩
 case hIx =>
  rintro c pre W W' row ⟨hc, pre', ip, ij⟩ hg hr
  exact ⟨hc, pre', ip, HJx.out.1 pre' W W' row ij hg (fun r e => ⟨by have := (hr r e).1; omega, (hr r e).2⟩)⟩
 case hAx =>
  rintro x a' _ W W' row ⟨Bx, hB, hb, hf⟩ hg hr
  exact ⟨Bx, hB, box_own hb hg (fun r e => (hr r e).2), hf⟩
 case assign =>
  rintro l2 pre ⟨x, hx⟩ W K ⟨pre', ip, ij, iH, iX, iQ, iY, iC, iD, iz⟩ hK
  simp only [St.val]
  gi_wp2
  refine hK _ _ ((KeepsOthers.alloc _ _).from _) ((Keep.refl _ _).alloc _) ⟨pre', ip, HJ.out.1.alloc _ ij, iH.keep ((Keep.refl _ _).alloc _) (iH.map.kept (Below.heap_alloc _ _ _ iH.map.lt)), iX.alloc _, iQ.alloc _, iY.alloc _, iC.alloc _, iD.alloc _, by simp; omega⟩ ⟨W.heap.size, iz, Box.new _ _ _, ?_⟩
  refine acts_of rfl ?_
  exact ⟨rfl, rfl, rfl, rfl⟩
 case body =>
  rintro l2 pre ⟨x, hx⟩ a' W hl' ⟨r, hr⟩ ⟨pre', ip, ij, iH, iX, iQ, iY, iC, iD, iz⟩ ⟨Bx, hBx, bX', f, rfl, f1, f2, f3, f4⟩ hlt
  obtain ⟨b1, b2, b3, b4, b5⟩ := step_bound hx hi hk
  have d1 := dd_le st fo x.i x.k hl hl2
  have d2 := dd_le st fo i k hl hl2
  rw [show (List.range 28).map f = [f 0, f 1, f 2, f 3, f 4, f 5, f 6, f 7, f 8, f 9, f 10, f 11, f 12, f 13, f 14, f 15, f 16, f 17, f 18, f 19, f 20, f 21, f 22, f 23, f 24, f 25, f 26, f 27] from rfl, f1, f2, f3, f4]
  clear f1 f2 f3 f4
  have hp3 : pre'.length < 3 := by
   have h1 := congrArg List.length ip
   have h2 := List.length_filter_le (isBest st fo i k) (pre.map (·.1))
   simp only [List.length_map] at h1 h2
   omega
  have HHW := hid iH
  have x0 : W.cell? ⟨Bx, 0, none⟩ = some (.int .i64 x.i) := bX'.cell 0
  have x1 : W.cell? ⟨Bx, 1, none⟩ = some (.int .i64 x.k) := bX'.cell 1
  have x2 : W.cell? ⟨Bx, 2, none⟩ = some (.int .i64 x.s) := bX'.cell 2
  have x3 : W.cell? ⟨Bx, 3, none⟩ = some (.int .i64 x.f) := bX'.cell 3
  have x4 : W.cell? ⟨Bx, 4, none⟩ = some (.int .i64 x.wr) := bX'.cell 4
  have p4 : W.cell? ⟨xb, 4, none⟩ = some (.func (.func 106) #[] #[.pointer (some ⟨eb, 0, none⟩), .pointer (some ⟨kb, 0, none⟩), .pointer (some ⟨pb, 0, none⟩)]) := iX.cell 4
  have q0 : W.cell? ⟨qb, 0, none⟩ = some (.int .i64 i) := iQ.cell 0
  have q1 : W.cell? ⟨qb, 1, none⟩ = some (.int .i64 k) := iQ.cell 1
  have y0 : W.cell? ⟨w.heap.size, 0, none⟩ = some (.func (.yield l) #[] #[]) := iY.cell 0
  have IX := hid iX; have IQ := hid iQ; have IY := hid iY; have IC := hid iC; have ID := hid iD
  clear iX iQ iY iC iD iH bX'
  have hw := wrap_small (n := x.wr + (dd st fo x.i x.k : Int)) (by omega) (by omega)
  obtain ⟨dX, hdX⟩ : ∃ d : Int, d = (dd st fo x.i x.k : Int) := ⟨_, rfl⟩
  obtain ⟨dP, hdP⟩ : ∃ d : Int, d = (dd st fo i k : Int) := ⟨_, rfl⟩
  rw [← hdX] at hw
  have HdX := hid hdX; have HdP := hid hdP; clear hdX hdP
  by_cases hit : x.wr + dX = dP
  ·rw [hit] at hw
   have hbq : (dP == dP) = true := by simp
   have HIT := hid hit
   gi_wp2
   refine wpIn_region_G [1, 3, 5, 9, 10, 14, 15] (fun w' => w'.cell? ⟨Bx, 0, none⟩ = some (.int .i64 x.i) ∧ w'.cell? ⟨Bx, 1, none⟩ = some (.int .i64 x.k) ∧ w'.cell? ⟨Bx, 2, none⟩ = some (.int .i64 x.s) ∧ w'.cell? ⟨Bx, 3, none⟩ = some (.int .i64 x.f) ∧ w'.cell? ⟨Bx, 4, none⟩ = some (.int .i64 x.wr) ∧ w'.cell? ⟨xb, 4, none⟩ = some (.func (.func 106) #[] #[.pointer (some ⟨eb, 0, none⟩), .pointer (some ⟨kb, 0, none⟩), .pointer (some ⟨pb, 0, none⟩)]) ∧ w'.cell? ⟨qb, 0, none⟩ = some (.int .i64 i) ∧ w'.cell? ⟨qb, 1, none⟩ = some (.int .i64 k) ∧ w'.cell? ⟨w.heap.size, 0, none⟩ = some (.func (.yield l) #[] #[])) hm ⟨by go_simp, by go_simp, by go_simp, by go_simp, by go_simp, by go_simp, by go_simp, by go_simp, by go_simp⟩ ?_
   intro hS0; have hS := hid hS0; clear hS0
   (apply wpAnyG_pure (wide_round _) (i := 0) rfl (by kernel_rfl) (fun _ _ _ h => h); · first | exact .inr ⟨rfl, rfl⟩ | exact .inl ⟨rfl, fun w' => by go_simp; rfl⟩); simp only [Act.put, List.setIfInBounds_toArray, List.set_cons_succ, List.set_cons_zero, List.getElem_toArray, List.getElem_cons_succ, List.getElem_cons_zero]
   (apply wpAnyG_held (wide_round _) (i := 1) rfl (by kernel_rfl) (fun _ _ _ h => h) hS.out; · first | exact .inr ⟨rfl, rfl⟩ | exact .inl ⟨rfl, fun w' hS' => by (obtain ⟨s1, s2, s3, s4, s5, s6, s7, s8, s9⟩ := hS'; go_simp; rfl)⟩); simp only [Act.put, List.setIfInBounds_toArray, List.set_cons_succ, List.set_cons_zero, List.getElem_toArray, List.getElem_cons_succ, List.getElem_cons_zero]
   (apply wpAnyG_pure (wide_round _) (i := 2) rfl (by kernel_rfl) (fun _ _ _ h => h); · first | exact .inr ⟨rfl, rfl⟩ | exact .inl ⟨rfl, fun w' => by go_simp; rfl⟩); simp only [Act.put, List.setIfInBounds_toArray, List.set_cons_succ, List.set_cons_zero, List.getElem_toArray, List.getElem_cons_succ, List.getElem_cons_zero]
   (apply wpAnyG_held (wide_round _) (i := 3) rfl (by kernel_rfl) (fun _ _ _ h => h) hS.out; · first | exact .inr ⟨rfl, rfl⟩ | exact .inl ⟨rfl, fun w' hS' => by (obtain ⟨s1, s2, s3, s4, s5, s6, s7, s8, s9⟩ := hS'; go_simp; rfl)⟩); simp only [Act.put, List.setIfInBounds_toArray, List.set_cons_succ, List.set_cons_zero, List.getElem_toArray, List.getElem_cons_succ, List.getElem_cons_zero]
   (apply wpAnyG_pure (wide_round _) (i := 4) rfl (by kernel_rfl) (fun _ _ _ h => h); · first | exact .inr ⟨rfl, rfl⟩ | exact .inl ⟨rfl, fun w' => by go_simp; rfl⟩); simp only [Act.put, List.setIfInBounds_toArray, List.set_cons_succ, List.set_cons_zero, List.getElem_toArray, List.getElem_cons_succ, List.getElem_cons_zero]
   (apply wpAnyG_held (wide_round _) (i := 5) rfl (by kernel_rfl) (fun _ _ _ h => h) hS.out; · first | exact .inr ⟨rfl, rfl⟩ | exact .inl ⟨rfl, fun w' hS' => by (obtain ⟨s1, s2, s3, s4, s5, s6, s7, s8, s9⟩ := hS'; go_simp; rfl)⟩); simp only [Act.put, List.setIfInBounds_toArray, List.set_cons_succ, List.set_cons_zero, List.getElem_toArray, List.getElem_cons_succ, List.getElem_cons_zero]
   (apply wpAnyG_pure (wide_round _) (i := 8) rfl (by kernel_rfl) (fun _ _ _ h => h); · first | exact .inr ⟨rfl, rfl⟩ | exact .inl ⟨rfl, fun w' => by go_simp; rfl⟩); simp only [Act.put, List.setIfInBounds_toArray, List.set_cons_succ, List.set_cons_zero, List.getElem_toArray, List.getElem_cons_succ, List.getElem_cons_zero]
   (apply wpAnyG_held (wide_round _) (i := 9) rfl (by kernel_rfl) (fun _ _ _ h => h) hS.out; · first | exact .inr ⟨rfl, rfl⟩ | exact .inl ⟨rfl, fun w' hS' => by (obtain ⟨s1, s2, s3, s4, s5, s6, s7, s8, s9⟩ := hS'; go_simp; rfl)⟩); simp only [Act.put, List.setIfInBounds_toArray, List.set_cons_succ, List.set_cons_zero, List.getElem_toArray, List.getElem_cons_succ, List.getElem_cons_zero]
   (apply wpAnyG_held (wide_round _) (i := 10) rfl (by kernel_rfl) (fun _ _ _ h => h) hS.out; · first | exact .inr ⟨rfl, rfl⟩ | exact .inl ⟨rfl, fun w' hS' => by (obtain ⟨s1, s2, s3, s4, s5, s6, s7, s8, s9⟩ := hS'; go_simp; rfl)⟩); simp only [Act.put, List.setIfInBounds_toArray, List.set_cons_succ, List.set_cons_zero, List.getElem_toArray, List.getElem_cons_succ, List.getElem_cons_zero]
   refine wpAnyG_one (i := 6) rfl ⟨by kernel_rfl, by kernel_rfl⟩ ?_
   intro K hK
   go_simp
   refine ⟨trivial, ?_⟩
   refine (CallsIn.inRound l2 (callsIn_wide.2 (left_any pb eb kb M id hs st fo sa fa sc fc hl hl2 x.i x.k _ b1 b2 (HHW.out.keep (Keep.drew (Keep.refl _ _)) (HHW.out.map.kept rfl))))).mono ?_
   rintro e w6 ⟨he, hk6, hp6⟩
   rw [← HdX.out] at he
   subst he
   have KW : Keep (· ≠ M) W w6 := (Keep.drew (Keep.refl _ W)).trans hk6
   have H6 := hid (HHW.out.keep KW hp6)
   refine shutSG hK ⟨KW.cell (show _ ≠ M by omega) x0, KW.cell (show _ ≠ M by omega) x1, KW.cell (show _ ≠ M by omega) x2, KW.cell (show _ ≠ M by omega) x3, KW.cell (show _ ≠ M by omega) x4, KW.cell (show _ ≠ M by omega) p4, KW.cell (show _ ≠ M by omega) q0, KW.cell (show _ ≠ M by omega) q1, KW.cell (show _ ≠ M by omega) y0⟩ (fun hS => ?_)
   clear hK K
   (apply wpAnyG_pure (wide_round _) (i := 7) rfl (by kernel_rfl) (fun _ _ _ h => h); · first | exact .inr ⟨rfl, rfl⟩ | exact .inl ⟨rfl, fun w' => by go_simp; rfl⟩); simp only [Act.put, List.setIfInBounds_toArray, List.set_cons_succ, List.set_cons_zero, List.getElem_toArray, List.getElem_cons_succ, List.getElem_cons_zero]
   refine wpAnyG_one (i := 11) rfl ⟨by kernel_rfl, by kernel_rfl⟩ ?_
   intro K hK
   go_simp
   refine ⟨trivial, ?_⟩
   refine (CallsIn.inRound l2 (callsIn_wide.2 (left_any pb eb kb M id hs st fo sa fa sc fc hl hl2 i k w6 hi hk H6.out))).mono ?_
   rintro e w11 ⟨he, hk11, hp11⟩
   rw [← HdP.out] at he
   subst he
   have KW2 : Keep (· ≠ M) W w11 := KW.trans hk11
   have H11 := hid (H6.out.keep hk11 hp11)
   refine shutSG hK ⟨KW2.cell (show _ ≠ M by omega) x0, KW2.cell (show _ ≠ M by omega) x1, KW2.cell (show _ ≠ M by omega) x2, KW2.cell (show _ ≠ M by omega) x3, KW2.cell (show _ ≠ M by omega) x4, KW2.cell (show _ ≠ M by omega) p4, KW2.cell (show _ ≠ M by omega) q0, KW2.cell (show _ ≠ M by omega) q1, KW2.cell (show _ ≠ M by omega) y0⟩ (fun hS => ?_)
   clear hK K
   (apply wpAnyG_pure (wide_round _) (i := 12) rfl (by kernel_rfl) (fun _ _ _ h => h); · first | exact .inr ⟨rfl, rfl⟩ | exact .inl ⟨rfl, fun w' => by go_simp; rfl⟩); simp only [Act.put, List.setIfInBounds_toArray, List.set_cons_succ, List.set_cons_zero, List.getElem_toArray, List.getElem_cons_succ, List.getElem_cons_zero]
   (apply wpAnyG_pure (wide_round _) (i := 13) rfl (by kernel_rfl) (fun _ _ _ h => h); · first | exact .inr ⟨rfl, rfl⟩ | exact .inl ⟨rfl, fun w' => by go_simp; rfl⟩); simp only [Act.put, List.setIfInBounds_toArray, List.set_cons_succ, List.set_cons_zero, List.getElem_toArray, List.getElem_cons_succ, List.getElem_cons_zero]
   (apply wpAnyG_held (wide_round _) (i := 14) rfl (by kernel_rfl) (fun _ _ _ h => h) hS.out; · first | exact .inr ⟨rfl, rfl⟩ | exact .inl ⟨rfl, fun w' hS' => by (obtain ⟨s1, s2, s3, s4, s5, s6, s7, s8, s9⟩ := hS'; go_simp; rfl)⟩); simp only [Act.put, List.setIfInBounds_toArray, List.set_cons_succ, List.set_cons_zero, List.getElem_toArray, List.getElem_cons_succ, List.getElem_cons_zero]
   (apply wpAnyG_held (wide_round _) (i := 15) rfl (by kernel_rfl) (fun _ _ _ h => h) hS.out; · first | exact .inr ⟨rfl, rfl⟩ | exact .inl ⟨rfl, fun w' hS' => by (obtain ⟨s1, s2, s3, s4, s5, s6, s7, s8, s9⟩ := hS'; go_simp; rfl)⟩); simp only [Act.put, List.setIfInBounds_toArray, List.set_cons_succ, List.set_cons_zero, List.getElem_toArray, List.getElem_cons_succ, List.getElem_cons_zero]
   refine wpAnyG_one (i := 16) rfl ⟨by kernel_rfl, by kernel_rfl⟩ ?_
   intro K hK
   have hj11 := HJ.out.2 pre' W w11 ij ⟨KW2, fun _ => hp11⟩
   obtain ⟨fn, tmps, assign, body, hy, hR⟩ := HY.out pre' ⟨x, hx⟩ w11 hj11 (by omega)
   simp [St.val] at hy
   go_simp
   refine (roundIn_wide hR).mono ?_
   rintro e w16 ⟨kf, hd⟩
   obtain ⟨b, rfl, ht, hf⟩ := yield_bool hd
   clear hd
   refine shutNG hK (by kernel_rfl) ?_
   clear hK K
   (apply wpAnyG_pure (wide_round _) (i := 17) rfl (by kernel_rfl) (fun _ _ _ h => h); · first | exact .inr ⟨rfl, rfl⟩ | exact .inl ⟨rfl, fun w' => by go_simp; rfl⟩); simp only [Act.put, List.setIfInBounds_toArray, List.set_cons_succ, List.set_cons_zero, List.getElem_toArray, List.getElem_cons_succ, List.getElem_cons_zero]
   (apply wpAnyG_pure (wide_round _) (i := 18) rfl (by kernel_rfl) (fun _ _ _ h => h); · first | exact .inr ⟨rfl, rfl⟩ | exact .inl ⟨rfl, fun w' => by go_simp; rfl⟩); simp only [Act.put, List.setIfInBounds_toArray, List.set_cons_succ, List.set_cons_zero, List.getElem_toArray, List.getElem_cons_succ, List.getElem_cons_zero]
   refine wpAnyG_done (by kernel_rfl) ?_ _
   have hbest : isBest st fo i k x = true := by unfold isBest; rw [← HdX.out, ← HdP.out]; simpa using HIT.out
   have hpm : (pre' ++ [(⟨x, hx⟩ : StAt st fo i k)]).map (fun y : StAt st fo i k => y.1) = ((pre ++ [(⟨x, hx⟩ : StAt st fo i k)]).map (fun y : StAt st fo i k => y.1)).filter (isBest st fo i k) := by
    rw [List.map_append, ip, List.map_append, List.filter_append]; simp [hbest]
   have KF : KeepsFrom wL.heap.size W w16 := (keepsFrom_of KW2 (B := wL.heap.size) (by omega)).trans (kf_up kf (by omega))
   have X11 := KW2.box xM IX.out; have Q11 := KW2.box qM IQ.out
   have Y11 := KW2.box (show w.heap.size ≠ M by omega) IY.out; have C11 := KW2.box (show w.heap.size + 1 ≠ M by omega) IC.out; have D11 := KW2.box (show w.heap.size + 1 + 1 ≠ M by omega) ID.out
   have z11 := KW2.size
   cases b with
   | true =>
    obtain ⟨hj, kp⟩ := ht rfl
    have KZ : Keep (fun b => b = w.heap.size + 1 + 1 ∨ b = w.heap.size + 1 ∨ (R b ∧ b < w.heap.size)) W w16 :=
     (KW2.mono (fun b _ hz => show b ≠ M from by
      rcases hz with h | h | ⟨h, _⟩
      ·omega
      ·omega
      ·exact fun e => hRM (e ▸ h))).trans ⟨kp.os, kp.tape, kp.output, kp.size, fun b hb hz => by
       rcases hz with h | h | ⟨h, _⟩
       ·subst h; exact (kp.box _ _ _ D11 (.inr (.inl rfl))).trans D11.symm
       ·subst h; exact (kp.box _ _ _ C11 (.inl rfl)).trans C11.symm
       ·exact kp.row b hb h⟩
    have kz := kp.size
    gi_wp2
    exact ⟨KF, KZ, pre' ++ [(⟨x, hx⟩ : StAt st fo i k)], hpm, hj, kp.half H11.out hR3 hR4, kp.box _ _ _ X11 (.inl rfl), kp.box _ _ _ Q11 (.inr (.inl rfl)), kp.box _ _ _ Y11 (.inr (.inr (.inr rfl))), kp.box _ _ _ C11 (.inl rfl), kp.box _ _ _ D11 (.inr (.inl rfl)), by omega⟩
   | false =>
    have hjx := hf rfl
    gi_wp2
    exact ⟨KF, rfl, pre' ++ [(⟨x, hx⟩ : StAt st fo i k)], hpm, hjx⟩
  ·have hbq : (x.wr + dX == dP) = false := by simp [hit]
   have HIT := hid hit
   clear hit
   gi_wp2
   refine wpIn_region_G [1, 3, 5, 9, 10, 14, 15] (fun w' => w'.cell? ⟨Bx, 0, none⟩ = some (.int .i64 x.i) ∧ w'.cell? ⟨Bx, 1, none⟩ = some (.int .i64 x.k) ∧ w'.cell? ⟨Bx, 2, none⟩ = some (.int .i64 x.s) ∧ w'.cell? ⟨Bx, 3, none⟩ = some (.int .i64 x.f) ∧ w'.cell? ⟨Bx, 4, none⟩ = some (.int .i64 x.wr) ∧ w'.cell? ⟨xb, 4, none⟩ = some (.func (.func 106) #[] #[.pointer (some ⟨eb, 0, none⟩), .pointer (some ⟨kb, 0, none⟩), .pointer (some ⟨pb, 0, none⟩)]) ∧ w'.cell? ⟨qb, 0, none⟩ = some (.int .i64 i) ∧ w'.cell? ⟨qb, 1, none⟩ = some (.int .i64 k) ∧ w'.cell? ⟨w.heap.size, 0, none⟩ = some (.func (.yield l) #[] #[])) hm ⟨by go_simp, by go_simp, by go_simp, by go_simp, by go_simp, by go_simp, by go_simp, by go_simp, by go_simp⟩ ?_
   intro hS0; have hS := hid hS0; clear hS0
   (apply wpAnyG_pure (wide_round _) (i := 0) rfl (by kernel_rfl) (fun _ _ _ h => h); · first | exact .inr ⟨rfl, rfl⟩ | exact .inl ⟨rfl, fun w' => by go_simp; rfl⟩); simp only [Act.put, List.setIfInBounds_toArray, List.set_cons_succ, List.set_cons_zero, List.getElem_toArray, List.getElem_cons_succ, List.getElem_cons_zero]
   (apply wpAnyG_held (wide_round _) (i := 1) rfl (by kernel_rfl) (fun _ _ _ h => h) hS.out; · first | exact .inr ⟨rfl, rfl⟩ | exact .inl ⟨rfl, fun w' hS' => by (obtain ⟨s1, s2, s3, s4, s5, s6, s7, s8, s9⟩ := hS'; go_simp; rfl)⟩); simp only [Act.put, List.setIfInBounds_toArray, List.set_cons_succ, List.set_cons_zero, List.getElem_toArray, List.getElem_cons_succ, List.getElem_cons_zero]
   (apply wpAnyG_pure (wide_round _) (i := 2) rfl (by kernel_rfl) (fun _ _ _ h => h); · first | exact .inr ⟨rfl, rfl⟩ | exact .inl ⟨rfl, fun w' => by go_simp; rfl⟩); simp only [Act.put, List.setIfInBounds_toArray, List.set_cons_succ, List.set_cons_zero, List.getElem_toArray, List.getElem_cons_succ, List.getElem_cons_zero]
   (apply wpAnyG_held (wide_round _) (i := 3) rfl (by kernel_rfl) (fun _ _ _ h => h) hS.out; · first | exact .inr ⟨rfl, rfl⟩ | exact .inl ⟨rfl, fun w' hS' => by (obtain ⟨s1, s2, s3, s4, s5, s6, s7, s8, s9⟩ := hS'; go_simp; rfl)⟩); simp only [Act.put, List.setIfInBounds_toArray, List.set_cons_succ, List.set_cons_zero, List.getElem_toArray, List.getElem_cons_succ, List.getElem_cons_zero]
   (apply wpAnyG_pure (wide_round _) (i := 4) rfl (by kernel_rfl) (fun _ _ _ h => h); · first | exact .inr ⟨rfl, rfl⟩ | exact .inl ⟨rfl, fun w' => by go_simp; rfl⟩); simp only [Act.put, List.setIfInBounds_toArray, List.set_cons_succ, List.set_cons_zero, List.getElem_toArray, List.getElem_cons_succ, List.getElem_cons_zero]
   (apply wpAnyG_held (wide_round _) (i := 5) rfl (by kernel_rfl) (fun _ _ _ h => h) hS.out; · first | exact .inr ⟨rfl, rfl⟩ | exact .inl ⟨rfl, fun w' hS' => by (obtain ⟨s1, s2, s3, s4, s5, s6, s7, s8, s9⟩ := hS'; go_simp; rfl)⟩); simp only [Act.put, List.setIfInBounds_toArray, List.set_cons_succ, List.set_cons_zero, List.getElem_toArray, List.getElem_cons_succ, List.getElem_cons_zero]
   (apply wpAnyG_pure (wide_round _) (i := 8) rfl (by kernel_rfl) (fun _ _ _ h => h); · first | exact .inr ⟨rfl, rfl⟩ | exact .inl ⟨rfl, fun w' => by go_simp; rfl⟩); simp only [Act.put, List.setIfInBounds_toArray, List.set_cons_succ, List.set_cons_zero, List.getElem_toArray, List.getElem_cons_succ, List.getElem_cons_zero]
   (apply wpAnyG_held (wide_round _) (i := 9) rfl (by kernel_rfl) (fun _ _ _ h => h) hS.out; · first | exact .inr ⟨rfl, rfl⟩ | exact .inl ⟨rfl, fun w' hS' => by (obtain ⟨s1, s2, s3, s4, s5, s6, s7, s8, s9⟩ := hS'; go_simp; rfl)⟩); simp only [Act.put, List.setIfInBounds_toArray, List.set_cons_succ, List.set_cons_zero, List.getElem_toArray, List.getElem_cons_succ, List.getElem_cons_zero]
   (apply wpAnyG_held (wide_round _) (i := 10) rfl (by kernel_rfl) (fun _ _ _ h => h) hS.out; · first | exact .inr ⟨rfl, rfl⟩ | exact .inl ⟨rfl, fun w' hS' => by (obtain ⟨s1, s2, s3, s4, s5, s6, s7, s8, s9⟩ := hS'; go_simp; rfl)⟩); simp only [Act.put, List.setIfInBounds_toArray, List.set_cons_succ, List.set_cons_zero, List.getElem_toArray, List.getElem_cons_succ, List.getElem_cons_zero]
   refine wpAnyG_one (i := 6) rfl ⟨by kernel_rfl, by kernel_rfl⟩ ?_
   intro K hK
   go_simp
   refine ⟨trivial, ?_⟩
   refine (CallsIn.inRound l2 (callsIn_wide.2 (left_any pb eb kb M id hs st fo sa fa sc fc hl hl2 x.i x.k _ b1 b2 (HHW.out.keep (Keep.drew (Keep.refl _ _)) (HHW.out.map.kept rfl))))).mono ?_
   rintro e w6 ⟨he, hk6, hp6⟩
   rw [← HdX.out] at he
   subst he
   have KW : Keep (· ≠ M) W w6 := (Keep.drew (Keep.refl _ W)).trans hk6
   have H6 := hid (HHW.out.keep KW hp6)
   refine shutSG hK ⟨KW.cell (show _ ≠ M by omega) x0, KW.cell (show _ ≠ M by omega) x1, KW.cell (show _ ≠ M by omega) x2, KW.cell (show _ ≠ M by omega) x3, KW.cell (show _ ≠ M by omega) x4, KW.cell (show _ ≠ M by omega) p4, KW.cell (show _ ≠ M by omega) q0, KW.cell (show _ ≠ M by omega) q1, KW.cell (show _ ≠ M by omega) y0⟩ (fun hS => ?_)
   clear hK K
   (apply wpAnyG_pure (wide_round _) (i := 7) rfl (by kernel_rfl) (fun _ _ _ h => h); · first | exact .inr ⟨rfl, rfl⟩ | exact .inl ⟨rfl, fun w' => by go_simp; rfl⟩); simp only [Act.put, List.setIfInBounds_toArray, List.set_cons_succ, List.set_cons_zero, List.getElem_toArray, List.getElem_cons_succ, List.getElem_cons_zero]
   refine wpAnyG_one (i := 11) rfl ⟨by kernel_rfl, by kernel_rfl⟩ ?_
   intro K hK
   go_simp
   refine ⟨trivial, ?_⟩
   refine (CallsIn.inRound l2 (callsIn_wide.2 (left_any pb eb kb M id hs st fo sa fa sc fc hl hl2 i k w6 hi hk H6.out))).mono ?_
   rintro e w11 ⟨he, hk11, hp11⟩
   rw [← HdP.out] at he
   subst he
   have KW2 : Keep (· ≠ M) W w11 := KW.trans hk11
   have H11 := hid (H6.out.keep hk11 hp11)
   refine shutSG hK ⟨KW2.cell (show _ ≠ M by omega) x0, KW2.cell (show _ ≠ M by omega) x1, KW2.cell (show _ ≠ M by omega) x2, KW2.cell (show _ ≠ M by omega) x3, KW2.cell (show _ ≠ M by omega) x4, KW2.cell (show _ ≠ M by omega) p4, KW2.cell (show _ ≠ M by omega) q0, KW2.cell (show _ ≠ M by omega) q1, KW2.cell (show _ ≠ M by omega) y0⟩ (fun hS => ?_)
   clear hK K
   (apply wpAnyG_pure (wide_round _) (i := 12) rfl (by kernel_rfl) (fun _ _ _ h => h); · first | exact .inr ⟨rfl, rfl⟩ | exact .inl ⟨rfl, fun w' => by go_simp; rfl⟩); simp only [Act.put, List.setIfInBounds_toArray, List.set_cons_succ, List.set_cons_zero, List.getElem_toArray, List.getElem_cons_succ, List.getElem_cons_zero]
   (apply wpAnyG_pure (wide_round _) (i := 13) rfl (by kernel_rfl) (fun _ _ _ h => h); · first | exact .inr ⟨rfl, rfl⟩ | exact .inl ⟨rfl, fun w' => by go_simp; rfl⟩); simp only [Act.put, List.setIfInBounds_toArray, List.set_cons_succ, List.set_cons_zero, List.getElem_toArray, List.getElem_cons_succ, List.getElem_cons_zero]
   (apply wpAnyG_held (wide_round _) (i := 14) rfl (by kernel_rfl) (fun _ _ _ h => h) hS.out; · first | exact .inr ⟨rfl, rfl⟩ | exact .inl ⟨rfl, fun w' hS' => by (obtain ⟨s1, s2, s3, s4, s5, s6, s7, s8, s9⟩ := hS'; go_simp; rfl)⟩); simp only [Act.put, List.setIfInBounds_toArray, List.set_cons_succ, List.set_cons_zero, List.getElem_toArray, List.getElem_cons_succ, List.getElem_cons_zero]
   (apply wpAnyG_held (wide_round _) (i := 15) rfl (by kernel_rfl) (fun _ _ _ h => h) hS.out; · first | exact .inr ⟨rfl, rfl⟩ | exact .inl ⟨rfl, fun w' hS' => by (obtain ⟨s1, s2, s3, s4, s5, s6, s7, s8, s9⟩ := hS'; go_simp; rfl)⟩); simp only [Act.put, List.setIfInBounds_toArray, List.set_cons_succ, List.set_cons_zero, List.getElem_toArray, List.getElem_cons_succ, List.getElem_cons_zero]
   refine wpAnyG_one (i := 16) rfl ⟨by kernel_rfl, by kernel_rfl⟩ ?_
   intro K hK
   go_simp
   refine ⟨fun _ _ => trivial, ?_⟩
   refine shutNG hK (by kernel_rfl) ?_
   clear hK K
   (apply wpAnyG_pure (wide_round _) (i := 17) rfl (by kernel_rfl) (fun _ _ _ h => h); · first | exact .inr ⟨rfl, rfl⟩ | exact .inl ⟨rfl, fun w' => by go_simp; rfl⟩); simp only [Act.put, List.setIfInBounds_toArray, List.set_cons_succ, List.set_cons_zero, List.getElem_toArray, List.getElem_cons_succ, List.getElem_cons_zero]
   (apply wpAnyG_pure (wide_round _) (i := 18) rfl (by kernel_rfl) (fun _ _ _ h => h); · first | exact .inr ⟨rfl, rfl⟩ | exact .inl ⟨rfl, fun w' => by go_simp; rfl⟩); simp only [Act.put, List.setIfInBounds_toArray, List.set_cons_succ, List.set_cons_zero, List.getElem_toArray, List.getElem_cons_succ, List.getElem_cons_zero]
   refine wpAnyG_done (by kernel_rfl) ?_ _
   have hbest : isBest st fo i k x = false := by unfold isBest; rw [← HdX.out, ← HdP.out]; simpa using HIT.out
   have hpm : pre'.map (fun y : StAt st fo i k => y.1) = ((pre ++ [(⟨x, hx⟩ : StAt st fo i k)]).map (fun y : StAt st fo i k => y.1)).filter (isBest st fo i k) := by
    rw [ip, List.map_append, List.filter_append]; simp [hbest]
   have KF : KeepsFrom wL.heap.size W w11 := keepsFrom_of KW2 (B := wL.heap.size) (by omega)
   have hj11 := HJ.out.2 pre' W w11 ij ⟨KW2, fun _ => hp11⟩
   have z11 := KW2.size
   have KZ : Keep (fun b => b = w.heap.size + 1 + 1 ∨ b = w.heap.size + 1 ∨ (R b ∧ b < w.heap.size)) W w11 :=
     KW2.mono (fun b _ hz => show b ≠ M from by
      rcases hz with h | h | ⟨h, _⟩
      ·omega
      ·omega
      ·exact fun e => hRM (e ▸ h))
   gi_wp2
   exact ⟨KF, KZ, pre', hpm, hj11, H11.out, KW2.box xM IX.out, KW2.box qM IQ.out, KW2.box (show w.heap.size ≠ M by omega) IY.out, KW2.box (show w.heap.size + 1 ≠ M by omega) IC.out, KW2.box (show w.heap.size + 1 + 1 ≠ M by omega) ID.out, by omega⟩
 case done =>
  rintro D ys W hD hall ⟨pre', ip, ij, iH, iX, iQ, iY, iC, iD, iz⟩ hKD
  have hab : AllBest st fo i k pre' := by unfold AllBest bestL; rw [ip, show ys.map (·.1) = _ from hall]
  have hj := HJ.out.1.putObj (.deferred none) ij (by omega) hKD rfl
  clear ip ij iH iX iQ iY iC iD
  gi_wp2
  refine ⟨by simp, .inl ⟨_, _, rfl, run_takeDeferred hKD, ?_⟩⟩
  exact ⟨_, results_none rfl _ _ _, ⟨_, rfl⟩, .inl ⟨pre', hab, hj⟩⟩
 case stop =>
  rintro D c pre W hD hpart ⟨rfl, pre', ip, ij⟩ hKD
  have hab : PartBest st fo i k pre' := by unfold PartBest bestL; rw [ip]; exact List.IsPrefix.filter _ hpart
  have hj := HJx.out.1.putObj (.deferred none) ij (by omega) hKD rfl
  clear ip ij
  gi_wp2
  refine ⟨by simp, .inl ⟨_, _, rfl, run_takeDeferred hKD, ?_⟩⟩
  exact ⟨_, results_none rfl _ _ _, ⟨_, rfl⟩, .inr ⟨pre', hab, hj⟩⟩
theorem best1_stops (xb qb pb eb kb M : Nat) (id hs : Int) (st fo : List Int) (sa fa : Option Addr) (sc fc : Nat) (i k : Nat) (hi : i ≤ st.length) (hk : k ≤ fo.length) (hl : st.length ≤ 2000) (hl2 : fo.length ≤ 2000)
  (R : Nat → Prop) (hRM : ¬ R M) (hR3 : st ≠ [] → ∀ p, sa = some p → R p.block) (hR4 : fo ≠ [] → ∀ p, fa = some p → R p.block) (w : World)
  (hX : Box w xb (pairC id hs st fo sa fa sc fc (leftV eb kb pb)) 134) (hQ : Box w qb #[.int .i64 i, .int .i64 k] 137) (hH : Half w pb eb kb M id hs st fo sa fa sc fc) :
  SeqX Fence.wide 3 Tryd.prog 108 #[.pointer (some ⟨xb, 0, none⟩), .pointer (some ⟨qb, 0, none⟩)] (fun x : StAt st fo i k => #[x.1.val]) (KpB R M st fo) (MSt M st fo) (AllBest st fo i k) (PartBest st fo i k) 3 w :=
 fun l J Jx W hW hJ hJx hY h0 => best1_in l xb qb pb eb kb M id hs st fo sa fa sc fc i k hi hk hl hl2 R hRM hR3 hR4 W J Jx hJ hJx hY (hX.below hW hX.lt) (hQ.below hW hQ.lt)
  (hH.keep (Keep.of_below hW (fun _ h _ => h)) (hH.map.kept (hW.block _ hH.map.lt))) h0
theorem dist_more (x : Int) (a b : List Int) : dist a b ≤ dist (x :: a) b + 1 := by
 induction b with
 | nil => rw [dist_nil', dist_nil']; simp; omega
 | cons y b ih =>
  have h1 := dist_right y a b
  rw [dist_cons x y]
  omega
theorem dist_more' (y : Int) (a b : List Int) : dist a b ≤ dist a (y :: b) + 1 := by
 induction a with
 | nil => rw [dist_nil, dist_nil]; simp; omega
 | cons x a ih =>
  have h1 := dist_left x a b
  rw [dist_cons x y]
  omega
theorem dist_same (x : Int) (a b : List Int) : dist (x :: a) (x :: b) = dist a b := by
 have h1 := dist_more' x a b
 have h2 := dist_more x a b
 rw [dist_cons, if_pos rfl]
 omega
theorem dd_same {st fo : List Int} {i k : Nat} (hi : i < st.length) (hk : k < fo.length) (he : st[i] = fo[k]) : dd st fo i k = dd st fo (i + 1) (k + 1) := by
 unfold dd
 rw [List.drop_eq_getElem_cons hi, List.drop_eq_getElem_cons hk, he]
 exact dist_same _ _ _
def edOf (x : St) (k : Nat) : List Ed := if x.wr = 0 then [] else if x.f = 0 then [⟨1, k, 0⟩] else if x.s = 0 then [⟨2, k, x.f⟩] else [⟨3, k, x.f⟩]
structure Nx where
 i : Nat
 k : Nat
 es : List Ed
def nxt (st fo : List Int) (i k : Nat) : Nx :=
 if h : i < st.length ∧ k < fo.length then
  if st[i]'h.1 = fo[k]'h.2 then ⟨i + 1, k + 1, []⟩
  else if dd st fo i k = dd st fo (i + 1) (k + 1) + 1 then ⟨i + 1, k + 1, [⟨3, k, fo[k]'h.2⟩]⟩
  else if dd st fo i k = dd st fo (i + 1) k + 1 then ⟨i + 1, k, [⟨1, k, 0⟩]⟩
  else ⟨i, k + 1, [⟨2, k, fo[k]'h.2⟩]⟩
 else if i < st.length then ⟨i + 1, k, [⟨1, k, 0⟩]⟩
 else if h : k < fo.length then ⟨i, k + 1, [⟨2, k, fo[k]⟩]⟩
 else ⟨i, k, []⟩
theorem nxt_step {st fo : List Int} {i k : Nat} (h : i < st.length ∨ k < fo.length) (hi : i ≤ st.length) (hk : k ≤ fo.length) :
  (nxt st fo i k).i ≤ st.length ∧ (nxt st fo i k).k ≤ fo.length ∧ (st.length - (nxt st fo i k).i) + (fo.length - (nxt st fo i k).k) < (st.length - i) + (fo.length - k) ∧ (nxt st fo i k).es.length + (i + k) ≤ (nxt st fo i k).i + (nxt st fo i k).k := by
 unfold nxt
 split
 ·split
  ·simp only [List.length_nil]; omega
  ·split
   ·simp only [List.length_cons, List.length_nil]; omega
   ·split <;> (simp only [List.length_cons, List.length_nil]; omega)
 ·split
  ·simp only [List.length_cons, List.length_nil]; omega
  ·split
   ·simp only [List.length_cons, List.length_nil]; omega
   ·omega
def edL (st fo : List Int) (i k : Nat) : List Ed :=
 if h : (i < st.length ∨ k < fo.length) ∧ i ≤ st.length ∧ k ≤ fo.length then (nxt st fo i k).es ++ edL st fo (nxt st fo i k).i (nxt st fo i k).k else []
termination_by (st.length - i) + (fo.length - k)
decreasing_by exact (nxt_step h.1 h.2.1 h.2.2).2.2.1
theorem edL_end (st fo : List Int) : edL st fo st.length fo.length = [] := by rw [edL, dif_neg (by omega)]
theorem edL_step {st fo : List Int} {i k : Nat} (h : i < st.length ∨ k < fo.length) (hi : i ≤ st.length) (hk : k ≤ fo.length) : edL st fo i k = (nxt st fo i k).es ++ edL st fo (nxt st fo i k).i (nxt st fo i k).k := by
 rw [edL, dif_pos ⟨h, hi, hk⟩]
theorem okN_ne {xs : List Int} (h : okN xs = true) {i : Nat} (hi : i < xs.length) : xs[i] ≠ 0 := by
 unfold okN at h
 rw [List.all_eq_true] at h
 have := h _ (List.getElem_mem hi)
 simp at this
 omega
theorem best_head {st fo : List Int} (hs : okN st = true) (hf : okN fo = true) {i k : Nat} (hi : i ≤ st.length) (hk : k ≤ fo.length) (h : i < st.length ∨ k < fo.length) :
  ∃ x t, bestL st fo i k = x :: t ∧ x.i = (nxt st fo i k).i ∧ x.k = (nxt st fo i k).k ∧ edOf x k = (nxt st fo i k).es := by
 by_cases h1 : i < st.length
 ·by_cases h2 : k < fo.length
  ·have e := dist_drop h1 h2
   have n1 := okN_ne hs h1; have n2 := okN_ne hf h2
   rw [bestL, stepsL, step1_yes h1 h2, step2_yes k h1, step3_yes i h2]
   simp only [List.cons_append, List.nil_append]
   unfold nxt
   rw [dif_pos ⟨h1, h2⟩]
   by_cases he : st[i] = fo[k]
   ·have q := dd_same h1 h2 he
    rw [if_pos he, if_pos he, List.filter_cons_of_pos (by unfold isBest; simp; omega)]
    exact ⟨_, _, rfl, rfl, rfl, by simp [edOf]⟩
   ·rw [if_neg he, if_neg he]
    rw [if_neg he] at e
    change dd st fo i k = min (dd st fo (i + 1) (k + 1) + 1) (min (dd st fo (i + 1) k + 1) (dd st fo i (k + 1) + 1)) at e
    by_cases q1 : dd st fo i k = dd st fo (i + 1) (k + 1) + 1
    ·rw [if_pos q1, List.filter_cons_of_pos (by unfold isBest; simp; omega)]
     exact ⟨_, _, rfl, rfl, rfl, by simp [edOf, n1, n2]⟩
    ·rw [if_neg q1, List.filter_cons_of_neg (by unfold isBest; simp; omega)]
     by_cases q2 : dd st fo i k = dd st fo (i + 1) k + 1
     ·rw [if_pos q2, List.filter_cons_of_pos (by unfold isBest; simp; omega)]
      exact ⟨_, _, rfl, rfl, rfl, by simp [edOf]⟩
     ·rw [if_neg q2, List.filter_cons_of_neg (by unfold isBest; simp; omega), List.filter_cons_of_pos (by unfold isBest; simp; omega)]
      exact ⟨_, _, rfl, rfl, rfl, by simp [edOf, n2]⟩
  ·have e1 : dd st fo i k = (st.length - i) + (fo.length - k) := dist_end (.inr (by omega))
   have e2 : dd st fo (i + 1) k = (st.length - (i + 1)) + (fo.length - k) := dist_end (.inr (by omega))
   rw [bestL, stepsL, step1_no (fun h => h2 h.2), step2_yes k h1, step3_no i h2]
   simp only [List.append_nil, List.nil_append]
   unfold nxt
   rw [dif_neg (fun h => h2 h.2), if_pos h1, List.filter_cons_of_pos (by unfold isBest; simp; omega)]
   exact ⟨_, _, rfl, rfl, rfl, by simp [edOf]⟩
 ·have h2 : k < fo.length := by omega
  have n2 := okN_ne hf h2
  have e1 : dd st fo i k = (st.length - i) + (fo.length - k) := dist_end (.inl (by omega))
  have e2 : dd st fo i (k + 1) = (st.length - i) + (fo.length - (k + 1)) := dist_end (.inl (by omega))
  rw [bestL, stepsL, step1_no (fun h => h1 h.1), step2_no k h1, step3_yes i h2]
  simp only [List.nil_append]
  unfold nxt
  rw [dif_neg (fun h => h1 h.1), if_neg h1, dif_pos h2, List.filter_cons_of_pos (by unfold isBest; simp; omega)]
  exact ⟨_, _, rfl, rfl, rfl, by simp [edOf, n2]⟩
def editsR (a : Tl) : List Ed × Int := if okT a.id a.hs a.st a.fo = true then (edL a.st a.fo 0 0, 0) else ([], 70)
def notchesL (x : St) : List Int := if x.s = x.f then [x.s] else [x.s, x.f]
def preL (n : Int) (l : List Int) : List Int := if 0 < n then n :: l else l
theorem mem_best {st fo : List Int} {i k : Nat} {x : St} : x ∈ bestL st fo i k ↔ x ∈ stepsL st fo i k ∧ x.wr + (dd st fo x.i x.k : Int) = (dd st fo i k : Int) := by
 unfold bestL isBest
 rw [List.mem_filter]
 simp
theorem okN_pos {xs : List Int} (h : okN xs = true) {i : Nat} (hi : i < xs.length) : 0 < xs[i] := by
 unfold okN at h
 rw [List.all_eq_true] at h
 have := h _ (List.getElem_mem hi)
 simp at this
 omega
theorem true_iff {st fo : List Int} (hs : okN st = true) (hf : okN fo = true) {i k : Nat} (hi : i ≤ st.length) (hk : k ≤ fo.length) (hne : ¬ (i = st.length ∧ k = fo.length)) (l : List Int) :
  TrueL (st.drop i) (fo.drop k) l ↔ ∃ x ∈ bestL st fo i k, ∃ n ∈ notchesL x, ∃ r, TrueL (st.drop x.i) (fo.drop x.k) r ∧ l = preL n r := by
 constructor
 ·intro h
  rcases h.begins with ⟨h1, h2, _⟩ | ⟨a, s', b, f', c, l', h1, h2, h3, hd, hc, ht⟩ | ⟨a, s', h1, hd, ht⟩ | ⟨b, f', h2, hd, ht⟩
  ·exact absurd ⟨by have := congrArg List.length h1; simp at this; omega, by have := congrArg List.length h2; simp at this; omega⟩ hne
  ·have li : i < st.length := by have := congrArg List.length h1; simp at this; omega
   have lk : k < fo.length := by have := congrArg List.length h2; simp at this; omega
   rw [List.drop_eq_getElem_cons li] at h1
   rw [List.drop_eq_getElem_cons lk] at h2
   obtain ⟨rfl, rfl⟩ := List.cons.inj h1
   obtain ⟨rfl, rfl⟩ := List.cons.inj h2
   refine ⟨⟨i + 1, k + 1, st[i], fo[k], if st[i] = fo[k] then 0 else 1⟩, mem_best.2 ⟨?_, ?_⟩, c, ?_, l', ht, ?_⟩
   ·rw [stepsL, step1_yes li lk]; simp
   ·show (if st[i] = fo[k] then 0 else 1 : Int) + (dd st fo (i + 1) (k + 1) : Int) = (dd st fo i k : Int)
    unfold dd
    rw [List.drop_eq_getElem_cons li, List.drop_eq_getElem_cons lk, hd]
    split <;> omega
   ·unfold notchesL
    rcases hc with rfl | rfl <;> split <;> simp_all
   ·rw [h3]; unfold preL
    have p1 := okN_pos hs li; have p2 := okN_pos hf lk
    rw [if_pos (by rcases hc with rfl | rfl <;> assumption)]
  ·have li : i < st.length := by have := congrArg List.length h1; simp at this; omega
   rw [List.drop_eq_getElem_cons li] at h1
   obtain ⟨rfl, rfl⟩ := List.cons.inj h1
   have p1 := okN_pos hs li
   have hb : (⟨i + 1, k, st[i], 0, 1⟩ : St) ∈ bestL st fo i k := mem_best.2 ⟨by rw [stepsL, step2_yes k li]; simp, by
    show (1 : Int) + (dd st fo (i + 1) k : Int) = (dd st fo i k : Int)
    unfold dd; rw [List.drop_eq_getElem_cons li, hd]; omega⟩
   have hn : notchesL ⟨i + 1, k, st[i], 0, 1⟩ = [st[i], 0] := by unfold notchesL; rw [if_neg (show ¬ st[i] = 0 by omega)]
   rcases ht with ht | ⟨l', rfl, ht⟩
   ·exact ⟨_, hb, 0, by rw [hn]; simp, l, ht, by unfold preL; simp⟩
   ·exact ⟨_, hb, st[i], by rw [hn]; simp, l', ht, by unfold preL; rw [if_pos p1]⟩
  ·have lk : k < fo.length := by have := congrArg List.length h2; simp at this; omega
   rw [List.drop_eq_getElem_cons lk] at h2
   obtain ⟨rfl, rfl⟩ := List.cons.inj h2
   have p2 := okN_pos hf lk
   have hb : (⟨i, k + 1, 0, fo[k], 1⟩ : St) ∈ bestL st fo i k := mem_best.2 ⟨by rw [stepsL, step3_yes i lk]; simp, by
    show (1 : Int) + (dd st fo i (k + 1) : Int) = (dd st fo i k : Int)
    unfold dd; rw [List.drop_eq_getElem_cons lk, hd]; omega⟩
   have hn : notchesL ⟨i, k + 1, 0, fo[k], 1⟩ = [0, fo[k]] := by unfold notchesL; rw [if_neg (show ¬ 0 = fo[k] by omega)]
   rcases ht with ht | ⟨l', rfl, ht⟩
   ·exact ⟨_, hb, 0, by rw [hn]; simp, l, ht, by unfold preL; simp⟩
   ·exact ⟨_, hb, fo[k], by rw [hn]; simp, l', ht, by unfold preL; rw [if_pos p2]⟩
 ·rintro ⟨x, hx, n, hn, r, hr, rfl⟩
  obtain ⟨hx, hd⟩ := mem_best.1 hx
  rw [stepsL, List.mem_append, List.mem_append] at hx
  rcases hx with hx | hx | hx
  ·by_cases hh : i < st.length ∧ k < fo.length
   ·rw [step1_yes hh.1 hh.2, List.mem_singleton] at hx
    subst hx
    have p1 := okN_pos hs hh.1; have p2 := okN_pos hf hh.2
    have hn' : n = st[i]'hh.1 ∨ n = fo[k]'hh.2 := by
     unfold notchesL at hn
     split at hn <;> simp at hn
     ·exact .inl hn
     ·exact hn
    unfold preL
    rw [if_pos (by rcases hn' with rfl | rfl <;> assumption), List.drop_eq_getElem_cons hh.1, List.drop_eq_getElem_cons hh.2]
    refine hr.both ?_ hn'
    change (if st[i]'hh.1 = fo[k]'hh.2 then 0 else 1 : Int) + (dd st fo (i + 1) (k + 1) : Int) = (dd st fo i k : Int) at hd
    unfold dd at hd
    rw [List.drop_eq_getElem_cons hh.1, List.drop_eq_getElem_cons hh.2] at hd
    show dist (st[i]'hh.1 :: st.drop (i + 1)) (fo[k]'hh.2 :: fo.drop (k + 1)) = dist (st.drop (i + 1)) (fo.drop (k + 1)) + (if st[i]'hh.1 = fo[k]'hh.2 then 0 else 1)
    split at hd <;> rename_i e
    ·rw [if_pos e]; omega
    ·rw [if_neg e]; omega
   ·rw [step1_no hh] at hx; cases hx
  ·by_cases hh : i < st.length
   ·rw [step2_yes k hh, List.mem_singleton] at hx
    subst hx
    have p1 := okN_pos hs hh
    have hd' : dist (st[i] :: st.drop (i + 1)) (fo.drop k) = dist (st.drop (i + 1)) (fo.drop k) + 1 := by
     change (1 : Int) + (dd st fo (i + 1) k : Int) = (dd st fo i k : Int) at hd
     unfold dd at hd
     rw [List.drop_eq_getElem_cons hh] at hd
     omega
    unfold notchesL at hn
    rw [if_neg (show ¬ st[i] = 0 by omega)] at hn
    simp only [List.mem_cons, List.not_mem_nil, or_false] at hn
    unfold preL
    rw [List.drop_eq_getElem_cons hh]
    rcases hn with rfl | rfl
    ·rw [if_pos p1]; exact hr.cut1 hd'
    ·rw [if_neg (by omega)]; exact hr.cut0 hd'
   ·rw [step2_no k hh] at hx; cases hx
  ·by_cases hh : k < fo.length
   ·rw [step3_yes i hh, List.mem_singleton] at hx
    subst hx
    have p2 := okN_pos hf hh
    have hd' : dist (st.drop i) (fo[k] :: fo.drop (k + 1)) = dist (st.drop i) (fo.drop (k + 1)) + 1 := by
     change (1 : Int) + (dd st fo i (k + 1) : Int) = (dd st fo i k : Int) at hd
     unfold dd at hd
     rw [List.drop_eq_getElem_cons hh] at hd
     omega
    unfold notchesL at hn
    rw [if_neg (show ¬ 0 = fo[k] by omega)] at hn
    simp only [List.mem_cons, List.not_mem_nil, or_false] at hn
    unfold preL
    rw [List.drop_eq_getElem_cons hh]
    rcases hn with rfl | rfl
    ·rw [if_neg (by omega)]; exact hr.add0 hd'
    ·rw [if_pos p2]; exact hr.add1 hd'
   ·rw [step3_no i hh] at hx; cases hx
theorem true_end {st fo : List Int} (l : List Int) : TrueL (st.drop st.length) (fo.drop fo.length) l ↔ l = [] := by
 rw [List.drop_length, List.drop_length]
 exact ⟨TrueL.nil, fun e => e ▸ TrueL.done⟩
theorem best_ne {st fo : List Int} (hs : okN st = true) (hf : okN fo = true) {i k : Nat} (hi : i ≤ st.length) (hk : k ≤ fo.length) (h : i < st.length ∨ k < fo.length) : bestL st fo i k ≠ [] := by
 obtain ⟨x, t, e, _⟩ := best_head hs hf hi hk h
 rw [e]; simp
def sumW (W : Int → Int) (l : List Int) : Int := (l.map W).sum
theorem sumW_pre {W : Int → Int} (h0 : W 0 = 0) {n : Int} (hn : 0 ≤ n) (l : List Int) : sumW W (preL n l) = W n + sumW W l := by
 unfold preL sumW
 split
 ·simp
 ·have : n = 0 := by omega
  subst this; rw [h0]; simp
structure IsSpan (W : Int → Int) (P : List Int → Prop) (x y : Int) : Prop where
 lo : ∃ l, P l ∧ sumW W l = x
 hi : ∃ l, P l ∧ sumW W l = y
 all : ∀ l, P l → x ≤ sumW W l ∧ sumW W l ≤ y
theorem IsSpan.unique {W : Int → Int} {P : List Int → Prop} {a b c d : Int} (h : IsSpan W P a b) (k : IsSpan W P c d) : a = c ∧ b = d := by
 obtain ⟨l1, p1, e1⟩ := h.lo
 obtain ⟨l2, p2, e2⟩ := h.hi
 obtain ⟨l3, p3, e3⟩ := k.lo
 obtain ⟨l4, p4, e4⟩ := k.hi
 have := h.all l3 p3; have := h.all l4 p4; have := k.all l1 p1; have := k.all l2 p2
 omega
theorem IsSpan.iff {W : Int → Int} {P Q : List Int → Prop} {a b : Int} (h : IsSpan W P a b) (hq : ∀ x, P x ↔ Q x) : IsSpan W Q a b :=
 ⟨by obtain ⟨l, p, e⟩ := h.lo; exact ⟨l, (hq l).1 p, e⟩, by obtain ⟨l, p, e⟩ := h.hi; exact ⟨l, (hq l).1 p, e⟩, fun l p => h.all l ((hq l).2 p)⟩
theorem IsSpan.nil {W : Int → Int} : IsSpan W (fun l => l = []) 0 0 := ⟨⟨[], rfl, rfl⟩, ⟨[], rfl, rfl⟩, fun l h => by subst h; simp [sumW]⟩
theorem IsSpan.pre {W : Int → Int} (h0 : W 0 = 0) {P : List Int → Prop} {a b n : Int} (hn : 0 ≤ n) (h : IsSpan W P a b) : IsSpan W (fun l => ∃ r, P r ∧ l = preL n r) (W n + a) (W n + b) := by
 obtain ⟨l1, p1, e1⟩ := h.lo
 obtain ⟨l2, p2, e2⟩ := h.hi
 refine ⟨⟨preL n l1, ⟨l1, p1, rfl⟩, by rw [sumW_pre h0 hn, e1]⟩, ⟨preL n l2, ⟨l2, p2, rfl⟩, by rw [sumW_pre h0 hn, e2]⟩, ?_⟩
 rintro l ⟨r, p, rfl⟩
 have := h.all r p
 rw [sumW_pre h0 hn]; omega
theorem IsSpan.or {W : Int → Int} {P Q : List Int → Prop} {a b c d : Int} (h : IsSpan W P a b) (k : IsSpan W Q c d) : IsSpan W (fun l => P l ∨ Q l) (min a c) (max b d) := by
 obtain ⟨l1, p1, e1⟩ := h.lo
 obtain ⟨l2, p2, e2⟩ := h.hi
 obtain ⟨l3, p3, e3⟩ := k.lo
 obtain ⟨l4, p4, e4⟩ := k.hi
 refine ⟨?_, ?_, ?_⟩
 ·by_cases e : a ≤ c
  ·exact ⟨l1, .inl p1, by omega⟩
  ·exact ⟨l3, .inr p3, by omega⟩
 ·by_cases e : d ≤ b
  ·exact ⟨l2, .inl p2, by omega⟩
  ·exact ⟨l4, .inr p4, by omega⟩
 ·rintro l (p | p)
  ·have := h.all l p; omega
  ·have := k.all l p; omega
theorem notches_step (x : St) (w : World) :
  Calls Tryd.prog 110 #[x.val] w fun e w' => ∃ a c, e = .returned (.slice a (notchesL x).length c) ∧ RdI w' a (notchesL x) ∧ Below w.heap.size w w' ∧ ∀ p, a = some p → w.heap.size ≤ p.block := by
 unfold St.val
 go_enter Tryd.func110, Tryd.ntmps110
 by_cases h1 : x.s = x.f
 ·have t1 : (x.s == x.f) = true := by simp [h1]
  have H1 := hid h1; clear h1
  go_wp2_with fail
  go_ret
  refine ⟨_, _, by unfold notchesL; rw [if_pos H1.out]; rfl, ?_, goBl, fun p e => by cases e; simp⟩
  unfold notchesL; rw [if_pos H1.out]
  intro i hi
  match i, hi with
  | 0, _ => exact ⟨_, _, rfl, (Box.at (w := w.alloc _) #[.int .i64 x.s] 3 (by simp)).cell 0⟩
 ·have t1 : (x.s == x.f) = false := by simp [h1]
  have H1 := hid h1; clear h1
  go_wp2_with fail
  go_ret
  refine ⟨_, _, by unfold notchesL; rw [if_neg H1.out]; rfl, ?_, goBl, fun p e => by cases e; simp⟩
  unfold notchesL; rw [if_neg H1.out]
  intro i hi
  match i, hi with
  | 0, _ => exact ⟨_, _, rfl, (Box.at (w := w.alloc _) #[.int .i64 x.s, .int .i64 x.f] 3 (by simp)).cell 0⟩
  | 1, _ => exact ⟨_, _, rfl, (Box.at (w := w.alloc _) #[.int .i64 x.s, .int .i64 x.f] 3 (by simp)).cell 1⟩
theorem spanLo_any (a b : Int) (w : World) : Calls Tryd.prog 112 #[.agg #[.int .i64 a, .int .i64 b]] w fun e w' => e = .returned (.int .i64 a) ∧ Below w.heap.size w w' := by
 go_enter Tryd.func112, Tryd.ntmps112
 go_wp2_with fail
 go_ret
 exact ⟨rfl, goBl⟩
theorem spanHi_any (a b : Int) (w : World) : Calls Tryd.prog 113 #[.agg #[.int .i64 a, .int .i64 b]] w fun e w' => e = .returned (.int .i64 b) ∧ Below w.heap.size w w' := by
 go_enter Tryd.func113, Tryd.ntmps113
 go_wp2_with fail
 go_ret
 exact ⟨rfl, goBl⟩
def endF (s x : Int × Int) : Int × Int := (min s.1 x.1, max s.2 x.2)
def endsL (ss : List (Int × Int)) : Int × Int := ss.foldl endF (ss.headD (0, 0))
theorem endsL_one (s : Int × Int) : endsL [s] = s := by simp [endsL, endF]
theorem endsL_snoc (ss : List (Int × Int)) (hs : ss ≠ []) (x : Int × Int) : endsL (ss ++ [x]) = endF (endsL ss) x := by
 unfold endsL
 rw [List.foldl_append]
 cases ss with
 | nil => exact absurd rfl hs
 | cons a t => rfl
def SpanAcc (W : Int → Int) (P : List Int → Prop) (ss : List (Int × Int)) : Prop := (ss = [] ∧ ∀ l, ¬ P l) ∨ (ss ≠ [] ∧ IsSpan W P (endsL ss).1 (endsL ss).2)
theorem SpanAcc.nil {W : Int → Int} {P : List Int → Prop} (h : ∀ l, ¬ P l) : SpanAcc W P [] := .inl ⟨rfl, h⟩
theorem SpanAcc.snoc {W : Int → Int} {P Q : List Int → Prop} {ss : List (Int × Int)} {a b : Int} (h : SpanAcc W P ss) (k : IsSpan W Q a b) : SpanAcc W (fun l => P l ∨ Q l) (ss ++ [(a, b)]) := by
 refine .inr ⟨by simp, ?_⟩
 rcases h with ⟨rfl, hn⟩ | ⟨hne, hs⟩
 ·rw [List.nil_append, endsL_one]
  exact k.iff (fun x => ⟨.inr, fun h => h.resolve_left (hn x)⟩)
 ·rw [endsL_snoc _ hne]
  exact hs.or k
theorem SpanAcc.iff {W : Int → Int} {P Q : List Int → Prop} {ss : List (Int × Int)} (h : SpanAcc W P ss) (hq : ∀ x, P x ↔ Q x) : SpanAcc W Q ss := by
 rcases h with ⟨h1, h2⟩ | ⟨h1, h2⟩
 ·exact .inl ⟨h1, fun l hl => h2 l ((hq l).2 hl)⟩
 ·exact .inr ⟨h1, h2.iff hq⟩
theorem ends_any (a : Option Addr) (c : Nat) (ss : List (Int × Int)) (w : World) (hl : ss.length ≤ 4000) (hne : ss ≠ []) (h : RdX spC 2 w a ss) :
  Calls Tryd.prog 111 #[.slice a ss.length c, .func (.func 112) #[] #[], .func (.func 113) #[] #[]] w fun e w' => e = .returned (.agg #[.int .i64 (endsL ss).1, .int .i64 (endsL ss).2]) ∧ Below w.heap.size w w' := by
 have hm := mixedS
 have H := hid h; clear h
 have hlen : 0 < ss.length := List.length_pos_iff.2 hne
 obtain ⟨b, o, rfl, hc⟩ := H.out 0 hlen
 have q0 := hc 0 _ rfl; have q1 := hc 1 _ rfl
 simp only [Nat.zero_mul, Nat.add_zero] at q0 q1
 have lb := cell_lt q0
 clear hc
 go_enter Tryd.func111, Tryd.ntmps111
 go_wp2_with fail
 refine wp_world (fun W => Box W w.heap.size #[.int .i64 0, .int .i64 0] 68 ∧ Below w.heap.size w W) ⟨Box.new _ _ _, goBl⟩ ?_
 rintro W0 ⟨b6, hB0⟩
 refine wp_post (fun a' W => ∃ f : Nat → Value, a' = ⟨((List.range 42).map f).toArray, []⟩ ∧ ∃ P7, f 0 = .slice (some ⟨b, o, none⟩) ss.length c ∧ f 1 = .func (.func 112) #[] #[] ∧ f 2 = .func (.func 113) #[] #[] ∧ f 6 = .pointer (some ⟨w.heap.size, 0, none⟩) ∧ f 7 = .pointer (some ⟨P7, 0, none⟩) ∧ w.heap.size < P7 ∧ Box W P7 #[.int .i64 ss[0].1, .int .i64 ss[0].2] 68 ∧ Box W w.heap.size #[.int .i64 0, .int .i64 0] 68 ∧ Below w.heap.size w W) ?_ ?_
 ·have p0 : W0.cell? ⟨b, o, none⟩ = some (.int .i64 ss[0].1) := (hB0.cell (p := ⟨b, o, none⟩) lb).trans q0
  have p1 : W0.cell? ⟨b, o + 1, none⟩ = some (.int .i64 ss[0].2) := (hB0.cell (p := ⟨b, o + 1, none⟩) lb).trans q1
  have B6 := hid b6; have HB := hid hB0
  clear q0 q1 b6 hB0
  refine wp_region_F [3, 8] (fun w' => w'.cell? ⟨b, o, none⟩ = some (.int .i64 ss[0].1) ∧ w'.cell? ⟨b, o + 1, none⟩ = some (.int .i64 ss[0].2)) hm ⟨p0, p1⟩ ?_
  intro hS0; have hS := hid hS0; clear hS0
  refine anyW (fun W => Box W w.heap.size #[.int .i64 0, .int .i64 0] 68 ∧ Below w.heap.size w W ∧ (W.cell? ⟨b, o, none⟩ = some (.int .i64 ss[0].1) ∧ W.cell? ⟨b, o + 1, none⟩ = some (.int .i64 ss[0].2))) ⟨B6.out.drew, HB.out.drew, hS.out⟩ ?_
  clear B6 HB hS p0 p1
  rintro wc ⟨b6, hB, hs⟩
  have B6 := hid b6; have HB := hid hB; have hS := hid hs; clear b6 hB hs
  (apply wpAnyF_pure (i := 0) rfl (by kernel_rfl) (fun _ _ _ h => h); · first | exact .inr ⟨rfl, rfl⟩ | exact .inl ⟨rfl, fun w' => by go_simp; rfl⟩); simp only [Act.put, List.setIfInBounds_toArray, List.set_cons_succ, List.set_cons_zero, List.getElem_toArray, List.getElem_cons_succ, List.getElem_cons_zero]
  (apply wpAnyF_pure (i := 1) rfl (by kernel_rfl) (fun _ _ _ h => h); · first | exact .inr ⟨rfl, rfl⟩ | exact .inl ⟨rfl, fun w' => by go_simp; rfl⟩); simp only [Act.put, List.setIfInBounds_toArray, List.set_cons_succ, List.set_cons_zero, List.getElem_toArray, List.getElem_cons_succ, List.getElem_cons_zero]
  (apply wpAnyF_pure (i := 2) rfl (by kernel_rfl) (fun _ _ _ h => h); · first | exact .inr ⟨rfl, rfl⟩ | exact .inl ⟨rfl, fun w' => by go_simp; rfl⟩); simp only [Act.put, List.setIfInBounds_toArray, List.set_cons_succ, List.set_cons_zero, List.getElem_toArray, List.getElem_cons_succ, List.getElem_cons_zero]
  (apply wpAnyF_held (i := 3) rfl (by kernel_rfl) (fun _ _ _ h => h) hS.out; · first | exact .inr ⟨rfl, rfl⟩ | exact .inl ⟨rfl, fun w' hS' => by (obtain ⟨s1, s2⟩ := hS'; go_simp; rfl)⟩); simp only [Act.put, List.setIfInBounds_toArray, List.set_cons_succ, List.set_cons_zero, List.getElem_toArray, List.getElem_cons_succ, List.getElem_cons_zero]
  (apply wpAnyF_pure (i := 5) rfl (by kernel_rfl) (fun _ _ _ h => h); · first | exact .inr ⟨rfl, rfl⟩ | exact .inl ⟨rfl, fun w' => by go_simp; rfl⟩); simp only [Act.put, List.setIfInBounds_toArray, List.set_cons_succ, List.set_cons_zero, List.getElem_toArray, List.getElem_cons_succ, List.getElem_cons_zero]
  (apply wpAnyF_pure (i := 6) rfl (by kernel_rfl) (fun _ _ _ h => h); · first | exact .inr ⟨rfl, rfl⟩ | exact .inl ⟨rfl, fun w' => by go_simp; rfl⟩); simp only [Act.put, List.setIfInBounds_toArray, List.set_cons_succ, List.set_cons_zero, List.getElem_toArray, List.getElem_cons_succ, List.getElem_cons_zero]
  (apply wpAnyF_pure (i := 7) rfl (by kernel_rfl) (fun _ _ _ h => h); · first | exact .inr ⟨rfl, rfl⟩ | exact .inl ⟨rfl, fun w' => by go_simp; rfl⟩); simp only [Act.put, List.setIfInBounds_toArray, List.set_cons_succ, List.set_cons_zero, List.getElem_toArray, List.getElem_cons_succ, List.getElem_cons_zero]
  (apply wpAnyF_held (i := 8) rfl (by kernel_rfl) (fun _ _ _ h => h) hS.out; · first | exact .inr ⟨rfl, rfl⟩ | exact .inl ⟨rfl, fun w' hS' => by (obtain ⟨s1, s2⟩ := hS'; go_simp; rfl)⟩); simp only [Act.put, List.setIfInBounds_toArray, List.set_cons_succ, List.set_cons_zero, List.getElem_toArray, List.getElem_cons_succ, List.getElem_cons_zero]
  refine wpAnyF_two (i := 4) (j := 11) rfl rfl ⟨by kernel_rfl, by kernel_rfl, by kernel_rfl⟩ ?_ ?_
  ·
   intro K hK
   go_simp
   refine (spanLo_any _ _ _).mono ?_
   rintro e w4 ⟨rfl, hb4⟩
   refine shutS hK (by obtain ⟨s1, s2⟩ := hS.out; exact ⟨(hb4.cell (cell_lt s1)).trans s1, (hb4.cell (cell_lt s2)).trans s2⟩) (fun hS => ?_)
   refine anyW (fun W => Box W w.heap.size #[.int .i64 0, .int .i64 0] 68 ∧ Below w.heap.size w W ∧ (W.cell? ⟨b, o, none⟩ = some (.int .i64 ss[0].1) ∧ W.cell? ⟨b, o + 1, none⟩ = some (.int .i64 ss[0].2))) ⟨B6.out.below hb4 B6.out.lt, HB.out.trans (hb4.mono HB.out.size), hS.out⟩ ?_
   clear B6 HB hS hb4
   rintro wc ⟨b6, hB, hs⟩
   have B6 := hid b6; have HB := hid hB; have hS := hid hs; clear b6 hB hs
   refine wpAnyF_two (i := 9) (j := 11) rfl rfl ⟨by kernel_rfl, by kernel_rfl, by kernel_rfl⟩ ?_ ?_
   ·
    intro K hK
    go_simp
    refine (spanHi_any _ _ _).mono ?_
    rintro e w9 ⟨rfl, hb9⟩
    refine shutN hK (by kernel_rfl) ?_
    refine anyW (fun W => Box W w.heap.size #[.int .i64 0, .int .i64 0] 68 ∧ Below w.heap.size w W ∧ (W.cell? ⟨b, o, none⟩ = some (.int .i64 ss[0].1) ∧ W.cell? ⟨b, o + 1, none⟩ = some (.int .i64 ss[0].2))) ⟨B6.out.below hb9 B6.out.lt, HB.out.trans (hb9.mono HB.out.size), (by obtain ⟨s1, s2⟩ := hS.out; exact ⟨(hb9.cell (cell_lt s1)).trans s1, (hb9.cell (cell_lt s2)).trans s2⟩)⟩ ?_
    clear B6 HB hS hb9
    rintro wc ⟨b6, hB, hs⟩
    have B6 := hid b6; have HB := hid hB; clear b6 hB
    have hS : Hid ((wc.cell? ⟨b, o, none⟩ = some (.int .i64 ss[0].1)) ∧ (wc.cell? ⟨b, o + 1, none⟩ = some (.int .i64 ss[0].2))) := hs
    (apply wpAnyF_pure (i := 10) rfl (by kernel_rfl) (fun _ _ _ h => h); · first | exact .inr ⟨rfl, rfl⟩ | exact .inl ⟨rfl, fun w' => by go_simp; rfl⟩); simp only [Act.put, List.setIfInBounds_toArray, List.set_cons_succ, List.set_cons_zero, List.getElem_toArray, List.getElem_cons_succ, List.getElem_cons_zero]
    refine wpAnyF_one (i := 11) rfl ⟨by kernel_rfl, by kernel_rfl⟩ ?_
    intro K hK
    go_simp
    refine shutS hK (by obtain ⟨s1, s2⟩ := hS.out; have l1 := cell_lt s1; have l2 := cell_lt s2; exact ⟨by go_simp, by go_simp⟩) (fun hS => ?_)
    obtain ⟨P7, hP7⟩ : ∃ P, P = wc.heap.size := ⟨_, rfl⟩
    have nP7 : w.heap.size < P7 := by have := B6.out.lt; omega
    have B7 := hid (Box.at (w := wc) #[.int .i64 0, .int .i64 0] 68 hP7)
    have B6 := hid (B6.out.alloc (.cells #[.int .i64 0, .int .i64 0] 68))
    have HB := hid (HB.out.alloc HB.out.size (.cells #[.int .i64 0, .int .i64 0] 68))
    rw [← hP7]
    clear hP7
    refine wpAnyF_one (i := 12) rfl ⟨by kernel_rfl, by kernel_rfl⟩ ?_
    intro K hK
    have y0 := B7.out.cell 0; have y1 := B7.out.cell 1; have y2 := B7.out.frozen 0; have y3 := B7.out.frozen 1; have y4 := B7.out.lt
    simp only [List.getElem?_toArray, List.getElem?_cons_zero, List.getElem?_cons_succ] at y0 y1
    go_simp
    refine shutN hK (by kernel_rfl) ?_
    refine wpAnyF_done (by kernel_rfl) ?_ _
    unfold NormP
    refine acts_of rfl ?_
    exact ⟨P7, rfl, rfl, rfl, rfl, rfl, nP7, (B7.out.set 0 _).set 1 _, (B6.out.other _ _ _ (by omega)).other _ _ _ (by omega), (HB.out.setCell (p := ⟨P7, 0, none⟩) (show w.heap.size ≤ P7 by omega) _).setCell (p := ⟨P7, 1, none⟩) (show w.heap.size ≤ P7 by omega) _⟩
   ·
    intro K hK
    go_simp
    refine shutS hK (by obtain ⟨s1, s2⟩ := hS.out; have l1 := cell_lt s1; have l2 := cell_lt s2; exact ⟨by go_simp, by go_simp⟩) (fun hS => ?_)
    obtain ⟨P7, hP7⟩ : ∃ P, P = wc.heap.size := ⟨_, rfl⟩
    have nP7 : w.heap.size < P7 := by have := B6.out.lt; omega
    have B7 := hid (Box.at (w := wc) #[.int .i64 0, .int .i64 0] 68 hP7)
    have B6 := hid (B6.out.alloc (.cells #[.int .i64 0, .int .i64 0] 68))
    have HB := hid (HB.out.alloc HB.out.size (.cells #[.int .i64 0, .int .i64 0] 68))
    rw [← hP7]
    clear hP7
    refine wpAnyF_one (i := 9) rfl ⟨by kernel_rfl, by kernel_rfl⟩ ?_
    intro K hK
    go_simp
    refine (spanHi_any _ _ _).mono ?_
    rintro e w9 ⟨rfl, hb9⟩
    refine shutN hK (by kernel_rfl) ?_
    refine anyW (fun W => Box W w.heap.size #[.int .i64 0, .int .i64 0] 68 ∧ Below w.heap.size w W ∧ Box W P7 #[.int .i64 0, .int .i64 0] 68 ∧ (W.cell? ⟨b, o, none⟩ = some (.int .i64 ss[0].1) ∧ W.cell? ⟨b, o + 1, none⟩ = some (.int .i64 ss[0].2))) ⟨B6.out.below hb9 B6.out.lt, HB.out.trans (hb9.mono HB.out.size), B7.out.below hb9 B7.out.lt, (by obtain ⟨s1, s2⟩ := hS.out; exact ⟨(hb9.cell (cell_lt s1)).trans s1, (hb9.cell (cell_lt s2)).trans s2⟩)⟩ ?_
    clear B6 HB hS hb9 B7
    rintro wc ⟨b6, hB, b7, hs⟩
    have B6 := hid b6; have HB := hid hB; have B7 := hid b7; clear b6 hB
    have hS : Hid ((wc.cell? ⟨b, o, none⟩ = some (.int .i64 ss[0].1)) ∧ (wc.cell? ⟨b, o + 1, none⟩ = some (.int .i64 ss[0].2))) := hs
    (apply wpAnyF_pure (i := 10) rfl (by kernel_rfl) (fun _ _ _ h => h); · first | exact .inr ⟨rfl, rfl⟩ | exact .inl ⟨rfl, fun w' => by go_simp; rfl⟩); simp only [Act.put, List.setIfInBounds_toArray, List.set_cons_succ, List.set_cons_zero, List.getElem_toArray, List.getElem_cons_succ, List.getElem_cons_zero]
    refine wpAnyF_one (i := 12) rfl ⟨by kernel_rfl, by kernel_rfl⟩ ?_
    intro K hK
    have y0 := B7.out.cell 0; have y1 := B7.out.cell 1; have y2 := B7.out.frozen 0; have y3 := B7.out.frozen 1; have y4 := B7.out.lt
    simp only [List.getElem?_toArray, List.getElem?_cons_zero, List.getElem?_cons_succ] at y0 y1
    go_simp
    refine shutN hK (by kernel_rfl) ?_
    refine wpAnyF_done (by kernel_rfl) ?_ _
    unfold NormP
    refine acts_of rfl ?_
    exact ⟨P7, rfl, rfl, rfl, rfl, rfl, nP7, (B7.out.set 0 _).set 1 _, (B6.out.other _ _ _ (by omega)).other _ _ _ (by omega), (HB.out.setCell (p := ⟨P7, 0, none⟩) (show w.heap.size ≤ P7 by omega) _).setCell (p := ⟨P7, 1, none⟩) (show w.heap.size ≤ P7 by omega) _⟩
  ·
   intro K hK
   go_simp
   refine shutS hK (by obtain ⟨s1, s2⟩ := hS.out; have l1 := cell_lt s1; have l2 := cell_lt s2; exact ⟨by go_simp, by go_simp⟩) (fun hS => ?_)
   obtain ⟨P7, hP7⟩ : ∃ P, P = wc.heap.size := ⟨_, rfl⟩
   have nP7 : w.heap.size < P7 := by have := B6.out.lt; omega
   have B7 := hid (Box.at (w := wc) #[.int .i64 0, .int .i64 0] 68 hP7)
   have B6 := hid (B6.out.alloc (.cells #[.int .i64 0, .int .i64 0] 68))
   have HB := hid (HB.out.alloc HB.out.size (.cells #[.int .i64 0, .int .i64 0] 68))
   rw [← hP7]
   clear hP7
   refine wpAnyF_one (i := 4) rfl ⟨by kernel_rfl, by kernel_rfl⟩ ?_
   intro K hK
   go_simp
   refine (spanLo_any _ _ _).mono ?_
   rintro e w4 ⟨rfl, hb4⟩
   refine shutS hK (by obtain ⟨s1, s2⟩ := hS.out; exact ⟨(hb4.cell (cell_lt s1)).trans s1, (hb4.cell (cell_lt s2)).trans s2⟩) (fun hS => ?_)
   refine anyW (fun W => Box W w.heap.size #[.int .i64 0, .int .i64 0] 68 ∧ Below w.heap.size w W ∧ Box W P7 #[.int .i64 0, .int .i64 0] 68 ∧ (W.cell? ⟨b, o, none⟩ = some (.int .i64 ss[0].1) ∧ W.cell? ⟨b, o + 1, none⟩ = some (.int .i64 ss[0].2))) ⟨B6.out.below hb4 B6.out.lt, HB.out.trans (hb4.mono HB.out.size), B7.out.below hb4 B7.out.lt, hS.out⟩ ?_
   clear B6 HB hS hb4 B7
   rintro wc ⟨b6, hB, b7, hs⟩
   have B6 := hid b6; have HB := hid hB; have hS := hid hs; have B7 := hid b7; clear b6 hB hs
   refine wpAnyF_one (i := 9) rfl ⟨by kernel_rfl, by kernel_rfl⟩ ?_
   intro K hK
   go_simp
   refine (spanHi_any _ _ _).mono ?_
   rintro e w9 ⟨rfl, hb9⟩
   refine shutN hK (by kernel_rfl) ?_
   refine anyW (fun W => Box W w.heap.size #[.int .i64 0, .int .i64 0] 68 ∧ Below w.heap.size w W ∧ Box W P7 #[.int .i64 0, .int .i64 0] 68 ∧ (W.cell? ⟨b, o, none⟩ = some (.int .i64 ss[0].1) ∧ W.cell? ⟨b, o + 1, none⟩ = some (.int .i64 ss[0].2))) ⟨B6.out.below hb9 B6.out.lt, HB.out.trans (hb9.mono HB.out.size), B7.out.below hb9 B7.out.lt, (by obtain ⟨s1, s2⟩ := hS.out; exact ⟨(hb9.cell (cell_lt s1)).trans s1, (hb9.cell (cell_lt s2)).trans s2⟩)⟩ ?_
   clear B6 HB hS hb9 B7
   rintro wc ⟨b6, hB, b7, hs⟩
   have B6 := hid b6; have HB := hid hB; have B7 := hid b7; clear b6 hB
   have hS : Hid ((wc.cell? ⟨b, o, none⟩ = some (.int .i64 ss[0].1)) ∧ (wc.cell? ⟨b, o + 1, none⟩ = some (.int .i64 ss[0].2))) := hs
   (apply wpAnyF_pure (i := 10) rfl (by kernel_rfl) (fun _ _ _ h => h); · first | exact .inr ⟨rfl, rfl⟩ | exact .inl ⟨rfl, fun w' => by go_simp; rfl⟩); simp only [Act.put, List.setIfInBounds_toArray, List.set_cons_succ, List.set_cons_zero, List.getElem_toArray, List.getElem_cons_succ, List.getElem_cons_zero]
   refine wpAnyF_one (i := 12) rfl ⟨by kernel_rfl, by kernel_rfl⟩ ?_
   intro K hK
   have y0 := B7.out.cell 0; have y1 := B7.out.cell 1; have y2 := B7.out.frozen 0; have y3 := B7.out.frozen 1; have y4 := B7.out.lt
   simp only [List.getElem?_toArray, List.getElem?_cons_zero, List.getElem?_cons_succ] at y0 y1
   go_simp
   refine shutN hK (by kernel_rfl) ?_
   refine wpAnyF_done (by kernel_rfl) ?_ _
   unfold NormP
   refine acts_of rfl ?_
   exact ⟨P7, rfl, rfl, rfl, rfl, rfl, nP7, (B7.out.set 0 _).set 1 _, (B6.out.other _ _ _ (by omega)).other _ _ _ (by omega), (HB.out.setCell (p := ⟨P7, 0, none⟩) (show w.heap.size ≤ P7 by omega) _).setCell (p := ⟨P7, 1, none⟩) (show w.heap.size ≤ P7 by omega) _⟩
 rintro a' W ⟨f, rfl, P7, f0, f1, f2, f6, f7, nP7, b7, b6', hB⟩
 rw [show (List.range 42).map f = [f 0, f 1, f 2, f 3, f 4, f 5, f 6, f 7, f 8, f 9, f 10, f 11, f 12, f 13, f 14, f 15, f 16, f 17, f 18, f 19, f 20, f 21, f 22, f 23, f 24, f 25, f 26, f 27, f 28, f 29, f 30, f 31, f 32, f 33, f 34, f 35, f 36, f 37, f 38, f 39, f 40, f 41] from rfl, f0, f1, f2, f6, f7]
 clear f0 f1 f2 f6 f7 b6 hB0 q0 q1 lb
 go_wp2_with fail
 go_loopw [23] (fun p W' => ∃ j : Nat, j ≤ ss.length ∧ p = .int .i64 j ∧ Box W' P7 #[.int .i64 ((ss.take j).foldl endF ss[0]).1, .int .i64 ((ss.take j).foldl endF ss[0]).2] 68 ∧ Box W' w.heap.size #[.int .i64 0, .int .i64 0] 68 ∧ Below w.heap.size w W') (fun p _ => ss.length - (intOf p).toNat)
 case atStart => exact ⟨0, by omega, rfl, b7, b6', hB⟩
 case round =>
  obtain ⟨j, hj, rfl, hb7, hb6, hBr⟩ := hrel
  by_cases hlt : j < ss.length
  ·obtain ⟨b', o', e', hc'⟩ := (H.out.below hBr) j hlt
   cases e'
   have r0 := hc' 0 _ rfl; have r1 := hc' 1 _ rfl
   simp only [Nat.add_zero] at r0 r1
   clear hc'
   have B7 := hid hb7; have B6 := hid hb6; have HB := hid hBr
   clear hb7 hb6 hBr
   have hf : (ss.take (j + 1)).foldl endF ss[0] = endF ((ss.take j).foldl endF ss[0]) ss[j] := by rw [List.take_succ_eq_append_getElem hlt, List.foldl_append]; rfl
   have HF := hid hf; clear hf
   obtain ⟨E, hE⟩ : ∃ E, (ss.take j).foldl endF ss[0] = E := ⟨_, rfl⟩
   rw [hE] at B7 HF
   clear hE
   obtain ⟨e1, e2⟩ := E
   obtain ⟨x, hx⟩ : ∃ x, ss[j] = x := ⟨_, rfl⟩
   rw [hx] at r0 r1 HF
   clear hx
   obtain ⟨x1, x2⟩ := x
   dsimp only at r0 r1 B7 HF
   have lr := cell_lt r0
   go_wp2_with fail
   refine wp_world (fun W => Box W P7 #[.int .i64 e1, .int .i64 e2] 68 ∧ Box W wr.heap.size #[.int .i64 x1, .int .i64 x2] 68 ∧ Box W w.heap.size #[.int .i64 0, .int .i64 0] 68 ∧ Below w.heap.size w W) ⟨B7.out.alloc _, Box.at _ _ rfl, B6.out.alloc _, HB.out.alloc HB.out.size _⟩ ?_
   have n79 : P7 ≠ wr.heap.size := by have := B7.out.lt; omega
   obtain ⟨P9, hP9⟩ : ∃ P, P = wr.heap.size := ⟨_, rfl⟩
   rw [← hP9] at n79 ⊢
   clear B7 B6 HB r0 r1 lr hP9
   rintro W1 ⟨b7, b9, b6, hB⟩
   have B7 := hid b7; have B9 := hid b9; have B6 := hid b6; have HB := hid hB
   have y0 : W1.cell? ⟨P7, 0, none⟩ = some (.int .i64 e1) := b7.cell 0
   have y1 : W1.cell? ⟨P7, 1, none⟩ = some (.int .i64 e2) := b7.cell 1
   have z0 : W1.cell? ⟨P9, 0, none⟩ = some (.int .i64 x1) := b9.cell 0
   have z1 : W1.cell? ⟨P9, 1, none⟩ = some (.int .i64 x2) := b9.cell 1
   clear b7 b9 b6 hB
   refine wp_region_F [1, 3, 7, 9] (fun w' => w'.cell? ⟨P7, 0, none⟩ = some (.int .i64 e1) ∧ w'.cell? ⟨P7, 1, none⟩ = some (.int .i64 e2) ∧ w'.cell? ⟨P9, 0, none⟩ = some (.int .i64 x1) ∧ w'.cell? ⟨P9, 1, none⟩ = some (.int .i64 x2)) hm ⟨y0, y1, z0, z1⟩ ?_
   intro hS0; have hS := hid hS0; clear hS0
   (apply wpAnyF_pure (i := 0) rfl (by kernel_rfl) (fun _ _ _ h => h); · first | exact .inr ⟨rfl, rfl⟩ | exact .inl ⟨rfl, fun w' => by go_simp; rfl⟩); simp only [Act.put, List.setIfInBounds_toArray, List.set_cons_succ, List.set_cons_zero, List.getElem_toArray, List.getElem_cons_succ, List.getElem_cons_zero]
   (apply wpAnyF_held (i := 1) rfl (by kernel_rfl) (fun _ _ _ h => h) hS.out; · first | exact .inr ⟨rfl, rfl⟩ | exact .inl ⟨rfl, fun w' hS' => by (obtain ⟨s1, s2, s3, s4⟩ := hS'; go_simp; rfl)⟩); simp only [Act.put, List.setIfInBounds_toArray, List.set_cons_succ, List.set_cons_zero, List.getElem_toArray, List.getElem_cons_succ, List.getElem_cons_zero]
   (apply wpAnyF_pure (i := 2) rfl (by kernel_rfl) (fun _ _ _ h => h); · first | exact .inr ⟨rfl, rfl⟩ | exact .inl ⟨rfl, fun w' => by go_simp; rfl⟩); simp only [Act.put, List.setIfInBounds_toArray, List.set_cons_succ, List.set_cons_zero, List.getElem_toArray, List.getElem_cons_succ, List.getElem_cons_zero]
   (apply wpAnyF_held (i := 3) rfl (by kernel_rfl) (fun _ _ _ h => h) hS.out; · first | exact .inr ⟨rfl, rfl⟩ | exact .inl ⟨rfl, fun w' hS' => by (obtain ⟨s1, s2, s3, s4⟩ := hS'; go_simp; rfl)⟩); simp only [Act.put, List.setIfInBounds_toArray, List.set_cons_succ, List.set_cons_zero, List.getElem_toArray, List.getElem_cons_succ, List.getElem_cons_zero]
   (apply wpAnyF_pure (i := 6) rfl (by kernel_rfl) (fun _ _ _ h => h); · first | exact .inr ⟨rfl, rfl⟩ | exact .inl ⟨rfl, fun w' => by go_simp; rfl⟩); simp only [Act.put, List.setIfInBounds_toArray, List.set_cons_succ, List.set_cons_zero, List.getElem_toArray, List.getElem_cons_succ, List.getElem_cons_zero]
   (apply wpAnyF_held (i := 7) rfl (by kernel_rfl) (fun _ _ _ h => h) hS.out; · first | exact .inr ⟨rfl, rfl⟩ | exact .inl ⟨rfl, fun w' hS' => by (obtain ⟨s1, s2, s3, s4⟩ := hS'; go_simp; rfl)⟩); simp only [Act.put, List.setIfInBounds_toArray, List.set_cons_succ, List.set_cons_zero, List.getElem_toArray, List.getElem_cons_succ, List.getElem_cons_zero]
   (apply wpAnyF_pure (i := 8) rfl (by kernel_rfl) (fun _ _ _ h => h); · first | exact .inr ⟨rfl, rfl⟩ | exact .inl ⟨rfl, fun w' => by go_simp; rfl⟩); simp only [Act.put, List.setIfInBounds_toArray, List.set_cons_succ, List.set_cons_zero, List.getElem_toArray, List.getElem_cons_succ, List.getElem_cons_zero]
   (apply wpAnyF_held (i := 9) rfl (by kernel_rfl) (fun _ _ _ h => h) hS.out; · first | exact .inr ⟨rfl, rfl⟩ | exact .inl ⟨rfl, fun w' hS' => by (obtain ⟨s1, s2, s3, s4⟩ := hS'; go_simp; rfl)⟩); simp only [Act.put, List.setIfInBounds_toArray, List.set_cons_succ, List.set_cons_zero, List.getElem_toArray, List.getElem_cons_succ, List.getElem_cons_zero]
   refine wpAnyF_one (i := 4) rfl ⟨by kernel_rfl, by kernel_rfl⟩ ?_
   intro K hK
   go_simp
   refine (spanLo_any _ _ _).mono ?_
   rintro e w4 ⟨rfl, hb4⟩
   have B7 := hid (B7.out.drew.below hb4 B7.out.lt); have B9 := hid (B9.out.drew.below hb4 B9.out.lt); have B6 := hid (B6.out.drew.below hb4 B6.out.lt); have HB := hid (HB.out.drew.trans (hb4.mono HB.out.size))
   clear hb4
   refine shutS hK ⟨B7.out.cell 0, B7.out.cell 1, B9.out.cell 0, B9.out.cell 1⟩ (fun hS => ?_)
   (apply wpAnyF_pure (i := 5) rfl (by kernel_rfl) (fun _ _ _ h => h); · first | exact .inr ⟨rfl, rfl⟩ | exact .inl ⟨rfl, fun w' => by go_simp; rfl⟩); simp only [Act.put, List.setIfInBounds_toArray, List.set_cons_succ, List.set_cons_zero, List.getElem_toArray, List.getElem_cons_succ, List.getElem_cons_zero]
   refine wpAnyF_one (i := 10) rfl ⟨by kernel_rfl, by kernel_rfl⟩ ?_
   intro K hK
   go_simp
   refine (spanHi_any _ _ _).mono ?_
   rintro e w10 ⟨rfl, hb10⟩
   have B7 := hid (B7.out.below hb10 B7.out.lt); have B9 := hid (B9.out.below hb10 B9.out.lt); have B6 := hid (B6.out.below hb10 B6.out.lt); have HB := hid (HB.out.trans (hb10.mono HB.out.size))
   clear hb10
   refine shutS hK ⟨B7.out.cell 0, B7.out.cell 1, B9.out.cell 0, B9.out.cell 1⟩ (fun hS => ?_)
   (apply wpAnyF_pure (i := 11) rfl (by kernel_rfl) (fun _ _ _ h => h); · first | exact .inr ⟨rfl, rfl⟩ | exact .inl ⟨rfl, fun w' => by go_simp; rfl⟩); simp only [Act.put, List.setIfInBounds_toArray, List.set_cons_succ, List.set_cons_zero, List.getElem_toArray, List.getElem_cons_succ, List.getElem_cons_zero]
   (apply wpAnyF_pure (i := 12) rfl (by kernel_rfl) (fun _ _ _ h => h); · first | exact .inr ⟨rfl, rfl⟩ | exact .inl ⟨rfl, fun w' => by go_simp; rfl⟩); simp only [Act.put, List.setIfInBounds_toArray, List.set_cons_succ, List.set_cons_zero, List.getElem_toArray, List.getElem_cons_succ, List.getElem_cons_zero]
   refine wpAnyF_one (i := 13) rfl ⟨by kernel_rfl, by kernel_rfl⟩ ?_
   intro K hK
   have v2 := B7.out.frozen 0; have v3 := B7.out.frozen 1; have v4 := B7.out.lt; have v0 := B7.out.cell 0; have v1 := B7.out.cell 1
   simp only [List.getElem?_toArray, List.getElem?_cons_zero, List.getElem?_cons_succ] at v0 v1
   go_simp
   refine shutN hK (by kernel_rfl) ?_
   refine wpAnyF_done (by kernel_rfl) ?_ _
   clear hS y0 y1 z0 z1 v0 v1 v2 v3 v4
   go_wp2_with fail
   refine ⟨⟨j + 1, by omega, by go_num, ?_, (B6.out.other _ _ _ (by omega)).other _ _ _ (by omega), (HB.out.setCell (p := ⟨P7, 0, none⟩) (show w.heap.size ≤ P7 by omega) _).setCell (p := ⟨P7, 1, none⟩) (show w.heap.size ≤ P7 by omega) _⟩, by simp [intOf]; omega⟩
   have g := (B7.out.set 0 (.int .i64 (min e1 x1))).set 1 (.int .i64 (max e2 x2))
   have m1 : (if x1 < e1 then x1 else e1) = min e1 x1 := by split <;> omega
   have m2 : (if e2 < x2 then x2 else e2) = max e2 x2 := by split <;> omega
   rw [HF.out]
   first | exact g | (rw [m1, m2]; exact g) | (simp only [m1, m2]; exact g)
  ·have B7 := hid hb7; have B6 := hid hb6; have HB := hid hBr
   have e7 : j = ss.length := by omega
   have y0 := hb7.cell 0; have y1 := hb7.cell 1
   have x2 := hb6.frozen 0; have x3 := hb6.frozen 1; have x4 := hb6.lt; have x0 := hb6.cell 0; have x1 := hb6.cell 1
   simp only [List.getElem?_toArray, List.getElem?_cons_zero, List.getElem?_cons_succ] at y0 y1 x0 x1
   clear hb7 hb6 hBr
   go_wp2_with fail
   subst e7
   rw [List.take_of_length_le (Nat.le_refl _)] at B7
   have he : endsL ss = ss.foldl endF ss[0] := by
    unfold endsL
    cases ss with
    | nil => exact absurd rfl hne
    | cons x t => rfl
   refine bodyPost_ret (v := .agg #[.int .i64 (endsL ss).1, .int .i64 (endsL ss).2]) ?_ rfl ⟨rfl, (HB.out.setCell (p := ⟨w.heap.size, 0, none⟩) (Nat.le_refl _) _).setCell (p := ⟨w.heap.size, 1, none⟩) (Nat.le_refl _) _⟩
   rw [he]
   simp [results, Tryd.results111, go_sem, x0, x1, x2, x3, x4]
end Go.Proofs.YthddoikmgpgakaaDoor
namespace Go.Proofs.YthddoikmgpgakaaDoor
open Go.RowKit Go.Proofs Go.Shelf
open Go.WideElems (Fit)
open Go.ChangeMaps (setBlock heap_setBlock_same heap_setBlock_other)
theorem PMap.store2 {w : World} {b A B : Nat} {V : Nat → Nat → Value → Prop} (h : PMap w b A B V) {t e : TypeId} (ht : (Tryd.prog).underlying t = some (.map 137 e)) {z : Value} (hz : ∀ w, (zeroValue e).run Tryd.prog w = .ok z w) {i k : Nat} (hA : A ≤ 4000) (hB : B ≤ 4000) (hi : i ≤ A) (hk : k ≤ B) {v : Value} (hv : V i k v) :
  ∃ w', (Instr.mapUpdate t (.map (some b)) (plc i k) v).run Tryd.prog w = .ok () w' ∧ PMap w' b A B V ∧ w.grownBy w' (some b) ∧ w'.heap.size = w.heap.size ∧ ∀ w2, w2.heap[b]? = w'.heap[b]? → (Instr.lookup t (.map (some b)) (plc i k) false).run Tryd.prog w2 = .ok v w2 := by
 obtain ⟨es, clock, h1, h2, h3⟩ := h
 have hsz := PMap.size (w := w) (b := b) h2 h3
 have hm : (A + 1) * (B + 1) ≤ 4001 * 4001 := Nat.mul_le_mul (by omega) (by omega)
 have hmax : maxLen = 9223372036854775807 := by rfl
 have hkey := key_place (i := i) (k := k) (by omega) (by omega)
 obtain ⟨es', clock', hr, F', hput, _, _, hw⟩ := Go.Maps.fit_store (R' := anyE) (val := v) keyed_place ht h1 h2 (by omega) (fun _ _ _ z hz => hz) hkey (yv := (.nil, [])) rfl
 refine ⟨_, hr, ⟨es', clock', heap_setBlock_same h1 _, F', fun x hx => ?_⟩, ⟨rfl, rfl, rfl, by simp [setBlock], fun j _ hj => heap_setBlock_other h1 _ (fun e => hj (by rw [e]))⟩, by simp [setBlock], fun w2 hw2 => ?_⟩
 ·rcases hw x hx with ⟨hx', _⟩ | ⟨hk', hv'⟩
  ·exact h3 x hx'
  ·exact ⟨i, k, hi, hk, hk', by rw [hv']; exact hv⟩
 ·rw [heap_setBlock_same h1] at hw2
  rcases Go.Maps.fit_look false keyed_place ht (hz w2) hw2 F' hkey with ⟨_, _, hno⟩ | ⟨e0, y, hm0, hk0, hr0, _⟩
  ·exfalso
   rw [hput] at hno
   have h0 := hno (.lit (.bool true))
   have h4 := Go.Maps.atKey_put_same (D := DataW.map ((es.toList.map (Go.WideElems.rg Tryd.prog 137 anyE)).foldr DataW.insert [])) (k := klit i k) ⟨_, rfl⟩ (keyed_place.key hkey) .nil (.lit (.bool true))
   rw [show DataW.put (DataW.map ((es.toList.map (Go.WideElems.rg Tryd.prog 137 anyE)).foldr DataW.insert [])) (klit i k) .nil = DataW.map (Go.ChangeMaps.putKey (klit i k) .nil ((es.toList.map (Go.WideElems.rg Tryd.prog 137 anyE)).foldr DataW.insert [])) from rfl] at h4
   rw [h4] at h0
   cases h0
  ·rcases hw e0 hm0 with ⟨_, hne⟩ | ⟨_, hv'⟩
   ·exact absurd hk0 hne
   ·rw [hr0, ← hv']; rfl
end Go.Proofs.YthddoikmgpgakaaDoor
namespace Go.Proofs.YthddoikmgpgakaaDoor
open Go.RowKit Go.Proofs Go.Shelf
attribute [local go_sem] Oper.semAt_some
def Worth (S : World → Prop) (fv : Value) (W : Int → Int) : Prop := ∃ k first caps, fv = .func (.func k) first caps ∧ (∀ args w, (callFunc k args).run Tryd.prog w = .ok (.enter k args) w) ∧
 ∀ (n : Int) (w : World), 0 ≤ n → n ≤ 4 → S w → Calls Tryd.prog k (first ++ #[.int .i64 n] ++ caps) w fun e w' => e = .returned (.int .i64 (W n)) ∧ Below w.heap.size w w'
def KnownS (W : Int → Int) (st fo : List Int) (i k : Nat) (v : Value) : Prop := ∃ lo hi, v = .agg #[.int .i64 lo, .int .i64 hi] ∧ IsSpan W (TrueL (st.drop i) (fo.drop k)) lo hi
def tellV (kb xb tb vb : Nat) : Value := .func (.func 109) #[] #[.pointer (some ⟨kb, 0, none⟩), .pointer (some ⟨xb, 0, none⟩), .pointer (some ⟨tb, 0, none⟩), .pointer (some ⟨vb, 0, none⟩)]
structure CB where
 kb : Nat
 xb : Nat
 tb : Nat
 vb : Nat
 pb : Nat
 eb : Nat
 qb : Nat
 M : Nat
 K : Nat
structure Tell (w : World) (c : CB) (a : Tl) (sa fa : Option Addr) (sc fc : Nat) (fv : Value) (W : Int → Int) (S : World → Prop) : Prop where
 known : Box w c.kb #[.map (some c.K)] 173
 x : Box w c.xb (pairC a.id a.hs a.st a.fo sa fa sc fc (leftV c.eb c.qb c.pb)) 134
 tell : Box w c.tb #[tellV c.kb c.xb c.tb c.vb] 174
 worth : Box w c.vb #[fv] 148
 half : Half w c.pb c.eb c.qb c.M a.id a.hs a.st a.fo sa fa sc fc
 map : PMap w c.K a.st.length a.fo.length (KnownS W a.st a.fo)
 s : S w
structure TellC (c : CB) (a : Tl) (fv : Value) (W : Int → Int) (S : World → Prop) (n0 : Nat) : Prop where
 ne : c.M ≠ c.K
 l1 : a.st.length ≤ 1000
 l2 : a.fo.length ≤ 1000
 o1 : okN a.st = true
 o2 : okN a.fo = true
 wf : Worth S fv W
 w0 : W 0 = 0
 wb : ∀ n, -1000 ≤ W n ∧ W n ≤ 1000
 sk : ∀ w w', S w → Keep (fun b => b < n0 ∧ b ≠ c.M ∧ b ≠ c.K) w w' → S w'
theorem sumW_bound {W : Int → Int} (wb : ∀ n, -1000 ≤ W n ∧ W n ≤ 1000) (l : List Int) : -(1000 * l.length : Int) ≤ sumW W l ∧ sumW W l ≤ 1000 * l.length := by
 induction l with
 | nil => simp [sumW]
 | cons x l ih =>
  have := wb x
  have e : sumW W (x :: l) = W x + sumW W l := by simp [sumW]
  rw [e, List.length_cons]
  omega
theorem span_bound {W : Int → Int} (wb : ∀ n, -1000 ≤ W n ∧ W n ≤ 1000) {s f : List Int} (hs : s.length ≤ 1000) (hf : f.length ≤ 1000) {lo hi : Int} (h : IsSpan W (TrueL s f) lo hi) : -2000000 ≤ lo ∧ lo ≤ 2000000 ∧ -2000000 ≤ hi ∧ hi ≤ 2000000 := by
 obtain ⟨l1, p1, e1⟩ := h.lo
 obtain ⟨l2, p2, e2⟩ := h.hi
 have := p1.length_le; have := p2.length_le
 have b1 := sumW_bound wb l1; have b2 := sumW_bound wb l2
 omega
theorem wrap_mid {n : Int} (h0 : -100000000 ≤ n) (h1 : n ≤ 100000000) : IntKind.i64.wrap n = n := by
 simp only [IntKind.wrap, IntKind.signed, IntKind.bits]
 simp
 omega
theorem step_notch {st fo : List Int} (hs : okN st = true) (hf : okN fo = true) {i k : Nat} {x : St} (hx : x ∈ stepsL st fo i k) {n : Int} (hn : n ∈ notchesL x) : 0 ≤ n ∧ n ≤ 4 := by
 have ok : ∀ {xs : List Int}, okN xs = true → ∀ {i : Nat} (hi : i < xs.length), 0 ≤ xs[i] ∧ xs[i] ≤ 4 := fun {xs} h {i} hi => by
  unfold okN at h
  rw [List.all_eq_true] at h
  have := h _ (List.getElem_mem hi)
  simp at this
  omega
 have hb : (0 ≤ x.s ∧ x.s ≤ 4) ∧ (0 ≤ x.f ∧ x.f ≤ 4) := by
  rw [stepsL, List.mem_append, List.mem_append] at hx
  rcases hx with hx | hx | hx
  ·by_cases hh : i < st.length ∧ k < fo.length
   ·rw [step1_yes hh.1 hh.2, List.mem_singleton] at hx
    subst hx
    exact ⟨ok hs hh.1, ok hf hh.2⟩
   ·rw [step1_no hh] at hx; cases hx
  ·by_cases hh : i < st.length
   ·rw [step2_yes k hh, List.mem_singleton] at hx
    subst hx
    exact ⟨ok hs hh, (show (0 : Int) ≤ 0 by omega), (show (0 : Int) ≤ 4 by omega)⟩
   ·rw [step2_no k hh] at hx; cases hx
  ·by_cases hh : k < fo.length
   ·rw [step3_yes i hh, List.mem_singleton] at hx
    subst hx
    exact ⟨⟨(show (0 : Int) ≤ 0 by omega), (show (0 : Int) ≤ 4 by omega)⟩, ok hf hh⟩
   ·rw [step3_no i hh] at hx; cases hx
 unfold notchesL at hn
 split at hn <;> simp at hn
 ·subst hn; exact hb.1
 ·rcases hn with rfl | rfl
  ·exact hb.1
  ·exact hb.2
theorem notchesL_len (x : St) : 1 ≤ (notchesL x).length ∧ (notchesL x).length ≤ 2 := by unfold notchesL; split <;> simp
theorem stepsL_le (st fo : List Int) (i k : Nat) : (stepsL st fo i k).length ≤ 3 := by
 have h1 : (step1 st fo i k).length ≤ 1 := by unfold step1; split <;> simp
 have h2 : (step2 st i k).length ≤ 1 := by unfold step2; split <;> simp
 have h3 : (step3 fo i k).length ≤ 1 := by unfold step3; split <;> simp
 unfold stepsL
 simp only [List.length_append]; omega
theorem Tell.keepZ {w w' : World} {c : CB} {a : Tl} {sa fa : Option Addr} {sc fc : Nat} {fv : Value} {W : Int → Int} {S : World → Prop} {Z : Nat → Prop} (h : Tell w c a sa fa sc fc fv W S) (kp : Keep Z w w') (hz : ∀ b, CellAt w b → Z b) (hM : PMap w' c.M a.st.length a.fo.length (Known a.st a.fo)) (hK : PMap w' c.K a.st.length a.fo.length (KnownS W a.st a.fo)) (hS : S w') :
  Tell w' c a sa fa sc fc fv W S :=
 ⟨kp.box (hz _ h.known.at_) h.known, kp.box (hz _ h.x.at_) h.x, kp.box (hz _ h.tell.at_) h.tell, kp.box (hz _ h.worth.at_) h.worth,
  ⟨kp.box (hz _ h.half.pair.at_) h.half.pair, kp.box (hz _ h.half.fin.at_) h.half.fin, kp.box (hz _ h.half.known.at_) h.half.known, hM, kp.rdI (fun hx _ hp => hz _ (rd_at h.half.s hx hp)) h.half.s, kp.rdI (fun hx _ hp => hz _ (rd_at h.half.f hx hp)) h.half.f⟩, hK, hS⟩
theorem Tell.below {w w' : World} {c : CB} {a : Tl} {sa fa : Option Addr} {sc fc : Nat} {fv : Value} {W : Int → Int} {S : World → Prop} {n0 : Nat} (hc : TellC c a fv W S n0) (h : Tell w c a sa fa sc fc fv W S) (hb : Below w.heap.size w w') : Tell w' c a sa fa sc fc fv W S :=
 h.keepZ (Keep.of_below (Z := fun b => b < w.heap.size) hb (fun _ _ h => h)) (fun b ⟨_, ho, _⟩ => (Array.getElem?_eq_some_iff.1 ho).1) (h.half.map.kept (hb.block _ h.half.map.lt)) (h.map.kept (hb.block _ h.map.lt))
  (hc.sk _ _ h.s (Keep.of_below hb (fun k hk _ => hk)))
def TellP (c : CB) (a : Tl) (W : Int → Int) (i k : Nat) (w : World) (e : Ending) (w' : World) : Prop := ∃ lo hi, e = .returned (.agg #[.int .i64 lo, .int .i64 hi]) ∧ IsSpan W (TrueL (a.st.drop i) (a.fo.drop k)) lo hi ∧ Keep (fun b => b ≠ c.M ∧ b ≠ c.K) w w' ∧ PMap w' c.M a.st.length a.fo.length (Known a.st a.fo) ∧ PMap w' c.K a.st.length a.fo.length (KnownS W a.st a.fo)
def ByS (a : Tl) (xs : List St) (l : List Int) : Prop := ∃ x ∈ xs, ∃ n ∈ notchesL x, ∃ r, TrueL (a.st.drop x.i) (a.fo.drop x.k) r ∧ l = preL n r
def ByN (a : Tl) (x : St) (ns : List Int) (l : List Int) : Prop := ∃ n ∈ ns, ∃ r, TrueL (a.st.drop x.i) (a.fo.drop x.k) r ∧ l = preL n r
theorem byS_snoc (a : Tl) (xs : List St) (x : St) (l : List Int) : ByS a (xs ++ [x]) l ↔ ByS a xs l ∨ ByN a x (notchesL x) l := by
 constructor
 ·rintro ⟨y, hy, h⟩
  rcases List.mem_append.1 hy with hy | hy
  ·exact .inl ⟨y, hy, h⟩
  ·rw [List.mem_singleton] at hy; subst hy; exact .inr h
 ·rintro (⟨y, hy, h⟩ | h)
  ·exact ⟨y, by simp [hy], h⟩
  ·exact ⟨x, by simp, h⟩
theorem byN_snoc (a : Tl) (x : St) (ns : List Int) (n : Int) (l : List Int) : ByN a x (ns ++ [n]) l ↔ ByN a x ns l ∨ ∃ r, TrueL (a.st.drop x.i) (a.fo.drop x.k) r ∧ l = preL n r := by
 constructor
 ·rintro ⟨y, hy, h⟩
  rcases List.mem_append.1 hy with hy | hy
  ·exact .inl ⟨y, hy, h⟩
  ·rw [List.mem_singleton] at hy; subst hy; exact .inr h
 ·rintro (⟨y, hy, h⟩ | h)
  ·exact ⟨y, by simp [hy], h⟩
  ·exact ⟨n, by simp, h⟩
theorem infoSpan : (Tryd.prog.info? 68).map (fun i => (i.zero, i.size, i.bytes)) = some (some (.agg #[.int .i64 0, .int .i64 0]), 2, 16) := by kernel_rfl
structure ComI (c : CB) (a : Tl) (sa fa : Option Addr) (sc fc : Nat) (fv : Value) (W : Int → Int) (S : World → Prop) (i k N : Nat) (w : World) (P : List Int → Prop) (m : Nat) (Q : Nat → Prop) (W' : World) : Prop where
 p5 : Box W' N #[.int .i64 i, .int .i64 k] 137
 p6 : Box W' (N + 1) #[.int .i64 0, .int .i64 0] 68
 l9 : ∃ ss la lc, Box W' (N + 4) #[.slice la ss.length lc] 176 ∧ W'.ownsRow (N + 3) 68 2 (.slice la ss.length lc) ss.length (rowC spC ss) ∧ SpanAcc W P ss ∧ ss.length ≤ m ∧ ∀ g, (Value.slice la ss.length lc).ownBlock = some g → ¬ Q g
 tell : Tell W' c a sa fa sc fc fv W S
 kp : Keep (fun b => b < N ∧ b ≠ c.M ∧ b ≠ c.K) w W'
theorem ComI.keepZ {c : CB} {a : Tl} {sa fa : Option Addr} {sc fc : Nat} {fv : Value} {W : Int → Int} {S : World → Prop} {n0 i k N m : Nat} {w W1 W2 : World} {P : List Int → Prop} {Q Z : Nat → Prop} (hc : TellC c a fv W S n0) (hn : n0 ≤ N) (h : ComI c a sa fa sc fc fv W S i k N w P m Q W1) (kp : Keep Z W1 W2) (hz : ∀ b, CellAt W1 b → Z b) (h0 : ∀ b, b < N → b ≠ c.M → b ≠ c.K → Z b)
  (hM : PMap W2 c.M a.st.length a.fo.length (Known a.st a.fo)) (hK : PMap W2 c.K a.st.length a.fo.length (KnownS W a.st a.fo)) : ComI c a sa fa sc fc fv W S i k N w P m Q W2 := by
 obtain ⟨ss, la, lc, g1, g2, g3, g4⟩ := h.l9
 exact ⟨kp.box (hz _ h.p5.at_) h.p5, kp.box (hz _ h.p6.at_) h.p6, ⟨ss, la, lc, kp.box (hz _ g1.at_) g1, own_kp' g2 kp (fun g hg => hz _ (own_at g2 g hg)), g3, g4⟩,
  h.tell.keepZ kp hz hM hK (hc.sk _ _ h.tell.s (kp.mono (fun b _ hb => h0 b (by have := hb.1; omega) hb.2.1 hb.2.2))), h.kp.trans (kp.mono (fun b _ hb => h0 b hb.1 hb.2.1 hb.2.2))⟩
theorem ComI.iff {c : CB} {a : Tl} {sa fa : Option Addr} {sc fc : Nat} {fv : Value} {W : Int → Int} {S : World → Prop} {i k N m m' : Nat} {w W1 : World} {P P' : List Int → Prop} {Q Q' : Nat → Prop} (h : ComI c a sa fa sc fc fv W S i k N w P m Q W1) (hq : ∀ x, P x ↔ P' x) (hm : m ≤ m') (hQ : ∀ g, N + 3 ≤ g → g < W1.heap.size → ¬ Q g → ¬ Q' g) : ComI c a sa fa sc fc fv W S i k N w P' m' Q' W1 := by
 obtain ⟨ss, la, lc, g1, g2, g3, g4, g5⟩ := h.l9
 exact ⟨h.p5, h.p6, ⟨ss, la, lc, g1, g2, g3.iff hq, by omega, fun g hg => hQ g (g2.lt g hg).1 (g2.lt g hg).2 (g5 g hg)⟩, h.tell, h.kp⟩
theorem ComI.below {c : CB} {a : Tl} {sa fa : Option Addr} {sc fc : Nat} {fv : Value} {W : Int → Int} {S : World → Prop} {n0 i k N m : Nat} {w W1 W2 : World} {P : List Int → Prop} {Q : Nat → Prop} (hc : TellC c a fv W S n0) (hn : n0 ≤ N) (h : ComI c a sa fa sc fc fv W S i k N w P m Q W1) (hN : N ≤ W1.heap.size) (hb : Below W1.heap.size W1 W2) : ComI c a sa fa sc fc fv W S i k N w P m Q W2 :=
 h.keepZ hc hn (Keep.of_below (Z := fun b => b < W1.heap.size) hb (fun _ _ h => h)) (fun b ⟨_, ho, _⟩ => (Array.getElem?_eq_some_iff.1 ho).1) (fun b hb _ _ => show b < W1.heap.size by omega) (h.tell.half.map.kept (hb.block _ h.tell.half.map.lt)) (h.tell.map.kept (hb.block _ h.tell.map.lt))
theorem KpB.of_keepZ {R : Nat → Prop} {M : Nat} {st fo : List Int} {W W' : World} {Z : Nat → Prop} (kp : Keep Z W W') (hz : ∀ b, CellAt W b → Z b) (hR : ∀ b, R b → Z b) (hm : PMap W M st.length fo.length (Known st fo) → PMap W' M st.length fo.length (Known st fo)) : KpB R M st fo W W' :=
 ⟨kp.os, kp.tape, kp.output, kp.size, fun b cs t hb _ => kp.box (hz _ hb.at_) hb, fun k hk hr => kp.block k hk (hR k hr), hm⟩
structure ComB (c : CB) (a : Tl) (sa fa : Option Addr) (sc fc : Nat) (fv : Value) (W : Int → Int) (S : World → Prop) (i k N : Nat) (w : World) (P : List Int → Prop) (m : Nat) (Q : Nat → Prop) (L : Nat) (W1 : World) (p11 : Nat) (lo hi : Int) (na : Option Addr) (ns : List Int) (ss : List (Int × Int)) (la : Option Addr) (lc : Nat) (W' : World) : Prop where
 com : ComI c a sa fa sc fc fv W S i k N w P m Q W'
 b11 : Box W' p11 #[.int .i64 lo, .int .i64 hi] 68
 rn : RdI W' na ns
 kb : KpB (fun b => b < N ∧ b ≠ c.M ∧ b ≠ c.K) c.M a.st a.fo W1 W'
 kf : KeepsFrom L W1 W'
 z : W1.heap.size ≤ W'.heap.size
 g1 : Box W' (N + 4) #[.slice la ss.length lc] 176
 g2 : W'.ownsRow (N + 3) 68 2 (.slice la ss.length lc) ss.length (rowC spC ss)
 g3 : ∀ g, (Value.slice la ss.length lc).ownBlock = some g → ¬ Q g
theorem ComB.below {c : CB} {a : Tl} {sa fa : Option Addr} {sc fc : Nat} {fv : Value} {W : Int → Int} {S : World → Prop} {n0 i k N m L p11 : Nat} {w W1 W2 W3 : World} {P : List Int → Prop} {Q : Nat → Prop} {lo hi : Int} {na : Option Addr} {ns : List Int} {ss : List (Int × Int)} {la : Option Addr} {lc : Nat} (hc : TellC c a fv W S n0) (hn : n0 ≤ N) (h : ComB c a sa fa sc fc fv W S i k N w P m Q L W1 p11 lo hi na ns ss la lc W2) (hN : N ≤ W2.heap.size) (hb : Below W2.heap.size W2 W3) : ComB c a sa fa sc fc fv W S i k N w P m Q L W1 p11 lo hi na ns ss la lc W3 :=
 ⟨h.com.below hc hn hN hb, h.b11.below hb h.b11.lt, h.rn.below hb, h.kb.trans (KpB.of_keepZ (Keep.of_below (Z := fun b => b < W2.heap.size) hb (fun _ _ h => h)) (fun b ⟨_, ho, _⟩ => (Array.getElem?_eq_some_iff.1 ho).1) (fun b hb => by have := hb.1; show b < W2.heap.size; omega) (fun h => h.kept (hb.block _ h.lt))), h.kf.trans (kf_below hb), Nat.le_trans h.z hb.size, h.g1.below hb h.g1.lt, own_below h.g2 hb (Nat.le_refl _), h.g3⟩
structure TellLt (c : CB) (N : Nat) : Prop where
 kb : c.kb < N
 xb : c.xb < N
 tb : c.tb < N
 vb : c.vb < N
 pb : c.pb < N
 eb : c.eb < N
 qb : c.qb < N
 M : c.M < N
 K : c.K < N
theorem Tell.low {w w' : World} {c : CB} {a : Tl} {sa fa : Option Addr} {sc fc : Nat} {fv : Value} {W : Int → Int} {S : World → Prop} {n0 N : Nat} (hc : TellC c a fv W S n0) (hn : n0 ≤ N) (h : Tell w c a sa fa sc fc fv W S) (hlt : TellLt c N) (r3 : a.st ≠ [] → ∀ {p : Addr}, sa = some p → p.block < N) (r4 : a.fo ≠ [] → ∀ {p : Addr}, fa = some p → p.block < N) (kp : Keep (· < N) w w') : Tell w' c a sa fa sc fc fv W S :=
 ⟨kp.box hlt.kb h.known, kp.box hlt.xb h.x, kp.box hlt.tb h.tell, kp.box hlt.vb h.worth,
  ⟨kp.box hlt.pb h.half.pair, kp.box hlt.eb h.half.fin, kp.box hlt.qb h.half.known, kp.pmap hlt.M h.half.map, kp.rdI (fun hx p hp => r3 hx hp) h.half.s, kp.rdI (fun hx p hp => r4 hx hp) h.half.f⟩, kp.pmap hlt.K h.map, hc.sk _ _ h.s (kp.mono (fun b _ hb => by have := hb.1; show b < N; omega))⟩
theorem tell_step (c : CB) (a : Tl) (sa fa : Option Addr) (sc fc : Nat) (fv : Value) (W : Int → Int) (S : World → Prop) (n0 : Nat) (hc : TellC c a fv W S n0) (i k : Nat) (hi : i ≤ a.st.length) (hk : k ≤ a.fo.length)
  (ih : ∀ i' k' w', i' ≤ a.st.length → k' ≤ a.fo.length → (a.st.length - i') + (a.fo.length - k') < (a.st.length - i) + (a.fo.length - k) → n0 ≤ w'.heap.size → Tell w' c a sa fa sc fc fv W S →
   Calls Tryd.prog 109 #[plc i' k', .pointer (some ⟨c.kb, 0, none⟩), .pointer (some ⟨c.xb, 0, none⟩), .pointer (some ⟨c.tb, 0, none⟩), .pointer (some ⟨c.vb, 0, none⟩)] w' (TellP c a W i' k' w'))
  (w : World) (hn0 : n0 ≤ w.heap.size) (hT : Tell w c a sa fa sc fc fv W S) :
  Calls Tryd.prog 109 #[plc i k, .pointer (some ⟨c.kb, 0, none⟩), .pointer (some ⟨c.xb, 0, none⟩), .pointer (some ⟨c.tb, 0, none⟩), .pointer (some ⟨c.vb, 0, none⟩)] w (TellP c a W i k w) := by
 have hm := mixedS
 obtain ⟨i0, hi0, iz0, iz1, iz2⟩ := info_parts infoSpan
 have IH := hid ih; clear ih
 have hc' := hc
 obtain ⟨kf, first, caps, rfl, eg, hcall⟩ := hc'.wf
 have EG := hid eg; have HC := hid hcall
 clear eg hcall hc'
 have HT := hid hT
 have k0 : w.cell? ⟨c.kb, 0, none⟩ = some (.map (some c.K)) := hT.known.cell 0
 have lk := hT.known.lt
 have hlk := (hT.map.alloc (.cells #[.int .i64 i, .int .i64 k] 137)).alloc (.cells #[.int .i64 0, .int .i64 0] 68)
 have hlk := hlk.look (t := 173) (e := 68) Tryd.underlying173 (z := .agg #[.int .i64 0, .int .i64 0]) (Tryd.zeroValue68 _) (i := i) (k := k) (by have := hc.l1; omega) (by have := hc.l2; omega)
 clear hT
 apply (callsIn_wide (n := 4)).1
 refine callsIn_of_wp_marks Tryd.func109 rfl trivial ?_ rfl
 simp only [Tryd.ntmps109, List.size_toArray, List.length_cons, List.length_nil, Nat.reduceAdd, Nat.reduceSub, Array.replicate_succ, Array.replicate_zero, List.push_toArray, List.append_toArray, List.nil_append, List.cons_append]
 unfold plc at hlk ⊢
 rcases hlk with hrun | ⟨v, ⟨lo, hi2, rfl, hsp⟩, hrun⟩
 ·have x0 : w.cell? ⟨c.xb, 0, none⟩ = some (.int .i64 a.id) := HT.out.x.cell 0
  have x1 : w.cell? ⟨c.xb, 1, none⟩ = some (.int .i64 a.hs) := HT.out.x.cell 1
  have x2 : w.cell? ⟨c.xb, 2, none⟩ = some (.slice sa a.st.length sc) := HT.out.x.cell 2
  have x3 : w.cell? ⟨c.xb, 3, none⟩ = some (.slice fa a.fo.length fc) := HT.out.x.cell 3
  have x4 : w.cell? ⟨c.xb, 4, none⟩ = some (leftV c.eb c.qb c.pb) := HT.out.x.cell 4
  have lx := HT.out.x.lt
  have lx1 : c.xb < w.heap.size + 1 := by omega
  have lx2 : c.xb < w.heap.size + 1 + 1 := by omega
  have lx3 : c.xb < w.heap.size + 1 + 1 + 1 := by omega
  have lx4 : c.xb < w.heap.size + 1 + 1 + 1 + 1 := by omega
  gi_wp2_with (fail)
  refine ⟨trivial, ?_⟩
  gi_at_call 87
  refine (callsIn_wide.2 (best_any #[.int .i64 a.id, .int .i64 a.hs, .slice sa a.st.length sc, .slice fa a.fo.length fc, leftV c.eb c.qb c.pb] i k _ rfl)).mono ?_
  rintro e w3 ⟨rfl, rfl⟩
  gi_wp2_with (fail)
  obtain ⟨N, hN⟩ : ∃ N, N = w.heap.size := ⟨_, rfl⟩
  refine wpIn_world (fun wL => Box wL N #[.int .i64 i, .int .i64 k] 137 ∧ Box wL (N + 1) #[.int .i64 0, .int .i64 0] 68 ∧ wL.ownsRow (N + 3) 68 2 (.slice (some ⟨N + 3, 0, none⟩) 0 0) 0 [] ∧ Box wL (N + 4) #[.slice (some ⟨N + 3, 0, none⟩) 0 0] 176 ∧ Box wL (N + 5) (pairC a.id a.hs a.st a.fo sa fa sc fc (leftV c.eb c.qb c.pb)) 134 ∧ Box wL (N + 6) #[.int .i64 i, .int .i64 k] 137 ∧ Below w.heap.size w wL ∧ N + 7 ≤ wL.heap.size) ⟨?_, ?_, ?_, ?_, ?_, ?_, ?_, ?_⟩ ?_
  ·rw [hN]; exact ((((((Box.at _ _ yL).alloc _).alloc _).alloc _).alloc _).alloc _).alloc _
  ·rw [hN]; exact (((((Box.at _ _ yL).alloc _).alloc _).alloc _).alloc _).alloc _
  ·rw [hN]; exact (((own_lit yL (Nat.le_refl _) (by omega) rfl rfl).alloc _).alloc _).alloc _
  ·rw [hN]; exact ((Box.at _ _ yL).alloc _).alloc _
  ·rw [hN]; exact (Box.at _ _ yL).alloc _
  ·rw [hN]; exact Box.at _ _ yL
  ·exact goBl
  ·rw [hN]; simp
  rintro wL ⟨b5, b6, o9, b9, bC, bD, hbL, zL⟩
  rw [← hN]
  have hMN : c.M < N := by have := HT.out.half.map.lt; omega
  have hKN : c.K < N := by have := HT.out.map.lt; omega
  have hn : n0 ≤ N := by omega
  have kpL : Keep (fun b => b < N ∧ b ≠ c.M ∧ b ≠ c.K) w wL := Keep.of_below hbL (fun b _ hb => by have := hb.1; omega)
  have tL := HT.out.below hc hbL
  have I0 : ComI c a sa fa sc fc (.func (.func kf) first caps) W S i k N w (fun l => ByS a [] l) 0 (fun _ => False) wL := ⟨b5, b6, ⟨[], _, 0, b9, o9, .nil (fun l ⟨_, h, _⟩ => by cases h), Nat.le_refl _, fun _ _ h => h⟩, tL, kpL⟩
  have hH := tL.half
  clear hrun k0 lk x0 x1 x2 x3 x4 lx lx1 lx2 lx3 lx4 b5 b6 o9 b9 hbL kpL
  have hLT : TellLt c N := ⟨by have := HT.out.known.lt; omega, by have := HT.out.x.lt; omega, by have := HT.out.tell.lt; omega, by have := HT.out.worth.lt; omega, by have := HT.out.half.pair.lt; omega, by have := HT.out.half.fin.lt; omega, by have := HT.out.half.known.lt; omega, hMN, hKN⟩
  have R3 := fun hx {p} => row_lt (p := p) HT.out.half.s hx; have R4 := fun hx {p} => row_lt (p := p) HT.out.half.f hx
  rw [← hN] at R3 R4
  have HN := hid hN
  clear hN
  refine wpIn_range_X rfl (by omega) (gf := 108) (lb := #[.pointer (some ⟨N + 5, 0, none⟩), .pointer (some ⟨N + 6, 0, none⟩)]) rfl trivial (enters_of Tryd.func108 (by kernel_rfl) rfl)
   (best1_stops (N + 5) (N + 6) c.pb c.eb c.qb c.M a.id a.hs a.st a.fo sa fa sc fc i k hi hk (by have := hc.l1; omega) (by have := hc.l2; omega) (fun b => b < N ∧ b ≠ c.M ∧ b ≠ c.K) (fun h => h.2.1 rfl) (fun hx p hp => ⟨R3 hx hp, hH.map.ne_row hH.s hx hp, tL.map.ne_row hH.s hx hp⟩) (fun hx p hp => ⟨R4 hx hp, hH.map.ne_row hH.f hx hp, tL.map.ne_row hH.f hx hp⟩) wL bC bD hH)
   (fun h k => h.trans k) ?kb (Below.refl _ _) (fun _ => rfl) ?hSt
   (fun pre W' => ComI c a sa fa sc fc (.func (.func kf) first caps) W S i k N w (fun l => ByS a (pre.map (·.1)) l) (2 * pre.length) (fun _ => False) W' ∧ wL.heap.size ≤ W'.heap.size)
   (fun _ _ _ => False) ?hI ?hIx ⟨I0, Nat.le_refl _⟩
   (fun x a' W' => ∃ Bx, wL.heap.size ≤ Bx ∧ Box W' Bx #[.int .i64 x.1.i, .int .i64 x.1.k, .int .i64 x.1.s, .int .i64 x.1.f, .int .i64 x.1.wr] 142 ∧ ∃ f : Nat → Value, a' = ⟨((List.range 66).map f).toArray, []⟩ ∧ f 3 = .pointer (some ⟨c.tb, 0, none⟩) ∧ f 4 = .pointer (some ⟨c.vb, 0, none⟩) ∧ f 9 = .pointer (some ⟨N + 4, 0, none⟩) ∧ f 10 = .pointer (some ⟨Bx, 0, none⟩)) ?hAx ?assign ?body ?done ?stop
  case kb =>
   intro W1 l1 o o' hl1 ho hco _
   have k1 : Keep (· ≠ l1) W1 (W1.putObj l1 o') := (Keep.refl _ _).putObj _ _ (fun _ h => h rfl)
   exact KpB.of_keepZ k1 (fun b hb e => by subst e; obtain ⟨o2, h2, h3⟩ := hb; rw [ho] at h2; cases h2; rw [hco] at h3; cases h3) (fun b hb => show b ≠ l1 by have := hb.1; omega) (fun h => h.kept (World.putObj_heap_other (show c.M ≠ l1 by omega)))
  case hSt => exact fun A B h => keepsFrom_of h.1 (show c.M < wL.heap.size by omega)
  case hI =>
   refine ⟨?_, ?_⟩
   ·rintro pre W1 W2 row ⟨I1, z1⟩ hg hr
    have hrc : ∀ r, row = some r → ∃ o : Obj, W1.heap[r]? = some o ∧ o.isCells = false := fun r e => (hr r e).2
    have hlt : ∀ b, b < N → row ≠ some b := fun b hb e => by have := (hr b e).1; omega
    exact ⟨I1.keepZ hc hn (keep_of_grown hg) (fun b hb => cell_not_row hrc hb) (fun b hb _ _ => hlt b hb) (I1.tell.half.map.kept (hg.block c.M I1.tell.half.map.lt (fun e => hlt _ hMN e.symm))) (I1.tell.map.kept (hg.block c.K I1.tell.map.lt (fun e => hlt _ hKN e.symm))), Nat.le_trans z1 hg.size⟩
   ·rintro pre W1 W2 ⟨I1, z1⟩ ⟨hk, hp⟩
    exact ⟨I1.keepZ hc hn hk (fun b hb => map_not_cell I1.tell.half.map hb) (fun b _ hb _ => hb) (hp I1.tell.half.map) (hk.pmap (show c.K ≠ c.M from Ne.symm hc.ne) I1.tell.map), Nat.le_trans z1 hk.size⟩
  case hIx => exact fun _ => ⟨fun _ _ _ _ h _ _ => h, fun _ _ _ h _ => h⟩
  case hAx =>
   rintro x a' _ W1 W2 row ⟨Bx, hB, hb, hf⟩ hg hr
   exact ⟨Bx, hB, box_own hb hg (fun r e => (hr r e).2), hf⟩
  case assign =>
   rintro l2 pre ⟨x, hx⟩ W1 K ⟨I1, z1⟩ hK
   simp only [St.val]
   gi_wp2
   have k1 := (Keep.refl (fun b => b < W1.heap.size) W1).alloc (.cells #[.int .i64 x.i, .int .i64 x.k, .int .i64 x.s, .int .i64 x.f, .int .i64 x.wr] 142)
   refine hK _ _ ((KeepsOthers.alloc _ _).from _) (KpB.of_keepZ k1 (fun b ⟨_, ho, _⟩ => (Array.getElem?_eq_some_iff.1 ho).1) (fun b hb => by have := hb.1; show b < W1.heap.size; omega) (fun h => h.alloc _)) ⟨I1.keepZ hc hn k1 (fun b ⟨_, ho, _⟩ => (Array.getElem?_eq_some_iff.1 ho).1) (fun b hb _ _ => by show b < W1.heap.size; omega) (I1.tell.half.map.alloc _) (I1.tell.map.alloc _), by simp; omega⟩ ⟨W1.heap.size, z1, Box.new _ _ _, ?_⟩
   refine acts_of rfl ?_
   exact ⟨rfl, rfl, rfl, rfl⟩
  case body =>
   rintro l2 pre ⟨x, hx⟩ a' W1 hl' ⟨r, hr⟩ ⟨I1, z1⟩ ⟨Bx, hBx, bX, f, rfl, f3, f4, f9, f10⟩ hlt2
   obtain ⟨b1, b2, b3, b4, b5⟩ := step_bound hx hi hk
   rw [show (List.range 66).map f = [f 0, f 1, f 2, f 3, f 4, f 5, f 6, f 7, f 8, f 9, f 10, f 11, f 12, f 13, f 14, f 15, f 16, f 17, f 18, f 19, f 20, f 21, f 22, f 23, f 24, f 25, f 26, f 27, f 28, f 29, f 30, f 31, f 32, f 33, f 34, f 35, f 36, f 37, f 38, f 39, f 40, f 41, f 42, f 43, f 44, f 45, f 46, f 47, f 48, f 49, f 50, f 51, f 52, f 53, f 54, f 55, f 56, f 57, f 58, f 59, f 60, f 61, f 62, f 63, f 64, f 65] from rfl, f3, f4, f9, f10]
   clear f3 f4 f9 f10
   have y0 : W1.cell? ⟨c.tb, 0, none⟩ = some (tellV c.kb c.xb c.tb c.vb) := I1.tell.tell.cell 0
   have x0 : W1.cell? ⟨Bx, 0, none⟩ = some (.int .i64 x.i) := bX.cell 0
   have x1 : W1.cell? ⟨Bx, 1, none⟩ = some (.int .i64 x.k) := bX.cell 1
   have II := hid I1; have BB := hid bX
   clear I1 bX
   unfold tellV at y0
   gi_wp2_with (fail)
   refine ⟨trivial, ?_⟩
   gi_at_call 109
   refine (CallsIn.inRound l2 (callsIn_wide.2 (IH.out x.i x.k W1 b1 b2 b3 (by omega) II.out.tell))).mono ?_
   rintro e w5 ⟨lo, hi5, rfl, hsp, kp5, hM5, hK5⟩
   have hcel : ∀ b, CellAt W1 b → b ≠ c.M ∧ b ≠ c.K := fun b hb => ⟨map_not_cell II.out.tell.half.map hb, map_not_cell II.out.tell.map hb⟩
   have I5 := hid (II.out.keepZ hc hn kp5 hcel (fun b _ h1 h2 => ⟨h1, h2⟩) hM5 hK5)
   have B5 := hid (kp5.box (hcel _ BB.out.at_) BB.out)
   have KB5 : KpB (fun b => b < N ∧ b ≠ c.M ∧ b ≠ c.K) c.M a.st a.fo W1 w5 := KpB.of_keepZ kp5 hcel (fun b hb => hb.2) (fun _ => hM5)
   have KF5 : KeepsFrom wL.heap.size W1 w5 := ⟨kp5.size, fun q o hB hq _ => (kp5.block q (Array.getElem?_eq_some_iff.1 hq).1 ⟨by omega, by omega⟩).trans hq⟩
   have z5 := kp5.size
   have sb := span_bound hc.wb (by have := hc.l1; simp; omega) (by have := hc.l2; simp; omega) hsp
   clear kp5 hM5 hK5 hcel x0 x1 y0
   obtain ⟨⟨v0, v1, v2, v3, v4⟩, lv⟩ : (w5.cell? ⟨Bx, 0, none⟩ = some (.int .i64 x.i) ∧ w5.cell? ⟨Bx, 1, none⟩ = some (.int .i64 x.k) ∧ w5.cell? ⟨Bx, 2, none⟩ = some (.int .i64 x.s) ∧ w5.cell? ⟨Bx, 3, none⟩ = some (.int .i64 x.f) ∧ w5.cell? ⟨Bx, 4, none⟩ = some (.int .i64 x.wr)) ∧ Bx < w5.heap.size := ⟨⟨B5.out.cell 0, B5.out.cell 1, B5.out.cell 2, B5.out.cell 3, B5.out.cell 4⟩, B5.out.lt⟩
   gi_wp2_with (fail)
   refine ⟨trivial, ?_⟩
   gi_at_call 110
   refine (CallsIn.inRound l2 (callsIn_wide.2 (notches_step x _))).mono ?_
   rintro e w6 ⟨na, nc, rfl, hna, hb6, hnf⟩
   obtain ⟨p11, hp11⟩ : ∃ p, p = w5.heap.size := ⟨_, rfl⟩
   obtain ⟨L6, hL6⟩ : ∃ L, L = w6.heap.size := ⟨_, rfl⟩
   have B11 := hid ((Box.at (w := w5) #[.int .i64 lo, .int .i64 hi5] 68 hp11).below hb6 (by simp; omega))
   have hb65 : Below w5.heap.size w5 w6 := ((Below.refl _ w5).alloc (Nat.le_refl _) _).trans (hb6.mono (by simp))
   have kp6 : Keep (fun b => b < w5.heap.size) w5 w6 := Keep.of_below hb65 (fun _ _ h => h)
   have cel6 : ∀ b, CellAt w5 b → b < w5.heap.size := fun b ⟨_, ho, _⟩ => (Array.getElem?_eq_some_iff.1 ho).1
   have hNW : N + 7 ≤ w5.heap.size := by omega
   have I5q := I5.out.iff (Q' := fun b => p11 ≤ b ∧ b < L6) (fun _ => Iff.rfl) (Nat.le_refl _) (fun g _ hg _ hq => by have := hq.1; omega)
   have I6 := hid (I5q.keepZ hc hn kp6 cel6 (fun b hb _ _ => show b < w5.heap.size by omega) (I5.out.tell.half.map.kept (hb65.block _ I5.out.tell.half.map.lt)) (I5.out.tell.map.kept (hb65.block _ I5.out.tell.map.lt)))
   have KB6 := KB5.trans (KpB.of_keepZ kp6 cel6 (fun b hb => by have := hb.1; show b < w5.heap.size; omega) (fun h => h.kept (hb65.block _ h.lt)))
   have KF6 := KF5.trans (kf_below (B := wL.heap.size) hb65)
   have RN := hid hna
   have np : N + 7 ≤ p11 := by omega
   have pL : p11 < L6 := by have := B11.out.lt; omega
   have pz : W1.heap.size ≤ p11 := by omega
   have hnq : ∀ p, na = some p → p11 ≤ p.block ∧ p.block < L6 := fun p e => ⟨by have := hnf p e; simp at this; omega, by rw [hL6]; exact row_lt hna (List.ne_nil_of_length_pos (by have := notchesL_len x; omega)) e⟩
   have zL6 : L6 ≤ w6.heap.size := by omega
   rw [← hp11]
   clear hp11 hL6 hb6 hb65 kp6 cel6 KB5 KF5 v0 v1 v2 v3 v4 lv hna I5 B5 I5q hnf
   have nl := notchesL_len x
   gi_wp2_with (fail)
   gi_loopw [34] (fun p wr => ∃ j : Nat, j ≤ (notchesL x).length ∧ p = .int .i64 j ∧ ComI c a sa fa sc fc (.func (.func kf) first caps) W S i k N w (fun l => ByS a (pre.map (·.1)) l ∨ ByN a x ((notchesL x).take j) l) (2 * pre.length + j) (fun b => p11 ≤ b ∧ b < L6) wr ∧ Box wr p11 #[.int .i64 lo, .int .i64 hi5] 68 ∧ RdI wr na (notchesL x) ∧ KpB (fun b => b < N ∧ b ≠ c.M ∧ b ≠ c.K) c.M a.st a.fo W1 wr ∧ KeepsFrom wL.heap.size W1 wr ∧ L6 ≤ wr.heap.size) (fun p _ => (notchesL x).length - (intOf p).toNat)
   case atStart => exact ⟨0, Nat.zero_le _, rfl, I6.out.iff (fun l => ⟨.inl, fun h => h.resolve_right (fun ⟨_, h, _⟩ => by simp at h)⟩) (by omega) (fun _ _ _ h => h), B11.out, RN.out, KB6, KF6, zL6⟩
   case round =>
    clear I6 B11 RN KB6 KF6 zL6
    obtain ⟨j, hj, rfl, J, b11, rn, kb, kf', zr⟩ := hrel
    by_cases hlt : j < (notchesL x).length
    ·obtain ⟨bn, on, rfl, cn⟩ := rn j hlt
     have hnn := step_notch hc.o1 hc.o2 hx (List.getElem_mem hlt)
     have JJ := hid J; have B11 := hid b11; have RN := hid rn; have KB := hid kb; have KF := hid kf'
     obtain ⟨ss, la, lc, g1, g2, g3, g4, g5⟩ := J.l9
     have q0 : wr.cell? ⟨N + 4, 0, none⟩ = some (.slice la ss.length lc) := g1.cell 0
     have q1 : wr.cell? ⟨c.vb, 0, none⟩ = some (.func (.func kf) first caps) := J.tell.worth.cell 0
     have q2 : wr.cell? ⟨p11, 0, none⟩ = some (.int .i64 lo) := b11.cell 0
     have q3 : wr.cell? ⟨p11, 1, none⟩ = some (.int .i64 hi5) := b11.cell 1
     have G1 := hid g1; have G2 := hid g2; have G3 := hid g3
     have lcn := cell_lt cn
     clear J b11 rn kb kf' g1 g2 g3
     obtain ⟨n, hne⟩ : ∃ n, (notchesL x)[j] = n := ⟨_, rfl⟩
     rw [hne] at cn hnn
     have wbn := hc.wb n
     have hw1 := wrap_mid (n := W n + lo) (by omega) (by omega)
     have hw2 := wrap_mid (n := W n + hi5) (by omega) (by omega)
     gi_wp2_with (fail)
     refine wpIn_region_G [0, 1, 5, 7, 11] (fun w' => w'.cell? ⟨N + 4, 0, none⟩ = some (.slice la ss.length lc) ∧ w'.cell? ⟨c.vb, 0, none⟩ = some (.func (.func kf) first caps) ∧ w'.cell? ⟨p11, 0, none⟩ = some (.int .i64 lo) ∧ w'.cell? ⟨p11, 1, none⟩ = some (.int .i64 hi5)) hm ⟨by go_simp, by go_simp, by go_simp, by go_simp⟩ ?_
     intro hS0; have hS := hid hS0; clear hS0
     have dr : Below wr.heap.size wr wr.drew := ⟨rfl, rfl, rfl, Nat.le_refl _, fun _ _ => rfl⟩
     have BB0 : ComB c a sa fa sc fc (.func (.func kf) first caps) W S i k N w (fun l => ByS a (pre.map (·.1)) l ∨ ByN a x ((notchesL x).take j) l) (2 * pre.length + j) (fun b => p11 ≤ b ∧ b < L6) wL.heap.size W1 p11 lo hi5 (some ⟨bn, on, none⟩) (notchesL x) ss la lc wr := ⟨JJ.out, B11.out, RN.out, KB.out, KF.out, by omega, G1.out, G2.out, g5⟩
     have BB0 := BB0.below hc hn (by omega) dr
     have zd2 : L6 ≤ wr.drew.heap.size := by show L6 ≤ wr.heap.size; omega
     have zd : W1.heap.size ≤ wr.drew.heap.size := by show W1.heap.size ≤ wr.heap.size; omega
     clear JJ B11 RN KB KF zr G1 G2 q0 q1 q2 q3 cn lcn dr
     refine anyWG (fun W' => ComB c a sa fa sc fc (.func (.func kf) first caps) W S i k N w (fun l => ByS a (pre.map (·.1)) l ∨ ByN a x ((notchesL x).take j) l) (2 * pre.length + j) (fun b => p11 ≤ b ∧ b < L6) wL.heap.size W1 p11 lo hi5 (some ⟨bn, on, none⟩) (notchesL x) ss la lc W' ∧ L6 ≤ W'.heap.size ∧ (W'.cell? ⟨N + 4, 0, none⟩ = some (.slice la ss.length lc) ∧ W'.cell? ⟨c.vb, 0, none⟩ = some (.func (.func kf) first caps) ∧ W'.cell? ⟨p11, 0, none⟩ = some (.int .i64 lo) ∧ W'.cell? ⟨p11, 1, none⟩ = some (.int .i64 hi5))) ⟨BB0, zd2, hS.out⟩ ?_
     clear BB0 hS zd zd2
     rintro wc ⟨cb, zc, hs⟩
     have CB := hid cb; have hS := hid hs
     clear cb hs
     (apply wpAnyG_held (wide_round _) (i := 0) rfl (by kernel_rfl) (fun _ _ _ h => h) hS.out; · first | exact .inr ⟨rfl, rfl⟩ | exact .inl ⟨rfl, fun w' hS' => by (obtain ⟨s1, s2, s3, s4⟩ := hS'; go_simp; rfl)⟩); simp only [Act.put, List.setIfInBounds_toArray, List.set_cons_succ, List.set_cons_zero, List.getElem_toArray, List.getElem_cons_succ, List.getElem_cons_zero]
     (apply wpAnyG_held (wide_round _) (i := 1) rfl (by kernel_rfl) (fun _ _ _ h => h) hS.out; · first | exact .inr ⟨rfl, rfl⟩ | exact .inl ⟨rfl, fun w' hS' => by (obtain ⟨s1, s2, s3, s4⟩ := hS'; go_simp; rfl)⟩); simp only [Act.put, List.setIfInBounds_toArray, List.set_cons_succ, List.set_cons_zero, List.getElem_toArray, List.getElem_cons_succ, List.getElem_cons_zero]
     (apply wpAnyG_pure (wide_round _) (i := 2) rfl (by kernel_rfl) (fun _ _ _ h => h); · first | exact .inr ⟨rfl, rfl⟩ | exact .inl ⟨rfl, fun w' => by go_simp; rfl⟩); simp only [Act.put, List.setIfInBounds_toArray, List.set_cons_succ, List.set_cons_zero, List.getElem_toArray, List.getElem_cons_succ, List.getElem_cons_zero]
     (apply wpAnyG_pure (wide_round _) (i := 4) rfl (by kernel_rfl) (fun _ _ _ h => h); · first | exact .inr ⟨rfl, rfl⟩ | exact .inl ⟨rfl, fun w' => by go_simp; rfl⟩); simp only [Act.put, List.setIfInBounds_toArray, List.set_cons_succ, List.set_cons_zero, List.getElem_toArray, List.getElem_cons_succ, List.getElem_cons_zero]
     (apply wpAnyG_held (wide_round _) (i := 5) rfl (by kernel_rfl) (fun _ _ _ h => h) hS.out; · first | exact .inr ⟨rfl, rfl⟩ | exact .inl ⟨rfl, fun w' hS' => by (obtain ⟨s1, s2, s3, s4⟩ := hS'; go_simp; rfl)⟩); simp only [Act.put, List.setIfInBounds_toArray, List.set_cons_succ, List.set_cons_zero, List.getElem_toArray, List.getElem_cons_succ, List.getElem_cons_zero]
     (apply wpAnyG_held (wide_round _) (i := 7) rfl (by kernel_rfl) (fun _ _ _ h => h) hS.out; · first | exact .inr ⟨rfl, rfl⟩ | exact .inl ⟨rfl, fun w' hS' => by (obtain ⟨s1, s2, s3, s4⟩ := hS'; go_simp; rfl)⟩); simp only [Act.put, List.setIfInBounds_toArray, List.set_cons_succ, List.set_cons_zero, List.getElem_toArray, List.getElem_cons_succ, List.getElem_cons_zero]
     (apply wpAnyG_pure (wide_round _) (i := 8) rfl (by kernel_rfl) (fun _ _ _ h => h); · first | exact .inr ⟨rfl, rfl⟩ | exact .inl ⟨rfl, fun w' => by go_simp; rfl⟩); simp only [Act.put, List.setIfInBounds_toArray, List.set_cons_succ, List.set_cons_zero, List.getElem_toArray, List.getElem_cons_succ, List.getElem_cons_zero]
     (apply wpAnyG_pure (wide_round _) (i := 10) rfl (by kernel_rfl) (fun _ _ _ h => h); · first | exact .inr ⟨rfl, rfl⟩ | exact .inl ⟨rfl, fun w' => by go_simp; rfl⟩); simp only [Act.put, List.setIfInBounds_toArray, List.set_cons_succ, List.set_cons_zero, List.getElem_toArray, List.getElem_cons_succ, List.getElem_cons_zero]
     (apply wpAnyG_held (wide_round _) (i := 11) rfl (by kernel_rfl) (fun _ _ _ h => h) hS.out; · first | exact .inr ⟨rfl, rfl⟩ | exact .inl ⟨rfl, fun w' hS' => by (obtain ⟨s1, s2, s3, s4⟩ := hS'; go_simp; rfl)⟩); simp only [Act.put, List.setIfInBounds_toArray, List.set_cons_succ, List.set_cons_zero, List.getElem_toArray, List.getElem_cons_succ, List.getElem_cons_zero]
     refine wpAnyG_one (i := 3) rfl ⟨by kernel_rfl, by kernel_rfl⟩ ?_
     intro K hK
     have eg := EG.out
     go_simp
     clear eg
     refine ⟨trivial, ?_⟩
     refine (CallsIn.inRound l2 (callsIn_wide.2 (HC.out n wc hnn.1 hnn.2 CB.out.com.tell.s))).mono ?_
     rintro e w7 ⟨rfl, hb7⟩
     have CB := hid (CB.out.below hc hn (by have := CB.out.z; omega) hb7)
     refine shutSG hK ⟨CB.out.g1.cell 0, CB.out.com.tell.worth.cell 0, CB.out.b11.cell 0, CB.out.b11.cell 1⟩ (fun hS => ?_)
     clear hK K
     (apply wpAnyG_pure (wide_round _) (i := 6) rfl (by kernel_rfl) (fun _ _ _ h => h); · first | exact .inr ⟨rfl, rfl⟩ | exact .inl ⟨rfl, fun w' => by go_simp; rfl⟩); simp only [Act.put, List.setIfInBounds_toArray, List.set_cons_succ, List.set_cons_zero, List.getElem_toArray, List.getElem_cons_succ, List.getElem_cons_zero]
     refine wpAnyG_one (i := 9) rfl ⟨by kernel_rfl, by kernel_rfl⟩ ?_
     intro K hK
     have eg := EG.out
     go_simp
     clear eg
     refine ⟨trivial, ?_⟩
     refine (CallsIn.inRound l2 (callsIn_wide.2 (HC.out n w7 hnn.1 hnn.2 CB.out.com.tell.s))).mono ?_
     rintro e w8 ⟨rfl, hb8⟩
     have CB := hid (CB.out.below hc hn (by have := CB.out.z; omega) hb8)
     refine shutSG hK ⟨CB.out.g1.cell 0, CB.out.com.tell.worth.cell 0, CB.out.b11.cell 0, CB.out.b11.cell 1⟩ (fun hS => ?_)
     clear hK K
     (apply wpAnyG_pure (wide_round _) (i := 12) rfl (by kernel_rfl) (fun _ _ _ h => h); · first | exact .inr ⟨rfl, rfl⟩ | exact .inl ⟨rfl, fun w' => by go_simp; rfl⟩); simp only [Act.put, List.setIfInBounds_toArray, List.set_cons_succ, List.set_cons_zero, List.getElem_toArray, List.getElem_cons_succ, List.getElem_cons_zero]
     (apply wpAnyG_pure (wide_round _) (i := 13) rfl (by kernel_rfl) (fun _ _ _ h => h); · first | exact .inr ⟨rfl, rfl⟩ | exact .inl ⟨rfl, fun w' => by go_simp; rfl⟩); simp only [Act.put, List.setIfInBounds_toArray, List.set_cons_succ, List.set_cons_zero, List.getElem_toArray, List.getElem_cons_succ, List.getElem_cons_zero]
     refine wpAnyG_one (i := 14) rfl ⟨by kernel_rfl, by kernel_rfl⟩ ?_
     intro K hK
     go_simp
     have ba : Below w8.heap.size w8 (w8.alloc (.cells #[.int .i64 (W n + lo), .int .i64 (W n + hi5)] 68)) := (Below.refl _ _).alloc (Nat.le_refl _) _
     have CB8 := CB
     have CB := hid (CB.out.below hc hn (by have := CB.out.z; omega) ba)
     refine shutSG hK ⟨CB.out.g1.cell 0, CB.out.com.tell.worth.cell 0, CB.out.b11.cell 0, CB.out.b11.cell 1⟩ (fun hS => ?_)
     clear hK K
     refine wpAnyG_one (i := 15) rfl ⟨by kernel_rfl, by kernel_rfl⟩ ?_
     intro K hK
     refine stepIn_append_any _ rfl _ _ _ rfl (N + 3) 68 i0 _ 2 16 Tryd.underlying176 hi0 iz0 iz1 iz2 rfl (by decide) (.slice la ss.length lc) ss.length (rowC spC ss) rfl CB.out.g2 (some ⟨w8.heap.size, 0, none⟩) 1 1 [.int .i64 (W n + lo), .int .i64 (W n + hi5)] rfl rfl (fun h => by cases h) (box_news (Box.new _ _ _) rfl) (by simp [Value.oneCell']) (by omega) (by omega) (by have := CB.out.z; omega) ?_
     intro la2 lc2 w9 own9 gr9 pl9
     refine shutNG hK (by kernel_rfl) ?_
     clear hK K
     refine wpAnyG_one (i := 16) rfl ⟨by kernel_rfl, by kernel_rfl⟩ ?_
     intro K hK
     have Q9 := hid (CB.out.g1.grown gr9 (own_ne' CB.out.g2 CB.out.g1 (by decide)))
     have u0 := Q9.out.cell 0; have u1 := Q9.out.frozen 0; have u2 := Q9.out.lt
     simp only [List.getElem?_toArray, List.getElem?_cons_zero, List.getElem?_cons_succ] at u0
     go_simp
     clear u0 u1 u2
     refine shutNG hK (by kernel_rfl) ?_
     clear hK K
     refine wpAnyG_done (by kernel_rfl) ?_ _
     have hsn : (notchesL x).take (j + 1) = (notchesL x).take j ++ [n] := by rw [List.take_succ_eq_append_getElem hlt, hne]
     obtain ⟨X8, hX8⟩ : ∃ X, X = (w8.alloc (.cells #[.int .i64 (W n + lo), .int .i64 (W n + hi5)] 68)) := ⟨_, rfl⟩
     rw [← hX8] at gr9 CB pl9
     have rl := fun g hg => CB.out.g2.lt g hg
     have kpF : Keep (· < N + 3) X8 (w9.setCell ⟨N + 4, 0, none⟩ (.slice la2 (ss.length + 1) lc2)) := ((Keep.refl _ _).grown gr9 (fun r e _ hz => by have := (rl r e).1; have : r < N + 3 := hz; omega)).setCell _ _ (fun _ h => by have : N + 4 < N + 3 := h; omega)
     have kpQ : Keep (fun b => p11 ≤ b ∧ b < L6) X8 (w9.setCell ⟨N + 4, 0, none⟩ (.slice la2 (ss.length + 1) lc2)) := ((Keep.refl _ _).grown gr9 (fun r e _ hz => CB.out.g3 r e hz)).setCell _ _ (fun _ h => by have : p11 ≤ N + 4 := h.1; omega)
     have kfF : KeepsFrom wL.heap.size X8 (w9.setCell ⟨N + 4, 0, none⟩ (.slice la2 (ss.length + 1) lc2)) := (kf_own CB.out.g2 gr9).trans ((KeepsOthers.setCell _ _ _).from _)
     have kbF : KpB (fun b => b < N ∧ b ≠ c.M ∧ b ≠ c.K) c.M a.st a.fo X8 (w9.setCell ⟨N + 4, 0, none⟩ (.slice la2 (ss.length + 1) lc2)) := by
      refine ⟨kpF.os, kpF.tape, kpF.output, kpF.size, fun b cs t hb ht => ?_, fun k hk hr => kpF.block k hk (by have := hr.1; show k < N + 3; omega), fun h => kpF.pmap (show c.M < N + 3 by omega) h⟩
      have n1 : b ≠ N + 4 := fun e => by
       subst e
       have h1 := CB.out.g1
       unfold Box at h1 hb
       rw [h1] at hb
       simp at hb
       obtain ⟨_, rfl⟩ := hb
       rcases ht with h | h | h | h <;> cases h
      have hg := hb.grown gr9 (own_ne' CB.out.g2 hb (by rcases ht with h | h | h | h <;> (rw [h]; decide)))
      exact hg.other _ _ _ n1
     have z9 := gr9.size
     have zx : L6 ≤ X8.heap.size := by have h7 := hb7.size; have h8 := hb8.size; rw [hX8]; simp; omega
     have hcom := CB.out.com
     have hsp2 := G3.out.snoc (hsp.pre hc.w0 hnn.1)
     gi_wp2_with (fail)
     refine ⟨⟨j + 1, by omega, by go_num, ⟨kpF.box (show N < N + 3 by omega) hcom.p5, kpF.box (show N + 1 < N + 3 by omega) hcom.p6, ⟨ss ++ [(W n + lo, W n + hi5)], la2, lc2, ?_, ?_, ?_, by rw [List.length_append]; simp only [List.length_cons, List.length_nil]; omega, ?_⟩, hcom.tell.low hc hn hLT R3 R4 (kpF.mono (fun b _ hb => by have : b < N := hb; show b < N + 3; omega)), hcom.kp.trans (kpF.mono (fun b _ hb => by have := hb.1; show b < N + 3; omega))⟩, kpQ.box ⟨Nat.le_refl _, pL⟩ CB.out.b11, kpQ.rdI (fun _ p hp => hnq p hp) CB.out.rn, CB.out.kb.trans kbF, CB.out.kf.trans kfF, by rw [World.size_setCell]; omega⟩, by simp [intOf]; omega⟩
     ·rw [List.length_append]; exact Q9.out.set 0 _
     ·rw [List.length_append, rowC_append, rowC_one]; exact own_kp' own9 ((Keep.refl (· ≠ N + 4) _).setCell _ _ (fun _ h => h rfl)) (fun g hg e => own_ne' own9 Q9.out (by decide) (e ▸ hg))
     ·refine hsp2.iff (fun l => ?_)
      rw [hsn]
      show (ByS a (pre.map (·.1)) l ∨ ByN a x ((notchesL x).take j) l) ∨ (∃ r, TrueL (a.st.drop x.i) (a.fo.drop x.k) r ∧ l = preL n r) ↔ _
      rw [byN_snoc, or_assoc]
     ·intro g hg
      rw [List.length_append] at hg
      rcases pl9 with h | h
      ·exact CB.out.g3 g (h ▸ hg)
      ·intro hq
       have h2 : g = X8.heap.size := by
        have h3 := h.symm.trans hg
        simpa using h3.symm
       omega
    ·gi_wp2_with (fail)
     have hje : j = (notchesL x).length := by omega
     rw [List.take_of_length_le (by omega)] at J
     refine ⟨kf', kb, J.iff (fun l => ?_) (by simp; omega) (fun _ _ _ _ h => h), by omega⟩
     rw [List.map_append]
     exact (byS_snoc a (pre.map (·.1)) x l).symm
  case done =>
   rintro D ys W1 hD hall ⟨I1, z1⟩ hKD
   obtain ⟨ss, la, lc, g1, g2, g3, g4, -⟩ := I1.l9
   have q0 : W1.cell? ⟨N + 4, 0, none⟩ = some (.slice la ss.length lc) := g1.cell 0
   have hall' : ys.map (·.1) = bestL a.st a.fo i k := hall
   rw [hall'] at g3
   have y5 : ys.length ≤ 3 := by
    have h1 := congrArg List.length hall'
    have h2 := List.length_filter_le (isBest a.st a.fo i k) (stepsL a.st a.fo i k)
    have h3 := stepsL_le a.st a.fo i k
    simp only [List.length_map] at h1
    unfold bestL at h1
    omega
   have hDN : N + 7 ≤ D := by omega
   have a0 := I1.p5.cell 0; have a1 := I1.p5.cell 1
   simp only [List.getElem?_toArray, List.getElem?_cons_zero, List.getElem?_cons_succ] at a0 a1
   have c0 := I1.p6.cell 0; have c1 := I1.p6.cell 1; have c2 := I1.p6.frozen 0; have c3 := I1.p6.frozen 1; have c4 := I1.p6.lt
   simp only [List.getElem?_toArray, List.getElem?_cons_zero, List.getElem?_cons_succ] at c0 c1
   have k0 : W1.cell? ⟨c.kb, 0, none⟩ = some (.map (some c.K)) := I1.tell.known.cell 0
   have II := hid I1; have G2 := hid g2; have G3 := hid g3
   clear I1 g1 g2 g3 hall hall' I0 bC bD hH tL
   by_cases hend : i = a.st.length ∧ k = a.fo.length
   ·have hss : ss = [] := by
     rcases G3.out with ⟨h, _⟩ | ⟨h, h2⟩
     ·exact h
     ·obtain ⟨l, ⟨x, hx, _⟩, _⟩ := h2.lo
      have hb := (mem_best.1 hx).1
      have := (step_bound hb hi hk).2.2.1
      omega
    subst hss
    have HE := hid hend; clear hend
    gi_wp2_with (fail)
    have hKD2 := ((KeepsOthers.setCell W1 ⟨N + 1, 0, none⟩ (.int .i64 0)).trans (KeepsOthers.setCell _ ⟨N + 1, 1, none⟩ (.int .i64 0))).same D _ hKD rfl
    have kV : Keep (fun b => b ≠ N + 1 ∧ b ≠ D) W1 (((W1.setCell ⟨N + 1, 0, none⟩ (.int .i64 0)).setCell ⟨N + 1, 1, none⟩ (.int .i64 0)).putObj D (.deferred none)) := (((Keep.refl _ _).setCell _ _ (fun _ h => h.1 rfl)).setCell _ _ (fun _ h => h.1 rfl)).putObj _ _ (fun _ h => h.2 rfl)
    have bV : Box (((W1.setCell ⟨N + 1, 0, none⟩ (.int .i64 0)).setCell ⟨N + 1, 1, none⟩ (.int .i64 0)).putObj D (.deferred none)) (N + 1) #[.int .i64 0, .int .i64 0] 68 := ((Keep.refl (· ≠ D) _).putObj _ _ (fun _ h => h rfl)).box (show N + 1 ≠ D by omega) ((II.out.p6.set 0 _).set 1 _)
    refine ⟨by simp, .inl ⟨D, _, rfl, run_takeDeferred hKD2, ?_⟩⟩
    generalize (((W1.setCell ⟨N + 1, 0, none⟩ (.int .i64 0)).setCell ⟨N + 1, 1, none⟩ (.int .i64 0)).putObj D (.deferred none)) = V at kV bV ⊢
    have r0 := bV.cell 0; have r1 := bV.cell 1
    simp only [List.getElem?_toArray, List.getElem?_cons_zero, List.getElem?_cons_succ] at r0 r1
    refine ⟨.agg #[.int .i64 0, .int .i64 0], by simp [results, Tryd.results109, go_sem, r0, r1], 0, 0, rfl, ?_, ?_, kV.pmap ⟨by omega, by omega⟩ II.out.tell.half.map, kV.pmap ⟨by omega, by omega⟩ II.out.tell.map⟩
    ·rw [HE.out.1, HE.out.2]
     exact IsSpan.nil.iff (fun x => (true_end x).symm)
    ·exact (II.out.kp.trans (kV.mono (fun b _ hz => ⟨by have := hz.1; omega, by have := hz.1; omega⟩))).mono (fun b hb hz => ⟨by have := HN.out; omega, hz⟩)
   ·have hss : 0 < ss.length := by
     rcases G3.out with ⟨_, h⟩ | ⟨h, _⟩
     ·exfalso
      exact h (a.st.drop i) ((true_iff hc.o1 hc.o2 hi hk hend _).1 (by unfold TrueL; rw [dist_self]; omega))
     ·exact List.length_pos_iff.2 h
    have hsz : (((ss.length : Nat) : Int) == 0) = false := by rw [beq_eq_false_iff_ne]; omega
    have hsp : IsSpan W (TrueL (a.st.drop i) (a.fo.drop k)) (endsL ss).1 (endsL ss).2 := by
     rcases G3.out with ⟨h, _⟩ | ⟨_, h⟩
     ·subst h; cases hss
     ·exact h.iff (fun l => (true_iff hc.o1 hc.o2 hi hk hend l).symm)
    have HSP := hid hsp; clear hsp
    gi_wp2_with (fail)
    obtain ⟨E, hE⟩ : ∃ E, endsL ss = E := ⟨_, rfl⟩
    rw [hE] at HSP
    have HE2 := hid hE; clear hE
    obtain ⟨lo, hi2⟩ := E
    dsimp only at HSP
    refine wpIn_post (fun a' W' => ∃ f : Nat → Value, a' = ⟨((List.range 66).map f).toArray, [{ target := .collected D, args := #[] }]⟩ ∧ f 1 = .pointer (some ⟨c.kb, 0, none⟩) ∧ f 5 = .pointer (some ⟨N, 0, none⟩) ∧ f 6 = .pointer (some ⟨N + 1, 0, none⟩) ∧ Box W' c.kb #[.map (some c.K)] 173 ∧ Box W' N #[.int .i64 i, .int .i64 k] 137 ∧ Box W' (N + 1) #[.int .i64 0, .int .i64 0] 68 ∧ W'.heap[D]? = some (.deferred (some [])) ∧ PMap W' c.M a.st.length a.fo.length (Known a.st a.fo) ∧ PMap W' c.K a.st.length a.fo.length (KnownS W a.st a.fo) ∧ Keep (fun b => b < N ∧ b ≠ c.M ∧ b ≠ c.K) w W' ∧
     (Instr.lookup 173 (.map (some c.K)) (.agg #[.int .i64 i, .int .i64 k]) false).run Tryd.prog W' = .ok (.agg #[.int .i64 lo, .int .i64 hi2]) W') ?reg ?rest
    ·refine wpIn_region_G [0, 1, 2] (fun w' => w'.cell? ⟨c.kb, 0, none⟩ = some (.map (some c.K)) ∧ w'.cell? ⟨N, 0, none⟩ = some (.int .i64 i) ∧ w'.cell? ⟨N, 1, none⟩ = some (.int .i64 k) ∧ w'.cell? ⟨N + 4, 0, none⟩ = some (.slice la ss.length lc)) hm ⟨by go_simp, by go_simp, by go_simp, by go_simp⟩ ?_
     intro hS0; have hS := hid hS0; clear hS0
     have hne : ss ≠ [] := List.length_pos_iff.1 hss
     (apply wpAnyG_held wide_wide (i := 0) rfl (by kernel_rfl) (fun _ _ _ h => h) hS.out; · first | exact .inr ⟨rfl, rfl⟩ | exact .inl ⟨rfl, fun w' hS' => by (obtain ⟨s1, s2, s3, s4⟩ := hS'; go_simp; rfl)⟩); simp only [Act.put, List.setIfInBounds_toArray, List.set_cons_succ, List.set_cons_zero, List.getElem_toArray, List.getElem_cons_succ, List.getElem_cons_zero]
     (apply wpAnyG_held wide_wide (i := 1) rfl (by kernel_rfl) (fun _ _ _ h => h) hS.out; · first | exact .inr ⟨rfl, rfl⟩ | exact .inl ⟨rfl, fun w' hS' => by (obtain ⟨s1, s2, s3, s4⟩ := hS'; go_simp; rfl)⟩); simp only [Act.put, List.setIfInBounds_toArray, List.set_cons_succ, List.set_cons_zero, List.getElem_toArray, List.getElem_cons_succ, List.getElem_cons_zero]
     (apply wpAnyG_held wide_wide (i := 2) rfl (by kernel_rfl) (fun _ _ _ h => h) hS.out; · first | exact .inr ⟨rfl, rfl⟩ | exact .inl ⟨rfl, fun w' hS' => by (obtain ⟨s1, s2, s3, s4⟩ := hS'; go_simp; rfl)⟩); simp only [Act.put, List.setIfInBounds_toArray, List.set_cons_succ, List.set_cons_zero, List.getElem_toArray, List.getElem_cons_succ, List.getElem_cons_zero]
     refine wpAnyG_one (i := 3) rfl ⟨by kernel_rfl, by kernel_rfl⟩ ?_
     intro K hK
     go_simp
     refine ⟨trivial, ?_⟩
     refine (callsIn_wide.2 (ends_any la lc ss W1.drew (by omega) hne (RdX.of_own spC_len (by decide) G2.out).drew)).mono ?_
     rintro e w5 ⟨rfl, hb5'⟩
     rw [HE2.out]
     dsimp only
     have hb5 : Below W1.heap.size W1 w5 := ⟨hb5'.os, hb5'.tape, hb5'.output, hb5'.size, hb5'.block⟩
     have I5 := II.out.below hc hn (by omega) hb5
     have KD5 := (hb5.block D (Array.getElem?_eq_some_iff.1 hKD).1).trans hKD
     obtain ⟨w6, hrun6, hp6, hg6, hz6, hlk6⟩ := I5.tell.map.store2 (t := 173) (e := 68) Tryd.underlying173 (fun w => Tryd.zeroValue68 w) (by have := hc.l1; omega) (by have := hc.l2; omega) hi hk (v := .agg #[.int .i64 lo, .int .i64 hi2]) ⟨lo, hi2, rfl, HSP.out⟩
     have hlk := hlk6 w6 rfl
     unfold plc at hrun6 hlk
     have kM6 : Keep (· ≠ c.K) w5 w6 := keep_of_grown hg6 |>.mono (fun b _ h e => h (by cases e; rfl))
     clear hlk6 hg6 hb5'
     refine shutSG hK ⟨I5.tell.known.cell 0, I5.p5.cell 0, I5.p5.cell 1, (by obtain ⟨ss', la', lc', h1, _⟩ := I5.l9; exact (hb5.cell (cell_lt q0)).trans q0)⟩ (fun hS => ?_)
     clear hK K
     refine wpAnyG_one (i := 4) rfl ⟨by kernel_rfl, by kernel_rfl⟩ ?_
     intro K hK
     go_simp
     clear hrun6
     refine shutNG hK (by kernel_rfl) ?_
     clear hK K
     refine wpAnyG_done (by kernel_rfl) ?_ _
     have K0 := kM6.box (map_not_cell I5.tell.map I5.tell.known.at_) I5.tell.known
     have P5 := kM6.box (map_not_cell I5.tell.map I5.p5.at_) I5.p5
     have P6 := kM6.box (map_not_cell I5.tell.map I5.p6.at_) I5.p6
     have KD6 := (kM6.block D (Array.getElem?_eq_some_iff.1 KD5).1 (show D ≠ c.K by omega)).trans KD5
     refine acts_of' rfl ?_
     exact ⟨rfl, rfl, rfl, K0, P5, P6, KD6, kM6.pmap hc.ne I5.tell.half.map, hp6, I5.kp.trans (kM6.mono (fun b _ hz => hz.2.2)), hlk⟩
    ·rintro a' w6 ⟨f, rfl, f1, f5, f6, K0, P5, P6, KD6, hpM, hp6, kp6, hlk⟩
     rw [show (List.range 66).map f = [f 0, f 1, f 2, f 3, f 4, f 5, f 6, f 7, f 8, f 9, f 10, f 11, f 12, f 13, f 14, f 15, f 16, f 17, f 18, f 19, f 20, f 21, f 22, f 23, f 24, f 25, f 26, f 27, f 28, f 29, f 30, f 31, f 32, f 33, f 34, f 35, f 36, f 37, f 38, f 39, f 40, f 41, f 42, f 43, f 44, f 45, f 46, f 47, f 48, f 49, f 50, f 51, f 52, f 53, f 54, f 55, f 56, f 57, f 58, f 59, f 60, f 61, f 62, f 63, f 64, f 65] from rfl, f1, f5, f6]
     clear f1 f5 f6
     have m0 : w6.cell? ⟨c.kb, 0, none⟩ = some (.map (some c.K)) := K0.cell 0
     have m1 : w6.cell? ⟨N, 0, none⟩ = some (.int .i64 i) := P5.cell 0
     have m2 : w6.cell? ⟨N, 1, none⟩ = some (.int .i64 k) := P5.cell 1
     have d0 : w6.cell? ⟨N + 1, 0, none⟩ = some (.int .i64 0) := P6.cell 0
     have d1 : w6.cell? ⟨N + 1, 1, none⟩ = some (.int .i64 0) := P6.cell 1
     have d2 := P6.frozen 0; have d3 := P6.frozen 1; have d4 := P6.lt
     have HP6 := hid P6
     clear K0 P5 P6 q0 a0 a1 c0 c1 c2 c3 c4 k0
     gi_wp2_with (fail)
     have hKD2 := ((KeepsOthers.setCell w6 ⟨N + 1, 0, none⟩ (.int .i64 lo)).trans (KeepsOthers.setCell _ ⟨N + 1, 1, none⟩ (.int .i64 hi2))).same D _ KD6 rfl
     have kV : Keep (fun b => b ≠ N + 1 ∧ b ≠ D) w6 (((w6.setCell ⟨N + 1, 0, none⟩ (.int .i64 lo)).setCell ⟨N + 1, 1, none⟩ (.int .i64 hi2)).putObj D (.deferred none)) := (((Keep.refl _ _).setCell _ _ (fun _ h => h.1 rfl)).setCell _ _ (fun _ h => h.1 rfl)).putObj _ _ (fun _ h => h.2 rfl)
     have bV : Box (((w6.setCell ⟨N + 1, 0, none⟩ (.int .i64 lo)).setCell ⟨N + 1, 1, none⟩ (.int .i64 hi2)).putObj D (.deferred none)) (N + 1) #[.int .i64 lo, .int .i64 hi2] 68 := ((Keep.refl (· ≠ D) _).putObj _ _ (fun _ h => h rfl)).box (show N + 1 ≠ D by omega) ((HP6.out.set 0 _).set 1 _)
     refine ⟨by simp, .inl ⟨D, _, rfl, run_takeDeferred hKD2, ?_⟩⟩
     generalize (((w6.setCell ⟨N + 1, 0, none⟩ (.int .i64 lo)).setCell ⟨N + 1, 1, none⟩ (.int .i64 hi2)).putObj D (.deferred none)) = V at kV bV ⊢
     have r0 := bV.cell 0; have r1 := bV.cell 1
     simp only [List.getElem?_toArray, List.getElem?_cons_zero, List.getElem?_cons_succ] at r0 r1
     refine ⟨.agg #[.int .i64 lo, .int .i64 hi2], by simp [results, Tryd.results109, go_sem, r0, r1], lo, hi2, rfl, HSP.out, ?_, kV.pmap ⟨by omega, by omega⟩ hpM, kV.pmap ⟨by omega, by omega⟩ hp6⟩
     exact (kp6.trans (kV.mono (fun b _ hz => ⟨by have := hz.1; omega, by have := hz.1; omega⟩))).mono (fun b hb hz => ⟨by have := HN.out; omega, hz⟩)
  case stop =>
   rintro D c pre W1 _ _ h _
   exact h.elim
 ·gi_wp2_with (fail)
  refine ⟨.agg #[.int .i64 lo, .int .i64 hi2], by simp [results, Tryd.results109, go_sem], lo, hi2, rfl, hsp, ((Keep.refl _ _).alloc _).alloc _ |>.alloc _, ((HT.out.half.map.alloc _).alloc _).alloc _, ((HT.out.map.alloc _).alloc _).alloc _⟩
theorem tell_any (c : CB) (a : Tl) (sa fa : Option Addr) (sc fc : Nat) (fv : Value) (W : Int → Int) (S : World → Prop) (n0 : Nat) (hc : TellC c a fv W S n0) (i k : Nat) (w : World) (hi : i ≤ a.st.length) (hk : k ≤ a.fo.length) (hn0 : n0 ≤ w.heap.size) (hT : Tell w c a sa fa sc fc fv W S) :
  Calls Tryd.prog 109 #[plc i k, .pointer (some ⟨c.kb, 0, none⟩), .pointer (some ⟨c.xb, 0, none⟩), .pointer (some ⟨c.tb, 0, none⟩), .pointer (some ⟨c.vb, 0, none⟩)] w (TellP c a W i k w) := by
 have h : ∀ m i k w, (a.st.length - i) + (a.fo.length - k) < m → i ≤ a.st.length → k ≤ a.fo.length → n0 ≤ w.heap.size → Tell w c a sa fa sc fc fv W S →
   Calls Tryd.prog 109 #[plc i k, .pointer (some ⟨c.kb, 0, none⟩), .pointer (some ⟨c.xb, 0, none⟩), .pointer (some ⟨c.tb, 0, none⟩), .pointer (some ⟨c.vb, 0, none⟩)] w (TellP c a W i k w) := by
  intro m
  induction m with
  | zero => intro i k w h; omega
  | succ m ih =>
   intro i k w hm hi hk hn0 hT
   exact tell_step c a sa fa sc fc fv W S n0 hc i k hi hk (fun i' k' w' hi' hk' hlt hn' hT' => ih i' k' w' (by omega) hi' hk' hn' hT') w hn0 hT
 exact h _ i k w (Nat.lt_succ_self _) hi hk hn0 hT
theorem wp_calls_world {P : Program} {f : Nat} {args : Array Value} {w : World} {R : Ending → World → Prop} (T : World → Prop) (hT : T w) (h : ∀ w', T w' → Calls P f args w' R) : Calls P f args w R := h w hT
theorem comes_any (pb eb qb M : Nat) (a : Tl) (sa fa : Option Addr) (sc fc : Nat) (fv : Value) (W : Int → Int) (S : World → Prop) (w : World) (l1 : a.st.length ≤ 1000) (l2 : a.fo.length ≤ 1000) (o1 : okN a.st = true) (o2 : okN a.fo = true) (wf : Worth S fv W) (w0 : W 0 = 0) (wb : ∀ n, -1000 ≤ W n ∧ W n ≤ 1000)
  (sk : ∀ w1 w2, S w1 → Keep (fun b => b < w.heap.size ∧ b ≠ M) w1 w2 → S w2) (hs : S w) (hH : Half w pb eb qb M a.id a.hs a.st a.fo sa fa sc fc) :
  Calls Tryd.prog 91 #[.agg (pairC a.id a.hs a.st a.fo sa fa sc fc (leftV eb qb pb)), fv] w fun e w' => ∃ lo hi, e = .returned (.agg #[.int .i64 lo, .int .i64 hi]) ∧ IsSpan W (TrueL a.st a.fo) lo hi ∧ Keep (fun b => b ≠ M) w w' := by
 have hmm := @run_makeMap Tryd.prog
 have HH := hid hH; have SK := hid sk; have HS := hid hs
 have wf' := wf
 obtain ⟨kf, first, caps, rfl, -, -⟩ := wf'
 clear hH sk hs
 unfold pairC leftV
 go_enter Tryd.func91, Tryd.ntmps91
 go_wp2_with fail
 refine wp_calls_world (fun W0 => Tell W0 ⟨w.heap.size + 1 + 1 + 1 + 1, w.heap.size, w.heap.size + 1 + 1 + 1 + 1 + 1, w.heap.size + 1, pb, eb, qb, M, w.heap.size + 1 + 1 + 1⟩ a sa fa sc fc (.func (.func kf) first caps) W S ∧ Box W0 (w.heap.size + 1 + 1) #[.int .i64 0, .int .i64 0] 68 ∧ Below w.heap.size w W0 ∧ w.heap.size + 6 ≤ W0.heap.size) ⟨⟨?_, ?_, ?_, ?_, ?_, ?_, ?_⟩, ?_, ?_, ?_⟩ ?_
 ·exact (Box.at _ _ yL).alloc _
 ·exact (((((Box.new _ _ _).alloc _).alloc _).alloc _).alloc _).alloc _
 ·exact Box.at _ _ yL
 ·exact ((((Box.at _ _ yL).alloc _).alloc _).alloc _).alloc _
 ·exact HH.out.keep ((((((Keep.refl _ _).alloc _).alloc _).alloc _).alloc _).alloc _ |>.alloc _) ((((((HH.out.map.alloc _).alloc _).alloc _).alloc _).alloc _).alloc _)
 ·exact ((PMap.at _ _ _ yL).alloc _).alloc _
 ·exact SK.out _ _ HS.out ((((((Keep.refl _ _).alloc _).alloc _).alloc _).alloc _).alloc _ |>.alloc _)
 ·exact (((Box.at _ _ yL).alloc _).alloc _).alloc _
 ·exact goBl
 ·simp
 rintro W0 ⟨hT, b4, hb, z0⟩
 have lM := HH.out.map.lt
 have hc : TellC ⟨w.heap.size + 1 + 1 + 1 + 1, w.heap.size, w.heap.size + 1 + 1 + 1 + 1 + 1, w.heap.size + 1, pb, eb, qb, M, w.heap.size + 1 + 1 + 1⟩ a (.func (.func kf) first caps) W S w.heap.size :=
  ⟨by show M ≠ w.heap.size + 1 + 1 + 1; omega, l1, l2, o1, o2, wf, w0, wb, fun w1 w2 h k => SK.out w1 w2 h (k.mono (fun b _ hb => ⟨hb.1, hb.2, by have := hb.1; show b ≠ w.heap.size + 1 + 1 + 1; omega⟩))⟩
 refine (tell_any _ a sa fa sc fc _ W S w.heap.size hc 0 0 W0 (Nat.zero_le _) (Nat.zero_le _) hb.size hT).mono ?_
 rintro e w5 ⟨lo, hi, rfl, hsp, kp, hM5, hK5⟩
 dsimp only at kp hM5 hK5
 rw [List.drop_zero, List.drop_zero] at hsp
 have b5 := kp.box ⟨by omega, by omega⟩ b4
 have r0 := b5.cell 0; have r1 := b5.cell 1; have r2 := b5.frozen 0; have r3 := b5.frozen 1; have r4 := b5.lt
 simp only [List.getElem?_toArray, List.getElem?_cons_zero, List.getElem?_cons_succ] at r0 r1
 have KP := hid kp; have HB := hid hb; have HSP := hid hsp; have z5 := kp.size
 clear kp hM5 hK5 hT b4 hb hsp b5
 go_wp2_with fail
 refine bodyPost_ret (v := .agg #[.int .i64 lo, .int .i64 hi]) (by simp [results, Tryd.results91, go_sem, r0, r1, r2, r3, r4]) rfl ⟨lo, hi, rfl, HSP.out, ?_⟩
 have k1 : Keep (fun b => b < w.heap.size ∧ b ≠ M) w W0 := Keep.of_below HB.out (fun b _ h => h.1)
 have k2 : Keep (fun b => b < w.heap.size ∧ b ≠ M) W0 w5 := KP.out.mono (fun b _ h => ⟨h.2, by have := h.1; omega⟩)
 have k3 := ((k1.trans k2).setCell ⟨w.heap.size + 1 + 1, 0, none⟩ (.int .i64 lo) (fun _ h => by have : w.heap.size + 1 + 1 < w.heap.size := h.1; omega)).setCell ⟨w.heap.size + 1 + 1, 1, none⟩ (.int .i64 hi) (fun _ h => by have : w.heap.size + 1 + 1 < w.heap.size := h.1; omega)
 exact k3.mono (fun b hb h => ⟨hb, h⟩)
def errAll (ts : List Tl) : Int := if 6 < ts.length then 2 else if ts.all Tl.ok then 0 else 70
theorem all_any (a : Option Addr) (c : Nat) (ts : List Tl) (w : World) (hl : ts.length ≤ 4000) (ht : Tab w) (hs : ∀ t ∈ ts, t.small) (h : RdT w a ts) :
  Calls Tryd.prog 79 #[.slice a ts.length c] w fun e w' => e = .returned (.int .i64 (errAll ts)) ∧ Below w.heap.size w w' := by
 have H := hid h; clear h
 have HT := hid ht; clear ht
 have HS := hid hs; clear hs
 by_cases h6 : (6 : Int) < (ts.length : Int)
 ·go_enter Tryd.func79, Tryd.ntmps79
  go_wp2_with fail
  go_ret
  exact ⟨(congrArg (fun b => Ending.returned (Value.int .i64 b)) (by unfold errAll; rw [if_pos (by omega)])), Below.refl _ _⟩
 ·have E : Hid (¬ 6 < ts.length) := by show ¬ 6 < ts.length; omega
  go_enter Tryd.func79, Tryd.ntmps79
  go_wp2_with fail
  go_loopw [11] (fun i wr => ∃ k : Nat, k ≤ ts.length ∧ i = .int .i64 k ∧ (ts.take k).all Tl.ok = true ∧ Below w.heap.size w wr) (fun i _ => (ts.length - (intOf i).toNat))
  case atStart => exact ⟨0, by omega, rfl, by simp, Below.refl _ _⟩
  case round =>
   obtain ⟨k, hk, rfl, hno, hb⟩ := hrel
   have Hno := hid hno; clear hno
   by_cases hlt : k < ts.length
   ·obtain ⟨b, o, sa, sc, fa, fc, rfl, g0, g1, g2, g3, g4, g5⟩ := H.out.below hb k hlt
    have hbl := cell_lt g0
    have hsz := hb.size
    have HG4 := hid g4; have HG5 := hid g5; clear g4 g5
    go_wp2_with fail
    refine (check_any _ _ _ _ _ _ _ _ _ (HT.out.below goBl) (HS.out _ (List.getElem_mem hlt)).1 (HS.out _ (List.getElem_mem hlt)).2 (HG4.out.below goBl) (HG5.out.below goBl)).mono ?_
    rintro e w1 ⟨rfl, hb1⟩
    have hz1 := hb1.size; (try simp only [World.size_alloc] at hz1)
    by_cases hok : okT ts[k].id ts[k].hs ts[k].st ts[k].fo = true
    ·have t1 : (errT (okT ts[k].id ts[k].hs ts[k].st ts[k].fo) != 0) = false := by rw [hok]; rfl
     have HK := hid hok; clear hok
     go_wp2_with fail
     go_roundw
     case rel =>
      refine ⟨k + 1, by omega, by go_num, ?_, goBl⟩
      rw [List.take_succ_eq_append_getElem hlt, List.all_append, Hno.out]
      simpa [Tl.ok] using HK.out
     case measure => simp [intOf]; omega
    ·have hok' : okT ts[k].id ts[k].hs ts[k].st ts[k].fo = false := by simpa using hok
     have t1 : (errT (okT ts[k].id ts[k].hs ts[k].st ts[k].fo) != 0) = true := by rw [hok']; rfl
     have HK := hid hok'; clear hok hok'
     go_wp2_with fail
     go_ret
     refine ⟨(congrArg (fun b => Ending.returned (Value.int .i64 b)) ?_), goBl⟩
     have h2 : ts.all Tl.ok = false := List.all_eq_false.2 ⟨_, List.getElem_mem hlt, by simp [Tl.ok, HK.out]⟩
     rw [HK.out]; unfold errAll; rw [if_neg E.out, h2]; rfl
   ·go_wp2_with fail
    go_ret
    refine ⟨(congrArg (fun b => Ending.returned (Value.int .i64 b)) ?_), hb⟩
    have : k = ts.length := by omega
    subst this
    have h2 := Hno.out
    rw [List.take_of_length_le (Nat.le_refl _)] at h2
    unfold errAll; rw [if_neg E.out, h2]; rfl
end Go.Proofs.YthddoikmgpgakaaDoor
