/- Proofs for the seat's cards: Left, Ed, Best, EdL, True, Spans, Pmap2, Comes. No condition of its own. -/
import Derived.Test.YtihonljdanjfmaaGreatDoorProg
import Derived.Outline
import Derived.RangeFuncNested
import Derived.Shelf.Abstract
import Derived.Deep.QuietTactic
import Derived.BigQuiet
import Derived.Deep.RegionHeld3
import Derived.WalkSmall
import Derived.Laws.EntriesVeiled
import Derived.LoopNIn
import Derived.LoopIn
import Derived.WalkMore
import Derived.Maps.Views
import Derived.Test.YtihonljdanjfmaaGreatDoorZk4
set_option linter.unusedVariables false
set_option linter.unusedSimpArgs false
set_option maxRecDepth 40000
set_option maxHeartbeats 32000000
namespace Go.Proofs.YtihonljdanjfmaaGreatDoor
open Go.RowKit Go.Proofs Go.Shelf
attribute [local go_sem] Oper.semAt_some
def dd (st fo : List Int) (i k : Nat) : Nat := dist (st.drop i) (fo.drop k)
theorem dd_le (st fo : List Int) (i k : Nat) (hl : st.length ≤ 2000) (hl2 : fo.length ≤ 2000) : dd st fo i k ≤ 4000 := by
 have := dist_le (st.drop i) (fo.drop k)
 simp only [List.length_drop] at this
 unfold dd
 omega
def lst (d : Nat → Nat → Nat) (pre : List St) : Int := pre.foldl (fun m x => if m < 0 ∨ x.wr + d x.i x.k < m then x.wr + d x.i x.k else m) (-1)
theorem lst_snoc (d : Nat → Nat → Nat) (pre : List St) (x : St) : lst d (pre ++ [x]) = if lst d pre < 0 ∨ x.wr + d x.i x.k < lst d pre then x.wr + d x.i x.k else lst d pre := by
 unfold lst; rw [List.foldl_append]; rfl
theorem lst_steps {st fo : List Int} {i k : Nat} (hi : i ≤ st.length) (hk : k ≤ fo.length) (hne : ¬ (i = st.length ∧ k = fo.length)) : lst (dd st fo) (stepsL st fo i k) = (dd st fo i k : Int) := by
 by_cases h1 : i < st.length
 ·by_cases h2 : k < fo.length
  ·have e := dist_drop h1 h2
   rw [stepsL, step1_yes h1 h2, step2_yes k h1, step3_yes i h2]
   simp only [lst, List.foldl, List.cons_append, List.nil_append, dd]
   rw [e]
   by_cases he : st[i] = fo[k]
   ·simp only [he, if_true]
    split <;> split <;> split <;> omega
   ·simp only [he, if_false]
    split <;> split <;> split <;> omega
  ·have e1 : dd st fo i k = (st.length - i) + (fo.length - k) := dist_end (.inr (by omega))
   have e2 : dd st fo (i + 1) k = (st.length - (i + 1)) + (fo.length - k) := dist_end (.inr (by omega))
   rw [stepsL, step1_no (fun h => h2 h.2), step2_yes k h1, step3_no i h2]
   simp only [lst, List.foldl, List.append_nil, List.nil_append, e1, e2]
   rw [if_pos (by omega)]
   omega
 ·by_cases h2 : k < fo.length
  ·have e1 : dd st fo i k = (st.length - i) + (fo.length - k) := dist_end (.inl (by omega))
   have e2 : dd st fo i (k + 1) = (st.length - i) + (fo.length - (k + 1)) := dist_end (.inl (by omega))
   rw [stepsL, step1_no (fun h => h1 h.1), step2_no k h1, step3_yes i h2]
   simp only [lst, List.foldl, List.nil_append, e1, e2]
   rw [if_pos (by omega)]
   omega
  ·exact absurd ⟨by omega, by omega⟩ hne
def leftV (eb kb pb : Nat) : Value := .func (.func 143) #[] #[.pointer (some ⟨eb, 0, none⟩), .pointer (some ⟨kb, 0, none⟩), .pointer (some ⟨pb, 0, none⟩)]
def Known (st fo : List Int) (i k : Nat) (v : Value) : Prop := v = .int .i64 (dd st fo i k : Int)
def pairC (id hs : Int) (st fo : List Int) (sa fa : Option Addr) (sc fc : Nat) (fv : Value) : Array Value := #[.int .i64 id, .int .i64 hs, .slice sa st.length sc, .slice fa fo.length fc, fv]
structure Half (w : World) (pb eb kb M : Nat) (id hs : Int) (st fo : List Int) (sa fa : Option Addr) (sc fc : Nat) : Prop where
 pair : Box w pb (pairC id hs st fo sa fa sc fc (leftV eb kb pb)) 180
 fin : Box w eb #[.int .i64 st.length, .int .i64 fo.length] 193
 known : Box w kb #[.map (some M)] 199
 map : PMap w M st.length fo.length (Known st fo)
 s : RdI w sa st
 f : RdI w fa fo
theorem Half.keep {w w' : World} {pb eb kb M : Nat} {id hs : Int} {st fo : List Int} {sa fa : Option Addr} {sc fc : Nat} (h : Half w pb eb kb M id hs st fo sa fa sc fc) (hk : Keep (· ≠ M) w w') (hm : PMap w' M st.length fo.length (Known st fo)) :
  Half w' pb eb kb M id hs st fo sa fa sc fc :=
 ⟨hk.box (h.map.ne_box h.pair) h.pair, hk.box (h.map.ne_box h.fin) h.fin, hk.box (h.map.ne_box h.known) h.known, hm, hk.rdI (fun hx _ hp => h.map.ne_row h.s hx hp) h.s, hk.rdI (fun hx _ hp => h.map.ne_row h.f hx hp) h.f⟩
theorem eqPlace (a b c d : Int) (w : World) : (Op.equalIn 10000 193 (.agg #[.int .i64 a, .int .i64 b]) (.agg #[.int .i64 c, .int .i64 d])).run Tryz.prog w = .ok (a == c && b == d) w := by
 have u3 := Tryz.underlying3
 have a3 := Tryz.isAgg3
 have z3 := Tryz.sizeOf3
 rw [show (10000 : Nat) = 9999 + 1 from rfl, Op.equalIn]
 simp only [Sem.run_bind, run_underlying Tryz.underlying193, Result.andThen_ok]
 simp only [Std.Legacy.Range.forIn_eq_forIn_range', Std.Legacy.Range.size, Nat.sub_zero, Nat.add_sub_cancel, Nat.div_one, List.range'_succ, List.range'_zero, List.forIn_cons, List.forIn_nil]
 go_simp
 by_cases h1 : a = c <;> by_cases h2 : b = d <;> simp [h1, h2]
attribute [local go_sem] eqPlace
theorem row_lt {w : World} {a : Option Addr} {xs : List Int} (hr : RdI w a xs) (hx : xs ≠ []) {p : Addr} (hp : a = some p) : p.block < w.heap.size := by
 obtain ⟨b, o, ha, hc⟩ := hr 0 (List.length_pos_iff.2 hx)
 rw [hp] at ha
 cases ha
 exact cell_lt hc
theorem keepsFrom_of {M B : Nat} {W W' : World} (h : Keep (· ≠ M) W W') (hM : M < B) : KeepsFrom B W W' :=
 ⟨h.size, fun k o hB hk _ => (h.block k (Array.getElem?_eq_some_iff.1 hk).1 (show k ≠ M by omega)).trans hk⟩
theorem step_bound {st fo : List Int} {i k : Nat} {x : St} (h : x ∈ stepsL st fo i k) (hi : i ≤ st.length) (hk : k ≤ fo.length) :
  x.i ≤ st.length ∧ x.k ≤ fo.length ∧ (st.length - x.i) + (fo.length - x.k) < (st.length - i) + (fo.length - k) ∧ 0 ≤ x.wr ∧ x.wr ≤ 1 := by
 rw [stepsL, List.mem_append, List.mem_append] at h
 rcases h with h | h | h
 ·by_cases hh : i < st.length ∧ k < fo.length
  ·rw [step1_yes hh.1 hh.2, List.mem_singleton] at h
   subst h
   refine ⟨hh.1, hh.2, ?_, ?_, ?_⟩
   ·show (st.length - (i + 1)) + (fo.length - (k + 1)) < _; omega
   ·show (0 : Int) ≤ if _ then 0 else 1; split <;> omega
   ·show (if _ then 0 else 1 : Int) ≤ 1; split <;> omega
  ·rw [step1_no hh] at h; cases h
 ·by_cases hh : i < st.length
  ·rw [step2_yes k hh, List.mem_singleton] at h
   subst h
   exact ⟨hh, hk, (show (st.length - (i + 1)) + (fo.length - k) < _ by omega), (by show (0 : Int) ≤ 1; omega), (by show (1 : Int) ≤ 1; omega)⟩
  ·rw [step2_no k hh] at h; cases h
 ·by_cases hh : k < fo.length
  ·rw [step3_yes i hh, List.mem_singleton] at h
   subst h
   exact ⟨hi, hh, (show (st.length - i) + (fo.length - (k + 1)) < _ by omega), (by show (0 : Int) ≤ 1; omega), (by show (1 : Int) ≤ 1; omega)⟩
  ·rw [step3_no i hh] at h; cases h
theorem wrap_small {n : Int} (h0 : 0 ≤ n) (h1 : n ≤ 10000) : IntKind.i64.wrap n = n := by
 simp only [IntKind.wrap, IntKind.signed, IntKind.bits]
 simp
 omega
def leastA (st fo : List Int) (i k : Nat) (pre : List (StAt st fo i k)) : Int := lst (dd st fo) (pre.map (·.1))
theorem leastA_snoc (st fo : List Int) (i k : Nat) (pre : List (StAt st fo i k)) (x : StAt st fo i k) :
  leastA st fo i k (pre ++ [x]) = if leastA st fo i k pre < 0 ∨ x.1.wr + dd st fo x.1.i x.1.k < leastA st fo i k pre then x.1.wr + dd st fo x.1.i x.1.k else leastA st fo i k pre := by
 unfold leastA
 rw [List.map_append]
 exact lst_snoc _ _ _
theorem leastA_all {st fo : List Int} {i k : Nat} (hi : i ≤ st.length) (hk : k ≤ fo.length) (hne : ¬ (i = st.length ∧ k = fo.length)) {ys : List (StAt st fo i k)} (h : AllCome st fo i k ys) : leastA st fo i k ys = (dd st fo i k : Int) := by
 unfold leastA
 rw [show ys.map (·.1) = _ from h]
 exact lst_steps hi hk hne
def LeftP (M : Nat) (st fo : List Int) (i k : Nat) (w : World) (e : Ending) (w' : World) : Prop :=
 e = .returned (.int .i64 (dd st fo i k : Int)) ∧ Keep (· ≠ M) w w' ∧ PMap w' M st.length fo.length (Known st fo)
theorem yL {p : Prop} (h : p := by first | omega | (simp; done) | (simp; omega)) : p := h
theorem left_step (pb eb kb M : Nat) (id hs : Int) (st fo : List Int) (sa fa : Option Addr) (sc fc : Nat) (hl : st.length ≤ 2000) (hl2 : fo.length ≤ 2000) (i k : Nat) (hi : i ≤ st.length) (hk : k ≤ fo.length)
  (ih : ∀ i' k' w, i' ≤ st.length → k' ≤ fo.length → (st.length - i') + (fo.length - k') < (st.length - i) + (fo.length - k) → Half w pb eb kb M id hs st fo sa fa sc fc →
   Calls Tryz.prog 143 #[plc i' k', .pointer (some ⟨eb, 0, none⟩), .pointer (some ⟨kb, 0, none⟩), .pointer (some ⟨pb, 0, none⟩)] w (LeftP M st fo i' k' w))
  (w : World) (hH : Half w pb eb kb M id hs st fo sa fa sc fc) :
  Calls Tryz.prog 143 #[plc i k, .pointer (some ⟨eb, 0, none⟩), .pointer (some ⟨kb, 0, none⟩), .pointer (some ⟨pb, 0, none⟩)] w (LeftP M st fo i k w) := by
 have hm := mixedS
 have hl0 := hl
 have IH := hid ih; clear ih
 have HH := hid hH
 have l1 := hH.pair.lt; have l2 := hH.fin.lt; have l3 := hH.known.lt; have l4 := hH.map.lt
 have e0 : w.cell? ⟨eb, 0, none⟩ = some (.int .i64 st.length) := hH.fin.cell 0
 have e1 : w.cell? ⟨eb, 1, none⟩ = some (.int .i64 fo.length) := hH.fin.cell 1
 have k0 : w.cell? ⟨kb, 0, none⟩ = some (.map (some M)) := hH.known.cell 0
 have p0 : w.cell? ⟨pb, 0, none⟩ = some (.int .i64 id) := hH.pair.cell 0
 have p1 : w.cell? ⟨pb, 1, none⟩ = some (.int .i64 hs) := hH.pair.cell 1
 have p2 : w.cell? ⟨pb, 2, none⟩ = some (.slice sa st.length sc) := hH.pair.cell 2
 have p3 : w.cell? ⟨pb, 3, none⟩ = some (.slice fa fo.length fc) := hH.pair.cell 3
 have p4 : w.cell? ⟨pb, 4, none⟩ = some (.func (.func 143) #[] #[.pointer (some ⟨eb, 0, none⟩), .pointer (some ⟨kb, 0, none⟩), .pointer (some ⟨pb, 0, none⟩)]) := hH.pair.cell 4
 refine (callsIn_wide (n := 3)).1 (callsIn_of_wp_marks Tryz.func143 rfl trivial ?_ rfl)
 simp only [Tryz.ntmps143, List.size_toArray, List.length_cons, List.length_nil, Nat.reduceAdd, Nat.reduceSub, Array.replicate_succ, Array.replicate_zero, List.push_toArray, List.append_toArray, List.nil_append, List.cons_append]
 unfold plc
 by_cases hend : i = st.length ∧ k = fo.length
 ·obtain ⟨rfl, rfl⟩ := hend
  gi_wp2
  refine ⟨_, results_tmp rfl _ _ _, ?_⟩
  have h0 : dd st fo st.length fo.length = 0 := (dist_end (.inl (Nat.le_refl _))).trans (by omega)
  exact ⟨by rw [h0]; rfl, (Keep.refl _ _).alloc _, hH.map.kept (Below.heap_alloc _ _ _ l4)⟩
 ·have hq : ((i : Int) == (st.length : Int) && (k : Int) == (fo.length : Int)) = false := by
   rw [Bool.and_eq_false_iff]; simp only [beq_eq_false_iff_ne, ne_eq]; omega
  have hP := hH.map.kept (w' := w.alloc (.cells #[.int .i64 i, .int .i64 k] 193)) (Below.heap_alloc _ _ _ l4)
  have hlk := hP.look (t := 199) (e := 3) Tryz.underlying199 (z := .int .i64 0) (Tryz.zeroValue3 _) (i := i) (k := k) (by omega) (by omega)
  unfold plc at hlk
  rcases hlk with hrun | ⟨v, rfl, hrun⟩
  ·clear hH hP
   gi_wp2_with (refine ⟨trivial, ?_⟩; gi_at_call 144; refine (callsIn_wide.2 (steps_any _ i k _ rfl)).mono ?_; rintro e w' ⟨rfl, rfl⟩)
   refine wpIn_world (fun wL => Box wL w.heap.size #[.int .i64 i, .int .i64 k] 193 ∧ Box wL (w.heap.size + 1) #[.int .i64 (-1)] 3 ∧ Box wL (w.heap.size + 1 + 1) (pairC id hs st fo sa fa sc fc (leftV eb kb pb)) 180 ∧ Box wL (w.heap.size + 1 + 1 + 1) #[.int .i64 i, .int .i64 k] 193 ∧ w.heap.size + 4 ≤ wL.heap.size ∧ Below w.heap.size w wL) ⟨?_, ?_, ?_, ?_, by simp, ?_⟩ ?_
   ·exact (((Box.at _ _ yL).alloc _).alloc _).alloc _
   ·exact ((Box.at _ _ yL).alloc _).alloc _
   ·exact (Box.at _ _ yL).alloc _
   ·exact Box.at _ _ yL
   ·exact goBl
   rintro wL ⟨bA, bB, bC, bD, zL, hbL⟩
   clear hrun hq p0 p1 p2 p3 p4 e0 e1 k0
   have hHL := HH.out.keep (w' := wL) (Keep.of_below hbL (fun _ h _ => h)) (HH.out.map.kept (hbL.block _ l4))
   have HHL := hid hHL
   have ZL := hid zL
   refine wpIn_rangeFunc_ownH rfl (by omega) (gf := 159) (lb := #[.pointer (some ⟨w.heap.size + 1 + 1 + 1, 0, none⟩), .pointer (some ⟨w.heap.size + 1 + 1, 0, none⟩)]) rfl trivial (enters_of Tryz.func159 (by kernel_rfl) rfl)
    (steps1_stops 2 (w.heap.size + 1 + 1 + 1) (w.heap.size + 1 + 1) id hs st fo sa fa sc fc (leftV eb kb pb) i k hi hk (by omega) (by omega) (fun b => b ≠ M ∧ b ≠ w.heap.size + 1 ∧ b < wL.heap.size)
     ⟨by omega, by omega, by omega⟩ ⟨by omega, by omega, by omega⟩ ?z3 ?z4 wL ⟨bD, bC, hHL.s, hHL.f⟩)
    (fun h k => h.trans k) ?kb (Below.refl _ _) (fun _ => rfl)
    (fun pre W => Box W (w.heap.size + 1) #[.int .i64 (leastA st fo i k pre)] 3 ∧ Box W w.heap.size #[.int .i64 i, .int .i64 k] 193 ∧ Keep (· ≠ M) w W ∧ PMap W M st.length fo.length (Known st fo) ∧ wL.heap.size ≤ W.heap.size)
    (fun _ _ _ => False) ?hI ?hIx ⟨bB, bA, Keep.of_below hbL (fun _ h _ => h), hHL.map, Nat.le_refl _⟩
    (fun x a' W => ∃ Bx, wL.heap.size ≤ Bx ∧ Box W Bx #[.int .i64 x.1.i, .int .i64 x.1.k, .int .i64 x.1.s, .int .i64 x.1.f, .int .i64 x.1.wr] 204 ∧ ∃ f : Nat → Value, a' = ⟨((List.range 46).map f).toArray, []⟩ ∧ f 3 = .pointer (some ⟨pb, 0, none⟩) ∧ f 8 = .pointer (some ⟨w.heap.size + 1, 0, none⟩) ∧ f 9 = .pointer (some ⟨Bx, 0, none⟩)) ?hAx ?assign ?body ?done ?stop
   case z3 => exact fun hx p hp => ⟨HHL.out.map.ne_row HHL.out.s hx hp, by have := row_lt HH.out.s hx hp; omega, by have := row_lt HH.out.s hx hp; omega⟩
   case z4 => exact fun hx p hp => ⟨HHL.out.map.ne_row HHL.out.f hx hp, by have := row_lt HH.out.f hx hp; omega, by have := row_lt HH.out.f hx hp; omega⟩
   case kb => exact fun W l o o' hl _ _ _ => (Keep.refl _ _).putObj l o' (fun _ hz => by have := hz.2.2; omega)
   case hI =>
    rintro pre W W' row ⟨iB, iA, iK, iP, iz⟩ hg hr
    have hrow : ∀ r, r < wL.heap.size → row ≠ some r := fun r hlt e => by have := (hr r e).1; omega
    exact ⟨iB.grown hg (hrow _ (by omega)), iA.grown hg (hrow _ (by omega)), iK.grown hg (fun r e hlt => absurd e (hrow r (by omega))), iP.kept (hg.block M iP.lt (fun e => hrow M (by omega) e.symm)), Nat.le_trans iz hg.size⟩
   case hIx => exact fun _ _ _ _ _ hs _ _ => hs
   case hAx =>
    rintro x a' _ W W' row ⟨Bx, hB, hb, hf⟩ hg hr
    refine ⟨Bx, hB, hb.grown hg (fun e => ?_), hf⟩
    obtain ⟨o, ho, hc⟩ := (hr Bx e).2
    rw [show W.heap[Bx]? = _ from hb] at ho
    cases ho
    cases hc
   case assign =>
    rintro l pre ⟨x, hx⟩ W K ⟨iB, iA, iK, iP, iz⟩ hK
    simp only [St.val]
    gi_wp2
    refine hK _ _ ((KeepsOthers.alloc _ _).from _) ((Keep.refl _ _).alloc _) ⟨iB.alloc _, iA.alloc _, iK.alloc _, iP.kept (Below.heap_alloc _ _ _ iP.lt), by simp; omega⟩ ⟨W.heap.size, iz, Box.new _ _ _, ?_⟩
    refine acts_of rfl ?_
    exact ⟨rfl, rfl, rfl⟩
   case body =>
    rintro l pre ⟨x, hx⟩ a' W hl ⟨r, hr⟩ ⟨iB, iA, iK, iP, iz⟩ ⟨Bx, hBx, bX, f, rfl, f3, f8, f9⟩ hlt
    obtain ⟨b1, b2, b3, b4, b5⟩ := step_bound hx hi hk
    have d1 := dd_le st fo x.i x.k hl0 hl2
    rw [show (List.range 46).map f = [f 0, f 1, f 2, f 3, f 4, f 5, f 6, f 7, f 8, f 9, f 10, f 11, f 12, f 13, f 14, f 15, f 16, f 17, f 18, f 19, f 20, f 21, f 22, f 23, f 24, f 25, f 26, f 27, f 28, f 29, f 30, f 31, f 32, f 33, f 34, f 35, f 36, f 37, f 38, f 39, f 40, f 41, f 42, f 43, f 44, f 45] from rfl, f3, f8, f9]
    clear f3 f8 f9
    have HK := hid iK; have HP := hid iP; have HB := hid iB; have HA := hid iA; have HX := hid bX
    have hHW := HH.out.keep iK iP
    have HHW := hid hHW
    have p4 : W.cell? ⟨pb, 4, none⟩ = some (.func (.func 143) #[] #[.pointer (some ⟨eb, 0, none⟩), .pointer (some ⟨kb, 0, none⟩), .pointer (some ⟨pb, 0, none⟩)]) := hHW.pair.cell 4
    have x0 : W.cell? ⟨Bx, 0, none⟩ = some (.int .i64 x.i) := bX.cell 0
    have x1 : W.cell? ⟨Bx, 1, none⟩ = some (.int .i64 x.k) := bX.cell 1
    have x4 : W.cell? ⟨Bx, 4, none⟩ = some (.int .i64 x.wr) := bX.cell 4
    clear iB iA iK iP bX hHW
    gi_wp2
    refine wpIn_region_G [1, 3, 5] (fun w' => w'.cell? ⟨pb, 4, none⟩ = some (.func (.func 143) #[] #[.pointer (some ⟨eb, 0, none⟩), .pointer (some ⟨kb, 0, none⟩), .pointer (some ⟨pb, 0, none⟩)]) ∧ w'.cell? ⟨Bx, 0, none⟩ = some (.int .i64 x.i) ∧ w'.cell? ⟨Bx, 1, none⟩ = some (.int .i64 x.k) ∧ w'.cell? ⟨Bx, 4, none⟩ = some (.int .i64 x.wr)) hm ⟨by go_simp, by go_simp, by go_simp, by go_simp⟩ ?_
    intro hS0; have hS := hid hS0; clear hS0
    (apply wpAnyG_pure (wide_round _) (i := 0) rfl (by kernel_rfl) (fun _ _ _ h => h); · first | exact .inr ⟨rfl, rfl⟩ | exact .inl ⟨rfl, fun w' => by go_simp; rfl⟩); simp only [Act.put, List.setIfInBounds_toArray, List.set_cons_succ, List.set_cons_zero, List.getElem_toArray, List.getElem_cons_succ, List.getElem_cons_zero]
    (apply wpAnyG_held (wide_round _) (i := 1) rfl (by kernel_rfl) (fun _ _ _ h => h) hS.out; · first | exact .inr ⟨rfl, rfl⟩ | exact .inl ⟨rfl, fun w' hS' => by (obtain ⟨s1, s2, s3, s4⟩ := hS'; go_simp; rfl)⟩); simp only [Act.put, List.setIfInBounds_toArray, List.set_cons_succ, List.set_cons_zero, List.getElem_toArray, List.getElem_cons_succ, List.getElem_cons_zero]
    (apply wpAnyG_pure (wide_round _) (i := 2) rfl (by kernel_rfl) (fun _ _ _ h => h); · first | exact .inr ⟨rfl, rfl⟩ | exact .inl ⟨rfl, fun w' => by go_simp; rfl⟩); simp only [Act.put, List.setIfInBounds_toArray, List.set_cons_succ, List.set_cons_zero, List.getElem_toArray, List.getElem_cons_succ, List.getElem_cons_zero]
    (apply wpAnyG_held (wide_round _) (i := 3) rfl (by kernel_rfl) (fun _ _ _ h => h) hS.out; · first | exact .inr ⟨rfl, rfl⟩ | exact .inl ⟨rfl, fun w' hS' => by (obtain ⟨s1, s2, s3, s4⟩ := hS'; go_simp; rfl)⟩); simp only [Act.put, List.setIfInBounds_toArray, List.set_cons_succ, List.set_cons_zero, List.getElem_toArray, List.getElem_cons_succ, List.getElem_cons_zero]
    (apply wpAnyG_pure (wide_round _) (i := 4) rfl (by kernel_rfl) (fun _ _ _ h => h); · first | exact .inr ⟨rfl, rfl⟩ | exact .inl ⟨rfl, fun w' => by go_simp; rfl⟩); simp only [Act.put, List.setIfInBounds_toArray, List.set_cons_succ, List.set_cons_zero, List.getElem_toArray, List.getElem_cons_succ, List.getElem_cons_zero]
    (apply wpAnyG_held (wide_round _) (i := 5) rfl (by kernel_rfl) (fun _ _ _ h => h) hS.out; · first | exact .inr ⟨rfl, rfl⟩ | exact .inl ⟨rfl, fun w' hS' => by (obtain ⟨s1, s2, s3, s4⟩ := hS'; go_simp; rfl)⟩); simp only [Act.put, List.setIfInBounds_toArray, List.set_cons_succ, List.set_cons_zero, List.getElem_toArray, List.getElem_cons_succ, List.getElem_cons_zero]
    refine wpAnyG_one (i := 6) rfl ⟨by kernel_rfl, by kernel_rfl⟩ ?_
    intro K hK
    go_simp
    refine ⟨trivial, ?_⟩
    refine (CallsIn.inRound l (callsIn_wide.2 (IH.out x.i x.k _ b1 b2 b3 (HHW.out.keep (Keep.drew (Keep.refl _ _)) (HHW.out.map.kept rfl))))).mono ?_
    rintro e w6 ⟨rfl, hk6, hp6⟩
    have KW : Keep (· ≠ M) W w6 := (Keep.drew (Keep.refl _ W)).trans hk6
    refine shutSG hK ⟨KW.cell (HHW.out.map.ne_box HHW.out.pair) p4, KW.cell (show Bx ≠ M by omega) x0, KW.cell (show Bx ≠ M by omega) x1, KW.cell (show Bx ≠ M by omega) x4⟩ (fun hS => ?_)
    clear hK K
    (apply wpAnyG_pure (wide_round _) (i := 7) rfl (by kernel_rfl) (fun _ _ _ h => h); · first | exact .inr ⟨rfl, rfl⟩ | exact .inl ⟨rfl, fun w' => by go_simp; rfl⟩); simp only [Act.put, List.setIfInBounds_toArray, List.set_cons_succ, List.set_cons_zero, List.getElem_toArray, List.getElem_cons_succ, List.getElem_cons_zero]
    (apply wpAnyG_pure (wide_round _) (i := 8) rfl (by kernel_rfl) (fun _ _ _ h => h); · first | exact .inr ⟨rfl, rfl⟩ | exact .inl ⟨rfl, fun w' => by go_simp; rfl⟩); simp only [Act.put, List.setIfInBounds_toArray, List.set_cons_succ, List.set_cons_zero, List.getElem_toArray, List.getElem_cons_succ, List.getElem_cons_zero]
    refine wpAnyG_done (by kernel_rfl) ?_ _
    clear hS x0 x1 x4 p4
    have B6 := KW.box (show w.heap.size + 1 ≠ M by omega) HB.out
    have A6 := KW.box (show w.heap.size ≠ M by omega) HA.out
    have c8 : w6.cell? ⟨w.heap.size + 1, 0, none⟩ = some (.int .i64 (leastA st fo i k pre)) := B6.cell 0
    have k8 := B6.frozen 0
    have hl6 := B6.lt
    have hw := wrap_small (n := x.wr + (dd st fo x.i x.k : Int)) (by omega) (by omega)
    simp only [hw]
    have hsn := leastA_snoc st fo i k pre ⟨x, hx⟩
    have HSN := hid hsn; clear hsn
    have KF := keepsFrom_of KW (B := wL.heap.size) (by omega)
    have KZ : Keep (fun b => b ≠ M ∧ b ≠ w.heap.size + 1 ∧ b < wL.heap.size) W w6 := KW.mono (fun b _ hz => hz.1)
    have K1 := HK.out.trans KW
    have hz6 := KW.size
    have hM1 : M ≠ w.heap.size + 1 := by omega
    by_cases h1 : leastA st fo i k pre < 0
    ·have H1 := hid h1
     gi_wp2
     refine ⟨KF.trans ((KeepsOthers.setCell _ _ _).from _), KZ.setCell ⟨w.heap.size + 1, 0, none⟩ _ (fun _ hz => hz.2.1 rfl), ?_, A6.other _ _ _ (by omega), K1.setCell _ _ (fun h => by have : w.heap.size + 1 < w.heap.size := h; omega), hp6.kept (Below.heap_setCell _ _ _ _ hM1), by rw [World.size_setCell]; omega⟩
     rw [HSN.out, if_pos (.inl H1.out)]
     exact B6.set 0 _
    ·by_cases h2 : x.wr + (dd st fo x.i x.k : Int) < leastA st fo i k pre
     ·have H2 := hid h2
      gi_wp2
      refine ⟨KF.trans ((KeepsOthers.setCell _ _ _).from _), KZ.setCell ⟨w.heap.size + 1, 0, none⟩ _ (fun _ hz => hz.2.1 rfl), ?_, A6.other _ _ _ (by omega), K1.setCell _ _ (fun h => by have : w.heap.size + 1 < w.heap.size := h; omega), hp6.kept (Below.heap_setCell _ _ _ _ hM1), by rw [World.size_setCell]; omega⟩
      rw [HSN.out, if_pos (.inr H2.out)]
      exact B6.set 0 _
     ·have H1 := hid h1; have H2 := hid h2
      gi_wp2
      refine ⟨KF, KZ, ?_, A6, K1, hp6, by omega⟩
      rw [HSN.out, if_neg (fun h => by have g1 := H1.out; have g2 := H2.out; omega)]
      exact B6
   case done =>
    rintro D ys W hD hall ⟨iB, iA, iK, iP, iz⟩ hKD
    have hfin := leastA_all hi hk hend hall
    rw [hfin] at iB
    clear hall hfin
    have hHW := HH.out.keep iK iP
    have k0 : W.cell? ⟨kb, 0, none⟩ = some (.map (some M)) := hHW.known.cell 0
    have c8 : W.cell? ⟨w.heap.size + 1, 0, none⟩ = some (.int .i64 (dd st fo i k : Int)) := iB.cell 0
    have a0 : W.cell? ⟨w.heap.size, 0, none⟩ = some (.int .i64 i) := iA.cell 0
    have a1 : W.cell? ⟨w.heap.size, 1, none⟩ = some (.int .i64 k) := iA.cell 1
    obtain ⟨w5, hrun5, hp5, hg5, hz5⟩ := iP.store (t := 199) (e := 3) Tryz.underlying199 (by omega) (by omega) hi hk (v := .int .i64 (dd st fo i k : Int)) rfl
    unfold plc at hrun5
    have B5 := iB.grown hg5 (show some M ≠ some (w.heap.size + 1) from fun e => by cases e; omega)
    have c85 : w5.cell? ⟨w.heap.size + 1, 0, none⟩ = some (.int .i64 (dd st fo i k : Int)) := B5.cell 0
    have hKD5 : w5.heap[D]? = some (.deferred (some [])) := (hg5.block D (Array.getElem?_eq_some_iff.1 hKD).1 (fun e => by cases e; omega)).trans hKD
    have hDM : M ≠ D := by omega
    have K5 := iK.grown hg5 (fun r e _ hz => by cases e; exact hz rfl)
    have hDw : ¬ D < w.heap.size := by omega
    clear iB iA iK iP hHW hKD B5 hg5 hz5
    gi_wp2
    refine ⟨by simp, .inl ⟨_, _, rfl, run_takeDeferred hKD5, ?_⟩⟩
    exact ⟨_, results_tmp rfl _ _ _, rfl, K5.putObj _ _ (fun h => absurd h hDw), hp5.kept (World.putObj_heap_other hDM)⟩
   case stop =>
    rintro D c pre W _ _ h _
    exact h.elim
  ·clear hH
   gi_wp2
   refine ⟨_, results_tmp rfl _ _ _, ?_⟩
   exact ⟨rfl, (Keep.refl _ _).alloc _, hP⟩
theorem field_left (c0 c1 c2 c3 v : Value) (w : World) : (Instr.field 180 (.agg #[c0, c1, c2, c3, v]) 1).run Tryz.prog w = .ok v w := by kernel_rfl
theorem left_any (pb eb kb M : Nat) (id hs : Int) (st fo : List Int) (sa fa : Option Addr) (sc fc : Nat) (hl : st.length ≤ 2000) (hl2 : fo.length ≤ 2000) (i k : Nat) (w : World) (hi : i ≤ st.length) (hk : k ≤ fo.length) (hH : Half w pb eb kb M id hs st fo sa fa sc fc) :
  Calls Tryz.prog 143 #[plc i k, .pointer (some ⟨eb, 0, none⟩), .pointer (some ⟨kb, 0, none⟩), .pointer (some ⟨pb, 0, none⟩)] w (LeftP M st fo i k w) := by
 have h : ∀ m i k w, (st.length - i) + (fo.length - k) < m → i ≤ st.length → k ≤ fo.length → Half w pb eb kb M id hs st fo sa fa sc fc →
   Calls Tryz.prog 143 #[plc i k, .pointer (some ⟨eb, 0, none⟩), .pointer (some ⟨kb, 0, none⟩), .pointer (some ⟨pb, 0, none⟩)] w (LeftP M st fo i k w) := by
  intro m
  induction m with
  | zero => intro i k w h; omega
  | succ m ih =>
   intro i k w hm hi hk hH
   exact left_step pb eb kb M id hs st fo sa fa sc fc hl hl2 i k hi hk (fun i' k' w' hi' hk' hlt hH' => ih i' k' w' (by omega) hi' hk' hH') w hH
 exact h _ i k w (Nat.lt_succ_self _) hi hk hH
theorem PMap.at {w : World} {n : Nat} (A B : Nat) (V : Nat → Nat → Value → Prop) (hn : n = w.heap.size) : PMap (w.alloc (.map #[] 0)) n A B V := hn ▸ PMap.made w A B V
theorem PMap.alloc {w : World} {b A B : Nat} {V : Nat → Nat → Value → Prop} (h : PMap w b A B V) (o : Obj) : PMap (w.alloc o) b A B V := h.kept (Below.heap_alloc _ _ _ h.lt)
theorem halves_any (id hs : Int) (st fo : List Int) (sa fa : Option Addr) (sc fc : Nat) (w : World) (hl : st.length ≤ 2000) (hl2 : fo.length ≤ 2000) (h1 : RdI w sa st) (h2 : RdI w fa fo) :
  Calls Tryz.prog 127 #[.agg #[.int .i64 id, .int .i64 hs, .slice sa st.length sc, .slice fa fo.length fc]] w fun e w' => ∃ pb eb kb M, e = .returned (.agg (pairC id hs st fo sa fa sc fc (leftV eb kb pb))) ∧ Below w.heap.size w w' ∧ w.heap.size ≤ M ∧ Half w' pb eb kb M id hs st fo sa fa sc fc := by
 have hmm := @run_makeMap Tryz.prog
 have H1 := hid h1; have H2 := hid h2; clear h1 h2
 go_enter Tryz.func127, Tryz.ntmps127
 go_wp2_with fail
 refine bodyPost_ret (v := .agg (pairC id hs st fo sa fa sc fc (leftV (w.heap.size + 3) (w.heap.size + 5) (w.heap.size + 2)))) (by simp [results, Tryz.results127, go_sem, pairC, leftV]) rfl ?_
 refine ⟨w.heap.size + 2, w.heap.size + 3, w.heap.size + 5, w.heap.size + 4, rfl, goBl, by omega, ⟨(show Box _ (w.heap.size + 2) #[.int .i64 id, .int .i64 hs, .slice sa st.length sc, .slice fa fo.length fc, .func (.func 143) #[] #[.pointer (some ⟨w.heap.size + 3, 0, none⟩), .pointer (some ⟨w.heap.size + 5, 0, none⟩), .pointer (some ⟨w.heap.size + 2, 0, none⟩)]] 180 from (by repeat (first | (with_reducible assumption) | (with_reducible refine Box.at _ _ yL) | (with_reducible refine Box.drew ?_) | (with_reducible refine Box.alloc ?_ _) | (with_reducible refine Box.other ?_ _ _ _ yL) | (refine Box.below ?_ hb2 yL) | (refine Box.below ?_ hb3 yL)))), (by repeat (first | (with_reducible assumption) | (with_reducible refine Box.at _ _ yL) | (with_reducible refine Box.drew ?_) | (with_reducible refine Box.alloc ?_ _) | (with_reducible refine Box.other ?_ _ _ _ yL) | (refine Box.below ?_ hb2 yL) | (refine Box.below ?_ hb3 yL))), (by repeat (first | (with_reducible assumption) | (with_reducible refine Box.at _ _ yL) | (with_reducible refine Box.drew ?_) | (with_reducible refine Box.alloc ?_ _) | (with_reducible refine Box.other ?_ _ _ _ yL) | (refine Box.below ?_ hb2 yL) | (refine Box.below ?_ hb3 yL))), (PMap.at _ _ _ yL).alloc _, ?_, ?_⟩⟩
 ·exact H1.out.below goBl
 ·exact H2.out.below goBl
theorem between_any (st fo : List Int) (sa fa : Option Addr) (sc fc : Nat) (w : World) (hl : st.length ≤ 2000) (hl2 : fo.length ≤ 2000) (h1 : RdI w sa st) (h2 : RdI w fa fo) :
  Calls Tryz.prog 105 #[.slice sa st.length sc, .slice fa fo.length fc] w fun e w' => e = .returned (.int .i64 (dist st fo : Int)) ∧ Below w.heap.size w w' := by
 have H1 := hid h1; have H2 := hid h2; clear h1 h2
 go_enter Tryz.func105, Tryz.ntmps105
 go_wp2_with fail
 refine (halves_any 0 0 st fo sa fa sc fc w hl hl2 H1.out H2.out).mono ?_
 rintro e w1 ⟨pb, eb, kb, M, rfl, hb1, hM, hH⟩
 have HH := hid hH; clear hH
 unfold pairC leftV
 have hfd := field_left
 go_wp2_with fail
 refine (left_any pb eb kb M 0 0 st fo sa fa sc fc hl hl2 0 0 w1 (Nat.zero_le _) (Nat.zero_le _) HH.out).mono ?_
 rintro e w2 ⟨rfl, hk2, _⟩
 go_wp2_with fail
 go_ret
 exact ⟨(congrArg (fun b => Ending.returned (Value.int .i64 b)) rfl), hb1.trans (hk2.below (B := w.heap.size) (fun k hk => show k ≠ M by omega) hb1.size)⟩
structure Ed where
 kd : Int
 at' : Int
 nt : Int
def Ed.cells (e : Ed) : List Value := [.int .i64 e.kd, .int .i64 e.at', .int .i64 e.nt]
def RdE (w : World) (a : Option Addr) (es : List Ed) : Prop := ∀ i (h : i < es.length), ∃ b o, a = some ⟨b, o, none⟩ ∧
 w.cell? ⟨b, o + i * 3, none⟩ = some (.int .i64 es[i].kd) ∧ w.cell? ⟨b, o + i * 3 + 1, none⟩ = some (.int .i64 es[i].at') ∧ w.cell? ⟨b, o + i * 3 + 2, none⟩ = some (.int .i64 es[i].nt)
theorem RdE.nil (w : World) (a : Option Addr) : RdE w a [] := fun i hi => absurd hi (Nat.not_lt_zero _)
theorem RdE.below {w w' : World} {a : Option Addr} {es : List Ed} (h : RdE w a es) (hb : Below w.heap.size w w') : RdE w' a es := fun i hi => by
 obtain ⟨b, o, ha, h0, h1, h2⟩ := h i hi
 exact ⟨b, o, ha, (hb.cell (cell_lt h0)).trans h0, (hb.cell (cell_lt h1)).trans h1, (hb.cell (cell_lt h2)).trans h2⟩
attribute [local go_sem] Oper.semAt_some
def isBest (st fo : List Int) (i k : Nat) (x : St) : Bool := decide (x.wr + (dd st fo x.i x.k : Int) = (dd st fo i k : Int))
def bestL (st fo : List Int) (i k : Nat) : List St := (stepsL st fo i k).filter (isBest st fo i k)
def AllBest (st fo : List Int) (i k : Nat) (ys : List (StAt st fo i k)) : Prop := ys.map (·.1) = bestL st fo i k
def PartBest (st fo : List Int) (i k : Nat) (ys : List (StAt st fo i k)) : Prop := ys.map (·.1) <+: bestL st fo i k
theorem box_own {W W' : World} {row : Option Nat} {b : Nat} {cs : Array Value} {t : TypeId} (h : Box W b cs t) (hg : W.grownBy W' row) (hr : ∀ r, row = some r → ∃ o : Obj, W.heap[r]? = some o ∧ o.isCells = false) : Box W' b cs t :=
 h.grown hg (fun e => by
  obtain ⟨o, ho, hc⟩ := hr b e
  rw [show W.heap[b]? = _ from h] at ho
  cases ho
  cases hc)
theorem rd_own {W W' : World} {row : Option Nat} {a : Option Addr} {xs : List Int} (h : RdI W a xs) (hg : W.grownBy W' row) (hr : ∀ r, row = some r → ∃ o : Obj, W.heap[r]? = some o ∧ o.isCells = false) : RdI W' a xs := fun i hi => by
 obtain ⟨b, o, ha, hc⟩ := h i hi
 refine ⟨b, o, ha, (World.cell?_of_block (a := ⟨b, o + i, none⟩) (hg.block b (cell_lt hc) (fun e => ?_))).trans hc⟩
 obtain ⟨q, hq, hn⟩ := hr b e.symm
 unfold World.cell? at hc
 cases q <;> simp_all [Obj.isCells]
theorem Half.own {W W' : World} {row : Option Nat} {pb eb kb M : Nat} {id hs : Int} {st fo : List Int} {sa fa : Option Addr} {sc fc : Nat} (h : Half W pb eb kb M id hs st fo sa fa sc fc) (hg : W.grownBy W' row) (hr : ∀ r, row = some r → ∃ o : Obj, W.heap[r]? = some o ∧ o.isCells = false) (hM : row ≠ some M) :
  Half W' pb eb kb M id hs st fo sa fa sc fc :=
 ⟨box_own h.pair hg hr, box_own h.fin hg hr, box_own h.known hg hr, h.map.kept (hg.block M h.map.lt (fun e => hM e.symm)), rd_own h.s hg hr, rd_own h.f hg hr⟩
def MSt (M : Nat) (st fo : List Int) (W W' : World) : Prop := Keep (· ≠ M) W W' ∧ (PMap W M st.length fo.length (Known st fo) → PMap W' M st.length fo.length (Known st fo))
structure KpB (R : Nat → Prop) (M : Nat) (st fo : List Int) (W W' : World) : Prop where
 os : W'.os = W.os
 tape : W'.tape = W.tape
 output : W'.output = W.output
 size : W.heap.size ≤ W'.heap.size
 box : ∀ b cs t, Box W b cs t → (t = 180 ∨ t = 193 ∨ t = 199 ∨ t = 220) → Box W' b cs t
 row : ∀ k, k < W.heap.size → R k → W'.heap[k]? = W.heap[k]?
 map : PMap W M st.length fo.length (Known st fo) → PMap W' M st.length fo.length (Known st fo)
theorem KpB.refl (R : Nat → Prop) (M : Nat) (st fo : List Int) (W : World) : KpB R M st fo W W := ⟨rfl, rfl, rfl, Nat.le_refl _, fun _ _ _ h _ => h, fun _ _ _ => rfl, fun h => h⟩
theorem KpB.trans {R : Nat → Prop} {M : Nat} {st fo : List Int} {A B C : World} (h : KpB R M st fo A B) (k : KpB R M st fo B C) : KpB R M st fo A C :=
 ⟨k.os.trans h.os, k.tape.trans h.tape, k.output.trans h.output, Nat.le_trans h.size k.size, fun b cs t hb ht => k.box b cs t (h.box b cs t hb ht) ht, fun i hi hr => (k.row i (Nat.lt_of_lt_of_le hi h.size) hr).trans (h.row i hi hr), fun hm => k.map (h.map hm)⟩
theorem KpB.rd {R : Nat → Prop} {M : Nat} {st fo : List Int} {W W' : World} (h : KpB R M st fo W W') {a : Option Addr} {xs : List Int} (hr : RdI W a xs) (hR : xs ≠ [] → ∀ p, a = some p → R p.block) : RdI W' a xs := fun i hi => by
 obtain ⟨b, o, ha, hc⟩ := hr i hi
 exact ⟨b, o, ha, (World.cell?_of_block (a := ⟨b, o + i, none⟩) (h.row b (cell_lt hc) (hR (List.ne_nil_of_length_pos (Nat.lt_of_le_of_lt (Nat.zero_le _) hi)) _ ha))).trans hc⟩
theorem KpB.half {R : Nat → Prop} {M : Nat} {st fo : List Int} {W W' : World} (h : KpB R M st fo W W') {pb eb kb : Nat} {id hs : Int} {sa fa : Option Addr} {sc fc : Nat} (hH : Half W pb eb kb M id hs st fo sa fa sc fc)
  (hR3 : st ≠ [] → ∀ p, sa = some p → R p.block) (hR4 : fo ≠ [] → ∀ p, fa = some p → R p.block) : Half W' pb eb kb M id hs st fo sa fa sc fc :=
 ⟨h.box _ _ _ hH.pair (.inl rfl), h.box _ _ _ hH.fin (.inr (.inl rfl)), h.box _ _ _ hH.known (.inr (.inr (.inl rfl))), h.map hH.map, h.rd hH.s hR3, h.rd hH.f hR4⟩
theorem roundIn_wide {n m : Nat} {P : Program} {l l' : Nat} {f : FuncId} {tmps : Array Value} {assign body : Code} {w : World} {R : Ending → World → Prop} (h : RoundIn Fence.wide n P l f tmps assign body w R) : RoundIn (Fence.wide.inRound l') m P l f tmps assign body w R :=
 ⟨h.1, fun c cs _ => h.2 c cs (by simp [Fence.room, Fence.wide])⟩
theorem best_any (cs : Array Value) (i k : Nat) (w : World) (hcs : cs.size = 5) :
  Calls Tryz.prog 146 #[.agg cs, plc i k] w fun e w' => e = .returned (.func (.func 160) #[] #[.pointer (some ⟨w.heap.size, 0, none⟩), .pointer (some ⟨w.heap.size + 1, 0, none⟩)]) ∧ w' = (w.alloc (.cells cs 180)).alloc (.cells #[.int .i64 i, .int .i64 k] 193) := by
 go_enter Tryz.func146, Tryz.ntmps146
 unfold plc
 go_wp2_with fail
 go_ret
 exact ⟨by simp, by simp [Value.cells]⟩
theorem best1_in (l xb qb pb eb kb M : Nat) (id hs : Int) (st fo : List Int) (sa fa : Option Addr) (sc fc : Nat) (i k : Nat) (hi : i ≤ st.length) (hk : k ≤ fo.length) (hl : st.length ≤ 2000) (hl2 : fo.length ≤ 2000)
  (R : Nat → Prop) (hRM : ¬ R M) (hR3 : st ≠ [] → ∀ p, sa = some p → R p.block) (hR4 : fo ≠ [] → ∀ p, fa = some p → R p.block) (w : World) (J Jx : List (StAt st fo i k) → World → Prop) (hJ : Bears w.heap.size (MSt M st fo) J) (hJx : Bears w.heap.size (MSt M st fo) Jx)
  (hY : ∀ pre (x : StAt st fo i k) W1, J pre W1 → pre.length < 3 → YieldAt Fence.wide 2 Tryz.prog l #[x.1.val] W1 fun e W' =>
   KeepsFrom w.heap.size W1 W' ∧ ((e = .returned (.bool true) ∧ J (pre ++ [x]) W' ∧ KpB R M st fo W1 W') ∨ (e = .returned (.bool false) ∧ Jx (pre ++ [x]) W')))
  (hX : Box w xb (pairC id hs st fo sa fa sc fc (leftV eb kb pb)) 180) (hQ : Box w qb #[.int .i64 i, .int .i64 k] 193) (hH : Half w pb eb kb M id hs st fo sa fa sc fc) (h0 : J [] w) :
  CallsIn Fence.wide 3 Tryz.prog 160 #[.func (.yield l) #[] #[], .pointer (some ⟨xb, 0, none⟩), .pointer (some ⟨qb, 0, none⟩)] w fun e W' => (∃ v, e = .returned v) ∧
   ((∃ ys, AllBest st fo i k ys ∧ J ys W') ∨ (∃ pre, PartBest st fo i k pre ∧ Jx pre W')) := by
 have hm := mixedS
 have HY := hid hY; clear hY
 have HJ := hid hJ; have HJx := hid hJx; clear hJ hJx
 have HH := hid hH; have J0 := hid h0; clear h0
 have l1 := hX.lt; have l2 := hQ.lt; have l4 := hH.map.lt
 have xM : xb ≠ M := hH.map.ne_box hX
 have qM : qb ≠ M := hH.map.ne_box hQ
 have c0 : w.cell? ⟨xb, 0, none⟩ = some (.int .i64 id) := hX.cell 0
 have c1 : w.cell? ⟨xb, 1, none⟩ = some (.int .i64 hs) := hX.cell 1
 have c2 : w.cell? ⟨xb, 2, none⟩ = some (.slice sa st.length sc) := hX.cell 2
 have c3 : w.cell? ⟨xb, 3, none⟩ = some (.slice fa fo.length fc) := hX.cell 3
 have c4 : w.cell? ⟨xb, 4, none⟩ = some (.func (.func 143) #[] #[.pointer (some ⟨eb, 0, none⟩), .pointer (some ⟨kb, 0, none⟩), .pointer (some ⟨pb, 0, none⟩)]) := hX.cell 4
 have q0 : w.cell? ⟨qb, 0, none⟩ = some (.int .i64 i) := hQ.cell 0
 have q1 : w.cell? ⟨qb, 1, none⟩ = some (.int .i64 k) := hQ.cell 1
 refine callsIn_of_wp_marks Tryz.func160 rfl trivial ?_ rfl
 simp only [Tryz.ntmps160, List.size_toArray, List.length_cons, List.length_nil, Nat.reduceAdd, Nat.reduceSub, Array.replicate_succ, Array.replicate_zero, List.push_toArray, List.append_toArray, List.nil_append, List.cons_append]
 clear hH
 gi_wp2_with (refine ⟨trivial, ?_⟩; gi_at_call 144; refine (callsIn_wide.2 (steps_any _ i k _ rfl)).mono ?_; rintro e w' ⟨rfl, rfl⟩)
 obtain ⟨W0, hW0⟩ : ∃ W0, W0 = w := ⟨_, rfl⟩
 refine wpIn_world (fun wL => Box wL w.heap.size #[.func (.yield l) #[] #[]] 220 ∧ Box wL (w.heap.size + 1) (pairC id hs st fo sa fa sc fc (leftV eb kb pb)) 180 ∧ Box wL (w.heap.size + 1 + 1) #[.int .i64 i, .int .i64 k] 193 ∧ w.heap.size + 3 ≤ wL.heap.size ∧ Below w.heap.size w wL) ⟨?_, ?_, ?_, by simp, ?_⟩ ?_
 ·exact ((Box.at _ _ yL).alloc _).alloc _
 ·exact (Box.at _ _ yL).alloc _
 ·exact Box.at _ _ yL
 ·exact goBl
 rintro wL ⟨bY, bC, bD, zL, hbL⟩
 clear c0 c1 c2 c3 c4 q0 q1 hW0 W0
 have JL := hid (HJ.out.1 [] w wL none J0.out (grown_of_below hbL) (by simp))
 have hHL := HH.out.keep (w' := wL) (Keep.of_below hbL (fun _ h _ => h)) (HH.out.map.kept (hbL.block _ l4))
 have bX := hX.below hbL l1; have bQ := hQ.below hbL l2
 refine wpIn_rangeFunc_ownH rfl (by omega) (gf := 159) (lb := #[.pointer (some ⟨w.heap.size + 1 + 1, 0, none⟩), .pointer (some ⟨w.heap.size + 1, 0, none⟩)]) rfl trivial (enters_of Tryz.func159 (by kernel_rfl) rfl)
  (steps1_stops 2 (w.heap.size + 1 + 1) (w.heap.size + 1) id hs st fo sa fa sc fc (leftV eb kb pb) i k hi hk (by omega) (by omega) (fun b => b = w.heap.size + 1 + 1 ∨ b = w.heap.size + 1 ∨ (R b ∧ b < w.heap.size))
   (.inl rfl) (.inr (.inl rfl)) (fun hx p hp => .inr (.inr ⟨hR3 hx p hp, row_lt HH.out.s hx hp⟩)) (fun hx p hp => .inr (.inr ⟨hR4 hx p hp, row_lt HH.out.f hx hp⟩)) wL ⟨bD, bC, hHL.s, hHL.f⟩)
  (fun h k => h.trans k) ?kb (Below.refl _ _) (fun _ => rfl)
  (fun pre W => ∃ pre' : List (StAt st fo i k), pre'.map (·.1) = (pre.map (·.1)).filter (isBest st fo i k) ∧ J pre' W ∧ Half W pb eb kb M id hs st fo sa fa sc fc ∧ Box W xb (pairC id hs st fo sa fa sc fc (leftV eb kb pb)) 180 ∧ Box W qb #[.int .i64 i, .int .i64 k] 193 ∧
   Box W w.heap.size #[.func (.yield l) #[] #[]] 220 ∧ Box W (w.heap.size + 1) (pairC id hs st fo sa fa sc fc (leftV eb kb pb)) 180 ∧ Box W (w.heap.size + 1 + 1) #[.int .i64 i, .int .i64 k] 193 ∧ wL.heap.size ≤ W.heap.size)
  (fun c pre W => c = .ret ∧ ∃ pre' : List (StAt st fo i k), pre'.map (·.1) = (pre.map (·.1)).filter (isBest st fo i k) ∧ Jx pre' W) ?hI ?hIx ⟨[], rfl, JL.out, hHL, bX, bQ, bY, bC, bD, Nat.le_refl _⟩
  (fun x a' W => ∃ Bx, wL.heap.size ≤ Bx ∧ Box W Bx #[.int .i64 x.1.i, .int .i64 x.1.k, .int .i64 x.1.s, .int .i64 x.1.f, .int .i64 x.1.wr] 204 ∧ ∃ f : Nat → Value, a' = ⟨((List.range 28).map f).toArray, []⟩ ∧ f 1 = .pointer (some ⟨xb, 0, none⟩) ∧ f 2 = .pointer (some ⟨qb, 0, none⟩) ∧ f 3 = .pointer (some ⟨w.heap.size, 0, none⟩) ∧ f 4 = .pointer (some ⟨Bx, 0, none⟩)) ?hAx ?assign ?body ?done ?stop
 case kb => exact fun W l' o o' hl' ho hc _ => (Keep.refl _ _).putObj l' o' (fun _ hz => by rcases hz with h | h | ⟨_, h⟩ <;> omega)
 case hI =>
  rintro pre W W' row ⟨pre', ip, ij, iH, iX, iQ, iY, iC, iD, iz⟩ hg hr
  have hrc : ∀ r, row = some r → ∃ o : Obj, W.heap[r]? = some o ∧ o.isCells = false := fun r e => (hr r e).2
  exact ⟨pre', ip, HJ.out.1 pre' W W' row ij hg (fun r e => ⟨by have := (hr r e).1; omega, (hr r e).2⟩), iH.own hg hrc (fun e => by have := (hr _ e).1; omega), box_own iX hg hrc, box_own iQ hg hrc, box_own iY hg hrc, box_own iC hg hrc, box_own iD hg hrc, Nat.le_trans iz hg.size⟩
 case hIx =>
  rintro c pre W W' row ⟨hc, pre', ip, ij⟩ hg hr
  exact ⟨hc, pre', ip, HJx.out.1 pre' W W' row ij hg (fun r e => ⟨by have := (hr r e).1; omega, (hr r e).2⟩)⟩
 case hAx =>
  rintro x a' _ W W' row ⟨Bx, hB, hb, hf⟩ hg hr
  exact ⟨Bx, hB, box_own hb hg (fun r e => (hr r e).2), hf⟩
 case assign =>
  rintro l2 pre ⟨x, hx⟩ W K ⟨pre', ip, ij, iH, iX, iQ, iY, iC, iD, iz⟩ hK
  simp only [St.val]
  gi_wp2
  refine hK _ _ ((KeepsOthers.alloc _ _).from _) ((Keep.refl _ _).alloc _) ⟨pre', ip, HJ.out.1.alloc _ ij, iH.keep ((Keep.refl _ _).alloc _) (iH.map.kept (Below.heap_alloc _ _ _ iH.map.lt)), iX.alloc _, iQ.alloc _, iY.alloc _, iC.alloc _, iD.alloc _, by simp; omega⟩ ⟨W.heap.size, iz, Box.new _ _ _, ?_⟩
  refine acts_of rfl ?_
  exact ⟨rfl, rfl, rfl, rfl⟩
 case body =>
  rintro l2 pre ⟨x, hx⟩ a' W hl' ⟨r, hr⟩ ⟨pre', ip, ij, iH, iX, iQ, iY, iC, iD, iz⟩ ⟨Bx, hBx, bX', f, rfl, f1, f2, f3, f4⟩ hlt
  obtain ⟨b1, b2, b3, b4, b5⟩ := step_bound hx hi hk
  have d1 := dd_le st fo x.i x.k hl hl2
  have d2 := dd_le st fo i k hl hl2
  rw [show (List.range 28).map f = [f 0, f 1, f 2, f 3, f 4, f 5, f 6, f 7, f 8, f 9, f 10, f 11, f 12, f 13, f 14, f 15, f 16, f 17, f 18, f 19, f 20, f 21, f 22, f 23, f 24, f 25, f 26, f 27] from rfl, f1, f2, f3, f4]
  clear f1 f2 f3 f4
  have hp3 : pre'.length < 3 := by
   have h1 := congrArg List.length ip
   have h2 := List.length_filter_le (isBest st fo i k) (pre.map (·.1))
   simp only [List.length_map] at h1 h2
   omega
  have HHW := hid iH
  have x0 : W.cell? ⟨Bx, 0, none⟩ = some (.int .i64 x.i) := bX'.cell 0
  have x1 : W.cell? ⟨Bx, 1, none⟩ = some (.int .i64 x.k) := bX'.cell 1
  have x2 : W.cell? ⟨Bx, 2, none⟩ = some (.int .i64 x.s) := bX'.cell 2
  have x3 : W.cell? ⟨Bx, 3, none⟩ = some (.int .i64 x.f) := bX'.cell 3
  have x4 : W.cell? ⟨Bx, 4, none⟩ = some (.int .i64 x.wr) := bX'.cell 4
  have p4 : W.cell? ⟨xb, 4, none⟩ = some (.func (.func 143) #[] #[.pointer (some ⟨eb, 0, none⟩), .pointer (some ⟨kb, 0, none⟩), .pointer (some ⟨pb, 0, none⟩)]) := iX.cell 4
  have q0 : W.cell? ⟨qb, 0, none⟩ = some (.int .i64 i) := iQ.cell 0
  have q1 : W.cell? ⟨qb, 1, none⟩ = some (.int .i64 k) := iQ.cell 1
  have y0 : W.cell? ⟨w.heap.size, 0, none⟩ = some (.func (.yield l) #[] #[]) := iY.cell 0
  have IX := hid iX; have IQ := hid iQ; have IY := hid iY; have IC := hid iC; have ID := hid iD
  clear iX iQ iY iC iD iH bX'
  have hw := wrap_small (n := x.wr + (dd st fo x.i x.k : Int)) (by omega) (by omega)
  obtain ⟨dX, hdX⟩ : ∃ d : Int, d = (dd st fo x.i x.k : Int) := ⟨_, rfl⟩
  obtain ⟨dP, hdP⟩ : ∃ d : Int, d = (dd st fo i k : Int) := ⟨_, rfl⟩
  rw [← hdX] at hw
  have HdX := hid hdX; have HdP := hid hdP; clear hdX hdP
  by_cases hit : x.wr + dX = dP
  ·rw [hit] at hw
   have hbq : (dP == dP) = true := by simp
   have HIT := hid hit
   gi_wp2
   refine wpIn_region_G [1, 3, 5, 9, 10, 14, 15] (fun w' => w'.cell? ⟨Bx, 0, none⟩ = some (.int .i64 x.i) ∧ w'.cell? ⟨Bx, 1, none⟩ = some (.int .i64 x.k) ∧ w'.cell? ⟨Bx, 2, none⟩ = some (.int .i64 x.s) ∧ w'.cell? ⟨Bx, 3, none⟩ = some (.int .i64 x.f) ∧ w'.cell? ⟨Bx, 4, none⟩ = some (.int .i64 x.wr) ∧ w'.cell? ⟨xb, 4, none⟩ = some (.func (.func 143) #[] #[.pointer (some ⟨eb, 0, none⟩), .pointer (some ⟨kb, 0, none⟩), .pointer (some ⟨pb, 0, none⟩)]) ∧ w'.cell? ⟨qb, 0, none⟩ = some (.int .i64 i) ∧ w'.cell? ⟨qb, 1, none⟩ = some (.int .i64 k) ∧ w'.cell? ⟨w.heap.size, 0, none⟩ = some (.func (.yield l) #[] #[])) hm ⟨by go_simp, by go_simp, by go_simp, by go_simp, by go_simp, by go_simp, by go_simp, by go_simp, by go_simp⟩ ?_
   intro hS0; have hS := hid hS0; clear hS0
   (apply wpAnyG_pure (wide_round _) (i := 0) rfl (by kernel_rfl) (fun _ _ _ h => h); · first | exact .inr ⟨rfl, rfl⟩ | exact .inl ⟨rfl, fun w' => by go_simp; rfl⟩); simp only [Act.put, List.setIfInBounds_toArray, List.set_cons_succ, List.set_cons_zero, List.getElem_toArray, List.getElem_cons_succ, List.getElem_cons_zero]
   (apply wpAnyG_held (wide_round _) (i := 1) rfl (by kernel_rfl) (fun _ _ _ h => h) hS.out; · first | exact .inr ⟨rfl, rfl⟩ | exact .inl ⟨rfl, fun w' hS' => by (obtain ⟨s1, s2, s3, s4, s5, s6, s7, s8, s9⟩ := hS'; go_simp; rfl)⟩); simp only [Act.put, List.setIfInBounds_toArray, List.set_cons_succ, List.set_cons_zero, List.getElem_toArray, List.getElem_cons_succ, List.getElem_cons_zero]
   (apply wpAnyG_pure (wide_round _) (i := 2) rfl (by kernel_rfl) (fun _ _ _ h => h); · first | exact .inr ⟨rfl, rfl⟩ | exact .inl ⟨rfl, fun w' => by go_simp; rfl⟩); simp only [Act.put, List.setIfInBounds_toArray, List.set_cons_succ, List.set_cons_zero, List.getElem_toArray, List.getElem_cons_succ, List.getElem_cons_zero]
   (apply wpAnyG_held (wide_round _) (i := 3) rfl (by kernel_rfl) (fun _ _ _ h => h) hS.out; · first | exact .inr ⟨rfl, rfl⟩ | exact .inl ⟨rfl, fun w' hS' => by (obtain ⟨s1, s2, s3, s4, s5, s6, s7, s8, s9⟩ := hS'; go_simp; rfl)⟩); simp only [Act.put, List.setIfInBounds_toArray, List.set_cons_succ, List.set_cons_zero, List.getElem_toArray, List.getElem_cons_succ, List.getElem_cons_zero]
   (apply wpAnyG_pure (wide_round _) (i := 4) rfl (by kernel_rfl) (fun _ _ _ h => h); · first | exact .inr ⟨rfl, rfl⟩ | exact .inl ⟨rfl, fun w' => by go_simp; rfl⟩); simp only [Act.put, List.setIfInBounds_toArray, List.set_cons_succ, List.set_cons_zero, List.getElem_toArray, List.getElem_cons_succ, List.getElem_cons_zero]
   (apply wpAnyG_held (wide_round _) (i := 5) rfl (by kernel_rfl) (fun _ _ _ h => h) hS.out; · first | exact .inr ⟨rfl, rfl⟩ | exact .inl ⟨rfl, fun w' hS' => by (obtain ⟨s1, s2, s3, s4, s5, s6, s7, s8, s9⟩ := hS'; go_simp; rfl)⟩); simp only [Act.put, List.setIfInBounds_toArray, List.set_cons_succ, List.set_cons_zero, List.getElem_toArray, List.getElem_cons_succ, List.getElem_cons_zero]
   (apply wpAnyG_pure (wide_round _) (i := 8) rfl (by kernel_rfl) (fun _ _ _ h => h); · first | exact .inr ⟨rfl, rfl⟩ | exact .inl ⟨rfl, fun w' => by go_simp; rfl⟩); simp only [Act.put, List.setIfInBounds_toArray, List.set_cons_succ, List.set_cons_zero, List.getElem_toArray, List.getElem_cons_succ, List.getElem_cons_zero]
   (apply wpAnyG_held (wide_round _) (i := 9) rfl (by kernel_rfl) (fun _ _ _ h => h) hS.out; · first | exact .inr ⟨rfl, rfl⟩ | exact .inl ⟨rfl, fun w' hS' => by (obtain ⟨s1, s2, s3, s4, s5, s6, s7, s8, s9⟩ := hS'; go_simp; rfl)⟩); simp only [Act.put, List.setIfInBounds_toArray, List.set_cons_succ, List.set_cons_zero, List.getElem_toArray, List.getElem_cons_succ, List.getElem_cons_zero]
   (apply wpAnyG_held (wide_round _) (i := 10) rfl (by kernel_rfl) (fun _ _ _ h => h) hS.out; · first | exact .inr ⟨rfl, rfl⟩ | exact .inl ⟨rfl, fun w' hS' => by (obtain ⟨s1, s2, s3, s4, s5, s6, s7, s8, s9⟩ := hS'; go_simp; rfl)⟩); simp only [Act.put, List.setIfInBounds_toArray, List.set_cons_succ, List.set_cons_zero, List.getElem_toArray, List.getElem_cons_succ, List.getElem_cons_zero]
   refine wpAnyG_one (i := 6) rfl ⟨by kernel_rfl, by kernel_rfl⟩ ?_
   intro K hK
   go_simp
   refine ⟨trivial, ?_⟩
   refine (CallsIn.inRound l2 (callsIn_wide.2 (left_any pb eb kb M id hs st fo sa fa sc fc hl hl2 x.i x.k _ b1 b2 (HHW.out.keep (Keep.drew (Keep.refl _ _)) (HHW.out.map.kept rfl))))).mono ?_
   rintro e w6 ⟨he, hk6, hp6⟩
   rw [← HdX.out] at he
   subst he
   have KW : Keep (· ≠ M) W w6 := (Keep.drew (Keep.refl _ W)).trans hk6
   have H6 := hid (HHW.out.keep KW hp6)
   refine shutSG hK ⟨KW.cell (show _ ≠ M by omega) x0, KW.cell (show _ ≠ M by omega) x1, KW.cell (show _ ≠ M by omega) x2, KW.cell (show _ ≠ M by omega) x3, KW.cell (show _ ≠ M by omega) x4, KW.cell (show _ ≠ M by omega) p4, KW.cell (show _ ≠ M by omega) q0, KW.cell (show _ ≠ M by omega) q1, KW.cell (show _ ≠ M by omega) y0⟩ (fun hS => ?_)
   clear hK K
   (apply wpAnyG_pure (wide_round _) (i := 7) rfl (by kernel_rfl) (fun _ _ _ h => h); · first | exact .inr ⟨rfl, rfl⟩ | exact .inl ⟨rfl, fun w' => by go_simp; rfl⟩); simp only [Act.put, List.setIfInBounds_toArray, List.set_cons_succ, List.set_cons_zero, List.getElem_toArray, List.getElem_cons_succ, List.getElem_cons_zero]
   refine wpAnyG_one (i := 11) rfl ⟨by kernel_rfl, by kernel_rfl⟩ ?_
   intro K hK
   go_simp
   refine ⟨trivial, ?_⟩
   refine (CallsIn.inRound l2 (callsIn_wide.2 (left_any pb eb kb M id hs st fo sa fa sc fc hl hl2 i k w6 hi hk H6.out))).mono ?_
   rintro e w11 ⟨he, hk11, hp11⟩
   rw [← HdP.out] at he
   subst he
   have KW2 : Keep (· ≠ M) W w11 := KW.trans hk11
   have H11 := hid (H6.out.keep hk11 hp11)
   refine shutSG hK ⟨KW2.cell (show _ ≠ M by omega) x0, KW2.cell (show _ ≠ M by omega) x1, KW2.cell (show _ ≠ M by omega) x2, KW2.cell (show _ ≠ M by omega) x3, KW2.cell (show _ ≠ M by omega) x4, KW2.cell (show _ ≠ M by omega) p4, KW2.cell (show _ ≠ M by omega) q0, KW2.cell (show _ ≠ M by omega) q1, KW2.cell (show _ ≠ M by omega) y0⟩ (fun hS => ?_)
   clear hK K
   (apply wpAnyG_pure (wide_round _) (i := 12) rfl (by kernel_rfl) (fun _ _ _ h => h); · first | exact .inr ⟨rfl, rfl⟩ | exact .inl ⟨rfl, fun w' => by go_simp; rfl⟩); simp only [Act.put, List.setIfInBounds_toArray, List.set_cons_succ, List.set_cons_zero, List.getElem_toArray, List.getElem_cons_succ, List.getElem_cons_zero]
   (apply wpAnyG_pure (wide_round _) (i := 13) rfl (by kernel_rfl) (fun _ _ _ h => h); · first | exact .inr ⟨rfl, rfl⟩ | exact .inl ⟨rfl, fun w' => by go_simp; rfl⟩); simp only [Act.put, List.setIfInBounds_toArray, List.set_cons_succ, List.set_cons_zero, List.getElem_toArray, List.getElem_cons_succ, List.getElem_cons_zero]
   (apply wpAnyG_held (wide_round _) (i := 14) rfl (by kernel_rfl) (fun _ _ _ h => h) hS.out; · first | exact .inr ⟨rfl, rfl⟩ | exact .inl ⟨rfl, fun w' hS' => by (obtain ⟨s1, s2, s3, s4, s5, s6, s7, s8, s9⟩ := hS'; go_simp; rfl)⟩); simp only [Act.put, List.setIfInBounds_toArray, List.set_cons_succ, List.set_cons_zero, List.getElem_toArray, List.getElem_cons_succ, List.getElem_cons_zero]
   (apply wpAnyG_held (wide_round _) (i := 15) rfl (by kernel_rfl) (fun _ _ _ h => h) hS.out; · first | exact .inr ⟨rfl, rfl⟩ | exact .inl ⟨rfl, fun w' hS' => by (obtain ⟨s1, s2, s3, s4, s5, s6, s7, s8, s9⟩ := hS'; go_simp; rfl)⟩); simp only [Act.put, List.setIfInBounds_toArray, List.set_cons_succ, List.set_cons_zero, List.getElem_toArray, List.getElem_cons_succ, List.getElem_cons_zero]
   refine wpAnyG_one (i := 16) rfl ⟨by kernel_rfl, by kernel_rfl⟩ ?_
   intro K hK
   have hj11 := HJ.out.2 pre' W w11 ij ⟨KW2, fun _ => hp11⟩
   obtain ⟨fn, tmps, assign, body, hy, hR⟩ := HY.out pre' ⟨x, hx⟩ w11 hj11 (by omega)
   simp [St.val] at hy
   go_simp
   refine (roundIn_wide hR).mono ?_
   rintro e w16 ⟨kf, hd⟩
   obtain ⟨b, rfl, ht, hf⟩ := yield_bool hd
   clear hd
   refine shutNG hK (by kernel_rfl) ?_
   clear hK K
   (apply wpAnyG_pure (wide_round _) (i := 17) rfl (by kernel_rfl) (fun _ _ _ h => h); · first | exact .inr ⟨rfl, rfl⟩ | exact .inl ⟨rfl, fun w' => by go_simp; rfl⟩); simp only [Act.put, List.setIfInBounds_toArray, List.set_cons_succ, List.set_cons_zero, List.getElem_toArray, List.getElem_cons_succ, List.getElem_cons_zero]
   (apply wpAnyG_pure (wide_round _) (i := 18) rfl (by kernel_rfl) (fun _ _ _ h => h); · first | exact .inr ⟨rfl, rfl⟩ | exact .inl ⟨rfl, fun w' => by go_simp; rfl⟩); simp only [Act.put, List.setIfInBounds_toArray, List.set_cons_succ, List.set_cons_zero, List.getElem_toArray, List.getElem_cons_succ, List.getElem_cons_zero]
   refine wpAnyG_done (by kernel_rfl) ?_ _
   have hbest : isBest st fo i k x = true := by unfold isBest; rw [← HdX.out, ← HdP.out]; simpa using HIT.out
   have hpm : (pre' ++ [(⟨x, hx⟩ : StAt st fo i k)]).map (fun y : StAt st fo i k => y.1) = ((pre ++ [(⟨x, hx⟩ : StAt st fo i k)]).map (fun y : StAt st fo i k => y.1)).filter (isBest st fo i k) := by
    rw [List.map_append, ip, List.map_append, List.filter_append]; simp [hbest]
   have KF : KeepsFrom wL.heap.size W w16 := (keepsFrom_of KW2 (B := wL.heap.size) (by omega)).trans (kf_up kf (by omega))
   have X11 := KW2.box xM IX.out; have Q11 := KW2.box qM IQ.out
   have Y11 := KW2.box (show w.heap.size ≠ M by omega) IY.out; have C11 := KW2.box (show w.heap.size + 1 ≠ M by omega) IC.out; have D11 := KW2.box (show w.heap.size + 1 + 1 ≠ M by omega) ID.out
   have z11 := KW2.size
   cases b with
   | true =>
    obtain ⟨hj, kp⟩ := ht rfl
    have KZ : Keep (fun b => b = w.heap.size + 1 + 1 ∨ b = w.heap.size + 1 ∨ (R b ∧ b < w.heap.size)) W w16 :=
     (KW2.mono (fun b _ hz => show b ≠ M from by
      rcases hz with h | h | ⟨h, _⟩
      ·omega
      ·omega
      ·exact fun e => hRM (e ▸ h))).trans ⟨kp.os, kp.tape, kp.output, kp.size, fun b hb hz => by
       rcases hz with h | h | ⟨h, _⟩
       ·subst h; exact (kp.box _ _ _ D11 (.inr (.inl rfl))).trans D11.symm
       ·subst h; exact (kp.box _ _ _ C11 (.inl rfl)).trans C11.symm
       ·exact kp.row b hb h⟩
    have kz := kp.size
    gi_wp2
    exact ⟨KF, KZ, pre' ++ [(⟨x, hx⟩ : StAt st fo i k)], hpm, hj, kp.half H11.out hR3 hR4, kp.box _ _ _ X11 (.inl rfl), kp.box _ _ _ Q11 (.inr (.inl rfl)), kp.box _ _ _ Y11 (.inr (.inr (.inr rfl))), kp.box _ _ _ C11 (.inl rfl), kp.box _ _ _ D11 (.inr (.inl rfl)), by omega⟩
   | false =>
    have hjx := hf rfl
    gi_wp2
    exact ⟨KF, rfl, pre' ++ [(⟨x, hx⟩ : StAt st fo i k)], hpm, hjx⟩
  ·have hbq : (x.wr + dX == dP) = false := by simp [hit]
   have HIT := hid hit
   clear hit
   gi_wp2
   refine wpIn_region_G [1, 3, 5, 9, 10, 14, 15] (fun w' => w'.cell? ⟨Bx, 0, none⟩ = some (.int .i64 x.i) ∧ w'.cell? ⟨Bx, 1, none⟩ = some (.int .i64 x.k) ∧ w'.cell? ⟨Bx, 2, none⟩ = some (.int .i64 x.s) ∧ w'.cell? ⟨Bx, 3, none⟩ = some (.int .i64 x.f) ∧ w'.cell? ⟨Bx, 4, none⟩ = some (.int .i64 x.wr) ∧ w'.cell? ⟨xb, 4, none⟩ = some (.func (.func 143) #[] #[.pointer (some ⟨eb, 0, none⟩), .pointer (some ⟨kb, 0, none⟩), .pointer (some ⟨pb, 0, none⟩)]) ∧ w'.cell? ⟨qb, 0, none⟩ = some (.int .i64 i) ∧ w'.cell? ⟨qb, 1, none⟩ = some (.int .i64 k) ∧ w'.cell? ⟨w.heap.size, 0, none⟩ = some (.func (.yield l) #[] #[])) hm ⟨by go_simp, by go_simp, by go_simp, by go_simp, by go_simp, by go_simp, by go_simp, by go_simp, by go_simp⟩ ?_
   intro hS0; have hS := hid hS0; clear hS0
   (apply wpAnyG_pure (wide_round _) (i := 0) rfl (by kernel_rfl) (fun _ _ _ h => h); · first | exact .inr ⟨rfl, rfl⟩ | exact .inl ⟨rfl, fun w' => by go_simp; rfl⟩); simp only [Act.put, List.setIfInBounds_toArray, List.set_cons_succ, List.set_cons_zero, List.getElem_toArray, List.getElem_cons_succ, List.getElem_cons_zero]
   (apply wpAnyG_held (wide_round _) (i := 1) rfl (by kernel_rfl) (fun _ _ _ h => h) hS.out; · first | exact .inr ⟨rfl, rfl⟩ | exact .inl ⟨rfl, fun w' hS' => by (obtain ⟨s1, s2, s3, s4, s5, s6, s7, s8, s9⟩ := hS'; go_simp; rfl)⟩); simp only [Act.put, List.setIfInBounds_toArray, List.set_cons_succ, List.set_cons_zero, List.getElem_toArray, List.getElem_cons_succ, List.getElem_cons_zero]
   (apply wpAnyG_pure (wide_round _) (i := 2) rfl (by kernel_rfl) (fun _ _ _ h => h); · first | exact .inr ⟨rfl, rfl⟩ | exact .inl ⟨rfl, fun w' => by go_simp; rfl⟩); simp only [Act.put, List.setIfInBounds_toArray, List.set_cons_succ, List.set_cons_zero, List.getElem_toArray, List.getElem_cons_succ, List.getElem_cons_zero]
   (apply wpAnyG_held (wide_round _) (i := 3) rfl (by kernel_rfl) (fun _ _ _ h => h) hS.out; · first | exact .inr ⟨rfl, rfl⟩ | exact .inl ⟨rfl, fun w' hS' => by (obtain ⟨s1, s2, s3, s4, s5, s6, s7, s8, s9⟩ := hS'; go_simp; rfl)⟩); simp only [Act.put, List.setIfInBounds_toArray, List.set_cons_succ, List.set_cons_zero, List.getElem_toArray, List.getElem_cons_succ, List.getElem_cons_zero]
   (apply wpAnyG_pure (wide_round _) (i := 4) rfl (by kernel_rfl) (fun _ _ _ h => h); · first | exact .inr ⟨rfl, rfl⟩ | exact .inl ⟨rfl, fun w' => by go_simp; rfl⟩); simp only [Act.put, List.setIfInBounds_toArray, List.set_cons_succ, List.set_cons_zero, List.getElem_toArray, List.getElem_cons_succ, List.getElem_cons_zero]
   (apply wpAnyG_held (wide_round _) (i := 5) rfl (by kernel_rfl) (fun _ _ _ h => h) hS.out; · first | exact .inr ⟨rfl, rfl⟩ | exact .inl ⟨rfl, fun w' hS' => by (obtain ⟨s1, s2, s3, s4, s5, s6, s7, s8, s9⟩ := hS'; go_simp; rfl)⟩); simp only [Act.put, List.setIfInBounds_toArray, List.set_cons_succ, List.set_cons_zero, List.getElem_toArray, List.getElem_cons_succ, List.getElem_cons_zero]
   (apply wpAnyG_pure (wide_round _) (i := 8) rfl (by kernel_rfl) (fun _ _ _ h => h); · first | exact .inr ⟨rfl, rfl⟩ | exact .inl ⟨rfl, fun w' => by go_simp; rfl⟩); simp only [Act.put, List.setIfInBounds_toArray, List.set_cons_succ, List.set_cons_zero, List.getElem_toArray, List.getElem_cons_succ, List.getElem_cons_zero]
   (apply wpAnyG_held (wide_round _) (i := 9) rfl (by kernel_rfl) (fun _ _ _ h => h) hS.out; · first | exact .inr ⟨rfl, rfl⟩ | exact .inl ⟨rfl, fun w' hS' => by (obtain ⟨s1, s2, s3, s4, s5, s6, s7, s8, s9⟩ := hS'; go_simp; rfl)⟩); simp only [Act.put, List.setIfInBounds_toArray, List.set_cons_succ, List.set_cons_zero, List.getElem_toArray, List.getElem_cons_succ, List.getElem_cons_zero]
   (apply wpAnyG_held (wide_round _) (i := 10) rfl (by kernel_rfl) (fun _ _ _ h => h) hS.out; · first | exact .inr ⟨rfl, rfl⟩ | exact .inl ⟨rfl, fun w' hS' => by (obtain ⟨s1, s2, s3, s4, s5, s6, s7, s8, s9⟩ := hS'; go_simp; rfl)⟩); simp only [Act.put, List.setIfInBounds_toArray, List.set_cons_succ, List.set_cons_zero, List.getElem_toArray, List.getElem_cons_succ, List.getElem_cons_zero]
   refine wpAnyG_one (i := 6) rfl ⟨by kernel_rfl, by kernel_rfl⟩ ?_
   intro K hK
   go_simp
   refine ⟨trivial, ?_⟩
   refine (CallsIn.inRound l2 (callsIn_wide.2 (left_any pb eb kb M id hs st fo sa fa sc fc hl hl2 x.i x.k _ b1 b2 (HHW.out.keep (Keep.drew (Keep.refl _ _)) (HHW.out.map.kept rfl))))).mono ?_
   rintro e w6 ⟨he, hk6, hp6⟩
   rw [← HdX.out] at he
   subst he
   have KW : Keep (· ≠ M) W w6 := (Keep.drew (Keep.refl _ W)).trans hk6
   have H6 := hid (HHW.out.keep KW hp6)
   refine shutSG hK ⟨KW.cell (show _ ≠ M by omega) x0, KW.cell (show _ ≠ M by omega) x1, KW.cell (show _ ≠ M by omega) x2, KW.cell (show _ ≠ M by omega) x3, KW.cell (show _ ≠ M by omega) x4, KW.cell (show _ ≠ M by omega) p4, KW.cell (show _ ≠ M by omega) q0, KW.cell (show _ ≠ M by omega) q1, KW.cell (show _ ≠ M by omega) y0⟩ (fun hS => ?_)
   clear hK K
   (apply wpAnyG_pure (wide_round _) (i := 7) rfl (by kernel_rfl) (fun _ _ _ h => h); · first | exact .inr ⟨rfl, rfl⟩ | exact .inl ⟨rfl, fun w' => by go_simp; rfl⟩); simp only [Act.put, List.setIfInBounds_toArray, List.set_cons_succ, List.set_cons_zero, List.getElem_toArray, List.getElem_cons_succ, List.getElem_cons_zero]
   refine wpAnyG_one (i := 11) rfl ⟨by kernel_rfl, by kernel_rfl⟩ ?_
   intro K hK
   go_simp
   refine ⟨trivial, ?_⟩
   refine (CallsIn.inRound l2 (callsIn_wide.2 (left_any pb eb kb M id hs st fo sa fa sc fc hl hl2 i k w6 hi hk H6.out))).mono ?_
   rintro e w11 ⟨he, hk11, hp11⟩
   rw [← HdP.out] at he
   subst he
   have KW2 : Keep (· ≠ M) W w11 := KW.trans hk11
   have H11 := hid (H6.out.keep hk11 hp11)
   refine shutSG hK ⟨KW2.cell (show _ ≠ M by omega) x0, KW2.cell (show _ ≠ M by omega) x1, KW2.cell (show _ ≠ M by omega) x2, KW2.cell (show _ ≠ M by omega) x3, KW2.cell (show _ ≠ M by omega) x4, KW2.cell (show _ ≠ M by omega) p4, KW2.cell (show _ ≠ M by omega) q0, KW2.cell (show _ ≠ M by omega) q1, KW2.cell (show _ ≠ M by omega) y0⟩ (fun hS => ?_)
   clear hK K
   (apply wpAnyG_pure (wide_round _) (i := 12) rfl (by kernel_rfl) (fun _ _ _ h => h); · first | exact .inr ⟨rfl, rfl⟩ | exact .inl ⟨rfl, fun w' => by go_simp; rfl⟩); simp only [Act.put, List.setIfInBounds_toArray, List.set_cons_succ, List.set_cons_zero, List.getElem_toArray, List.getElem_cons_succ, List.getElem_cons_zero]
   (apply wpAnyG_pure (wide_round _) (i := 13) rfl (by kernel_rfl) (fun _ _ _ h => h); · first | exact .inr ⟨rfl, rfl⟩ | exact .inl ⟨rfl, fun w' => by go_simp; rfl⟩); simp only [Act.put, List.setIfInBounds_toArray, List.set_cons_succ, List.set_cons_zero, List.getElem_toArray, List.getElem_cons_succ, List.getElem_cons_zero]
   (apply wpAnyG_held (wide_round _) (i := 14) rfl (by kernel_rfl) (fun _ _ _ h => h) hS.out; · first | exact .inr ⟨rfl, rfl⟩ | exact .inl ⟨rfl, fun w' hS' => by (obtain ⟨s1, s2, s3, s4, s5, s6, s7, s8, s9⟩ := hS'; go_simp; rfl)⟩); simp only [Act.put, List.setIfInBounds_toArray, List.set_cons_succ, List.set_cons_zero, List.getElem_toArray, List.getElem_cons_succ, List.getElem_cons_zero]
   (apply wpAnyG_held (wide_round _) (i := 15) rfl (by kernel_rfl) (fun _ _ _ h => h) hS.out; · first | exact .inr ⟨rfl, rfl⟩ | exact .inl ⟨rfl, fun w' hS' => by (obtain ⟨s1, s2, s3, s4, s5, s6, s7, s8, s9⟩ := hS'; go_simp; rfl)⟩); simp only [Act.put, List.setIfInBounds_toArray, List.set_cons_succ, List.set_cons_zero, List.getElem_toArray, List.getElem_cons_succ, List.getElem_cons_zero]
   refine wpAnyG_one (i := 16) rfl ⟨by kernel_rfl, by kernel_rfl⟩ ?_
   intro K hK
   go_simp
   refine ⟨fun _ _ => trivial, ?_⟩
   refine shutNG hK (by kernel_rfl) ?_
   clear hK K
   (apply wpAnyG_pure (wide_round _) (i := 17) rfl (by kernel_rfl) (fun _ _ _ h => h); · first | exact .inr ⟨rfl, rfl⟩ | exact .inl ⟨rfl, fun w' => by go_simp; rfl⟩); simp only [Act.put, List.setIfInBounds_toArray, List.set_cons_succ, List.set_cons_zero, List.getElem_toArray, List.getElem_cons_succ, List.getElem_cons_zero]
   (apply wpAnyG_pure (wide_round _) (i := 18) rfl (by kernel_rfl) (fun _ _ _ h => h); · first | exact .inr ⟨rfl, rfl⟩ | exact .inl ⟨rfl, fun w' => by go_simp; rfl⟩); simp only [Act.put, List.setIfInBounds_toArray, List.set_cons_succ, List.set_cons_zero, List.getElem_toArray, List.getElem_cons_succ, List.getElem_cons_zero]
   refine wpAnyG_done (by kernel_rfl) ?_ _
   have hbest : isBest st fo i k x = false := by unfold isBest; rw [← HdX.out, ← HdP.out]; simpa using HIT.out
   have hpm : pre'.map (fun y : StAt st fo i k => y.1) = ((pre ++ [(⟨x, hx⟩ : StAt st fo i k)]).map (fun y : StAt st fo i k => y.1)).filter (isBest st fo i k) := by
    rw [ip, List.map_append, List.filter_append]; simp [hbest]
   have KF : KeepsFrom wL.heap.size W w11 := keepsFrom_of KW2 (B := wL.heap.size) (by omega)
   have hj11 := HJ.out.2 pre' W w11 ij ⟨KW2, fun _ => hp11⟩
   have z11 := KW2.size
   have KZ : Keep (fun b => b = w.heap.size + 1 + 1 ∨ b = w.heap.size + 1 ∨ (R b ∧ b < w.heap.size)) W w11 :=
     KW2.mono (fun b _ hz => show b ≠ M from by
      rcases hz with h | h | ⟨h, _⟩
      ·omega
      ·omega
      ·exact fun e => hRM (e ▸ h))
   gi_wp2
   exact ⟨KF, KZ, pre', hpm, hj11, H11.out, KW2.box xM IX.out, KW2.box qM IQ.out, KW2.box (show w.heap.size ≠ M by omega) IY.out, KW2.box (show w.heap.size + 1 ≠ M by omega) IC.out, KW2.box (show w.heap.size + 1 + 1 ≠ M by omega) ID.out, by omega⟩
 case done =>
  rintro D ys W hD hall ⟨pre', ip, ij, iH, iX, iQ, iY, iC, iD, iz⟩ hKD
  have hab : AllBest st fo i k pre' := by unfold AllBest bestL; rw [ip, show ys.map (·.1) = _ from hall]
  have hj := HJ.out.1.putObj (.deferred none) ij (by omega) hKD rfl
  clear ip ij iH iX iQ iY iC iD
  gi_wp2
  refine ⟨by simp, .inl ⟨_, _, rfl, run_takeDeferred hKD, ?_⟩⟩
  exact ⟨_, results_none rfl _ _ _, ⟨_, rfl⟩, .inl ⟨pre', hab, hj⟩⟩
 case stop =>
  rintro D c pre W hD hpart ⟨rfl, pre', ip, ij⟩ hKD
  have hab : PartBest st fo i k pre' := by unfold PartBest bestL; rw [ip]; exact List.IsPrefix.filter _ hpart
  have hj := HJx.out.1.putObj (.deferred none) ij (by omega) hKD rfl
  clear ip ij
  gi_wp2
  refine ⟨by simp, .inl ⟨_, _, rfl, run_takeDeferred hKD, ?_⟩⟩
  exact ⟨_, results_none rfl _ _ _, ⟨_, rfl⟩, .inr ⟨pre', hab, hj⟩⟩
theorem best1_stops (xb qb pb eb kb M : Nat) (id hs : Int) (st fo : List Int) (sa fa : Option Addr) (sc fc : Nat) (i k : Nat) (hi : i ≤ st.length) (hk : k ≤ fo.length) (hl : st.length ≤ 2000) (hl2 : fo.length ≤ 2000)
  (R : Nat → Prop) (hRM : ¬ R M) (hR3 : st ≠ [] → ∀ p, sa = some p → R p.block) (hR4 : fo ≠ [] → ∀ p, fa = some p → R p.block) (w : World)
  (hX : Box w xb (pairC id hs st fo sa fa sc fc (leftV eb kb pb)) 180) (hQ : Box w qb #[.int .i64 i, .int .i64 k] 193) (hH : Half w pb eb kb M id hs st fo sa fa sc fc) :
  SeqX Fence.wide 3 Tryz.prog 160 #[.pointer (some ⟨xb, 0, none⟩), .pointer (some ⟨qb, 0, none⟩)] (fun x : StAt st fo i k => #[x.1.val]) (KpB R M st fo) (MSt M st fo) (AllBest st fo i k) (PartBest st fo i k) 3 w :=
 fun l J Jx W hW hJ hJx hY h0 => best1_in l xb qb pb eb kb M id hs st fo sa fa sc fc i k hi hk hl hl2 R hRM hR3 hR4 W J Jx hJ hJx hY (hX.below hW hX.lt) (hQ.below hW hQ.lt)
  (hH.keep (Keep.of_below hW (fun _ h _ => h)) (hH.map.kept (hW.block _ hH.map.lt))) h0
structure Nx where
 i : Nat
 k : Nat
 es : List Ed
def notchesL (x : St) : List Int := if x.s = x.f then [x.s] else [x.s, x.f]
def preL (n : Int) (l : List Int) : List Int := if 0 < n then n :: l else l
theorem mem_best {st fo : List Int} {i k : Nat} {x : St} : x ∈ bestL st fo i k ↔ x ∈ stepsL st fo i k ∧ x.wr + (dd st fo x.i x.k : Int) = (dd st fo i k : Int) := by
 unfold bestL isBest
 rw [List.mem_filter]
 simp
theorem okN_pos {xs : List Int} (h : okN xs = true) {i : Nat} (hi : i < xs.length) : 0 < xs[i] := by
 unfold okN at h
 rw [List.all_eq_true] at h
 have := h _ (List.getElem_mem hi)
 simp at this
 omega
theorem true_iff {st fo : List Int} (hs : okN st = true) (hf : okN fo = true) {i k : Nat} (hi : i ≤ st.length) (hk : k ≤ fo.length) (hne : ¬ (i = st.length ∧ k = fo.length)) (l : List Int) :
  TrueL (st.drop i) (fo.drop k) l ↔ ∃ x ∈ bestL st fo i k, ∃ n ∈ notchesL x, ∃ r, TrueL (st.drop x.i) (fo.drop x.k) r ∧ l = preL n r := by
 constructor
 ·intro h
  rcases h.begins with ⟨h1, h2, _⟩ | ⟨a, s', b, f', c, l', h1, h2, h3, hd, hc, ht⟩ | ⟨a, s', h1, hd, ht⟩ | ⟨b, f', h2, hd, ht⟩
  ·exact absurd ⟨by have := congrArg List.length h1; simp at this; omega, by have := congrArg List.length h2; simp at this; omega⟩ hne
  ·have li : i < st.length := by have := congrArg List.length h1; simp at this; omega
   have lk : k < fo.length := by have := congrArg List.length h2; simp at this; omega
   rw [List.drop_eq_getElem_cons li] at h1
   rw [List.drop_eq_getElem_cons lk] at h2
   obtain ⟨rfl, rfl⟩ := List.cons.inj h1
   obtain ⟨rfl, rfl⟩ := List.cons.inj h2
   refine ⟨⟨i + 1, k + 1, st[i], fo[k], if st[i] = fo[k] then 0 else 1⟩, mem_best.2 ⟨?_, ?_⟩, c, ?_, l', ht, ?_⟩
   ·rw [stepsL, step1_yes li lk]; simp
   ·show (if st[i] = fo[k] then 0 else 1 : Int) + (dd st fo (i + 1) (k + 1) : Int) = (dd st fo i k : Int)
    unfold dd
    rw [List.drop_eq_getElem_cons li, List.drop_eq_getElem_cons lk, hd]
    split <;> omega
   ·unfold notchesL
    rcases hc with rfl | rfl <;> split <;> simp_all
   ·rw [h3]; unfold preL
    have p1 := okN_pos hs li; have p2 := okN_pos hf lk
    rw [if_pos (by rcases hc with rfl | rfl <;> assumption)]
  ·have li : i < st.length := by have := congrArg List.length h1; simp at this; omega
   rw [List.drop_eq_getElem_cons li] at h1
   obtain ⟨rfl, rfl⟩ := List.cons.inj h1
   have p1 := okN_pos hs li
   have hb : (⟨i + 1, k, st[i], 0, 1⟩ : St) ∈ bestL st fo i k := mem_best.2 ⟨by rw [stepsL, step2_yes k li]; simp, by
    show (1 : Int) + (dd st fo (i + 1) k : Int) = (dd st fo i k : Int)
    unfold dd; rw [List.drop_eq_getElem_cons li, hd]; omega⟩
   have hn : notchesL ⟨i + 1, k, st[i], 0, 1⟩ = [st[i], 0] := by unfold notchesL; rw [if_neg (show ¬ st[i] = 0 by omega)]
   rcases ht with ht | ⟨l', rfl, ht⟩
   ·exact ⟨_, hb, 0, by rw [hn]; simp, l, ht, by unfold preL; simp⟩
   ·exact ⟨_, hb, st[i], by rw [hn]; simp, l', ht, by unfold preL; rw [if_pos p1]⟩
  ·have lk : k < fo.length := by have := congrArg List.length h2; simp at this; omega
   rw [List.drop_eq_getElem_cons lk] at h2
   obtain ⟨rfl, rfl⟩ := List.cons.inj h2
   have p2 := okN_pos hf lk
   have hb : (⟨i, k + 1, 0, fo[k], 1⟩ : St) ∈ bestL st fo i k := mem_best.2 ⟨by rw [stepsL, step3_yes i lk]; simp, by
    show (1 : Int) + (dd st fo i (k + 1) : Int) = (dd st fo i k : Int)
    unfold dd; rw [List.drop_eq_getElem_cons lk, hd]; omega⟩
   have hn : notchesL ⟨i, k + 1, 0, fo[k], 1⟩ = [0, fo[k]] := by unfold notchesL; rw [if_neg (show ¬ 0 = fo[k] by omega)]
   rcases ht with ht | ⟨l', rfl, ht⟩
   ·exact ⟨_, hb, 0, by rw [hn]; simp, l, ht, by unfold preL; simp⟩
   ·exact ⟨_, hb, fo[k], by rw [hn]; simp, l', ht, by unfold preL; rw [if_pos p2]⟩
 ·rintro ⟨x, hx, n, hn, r, hr, rfl⟩
  obtain ⟨hx, hd⟩ := mem_best.1 hx
  rw [stepsL, List.mem_append, List.mem_append] at hx
  rcases hx with hx | hx | hx
  ·by_cases hh : i < st.length ∧ k < fo.length
   ·rw [step1_yes hh.1 hh.2, List.mem_singleton] at hx
    subst hx
    have p1 := okN_pos hs hh.1; have p2 := okN_pos hf hh.2
    have hn' : n = st[i]'hh.1 ∨ n = fo[k]'hh.2 := by
     unfold notchesL at hn
     split at hn <;> simp at hn
     ·exact .inl hn
     ·exact hn
    unfold preL
    rw [if_pos (by rcases hn' with rfl | rfl <;> assumption), List.drop_eq_getElem_cons hh.1, List.drop_eq_getElem_cons hh.2]
    refine hr.both ?_ hn'
    change (if st[i]'hh.1 = fo[k]'hh.2 then 0 else 1 : Int) + (dd st fo (i + 1) (k + 1) : Int) = (dd st fo i k : Int) at hd
    unfold dd at hd
    rw [List.drop_eq_getElem_cons hh.1, List.drop_eq_getElem_cons hh.2] at hd
    show dist (st[i]'hh.1 :: st.drop (i + 1)) (fo[k]'hh.2 :: fo.drop (k + 1)) = dist (st.drop (i + 1)) (fo.drop (k + 1)) + (if st[i]'hh.1 = fo[k]'hh.2 then 0 else 1)
    split at hd <;> rename_i e
    ·rw [if_pos e]; omega
    ·rw [if_neg e]; omega
   ·rw [step1_no hh] at hx; cases hx
  ·by_cases hh : i < st.length
   ·rw [step2_yes k hh, List.mem_singleton] at hx
    subst hx
    have p1 := okN_pos hs hh
    have hd' : dist (st[i] :: st.drop (i + 1)) (fo.drop k) = dist (st.drop (i + 1)) (fo.drop k) + 1 := by
     change (1 : Int) + (dd st fo (i + 1) k : Int) = (dd st fo i k : Int) at hd
     unfold dd at hd
     rw [List.drop_eq_getElem_cons hh] at hd
     omega
    unfold notchesL at hn
    rw [if_neg (show ¬ st[i] = 0 by omega)] at hn
    simp only [List.mem_cons, List.not_mem_nil, or_false] at hn
    unfold preL
    rw [List.drop_eq_getElem_cons hh]
    rcases hn with rfl | rfl
    ·rw [if_pos p1]; exact hr.cut1 hd'
    ·rw [if_neg (by omega)]; exact hr.cut0 hd'
   ·rw [step2_no k hh] at hx; cases hx
  ·by_cases hh : k < fo.length
   ·rw [step3_yes i hh, List.mem_singleton] at hx
    subst hx
    have p2 := okN_pos hf hh
    have hd' : dist (st.drop i) (fo[k] :: fo.drop (k + 1)) = dist (st.drop i) (fo.drop (k + 1)) + 1 := by
     change (1 : Int) + (dd st fo i (k + 1) : Int) = (dd st fo i k : Int) at hd
     unfold dd at hd
     rw [List.drop_eq_getElem_cons hh] at hd
     omega
    unfold notchesL at hn
    rw [if_neg (show ¬ 0 = fo[k] by omega)] at hn
    simp only [List.mem_cons, List.not_mem_nil, or_false] at hn
    unfold preL
    rw [List.drop_eq_getElem_cons hh]
    rcases hn with rfl | rfl
    ·rw [if_neg (by omega)]; exact hr.add0 hd'
    ·rw [if_pos p2]; exact hr.add1 hd'
   ·rw [step3_no i hh] at hx; cases hx
theorem true_end {st fo : List Int} (l : List Int) : TrueL (st.drop st.length) (fo.drop fo.length) l ↔ l = [] := by
 rw [List.drop_length, List.drop_length]
 exact ⟨TrueL.nil, fun e => e ▸ TrueL.done⟩
def sumW (W : Int → Int) (l : List Int) : Int := (l.map W).sum
theorem sumW_pre {W : Int → Int} (h0 : W 0 = 0) {n : Int} (hn : 0 ≤ n) (l : List Int) : sumW W (preL n l) = W n + sumW W l := by
 unfold preL sumW
 split
 ·simp
 ·have : n = 0 := by omega
  subst this; rw [h0]; simp
structure IsSpan (W : Int → Int) (P : List Int → Prop) (x y : Int) : Prop where
 lo : ∃ l, P l ∧ sumW W l = x
 hi : ∃ l, P l ∧ sumW W l = y
 all : ∀ l, P l → x ≤ sumW W l ∧ sumW W l ≤ y
theorem IsSpan.unique {W : Int → Int} {P : List Int → Prop} {a b c d : Int} (h : IsSpan W P a b) (k : IsSpan W P c d) : a = c ∧ b = d := by
 obtain ⟨l1, p1, e1⟩ := h.lo
 obtain ⟨l2, p2, e2⟩ := h.hi
 obtain ⟨l3, p3, e3⟩ := k.lo
 obtain ⟨l4, p4, e4⟩ := k.hi
 have := h.all l3 p3; have := h.all l4 p4; have := k.all l1 p1; have := k.all l2 p2
 omega
theorem IsSpan.iff {W : Int → Int} {P Q : List Int → Prop} {a b : Int} (h : IsSpan W P a b) (hq : ∀ x, P x ↔ Q x) : IsSpan W Q a b :=
 ⟨by obtain ⟨l, p, e⟩ := h.lo; exact ⟨l, (hq l).1 p, e⟩, by obtain ⟨l, p, e⟩ := h.hi; exact ⟨l, (hq l).1 p, e⟩, fun l p => h.all l ((hq l).2 p)⟩
theorem IsSpan.nil {W : Int → Int} : IsSpan W (fun l => l = []) 0 0 := ⟨⟨[], rfl, rfl⟩, ⟨[], rfl, rfl⟩, fun l h => by subst h; simp [sumW]⟩
theorem IsSpan.pre {W : Int → Int} (h0 : W 0 = 0) {P : List Int → Prop} {a b n : Int} (hn : 0 ≤ n) (h : IsSpan W P a b) : IsSpan W (fun l => ∃ r, P r ∧ l = preL n r) (W n + a) (W n + b) := by
 obtain ⟨l1, p1, e1⟩ := h.lo
 obtain ⟨l2, p2, e2⟩ := h.hi
 refine ⟨⟨preL n l1, ⟨l1, p1, rfl⟩, by rw [sumW_pre h0 hn, e1]⟩, ⟨preL n l2, ⟨l2, p2, rfl⟩, by rw [sumW_pre h0 hn, e2]⟩, ?_⟩
 rintro l ⟨r, p, rfl⟩
 have := h.all r p
 rw [sumW_pre h0 hn]; omega
theorem IsSpan.or {W : Int → Int} {P Q : List Int → Prop} {a b c d : Int} (h : IsSpan W P a b) (k : IsSpan W Q c d) : IsSpan W (fun l => P l ∨ Q l) (min a c) (max b d) := by
 obtain ⟨l1, p1, e1⟩ := h.lo
 obtain ⟨l2, p2, e2⟩ := h.hi
 obtain ⟨l3, p3, e3⟩ := k.lo
 obtain ⟨l4, p4, e4⟩ := k.hi
 refine ⟨?_, ?_, ?_⟩
 ·by_cases e : a ≤ c
  ·exact ⟨l1, .inl p1, by omega⟩
  ·exact ⟨l3, .inr p3, by omega⟩
 ·by_cases e : d ≤ b
  ·exact ⟨l2, .inl p2, by omega⟩
  ·exact ⟨l4, .inr p4, by omega⟩
 ·rintro l (p | p)
  ·have := h.all l p; omega
  ·have := k.all l p; omega
theorem notches_step (x : St) (w : World) :
  Calls Tryz.prog 147 #[x.val] w fun e w' => ∃ a c, e = .returned (.slice a (notchesL x).length c) ∧ RdI w' a (notchesL x) ∧ Below w.heap.size w w' ∧ ∀ p, a = some p → w.heap.size ≤ p.block := by
 unfold St.val
 go_enter Tryz.func147, Tryz.ntmps147
 by_cases h1 : x.s = x.f
 ·have t1 : (x.s == x.f) = true := by simp [h1]
  have H1 := hid h1; clear h1
  go_wp2_with fail
  go_ret
  refine ⟨_, _, by unfold notchesL; rw [if_pos H1.out]; rfl, ?_, goBl, fun p e => by cases e; simp⟩
  unfold notchesL; rw [if_pos H1.out]
  intro i hi
  match i, hi with
  | 0, _ => exact ⟨_, _, rfl, (Box.at (w := w.alloc _) #[.int .i64 x.s] 3 (by simp)).cell 0⟩
 ·have t1 : (x.s == x.f) = false := by simp [h1]
  have H1 := hid h1; clear h1
  go_wp2_with fail
  go_ret
  refine ⟨_, _, by unfold notchesL; rw [if_neg H1.out]; rfl, ?_, goBl, fun p e => by cases e; simp⟩
  unfold notchesL; rw [if_neg H1.out]
  intro i hi
  match i, hi with
  | 0, _ => exact ⟨_, _, rfl, (Box.at (w := w.alloc _) #[.int .i64 x.s, .int .i64 x.f] 3 (by simp)).cell 0⟩
  | 1, _ => exact ⟨_, _, rfl, (Box.at (w := w.alloc _) #[.int .i64 x.s, .int .i64 x.f] 3 (by simp)).cell 1⟩
theorem spanLo_any (a b : Int) (w : World) : Calls Tryz.prog 149 #[.agg #[.int .i64 a, .int .i64 b]] w fun e w' => e = .returned (.int .i64 a) ∧ Below w.heap.size w w' := by
 go_enter Tryz.func149, Tryz.ntmps149
 go_wp2_with fail
 go_ret
 exact ⟨rfl, goBl⟩
theorem spanHi_any (a b : Int) (w : World) : Calls Tryz.prog 150 #[.agg #[.int .i64 a, .int .i64 b]] w fun e w' => e = .returned (.int .i64 b) ∧ Below w.heap.size w w' := by
 go_enter Tryz.func150, Tryz.ntmps150
 go_wp2_with fail
 go_ret
 exact ⟨rfl, goBl⟩
def endF (s x : Int × Int) : Int × Int := (min s.1 x.1, max s.2 x.2)
def endsL (ss : List (Int × Int)) : Int × Int := ss.foldl endF (ss.headD (0, 0))
theorem endsL_one (s : Int × Int) : endsL [s] = s := by simp [endsL, endF]
theorem endsL_snoc (ss : List (Int × Int)) (hs : ss ≠ []) (x : Int × Int) : endsL (ss ++ [x]) = endF (endsL ss) x := by
 unfold endsL
 rw [List.foldl_append]
 cases ss with
 | nil => exact absurd rfl hs
 | cons a t => rfl
def SpanAcc (W : Int → Int) (P : List Int → Prop) (ss : List (Int × Int)) : Prop := (ss = [] ∧ ∀ l, ¬ P l) ∨ (ss ≠ [] ∧ IsSpan W P (endsL ss).1 (endsL ss).2)
theorem SpanAcc.nil {W : Int → Int} {P : List Int → Prop} (h : ∀ l, ¬ P l) : SpanAcc W P [] := .inl ⟨rfl, h⟩
theorem SpanAcc.snoc {W : Int → Int} {P Q : List Int → Prop} {ss : List (Int × Int)} {a b : Int} (h : SpanAcc W P ss) (k : IsSpan W Q a b) : SpanAcc W (fun l => P l ∨ Q l) (ss ++ [(a, b)]) := by
 refine .inr ⟨by simp, ?_⟩
 rcases h with ⟨rfl, hn⟩ | ⟨hne, hs⟩
 ·rw [List.nil_append, endsL_one]
  exact k.iff (fun x => ⟨.inr, fun h => h.resolve_left (hn x)⟩)
 ·rw [endsL_snoc _ hne]
  exact hs.or k
theorem SpanAcc.iff {W : Int → Int} {P Q : List Int → Prop} {ss : List (Int × Int)} (h : SpanAcc W P ss) (hq : ∀ x, P x ↔ Q x) : SpanAcc W Q ss := by
 rcases h with ⟨h1, h2⟩ | ⟨h1, h2⟩
 ·exact .inl ⟨h1, fun l hl => h2 l ((hq l).2 hl)⟩
 ·exact .inr ⟨h1, h2.iff hq⟩
theorem ends_any (a : Option Addr) (c : Nat) (ss : List (Int × Int)) (w : World) (hl : ss.length ≤ 4000) (hne : ss ≠ []) (h : RdX spC 2 w a ss) :
  Calls Tryz.prog 148 #[.slice a ss.length c, .func (.func 149) #[] #[], .func (.func 150) #[] #[]] w fun e w' => e = .returned (.agg #[.int .i64 (endsL ss).1, .int .i64 (endsL ss).2]) ∧ Below w.heap.size w w' := by
 have hm := mixedS
 have H := hid h; clear h
 have hlen : 0 < ss.length := List.length_pos_iff.2 hne
 obtain ⟨b, o, rfl, hc⟩ := H.out 0 hlen
 have q0 := hc 0 _ rfl; have q1 := hc 1 _ rfl
 simp only [Nat.zero_mul, Nat.add_zero] at q0 q1
 have lb := cell_lt q0
 clear hc
 go_enter Tryz.func148, Tryz.ntmps148
 go_wp2_with fail
 refine wp_world (fun W => Box W w.heap.size #[.int .i64 0, .int .i64 0] 73 ∧ Below w.heap.size w W) ⟨Box.new _ _ _, goBl⟩ ?_
 rintro W0 ⟨b6, hB0⟩
 refine wp_post (fun a' W => ∃ f : Nat → Value, a' = ⟨((List.range 42).map f).toArray, []⟩ ∧ ∃ P7, f 0 = .slice (some ⟨b, o, none⟩) ss.length c ∧ f 1 = .func (.func 149) #[] #[] ∧ f 2 = .func (.func 150) #[] #[] ∧ f 6 = .pointer (some ⟨w.heap.size, 0, none⟩) ∧ f 7 = .pointer (some ⟨P7, 0, none⟩) ∧ w.heap.size < P7 ∧ Box W P7 #[.int .i64 ss[0].1, .int .i64 ss[0].2] 73 ∧ Box W w.heap.size #[.int .i64 0, .int .i64 0] 73 ∧ Below w.heap.size w W) ?_ ?_
 ·have p0 : W0.cell? ⟨b, o, none⟩ = some (.int .i64 ss[0].1) := (hB0.cell (p := ⟨b, o, none⟩) lb).trans q0
  have p1 : W0.cell? ⟨b, o + 1, none⟩ = some (.int .i64 ss[0].2) := (hB0.cell (p := ⟨b, o + 1, none⟩) lb).trans q1
  have B6 := hid b6; have HB := hid hB0
  clear q0 q1 b6 hB0
  refine wp_region_F [3, 8] (fun w' => w'.cell? ⟨b, o, none⟩ = some (.int .i64 ss[0].1) ∧ w'.cell? ⟨b, o + 1, none⟩ = some (.int .i64 ss[0].2)) hm ⟨p0, p1⟩ ?_
  intro hS0; have hS := hid hS0; clear hS0
  refine anyW (fun W => Box W w.heap.size #[.int .i64 0, .int .i64 0] 73 ∧ Below w.heap.size w W ∧ (W.cell? ⟨b, o, none⟩ = some (.int .i64 ss[0].1) ∧ W.cell? ⟨b, o + 1, none⟩ = some (.int .i64 ss[0].2))) ⟨B6.out.drew, HB.out.drew, hS.out⟩ ?_
  clear B6 HB hS p0 p1
  rintro wc ⟨b6, hB, hs⟩
  have B6 := hid b6; have HB := hid hB; have hS := hid hs; clear b6 hB hs
  (apply wpAnyF_pure (i := 0) rfl (by kernel_rfl) (fun _ _ _ h => h); · first | exact .inr ⟨rfl, rfl⟩ | exact .inl ⟨rfl, fun w' => by go_simp; rfl⟩); simp only [Act.put, List.setIfInBounds_toArray, List.set_cons_succ, List.set_cons_zero, List.getElem_toArray, List.getElem_cons_succ, List.getElem_cons_zero]
  (apply wpAnyF_pure (i := 1) rfl (by kernel_rfl) (fun _ _ _ h => h); · first | exact .inr ⟨rfl, rfl⟩ | exact .inl ⟨rfl, fun w' => by go_simp; rfl⟩); simp only [Act.put, List.setIfInBounds_toArray, List.set_cons_succ, List.set_cons_zero, List.getElem_toArray, List.getElem_cons_succ, List.getElem_cons_zero]
  (apply wpAnyF_pure (i := 2) rfl (by kernel_rfl) (fun _ _ _ h => h); · first | exact .inr ⟨rfl, rfl⟩ | exact .inl ⟨rfl, fun w' => by go_simp; rfl⟩); simp only [Act.put, List.setIfInBounds_toArray, List.set_cons_succ, List.set_cons_zero, List.getElem_toArray, List.getElem_cons_succ, List.getElem_cons_zero]
  (apply wpAnyF_held (i := 3) rfl (by kernel_rfl) (fun _ _ _ h => h) hS.out; · first | exact .inr ⟨rfl, rfl⟩ | exact .inl ⟨rfl, fun w' hS' => by (obtain ⟨s1, s2⟩ := hS'; go_simp; rfl)⟩); simp only [Act.put, List.setIfInBounds_toArray, List.set_cons_succ, List.set_cons_zero, List.getElem_toArray, List.getElem_cons_succ, List.getElem_cons_zero]
  (apply wpAnyF_pure (i := 5) rfl (by kernel_rfl) (fun _ _ _ h => h); · first | exact .inr ⟨rfl, rfl⟩ | exact .inl ⟨rfl, fun w' => by go_simp; rfl⟩); simp only [Act.put, List.setIfInBounds_toArray, List.set_cons_succ, List.set_cons_zero, List.getElem_toArray, List.getElem_cons_succ, List.getElem_cons_zero]
  (apply wpAnyF_pure (i := 6) rfl (by kernel_rfl) (fun _ _ _ h => h); · first | exact .inr ⟨rfl, rfl⟩ | exact .inl ⟨rfl, fun w' => by go_simp; rfl⟩); simp only [Act.put, List.setIfInBounds_toArray, List.set_cons_succ, List.set_cons_zero, List.getElem_toArray, List.getElem_cons_succ, List.getElem_cons_zero]
  (apply wpAnyF_pure (i := 7) rfl (by kernel_rfl) (fun _ _ _ h => h); · first | exact .inr ⟨rfl, rfl⟩ | exact .inl ⟨rfl, fun w' => by go_simp; rfl⟩); simp only [Act.put, List.setIfInBounds_toArray, List.set_cons_succ, List.set_cons_zero, List.getElem_toArray, List.getElem_cons_succ, List.getElem_cons_zero]
  (apply wpAnyF_held (i := 8) rfl (by kernel_rfl) (fun _ _ _ h => h) hS.out; · first | exact .inr ⟨rfl, rfl⟩ | exact .inl ⟨rfl, fun w' hS' => by (obtain ⟨s1, s2⟩ := hS'; go_simp; rfl)⟩); simp only [Act.put, List.setIfInBounds_toArray, List.set_cons_succ, List.set_cons_zero, List.getElem_toArray, List.getElem_cons_succ, List.getElem_cons_zero]
  refine wpAnyF_two (i := 4) (j := 11) rfl rfl ⟨by kernel_rfl, by kernel_rfl, by kernel_rfl⟩ ?_ ?_
  ·
   intro K hK
   go_simp
   refine (spanLo_any _ _ _).mono ?_
   rintro e w4 ⟨rfl, hb4⟩
   refine shutS hK (by obtain ⟨s1, s2⟩ := hS.out; exact ⟨(hb4.cell (cell_lt s1)).trans s1, (hb4.cell (cell_lt s2)).trans s2⟩) (fun hS => ?_)
   refine anyW (fun W => Box W w.heap.size #[.int .i64 0, .int .i64 0] 73 ∧ Below w.heap.size w W ∧ (W.cell? ⟨b, o, none⟩ = some (.int .i64 ss[0].1) ∧ W.cell? ⟨b, o + 1, none⟩ = some (.int .i64 ss[0].2))) ⟨B6.out.below hb4 B6.out.lt, HB.out.trans (hb4.mono HB.out.size), hS.out⟩ ?_
   clear B6 HB hS hb4
   rintro wc ⟨b6, hB, hs⟩
   have B6 := hid b6; have HB := hid hB; have hS := hid hs; clear b6 hB hs
   refine wpAnyF_two (i := 9) (j := 11) rfl rfl ⟨by kernel_rfl, by kernel_rfl, by kernel_rfl⟩ ?_ ?_
   ·
    intro K hK
    go_simp
    refine (spanHi_any _ _ _).mono ?_
    rintro e w9 ⟨rfl, hb9⟩
    refine shutN hK (by kernel_rfl) ?_
    refine anyW (fun W => Box W w.heap.size #[.int .i64 0, .int .i64 0] 73 ∧ Below w.heap.size w W ∧ (W.cell? ⟨b, o, none⟩ = some (.int .i64 ss[0].1) ∧ W.cell? ⟨b, o + 1, none⟩ = some (.int .i64 ss[0].2))) ⟨B6.out.below hb9 B6.out.lt, HB.out.trans (hb9.mono HB.out.size), (by obtain ⟨s1, s2⟩ := hS.out; exact ⟨(hb9.cell (cell_lt s1)).trans s1, (hb9.cell (cell_lt s2)).trans s2⟩)⟩ ?_
    clear B6 HB hS hb9
    rintro wc ⟨b6, hB, hs⟩
    have B6 := hid b6; have HB := hid hB; clear b6 hB
    have hS : Hid ((wc.cell? ⟨b, o, none⟩ = some (.int .i64 ss[0].1)) ∧ (wc.cell? ⟨b, o + 1, none⟩ = some (.int .i64 ss[0].2))) := hs
    (apply wpAnyF_pure (i := 10) rfl (by kernel_rfl) (fun _ _ _ h => h); · first | exact .inr ⟨rfl, rfl⟩ | exact .inl ⟨rfl, fun w' => by go_simp; rfl⟩); simp only [Act.put, List.setIfInBounds_toArray, List.set_cons_succ, List.set_cons_zero, List.getElem_toArray, List.getElem_cons_succ, List.getElem_cons_zero]
    refine wpAnyF_one (i := 11) rfl ⟨by kernel_rfl, by kernel_rfl⟩ ?_
    intro K hK
    go_simp
    refine shutS hK (by obtain ⟨s1, s2⟩ := hS.out; have l1 := cell_lt s1; have l2 := cell_lt s2; exact ⟨by go_simp, by go_simp⟩) (fun hS => ?_)
    obtain ⟨P7, hP7⟩ : ∃ P, P = wc.heap.size := ⟨_, rfl⟩
    have nP7 : w.heap.size < P7 := by have := B6.out.lt; omega
    have B7 := hid (Box.at (w := wc) #[.int .i64 0, .int .i64 0] 73 hP7)
    have B6 := hid (B6.out.alloc (.cells #[.int .i64 0, .int .i64 0] 73))
    have HB := hid (HB.out.alloc HB.out.size (.cells #[.int .i64 0, .int .i64 0] 73))
    rw [← hP7]
    clear hP7
    refine wpAnyF_one (i := 12) rfl ⟨by kernel_rfl, by kernel_rfl⟩ ?_
    intro K hK
    have y0 := B7.out.cell 0; have y1 := B7.out.cell 1; have y2 := B7.out.frozen 0; have y3 := B7.out.frozen 1; have y4 := B7.out.lt
    simp only [List.getElem?_toArray, List.getElem?_cons_zero, List.getElem?_cons_succ] at y0 y1
    go_simp
    refine shutN hK (by kernel_rfl) ?_
    refine wpAnyF_done (by kernel_rfl) ?_ _
    unfold NormP
    refine acts_of rfl ?_
    exact ⟨P7, rfl, rfl, rfl, rfl, rfl, nP7, (B7.out.set 0 _).set 1 _, (B6.out.other _ _ _ (by omega)).other _ _ _ (by omega), (HB.out.setCell (p := ⟨P7, 0, none⟩) (show w.heap.size ≤ P7 by omega) _).setCell (p := ⟨P7, 1, none⟩) (show w.heap.size ≤ P7 by omega) _⟩
   ·
    intro K hK
    go_simp
    refine shutS hK (by obtain ⟨s1, s2⟩ := hS.out; have l1 := cell_lt s1; have l2 := cell_lt s2; exact ⟨by go_simp, by go_simp⟩) (fun hS => ?_)
    obtain ⟨P7, hP7⟩ : ∃ P, P = wc.heap.size := ⟨_, rfl⟩
    have nP7 : w.heap.size < P7 := by have := B6.out.lt; omega
    have B7 := hid (Box.at (w := wc) #[.int .i64 0, .int .i64 0] 73 hP7)
    have B6 := hid (B6.out.alloc (.cells #[.int .i64 0, .int .i64 0] 73))
    have HB := hid (HB.out.alloc HB.out.size (.cells #[.int .i64 0, .int .i64 0] 73))
    rw [← hP7]
    clear hP7
    refine wpAnyF_one (i := 9) rfl ⟨by kernel_rfl, by kernel_rfl⟩ ?_
    intro K hK
    go_simp
    refine (spanHi_any _ _ _).mono ?_
    rintro e w9 ⟨rfl, hb9⟩
    refine shutN hK (by kernel_rfl) ?_
    refine anyW (fun W => Box W w.heap.size #[.int .i64 0, .int .i64 0] 73 ∧ Below w.heap.size w W ∧ Box W P7 #[.int .i64 0, .int .i64 0] 73 ∧ (W.cell? ⟨b, o, none⟩ = some (.int .i64 ss[0].1) ∧ W.cell? ⟨b, o + 1, none⟩ = some (.int .i64 ss[0].2))) ⟨B6.out.below hb9 B6.out.lt, HB.out.trans (hb9.mono HB.out.size), B7.out.below hb9 B7.out.lt, (by obtain ⟨s1, s2⟩ := hS.out; exact ⟨(hb9.cell (cell_lt s1)).trans s1, (hb9.cell (cell_lt s2)).trans s2⟩)⟩ ?_
    clear B6 HB hS hb9 B7
    rintro wc ⟨b6, hB, b7, hs⟩
    have B6 := hid b6; have HB := hid hB; have B7 := hid b7; clear b6 hB
    have hS : Hid ((wc.cell? ⟨b, o, none⟩ = some (.int .i64 ss[0].1)) ∧ (wc.cell? ⟨b, o + 1, none⟩ = some (.int .i64 ss[0].2))) := hs
    (apply wpAnyF_pure (i := 10) rfl (by kernel_rfl) (fun _ _ _ h => h); · first | exact .inr ⟨rfl, rfl⟩ | exact .inl ⟨rfl, fun w' => by go_simp; rfl⟩); simp only [Act.put, List.setIfInBounds_toArray, List.set_cons_succ, List.set_cons_zero, List.getElem_toArray, List.getElem_cons_succ, List.getElem_cons_zero]
    refine wpAnyF_one (i := 12) rfl ⟨by kernel_rfl, by kernel_rfl⟩ ?_
    intro K hK
    have y0 := B7.out.cell 0; have y1 := B7.out.cell 1; have y2 := B7.out.frozen 0; have y3 := B7.out.frozen 1; have y4 := B7.out.lt
    simp only [List.getElem?_toArray, List.getElem?_cons_zero, List.getElem?_cons_succ] at y0 y1
    go_simp
    refine shutN hK (by kernel_rfl) ?_
    refine wpAnyF_done (by kernel_rfl) ?_ _
    unfold NormP
    refine acts_of rfl ?_
    exact ⟨P7, rfl, rfl, rfl, rfl, rfl, nP7, (B7.out.set 0 _).set 1 _, (B6.out.other _ _ _ (by omega)).other _ _ _ (by omega), (HB.out.setCell (p := ⟨P7, 0, none⟩) (show w.heap.size ≤ P7 by omega) _).setCell (p := ⟨P7, 1, none⟩) (show w.heap.size ≤ P7 by omega) _⟩
  ·
   intro K hK
   go_simp
   refine shutS hK (by obtain ⟨s1, s2⟩ := hS.out; have l1 := cell_lt s1; have l2 := cell_lt s2; exact ⟨by go_simp, by go_simp⟩) (fun hS => ?_)
   obtain ⟨P7, hP7⟩ : ∃ P, P = wc.heap.size := ⟨_, rfl⟩
   have nP7 : w.heap.size < P7 := by have := B6.out.lt; omega
   have B7 := hid (Box.at (w := wc) #[.int .i64 0, .int .i64 0] 73 hP7)
   have B6 := hid (B6.out.alloc (.cells #[.int .i64 0, .int .i64 0] 73))
   have HB := hid (HB.out.alloc HB.out.size (.cells #[.int .i64 0, .int .i64 0] 73))
   rw [← hP7]
   clear hP7
   refine wpAnyF_one (i := 4) rfl ⟨by kernel_rfl, by kernel_rfl⟩ ?_
   intro K hK
   go_simp
   refine (spanLo_any _ _ _).mono ?_
   rintro e w4 ⟨rfl, hb4⟩
   refine shutS hK (by obtain ⟨s1, s2⟩ := hS.out; exact ⟨(hb4.cell (cell_lt s1)).trans s1, (hb4.cell (cell_lt s2)).trans s2⟩) (fun hS => ?_)
   refine anyW (fun W => Box W w.heap.size #[.int .i64 0, .int .i64 0] 73 ∧ Below w.heap.size w W ∧ Box W P7 #[.int .i64 0, .int .i64 0] 73 ∧ (W.cell? ⟨b, o, none⟩ = some (.int .i64 ss[0].1) ∧ W.cell? ⟨b, o + 1, none⟩ = some (.int .i64 ss[0].2))) ⟨B6.out.below hb4 B6.out.lt, HB.out.trans (hb4.mono HB.out.size), B7.out.below hb4 B7.out.lt, hS.out⟩ ?_
   clear B6 HB hS hb4 B7
   rintro wc ⟨b6, hB, b7, hs⟩
   have B6 := hid b6; have HB := hid hB; have hS := hid hs; have B7 := hid b7; clear b6 hB hs
   refine wpAnyF_one (i := 9) rfl ⟨by kernel_rfl, by kernel_rfl⟩ ?_
   intro K hK
   go_simp
   refine (spanHi_any _ _ _).mono ?_
   rintro e w9 ⟨rfl, hb9⟩
   refine shutN hK (by kernel_rfl) ?_
   refine anyW (fun W => Box W w.heap.size #[.int .i64 0, .int .i64 0] 73 ∧ Below w.heap.size w W ∧ Box W P7 #[.int .i64 0, .int .i64 0] 73 ∧ (W.cell? ⟨b, o, none⟩ = some (.int .i64 ss[0].1) ∧ W.cell? ⟨b, o + 1, none⟩ = some (.int .i64 ss[0].2))) ⟨B6.out.below hb9 B6.out.lt, HB.out.trans (hb9.mono HB.out.size), B7.out.below hb9 B7.out.lt, (by obtain ⟨s1, s2⟩ := hS.out; exact ⟨(hb9.cell (cell_lt s1)).trans s1, (hb9.cell (cell_lt s2)).trans s2⟩)⟩ ?_
   clear B6 HB hS hb9 B7
   rintro wc ⟨b6, hB, b7, hs⟩
   have B6 := hid b6; have HB := hid hB; have B7 := hid b7; clear b6 hB
   have hS : Hid ((wc.cell? ⟨b, o, none⟩ = some (.int .i64 ss[0].1)) ∧ (wc.cell? ⟨b, o + 1, none⟩ = some (.int .i64 ss[0].2))) := hs
   (apply wpAnyF_pure (i := 10) rfl (by kernel_rfl) (fun _ _ _ h => h); · first | exact .inr ⟨rfl, rfl⟩ | exact .inl ⟨rfl, fun w' => by go_simp; rfl⟩); simp only [Act.put, List.setIfInBounds_toArray, List.set_cons_succ, List.set_cons_zero, List.getElem_toArray, List.getElem_cons_succ, List.getElem_cons_zero]
   refine wpAnyF_one (i := 12) rfl ⟨by kernel_rfl, by kernel_rfl⟩ ?_
   intro K hK
   have y0 := B7.out.cell 0; have y1 := B7.out.cell 1; have y2 := B7.out.frozen 0; have y3 := B7.out.frozen 1; have y4 := B7.out.lt
   simp only [List.getElem?_toArray, List.getElem?_cons_zero, List.getElem?_cons_succ] at y0 y1
   go_simp
   refine shutN hK (by kernel_rfl) ?_
   refine wpAnyF_done (by kernel_rfl) ?_ _
   unfold NormP
   refine acts_of rfl ?_
   exact ⟨P7, rfl, rfl, rfl, rfl, rfl, nP7, (B7.out.set 0 _).set 1 _, (B6.out.other _ _ _ (by omega)).other _ _ _ (by omega), (HB.out.setCell (p := ⟨P7, 0, none⟩) (show w.heap.size ≤ P7 by omega) _).setCell (p := ⟨P7, 1, none⟩) (show w.heap.size ≤ P7 by omega) _⟩
 rintro a' W ⟨f, rfl, P7, f0, f1, f2, f6, f7, nP7, b7, b6', hB⟩
 rw [show (List.range 42).map f = [f 0, f 1, f 2, f 3, f 4, f 5, f 6, f 7, f 8, f 9, f 10, f 11, f 12, f 13, f 14, f 15, f 16, f 17, f 18, f 19, f 20, f 21, f 22, f 23, f 24, f 25, f 26, f 27, f 28, f 29, f 30, f 31, f 32, f 33, f 34, f 35, f 36, f 37, f 38, f 39, f 40, f 41] from rfl, f0, f1, f2, f6, f7]
 clear f0 f1 f2 f6 f7 b6 hB0 q0 q1 lb
 go_wp2_with fail
 go_loopw [23] (fun p W' => ∃ j : Nat, j ≤ ss.length ∧ p = .int .i64 j ∧ Box W' P7 #[.int .i64 ((ss.take j).foldl endF ss[0]).1, .int .i64 ((ss.take j).foldl endF ss[0]).2] 73 ∧ Box W' w.heap.size #[.int .i64 0, .int .i64 0] 73 ∧ Below w.heap.size w W') (fun p _ => ss.length - (intOf p).toNat)
 case atStart => exact ⟨0, by omega, rfl, b7, b6', hB⟩
 case round =>
  obtain ⟨j, hj, rfl, hb7, hb6, hBr⟩ := hrel
  by_cases hlt : j < ss.length
  ·obtain ⟨b', o', e', hc'⟩ := (H.out.below hBr) j hlt
   cases e'
   have r0 := hc' 0 _ rfl; have r1 := hc' 1 _ rfl
   simp only [Nat.add_zero] at r0 r1
   clear hc'
   have B7 := hid hb7; have B6 := hid hb6; have HB := hid hBr
   clear hb7 hb6 hBr
   have hf : (ss.take (j + 1)).foldl endF ss[0] = endF ((ss.take j).foldl endF ss[0]) ss[j] := by rw [List.take_succ_eq_append_getElem hlt, List.foldl_append]; rfl
   have HF := hid hf; clear hf
   obtain ⟨E, hE⟩ : ∃ E, (ss.take j).foldl endF ss[0] = E := ⟨_, rfl⟩
   rw [hE] at B7 HF
   clear hE
   obtain ⟨e1, e2⟩ := E
   obtain ⟨x, hx⟩ : ∃ x, ss[j] = x := ⟨_, rfl⟩
   rw [hx] at r0 r1 HF
   clear hx
   obtain ⟨x1, x2⟩ := x
   dsimp only at r0 r1 B7 HF
   have lr := cell_lt r0
   go_wp2_with fail
   refine wp_world (fun W => Box W P7 #[.int .i64 e1, .int .i64 e2] 73 ∧ Box W wr.heap.size #[.int .i64 x1, .int .i64 x2] 73 ∧ Box W w.heap.size #[.int .i64 0, .int .i64 0] 73 ∧ Below w.heap.size w W) ⟨B7.out.alloc _, Box.at _ _ rfl, B6.out.alloc _, HB.out.alloc HB.out.size _⟩ ?_
   have n79 : P7 ≠ wr.heap.size := by have := B7.out.lt; omega
   obtain ⟨P9, hP9⟩ : ∃ P, P = wr.heap.size := ⟨_, rfl⟩
   rw [← hP9] at n79 ⊢
   clear B7 B6 HB r0 r1 lr hP9
   rintro W1 ⟨b7, b9, b6, hB⟩
   have B7 := hid b7; have B9 := hid b9; have B6 := hid b6; have HB := hid hB
   have y0 : W1.cell? ⟨P7, 0, none⟩ = some (.int .i64 e1) := b7.cell 0
   have y1 : W1.cell? ⟨P7, 1, none⟩ = some (.int .i64 e2) := b7.cell 1
   have z0 : W1.cell? ⟨P9, 0, none⟩ = some (.int .i64 x1) := b9.cell 0
   have z1 : W1.cell? ⟨P9, 1, none⟩ = some (.int .i64 x2) := b9.cell 1
   clear b7 b9 b6 hB
   refine wp_region_F [1, 3, 7, 9] (fun w' => w'.cell? ⟨P7, 0, none⟩ = some (.int .i64 e1) ∧ w'.cell? ⟨P7, 1, none⟩ = some (.int .i64 e2) ∧ w'.cell? ⟨P9, 0, none⟩ = some (.int .i64 x1) ∧ w'.cell? ⟨P9, 1, none⟩ = some (.int .i64 x2)) hm ⟨y0, y1, z0, z1⟩ ?_
   intro hS0; have hS := hid hS0; clear hS0
   (apply wpAnyF_pure (i := 0) rfl (by kernel_rfl) (fun _ _ _ h => h); · first | exact .inr ⟨rfl, rfl⟩ | exact .inl ⟨rfl, fun w' => by go_simp; rfl⟩); simp only [Act.put, List.setIfInBounds_toArray, List.set_cons_succ, List.set_cons_zero, List.getElem_toArray, List.getElem_cons_succ, List.getElem_cons_zero]
   (apply wpAnyF_held (i := 1) rfl (by kernel_rfl) (fun _ _ _ h => h) hS.out; · first | exact .inr ⟨rfl, rfl⟩ | exact .inl ⟨rfl, fun w' hS' => by (obtain ⟨s1, s2, s3, s4⟩ := hS'; go_simp; rfl)⟩); simp only [Act.put, List.setIfInBounds_toArray, List.set_cons_succ, List.set_cons_zero, List.getElem_toArray, List.getElem_cons_succ, List.getElem_cons_zero]
   (apply wpAnyF_pure (i := 2) rfl (by kernel_rfl) (fun _ _ _ h => h); · first | exact .inr ⟨rfl, rfl⟩ | exact .inl ⟨rfl, fun w' => by go_simp; rfl⟩); simp only [Act.put, List.setIfInBounds_toArray, List.set_cons_succ, List.set_cons_zero, List.getElem_toArray, List.getElem_cons_succ, List.getElem_cons_zero]
   (apply wpAnyF_held (i := 3) rfl (by kernel_rfl) (fun _ _ _ h => h) hS.out; · first | exact .inr ⟨rfl, rfl⟩ | exact .inl ⟨rfl, fun w' hS' => by (obtain ⟨s1, s2, s3, s4⟩ := hS'; go_simp; rfl)⟩); simp only [Act.put, List.setIfInBounds_toArray, List.set_cons_succ, List.set_cons_zero, List.getElem_toArray, List.getElem_cons_succ, List.getElem_cons_zero]
   (apply wpAnyF_pure (i := 6) rfl (by kernel_rfl) (fun _ _ _ h => h); · first | exact .inr ⟨rfl, rfl⟩ | exact .inl ⟨rfl, fun w' => by go_simp; rfl⟩); simp only [Act.put, List.setIfInBounds_toArray, List.set_cons_succ, List.set_cons_zero, List.getElem_toArray, List.getElem_cons_succ, List.getElem_cons_zero]
   (apply wpAnyF_held (i := 7) rfl (by kernel_rfl) (fun _ _ _ h => h) hS.out; · first | exact .inr ⟨rfl, rfl⟩ | exact .inl ⟨rfl, fun w' hS' => by (obtain ⟨s1, s2, s3, s4⟩ := hS'; go_simp; rfl)⟩); simp only [Act.put, List.setIfInBounds_toArray, List.set_cons_succ, List.set_cons_zero, List.getElem_toArray, List.getElem_cons_succ, List.getElem_cons_zero]
   (apply wpAnyF_pure (i := 8) rfl (by kernel_rfl) (fun _ _ _ h => h); · first | exact .inr ⟨rfl, rfl⟩ | exact .inl ⟨rfl, fun w' => by go_simp; rfl⟩); simp only [Act.put, List.setIfInBounds_toArray, List.set_cons_succ, List.set_cons_zero, List.getElem_toArray, List.getElem_cons_succ, List.getElem_cons_zero]
   (apply wpAnyF_held (i := 9) rfl (by kernel_rfl) (fun _ _ _ h => h) hS.out; · first | exact .inr ⟨rfl, rfl⟩ | exact .inl ⟨rfl, fun w' hS' => by (obtain ⟨s1, s2, s3, s4⟩ := hS'; go_simp; rfl)⟩); simp only [Act.put, List.setIfInBounds_toArray, List.set_cons_succ, List.set_cons_zero, List.getElem_toArray, List.getElem_cons_succ, List.getElem_cons_zero]
   refine wpAnyF_one (i := 4) rfl ⟨by kernel_rfl, by kernel_rfl⟩ ?_
   intro K hK
   go_simp
   refine (spanLo_any _ _ _).mono ?_
   rintro e w4 ⟨rfl, hb4⟩
   have B7 := hid (B7.out.drew.below hb4 B7.out.lt); have B9 := hid (B9.out.drew.below hb4 B9.out.lt); have B6 := hid (B6.out.drew.below hb4 B6.out.lt); have HB := hid (HB.out.drew.trans (hb4.mono HB.out.size))
   clear hb4
   refine shutS hK ⟨B7.out.cell 0, B7.out.cell 1, B9.out.cell 0, B9.out.cell 1⟩ (fun hS => ?_)
   (apply wpAnyF_pure (i := 5) rfl (by kernel_rfl) (fun _ _ _ h => h); · first | exact .inr ⟨rfl, rfl⟩ | exact .inl ⟨rfl, fun w' => by go_simp; rfl⟩); simp only [Act.put, List.setIfInBounds_toArray, List.set_cons_succ, List.set_cons_zero, List.getElem_toArray, List.getElem_cons_succ, List.getElem_cons_zero]
   refine wpAnyF_one (i := 10) rfl ⟨by kernel_rfl, by kernel_rfl⟩ ?_
   intro K hK
   go_simp
   refine (spanHi_any _ _ _).mono ?_
   rintro e w10 ⟨rfl, hb10⟩
   have B7 := hid (B7.out.below hb10 B7.out.lt); have B9 := hid (B9.out.below hb10 B9.out.lt); have B6 := hid (B6.out.below hb10 B6.out.lt); have HB := hid (HB.out.trans (hb10.mono HB.out.size))
   clear hb10
   refine shutS hK ⟨B7.out.cell 0, B7.out.cell 1, B9.out.cell 0, B9.out.cell 1⟩ (fun hS => ?_)
   (apply wpAnyF_pure (i := 11) rfl (by kernel_rfl) (fun _ _ _ h => h); · first | exact .inr ⟨rfl, rfl⟩ | exact .inl ⟨rfl, fun w' => by go_simp; rfl⟩); simp only [Act.put, List.setIfInBounds_toArray, List.set_cons_succ, List.set_cons_zero, List.getElem_toArray, List.getElem_cons_succ, List.getElem_cons_zero]
   (apply wpAnyF_pure (i := 12) rfl (by kernel_rfl) (fun _ _ _ h => h); · first | exact .inr ⟨rfl, rfl⟩ | exact .inl ⟨rfl, fun w' => by go_simp; rfl⟩); simp only [Act.put, List.setIfInBounds_toArray, List.set_cons_succ, List.set_cons_zero, List.getElem_toArray, List.getElem_cons_succ, List.getElem_cons_zero]
   refine wpAnyF_one (i := 13) rfl ⟨by kernel_rfl, by kernel_rfl⟩ ?_
   intro K hK
   have v2 := B7.out.frozen 0; have v3 := B7.out.frozen 1; have v4 := B7.out.lt; have v0 := B7.out.cell 0; have v1 := B7.out.cell 1
   simp only [List.getElem?_toArray, List.getElem?_cons_zero, List.getElem?_cons_succ] at v0 v1
   go_simp
   refine shutN hK (by kernel_rfl) ?_
   refine wpAnyF_done (by kernel_rfl) ?_ _
   clear hS y0 y1 z0 z1 v0 v1 v2 v3 v4
   go_wp2_with fail
   refine ⟨⟨j + 1, by omega, by go_num, ?_, (B6.out.other _ _ _ (by omega)).other _ _ _ (by omega), (HB.out.setCell (p := ⟨P7, 0, none⟩) (show w.heap.size ≤ P7 by omega) _).setCell (p := ⟨P7, 1, none⟩) (show w.heap.size ≤ P7 by omega) _⟩, by simp [intOf]; omega⟩
   have g := (B7.out.set 0 (.int .i64 (min e1 x1))).set 1 (.int .i64 (max e2 x2))
   have m1 : (if x1 < e1 then x1 else e1) = min e1 x1 := by split <;> omega
   have m2 : (if e2 < x2 then x2 else e2) = max e2 x2 := by split <;> omega
   rw [HF.out]
   first | exact g | (rw [m1, m2]; exact g) | (simp only [m1, m2]; exact g)
  ·have B7 := hid hb7; have B6 := hid hb6; have HB := hid hBr
   have e7 : j = ss.length := by omega
   have y0 := hb7.cell 0; have y1 := hb7.cell 1
   have x2 := hb6.frozen 0; have x3 := hb6.frozen 1; have x4 := hb6.lt; have x0 := hb6.cell 0; have x1 := hb6.cell 1
   simp only [List.getElem?_toArray, List.getElem?_cons_zero, List.getElem?_cons_succ] at y0 y1 x0 x1
   clear hb7 hb6 hBr
   go_wp2_with fail
   subst e7
   rw [List.take_of_length_le (Nat.le_refl _)] at B7
   have he : endsL ss = ss.foldl endF ss[0] := by
    unfold endsL
    cases ss with
    | nil => exact absurd rfl hne
    | cons x t => rfl
   refine bodyPost_ret (v := .agg #[.int .i64 (endsL ss).1, .int .i64 (endsL ss).2]) ?_ rfl ⟨rfl, (HB.out.setCell (p := ⟨w.heap.size, 0, none⟩) (Nat.le_refl _) _).setCell (p := ⟨w.heap.size, 1, none⟩) (Nat.le_refl _) _⟩
   rw [he]
   simp [results, Tryz.results148, go_sem, x0, x1, x2, x3, x4]
end Go.Proofs.YtihonljdanjfmaaGreatDoor
namespace Go.Proofs.YtihonljdanjfmaaGreatDoor
open Go.RowKit Go.Proofs Go.Shelf
open Go.WideElems (Fit)
open Go.ChangeMaps (setBlock heap_setBlock_same heap_setBlock_other)
theorem PMap.store2 {w : World} {b A B : Nat} {V : Nat → Nat → Value → Prop} (h : PMap w b A B V) {t e : TypeId} (ht : (Tryz.prog).underlying t = some (.map 193 e)) {z : Value} (hz : ∀ w, (zeroValue e).run Tryz.prog w = .ok z w) {i k : Nat} (hA : A ≤ 4000) (hB : B ≤ 4000) (hi : i ≤ A) (hk : k ≤ B) {v : Value} (hv : V i k v) :
  ∃ w', (Instr.mapUpdate t (.map (some b)) (plc i k) v).run Tryz.prog w = .ok () w' ∧ PMap w' b A B V ∧ w.grownBy w' (some b) ∧ w'.heap.size = w.heap.size ∧ ∀ w2, w2.heap[b]? = w'.heap[b]? → (Instr.lookup t (.map (some b)) (plc i k) false).run Tryz.prog w2 = .ok v w2 := by
 obtain ⟨es, clock, h1, h2, h3⟩ := h
 have hsz := PMap.size (w := w) (b := b) h2 h3
 have hm : (A + 1) * (B + 1) ≤ 4001 * 4001 := Nat.mul_le_mul (by omega) (by omega)
 have hmax : maxLen = 9223372036854775807 := by rfl
 have hkey := key_place (i := i) (k := k) (by omega) (by omega)
 obtain ⟨es', clock', hr, F', hput, _, _, hw⟩ := Go.Maps.fit_store (R' := anyE) (val := v) keyed_place ht h1 h2 (by omega) (fun _ _ _ z hz => hz) hkey (yv := (.nil, [])) rfl
 refine ⟨_, hr, ⟨es', clock', heap_setBlock_same h1 _, F', fun x hx => ?_⟩, ⟨rfl, rfl, rfl, by simp [setBlock], fun j _ hj => heap_setBlock_other h1 _ (fun e => hj (by rw [e]))⟩, by simp [setBlock], fun w2 hw2 => ?_⟩
 ·rcases hw x hx with ⟨hx', _⟩ | ⟨hk', hv'⟩
  ·exact h3 x hx'
  ·exact ⟨i, k, hi, hk, hk', by rw [hv']; exact hv⟩
 ·rw [heap_setBlock_same h1] at hw2
  rcases Go.Maps.fit_look false keyed_place ht (hz w2) hw2 F' hkey with ⟨_, _, hno⟩ | ⟨e0, y, hm0, hk0, hr0, _⟩
  ·exfalso
   rw [hput] at hno
   have h0 := hno (.lit (.bool true))
   have h4 := Go.Maps.atKey_put_same (D := DataW.map ((es.toList.map (Go.WideElems.rg Tryz.prog 193 anyE)).foldr DataW.insert [])) (k := klit i k) ⟨_, rfl⟩ (keyed_place.key hkey) .nil (.lit (.bool true))
   rw [show DataW.put (DataW.map ((es.toList.map (Go.WideElems.rg Tryz.prog 193 anyE)).foldr DataW.insert [])) (klit i k) .nil = DataW.map (Go.ChangeMaps.putKey (klit i k) .nil ((es.toList.map (Go.WideElems.rg Tryz.prog 193 anyE)).foldr DataW.insert [])) from rfl] at h4
   rw [h4] at h0
   cases h0
  ·rcases hw e0 hm0 with ⟨_, hne⟩ | ⟨_, hv'⟩
   ·exact absurd hk0 hne
   ·rw [hr0, ← hv']; rfl
end Go.Proofs.YtihonljdanjfmaaGreatDoor
namespace Go.Proofs.YtihonljdanjfmaaGreatDoor
open Go.RowKit Go.Proofs Go.Shelf
attribute [local go_sem] Oper.semAt_some
def Worth (S : World → Prop) (fv : Value) (W : Int → Int) : Prop := ∃ k first caps, fv = .func (.func k) first caps ∧ (∀ args w, (callFunc k args).run Tryz.prog w = .ok (.enter k args) w) ∧
 ∀ (n : Int) (w : World), 0 ≤ n → n ≤ 4 → S w → Calls Tryz.prog k (first ++ #[.int .i64 n] ++ caps) w fun e w' => e = .returned (.int .i64 (W n)) ∧ Below w.heap.size w w'
def KnownS (W : Int → Int) (st fo : List Int) (i k : Nat) (v : Value) : Prop := ∃ lo hi, v = .agg #[.int .i64 lo, .int .i64 hi] ∧ IsSpan W (TrueL (st.drop i) (fo.drop k)) lo hi
def tellV (kb xb tb vb : Nat) : Value := .func (.func 145) #[] #[.pointer (some ⟨kb, 0, none⟩), .pointer (some ⟨xb, 0, none⟩), .pointer (some ⟨tb, 0, none⟩), .pointer (some ⟨vb, 0, none⟩)]
structure CB where
 kb : Nat
 xb : Nat
 tb : Nat
 vb : Nat
 pb : Nat
 eb : Nat
 qb : Nat
 M : Nat
 K : Nat
structure Tell (w : World) (c : CB) (a : Tl) (sa fa : Option Addr) (sc fc : Nat) (fv : Value) (W : Int → Int) (S : World → Prop) : Prop where
 known : Box w c.kb #[.map (some c.K)] 205
 x : Box w c.xb (pairC a.id a.hs a.st a.fo sa fa sc fc (leftV c.eb c.qb c.pb)) 180
 tell : Box w c.tb #[tellV c.kb c.xb c.tb c.vb] 206
 worth : Box w c.vb #[fv] 120
 half : Half w c.pb c.eb c.qb c.M a.id a.hs a.st a.fo sa fa sc fc
 map : PMap w c.K a.st.length a.fo.length (KnownS W a.st a.fo)
 s : S w
structure TellC (c : CB) (a : Tl) (fv : Value) (W : Int → Int) (S : World → Prop) (n0 : Nat) : Prop where
 ne : c.M ≠ c.K
 l1 : a.st.length ≤ 1000
 l2 : a.fo.length ≤ 1000
 o1 : okN a.st = true
 o2 : okN a.fo = true
 wf : Worth S fv W
 w0 : W 0 = 0
 wb : ∀ n, -1000 ≤ W n ∧ W n ≤ 1000
 sk : ∀ w w', S w → Keep (fun b => b < n0 ∧ b ≠ c.M ∧ b ≠ c.K) w w' → S w'
theorem sumW_bound {W : Int → Int} (wb : ∀ n, -1000 ≤ W n ∧ W n ≤ 1000) (l : List Int) : -(1000 * l.length : Int) ≤ sumW W l ∧ sumW W l ≤ 1000 * l.length := by
 induction l with
 | nil => simp [sumW]
 | cons x l ih =>
  have := wb x
  have e : sumW W (x :: l) = W x + sumW W l := by simp [sumW]
  rw [e, List.length_cons]
  omega
theorem span_bound {W : Int → Int} (wb : ∀ n, -1000 ≤ W n ∧ W n ≤ 1000) {s f : List Int} (hs : s.length ≤ 1000) (hf : f.length ≤ 1000) {lo hi : Int} (h : IsSpan W (TrueL s f) lo hi) : -2000000 ≤ lo ∧ lo ≤ 2000000 ∧ -2000000 ≤ hi ∧ hi ≤ 2000000 := by
 obtain ⟨l1, p1, e1⟩ := h.lo
 obtain ⟨l2, p2, e2⟩ := h.hi
 have := p1.length_le; have := p2.length_le
 have b1 := sumW_bound wb l1; have b2 := sumW_bound wb l2
 omega
theorem wrap_mid {n : Int} (h0 : -100000000 ≤ n) (h1 : n ≤ 100000000) : IntKind.i64.wrap n = n := by
 simp only [IntKind.wrap, IntKind.signed, IntKind.bits]
 simp
 omega
theorem step_notch {st fo : List Int} (hs : okN st = true) (hf : okN fo = true) {i k : Nat} {x : St} (hx : x ∈ stepsL st fo i k) {n : Int} (hn : n ∈ notchesL x) : 0 ≤ n ∧ n ≤ 4 := by
 have ok : ∀ {xs : List Int}, okN xs = true → ∀ {i : Nat} (hi : i < xs.length), 0 ≤ xs[i] ∧ xs[i] ≤ 4 := fun {xs} h {i} hi => by
  unfold okN at h
  rw [List.all_eq_true] at h
  have := h _ (List.getElem_mem hi)
  simp at this
  omega
 have hb : (0 ≤ x.s ∧ x.s ≤ 4) ∧ (0 ≤ x.f ∧ x.f ≤ 4) := by
  rw [stepsL, List.mem_append, List.mem_append] at hx
  rcases hx with hx | hx | hx
  ·by_cases hh : i < st.length ∧ k < fo.length
   ·rw [step1_yes hh.1 hh.2, List.mem_singleton] at hx
    subst hx
    exact ⟨ok hs hh.1, ok hf hh.2⟩
   ·rw [step1_no hh] at hx; cases hx
  ·by_cases hh : i < st.length
   ·rw [step2_yes k hh, List.mem_singleton] at hx
    subst hx
    exact ⟨ok hs hh, (show (0 : Int) ≤ 0 by omega), (show (0 : Int) ≤ 4 by omega)⟩
   ·rw [step2_no k hh] at hx; cases hx
  ·by_cases hh : k < fo.length
   ·rw [step3_yes i hh, List.mem_singleton] at hx
    subst hx
    exact ⟨⟨(show (0 : Int) ≤ 0 by omega), (show (0 : Int) ≤ 4 by omega)⟩, ok hf hh⟩
   ·rw [step3_no i hh] at hx; cases hx
 unfold notchesL at hn
 split at hn <;> simp at hn
 ·subst hn; exact hb.1
 ·rcases hn with rfl | rfl
  ·exact hb.1
  ·exact hb.2
theorem notchesL_len (x : St) : 1 ≤ (notchesL x).length ∧ (notchesL x).length ≤ 2 := by unfold notchesL; split <;> simp
theorem stepsL_le (st fo : List Int) (i k : Nat) : (stepsL st fo i k).length ≤ 3 := by
 have h1 : (step1 st fo i k).length ≤ 1 := by unfold step1; split <;> simp
 have h2 : (step2 st i k).length ≤ 1 := by unfold step2; split <;> simp
 have h3 : (step3 fo i k).length ≤ 1 := by unfold step3; split <;> simp
 unfold stepsL
 simp only [List.length_append]; omega
theorem Tell.keepZ {w w' : World} {c : CB} {a : Tl} {sa fa : Option Addr} {sc fc : Nat} {fv : Value} {W : Int → Int} {S : World → Prop} {Z : Nat → Prop} (h : Tell w c a sa fa sc fc fv W S) (kp : Keep Z w w') (hz : ∀ b, CellAt w b → Z b) (hM : PMap w' c.M a.st.length a.fo.length (Known a.st a.fo)) (hK : PMap w' c.K a.st.length a.fo.length (KnownS W a.st a.fo)) (hS : S w') :
  Tell w' c a sa fa sc fc fv W S :=
 ⟨kp.box (hz _ h.known.at_) h.known, kp.box (hz _ h.x.at_) h.x, kp.box (hz _ h.tell.at_) h.tell, kp.box (hz _ h.worth.at_) h.worth,
  ⟨kp.box (hz _ h.half.pair.at_) h.half.pair, kp.box (hz _ h.half.fin.at_) h.half.fin, kp.box (hz _ h.half.known.at_) h.half.known, hM, kp.rdI (fun hx _ hp => hz _ (rd_at h.half.s hx hp)) h.half.s, kp.rdI (fun hx _ hp => hz _ (rd_at h.half.f hx hp)) h.half.f⟩, hK, hS⟩
theorem Tell.below {w w' : World} {c : CB} {a : Tl} {sa fa : Option Addr} {sc fc : Nat} {fv : Value} {W : Int → Int} {S : World → Prop} {n0 : Nat} (hc : TellC c a fv W S n0) (h : Tell w c a sa fa sc fc fv W S) (hb : Below w.heap.size w w') : Tell w' c a sa fa sc fc fv W S :=
 h.keepZ (Keep.of_below (Z := fun b => b < w.heap.size) hb (fun _ _ h => h)) (fun b ⟨_, ho, _⟩ => (Array.getElem?_eq_some_iff.1 ho).1) (h.half.map.kept (hb.block _ h.half.map.lt)) (h.map.kept (hb.block _ h.map.lt))
  (hc.sk _ _ h.s (Keep.of_below hb (fun k hk _ => hk)))
def TellP (c : CB) (a : Tl) (W : Int → Int) (i k : Nat) (w : World) (e : Ending) (w' : World) : Prop := ∃ lo hi, e = .returned (.agg #[.int .i64 lo, .int .i64 hi]) ∧ IsSpan W (TrueL (a.st.drop i) (a.fo.drop k)) lo hi ∧ Keep (fun b => b ≠ c.M ∧ b ≠ c.K) w w' ∧ PMap w' c.M a.st.length a.fo.length (Known a.st a.fo) ∧ PMap w' c.K a.st.length a.fo.length (KnownS W a.st a.fo)
def ByS (a : Tl) (xs : List St) (l : List Int) : Prop := ∃ x ∈ xs, ∃ n ∈ notchesL x, ∃ r, TrueL (a.st.drop x.i) (a.fo.drop x.k) r ∧ l = preL n r
def ByN (a : Tl) (x : St) (ns : List Int) (l : List Int) : Prop := ∃ n ∈ ns, ∃ r, TrueL (a.st.drop x.i) (a.fo.drop x.k) r ∧ l = preL n r
theorem byS_snoc (a : Tl) (xs : List St) (x : St) (l : List Int) : ByS a (xs ++ [x]) l ↔ ByS a xs l ∨ ByN a x (notchesL x) l := by
 constructor
 ·rintro ⟨y, hy, h⟩
  rcases List.mem_append.1 hy with hy | hy
  ·exact .inl ⟨y, hy, h⟩
  ·rw [List.mem_singleton] at hy; subst hy; exact .inr h
 ·rintro (⟨y, hy, h⟩ | h)
  ·exact ⟨y, by simp [hy], h⟩
  ·exact ⟨x, by simp, h⟩
theorem byN_snoc (a : Tl) (x : St) (ns : List Int) (n : Int) (l : List Int) : ByN a x (ns ++ [n]) l ↔ ByN a x ns l ∨ ∃ r, TrueL (a.st.drop x.i) (a.fo.drop x.k) r ∧ l = preL n r := by
 constructor
 ·rintro ⟨y, hy, h⟩
  rcases List.mem_append.1 hy with hy | hy
  ·exact .inl ⟨y, hy, h⟩
  ·rw [List.mem_singleton] at hy; subst hy; exact .inr h
 ·rintro (⟨y, hy, h⟩ | h)
  ·exact ⟨y, by simp [hy], h⟩
  ·exact ⟨n, by simp, h⟩
theorem infoSpan : (Tryz.prog.info? 73).map (fun i => (i.zero, i.size, i.bytes)) = some (some (.agg #[.int .i64 0, .int .i64 0]), 2, 16) := by kernel_rfl
structure ComI (c : CB) (a : Tl) (sa fa : Option Addr) (sc fc : Nat) (fv : Value) (W : Int → Int) (S : World → Prop) (i k N : Nat) (w : World) (P : List Int → Prop) (m : Nat) (Q : Nat → Prop) (W' : World) : Prop where
 p5 : Box W' N #[.int .i64 i, .int .i64 k] 193
 p6 : Box W' (N + 1) #[.int .i64 0, .int .i64 0] 73
 l9 : ∃ ss la lc, Box W' (N + 4) #[.slice la ss.length lc] 208 ∧ W'.ownsRow (N + 3) 73 2 (.slice la ss.length lc) ss.length (rowC spC ss) ∧ SpanAcc W P ss ∧ ss.length ≤ m ∧ ∀ g, (Value.slice la ss.length lc).ownBlock = some g → ¬ Q g
 tell : Tell W' c a sa fa sc fc fv W S
 kp : Keep (fun b => b < N ∧ b ≠ c.M ∧ b ≠ c.K) w W'
theorem ComI.keepZ {c : CB} {a : Tl} {sa fa : Option Addr} {sc fc : Nat} {fv : Value} {W : Int → Int} {S : World → Prop} {n0 i k N m : Nat} {w W1 W2 : World} {P : List Int → Prop} {Q Z : Nat → Prop} (hc : TellC c a fv W S n0) (hn : n0 ≤ N) (h : ComI c a sa fa sc fc fv W S i k N w P m Q W1) (kp : Keep Z W1 W2) (hz : ∀ b, CellAt W1 b → Z b) (h0 : ∀ b, b < N → b ≠ c.M → b ≠ c.K → Z b)
  (hM : PMap W2 c.M a.st.length a.fo.length (Known a.st a.fo)) (hK : PMap W2 c.K a.st.length a.fo.length (KnownS W a.st a.fo)) : ComI c a sa fa sc fc fv W S i k N w P m Q W2 := by
 obtain ⟨ss, la, lc, g1, g2, g3, g4⟩ := h.l9
 exact ⟨kp.box (hz _ h.p5.at_) h.p5, kp.box (hz _ h.p6.at_) h.p6, ⟨ss, la, lc, kp.box (hz _ g1.at_) g1, own_kp' g2 kp (fun g hg => hz _ (own_at g2 g hg)), g3, g4⟩,
  h.tell.keepZ kp hz hM hK (hc.sk _ _ h.tell.s (kp.mono (fun b _ hb => h0 b (by have := hb.1; omega) hb.2.1 hb.2.2))), h.kp.trans (kp.mono (fun b _ hb => h0 b hb.1 hb.2.1 hb.2.2))⟩
theorem ComI.iff {c : CB} {a : Tl} {sa fa : Option Addr} {sc fc : Nat} {fv : Value} {W : Int → Int} {S : World → Prop} {i k N m m' : Nat} {w W1 : World} {P P' : List Int → Prop} {Q Q' : Nat → Prop} (h : ComI c a sa fa sc fc fv W S i k N w P m Q W1) (hq : ∀ x, P x ↔ P' x) (hm : m ≤ m') (hQ : ∀ g, N + 3 ≤ g → g < W1.heap.size → ¬ Q g → ¬ Q' g) : ComI c a sa fa sc fc fv W S i k N w P' m' Q' W1 := by
 obtain ⟨ss, la, lc, g1, g2, g3, g4, g5⟩ := h.l9
 exact ⟨h.p5, h.p6, ⟨ss, la, lc, g1, g2, g3.iff hq, by omega, fun g hg => hQ g (g2.lt g hg).1 (g2.lt g hg).2 (g5 g hg)⟩, h.tell, h.kp⟩
theorem ComI.below {c : CB} {a : Tl} {sa fa : Option Addr} {sc fc : Nat} {fv : Value} {W : Int → Int} {S : World → Prop} {n0 i k N m : Nat} {w W1 W2 : World} {P : List Int → Prop} {Q : Nat → Prop} (hc : TellC c a fv W S n0) (hn : n0 ≤ N) (h : ComI c a sa fa sc fc fv W S i k N w P m Q W1) (hN : N ≤ W1.heap.size) (hb : Below W1.heap.size W1 W2) : ComI c a sa fa sc fc fv W S i k N w P m Q W2 :=
 h.keepZ hc hn (Keep.of_below (Z := fun b => b < W1.heap.size) hb (fun _ _ h => h)) (fun b ⟨_, ho, _⟩ => (Array.getElem?_eq_some_iff.1 ho).1) (fun b hb _ _ => show b < W1.heap.size by omega) (h.tell.half.map.kept (hb.block _ h.tell.half.map.lt)) (h.tell.map.kept (hb.block _ h.tell.map.lt))
theorem KpB.of_keepZ {R : Nat → Prop} {M : Nat} {st fo : List Int} {W W' : World} {Z : Nat → Prop} (kp : Keep Z W W') (hz : ∀ b, CellAt W b → Z b) (hR : ∀ b, R b → Z b) (hm : PMap W M st.length fo.length (Known st fo) → PMap W' M st.length fo.length (Known st fo)) : KpB R M st fo W W' :=
 ⟨kp.os, kp.tape, kp.output, kp.size, fun b cs t hb _ => kp.box (hz _ hb.at_) hb, fun k hk hr => kp.block k hk (hR k hr), hm⟩
structure ComB (c : CB) (a : Tl) (sa fa : Option Addr) (sc fc : Nat) (fv : Value) (W : Int → Int) (S : World → Prop) (i k N : Nat) (w : World) (P : List Int → Prop) (m : Nat) (Q : Nat → Prop) (L : Nat) (W1 : World) (p11 : Nat) (lo hi : Int) (na : Option Addr) (ns : List Int) (ss : List (Int × Int)) (la : Option Addr) (lc : Nat) (W' : World) : Prop where
 com : ComI c a sa fa sc fc fv W S i k N w P m Q W'
 b11 : Box W' p11 #[.int .i64 lo, .int .i64 hi] 73
 rn : RdI W' na ns
 kb : KpB (fun b => b < N ∧ b ≠ c.M ∧ b ≠ c.K) c.M a.st a.fo W1 W'
 kf : KeepsFrom L W1 W'
 z : W1.heap.size ≤ W'.heap.size
 g1 : Box W' (N + 4) #[.slice la ss.length lc] 208
 g2 : W'.ownsRow (N + 3) 73 2 (.slice la ss.length lc) ss.length (rowC spC ss)
 g3 : ∀ g, (Value.slice la ss.length lc).ownBlock = some g → ¬ Q g
theorem ComB.below {c : CB} {a : Tl} {sa fa : Option Addr} {sc fc : Nat} {fv : Value} {W : Int → Int} {S : World → Prop} {n0 i k N m L p11 : Nat} {w W1 W2 W3 : World} {P : List Int → Prop} {Q : Nat → Prop} {lo hi : Int} {na : Option Addr} {ns : List Int} {ss : List (Int × Int)} {la : Option Addr} {lc : Nat} (hc : TellC c a fv W S n0) (hn : n0 ≤ N) (h : ComB c a sa fa sc fc fv W S i k N w P m Q L W1 p11 lo hi na ns ss la lc W2) (hN : N ≤ W2.heap.size) (hb : Below W2.heap.size W2 W3) : ComB c a sa fa sc fc fv W S i k N w P m Q L W1 p11 lo hi na ns ss la lc W3 :=
 ⟨h.com.below hc hn hN hb, h.b11.below hb h.b11.lt, h.rn.below hb, h.kb.trans (KpB.of_keepZ (Keep.of_below (Z := fun b => b < W2.heap.size) hb (fun _ _ h => h)) (fun b ⟨_, ho, _⟩ => (Array.getElem?_eq_some_iff.1 ho).1) (fun b hb => by have := hb.1; show b < W2.heap.size; omega) (fun h => h.kept (hb.block _ h.lt))), h.kf.trans (kf_below hb), Nat.le_trans h.z hb.size, h.g1.below hb h.g1.lt, own_below h.g2 hb (Nat.le_refl _), h.g3⟩
structure TellLt (c : CB) (N : Nat) : Prop where
 kb : c.kb < N
 xb : c.xb < N
 tb : c.tb < N
 vb : c.vb < N
 pb : c.pb < N
 eb : c.eb < N
 qb : c.qb < N
 M : c.M < N
 K : c.K < N
theorem Tell.low {w w' : World} {c : CB} {a : Tl} {sa fa : Option Addr} {sc fc : Nat} {fv : Value} {W : Int → Int} {S : World → Prop} {n0 N : Nat} (hc : TellC c a fv W S n0) (hn : n0 ≤ N) (h : Tell w c a sa fa sc fc fv W S) (hlt : TellLt c N) (r3 : a.st ≠ [] → ∀ {p : Addr}, sa = some p → p.block < N) (r4 : a.fo ≠ [] → ∀ {p : Addr}, fa = some p → p.block < N) (kp : Keep (· < N) w w') : Tell w' c a sa fa sc fc fv W S :=
 ⟨kp.box hlt.kb h.known, kp.box hlt.xb h.x, kp.box hlt.tb h.tell, kp.box hlt.vb h.worth,
  ⟨kp.box hlt.pb h.half.pair, kp.box hlt.eb h.half.fin, kp.box hlt.qb h.half.known, kp.pmap hlt.M h.half.map, kp.rdI (fun hx p hp => r3 hx hp) h.half.s, kp.rdI (fun hx p hp => r4 hx hp) h.half.f⟩, kp.pmap hlt.K h.map, hc.sk _ _ h.s (kp.mono (fun b _ hb => by have := hb.1; show b < N; omega))⟩
theorem tell_step (c : CB) (a : Tl) (sa fa : Option Addr) (sc fc : Nat) (fv : Value) (W : Int → Int) (S : World → Prop) (n0 : Nat) (hc : TellC c a fv W S n0) (i k : Nat) (hi : i ≤ a.st.length) (hk : k ≤ a.fo.length)
  (ih : ∀ i' k' w', i' ≤ a.st.length → k' ≤ a.fo.length → (a.st.length - i') + (a.fo.length - k') < (a.st.length - i) + (a.fo.length - k) → n0 ≤ w'.heap.size → Tell w' c a sa fa sc fc fv W S →
   Calls Tryz.prog 145 #[plc i' k', .pointer (some ⟨c.kb, 0, none⟩), .pointer (some ⟨c.xb, 0, none⟩), .pointer (some ⟨c.tb, 0, none⟩), .pointer (some ⟨c.vb, 0, none⟩)] w' (TellP c a W i' k' w'))
  (w : World) (hn0 : n0 ≤ w.heap.size) (hT : Tell w c a sa fa sc fc fv W S) :
  Calls Tryz.prog 145 #[plc i k, .pointer (some ⟨c.kb, 0, none⟩), .pointer (some ⟨c.xb, 0, none⟩), .pointer (some ⟨c.tb, 0, none⟩), .pointer (some ⟨c.vb, 0, none⟩)] w (TellP c a W i k w) := by
 have hm := mixedS
 obtain ⟨i0, hi0, iz0, iz1, iz2⟩ := info_parts infoSpan
 have IH := hid ih; clear ih
 have hc' := hc
 obtain ⟨kf, first, caps, rfl, eg, hcall⟩ := hc'.wf
 have EG := hid eg; have HC := hid hcall
 clear eg hcall hc'
 have HT := hid hT
 have k0 : w.cell? ⟨c.kb, 0, none⟩ = some (.map (some c.K)) := hT.known.cell 0
 have lk := hT.known.lt
 have hlk := (hT.map.alloc (.cells #[.int .i64 i, .int .i64 k] 193)).alloc (.cells #[.int .i64 0, .int .i64 0] 73)
 have hlk := hlk.look (t := 205) (e := 73) Tryz.underlying205 (z := .agg #[.int .i64 0, .int .i64 0]) (Tryz.zeroValue73 _) (i := i) (k := k) (by have := hc.l1; omega) (by have := hc.l2; omega)
 clear hT
 apply (callsIn_wide (n := 4)).1
 refine callsIn_of_wp_marks Tryz.func145 rfl trivial ?_ rfl
 simp only [Tryz.ntmps145, List.size_toArray, List.length_cons, List.length_nil, Nat.reduceAdd, Nat.reduceSub, Array.replicate_succ, Array.replicate_zero, List.push_toArray, List.append_toArray, List.nil_append, List.cons_append]
 unfold plc at hlk ⊢
 rcases hlk with hrun | ⟨v, ⟨lo, hi2, rfl, hsp⟩, hrun⟩
 ·have x0 : w.cell? ⟨c.xb, 0, none⟩ = some (.int .i64 a.id) := HT.out.x.cell 0
  have x1 : w.cell? ⟨c.xb, 1, none⟩ = some (.int .i64 a.hs) := HT.out.x.cell 1
  have x2 : w.cell? ⟨c.xb, 2, none⟩ = some (.slice sa a.st.length sc) := HT.out.x.cell 2
  have x3 : w.cell? ⟨c.xb, 3, none⟩ = some (.slice fa a.fo.length fc) := HT.out.x.cell 3
  have x4 : w.cell? ⟨c.xb, 4, none⟩ = some (leftV c.eb c.qb c.pb) := HT.out.x.cell 4
  have lx := HT.out.x.lt
  have lx1 : c.xb < w.heap.size + 1 := by omega
  have lx2 : c.xb < w.heap.size + 1 + 1 := by omega
  have lx3 : c.xb < w.heap.size + 1 + 1 + 1 := by omega
  have lx4 : c.xb < w.heap.size + 1 + 1 + 1 + 1 := by omega
  gi_wp2_with (fail)
  refine ⟨trivial, ?_⟩
  gi_at_call 146
  refine (callsIn_wide.2 (best_any #[.int .i64 a.id, .int .i64 a.hs, .slice sa a.st.length sc, .slice fa a.fo.length fc, leftV c.eb c.qb c.pb] i k _ rfl)).mono ?_
  rintro e w3 ⟨rfl, rfl⟩
  gi_wp2_with (fail)
  obtain ⟨N, hN⟩ : ∃ N, N = w.heap.size := ⟨_, rfl⟩
  refine wpIn_world (fun wL => Box wL N #[.int .i64 i, .int .i64 k] 193 ∧ Box wL (N + 1) #[.int .i64 0, .int .i64 0] 73 ∧ wL.ownsRow (N + 3) 73 2 (.slice (some ⟨N + 3, 0, none⟩) 0 0) 0 [] ∧ Box wL (N + 4) #[.slice (some ⟨N + 3, 0, none⟩) 0 0] 208 ∧ Box wL (N + 5) (pairC a.id a.hs a.st a.fo sa fa sc fc (leftV c.eb c.qb c.pb)) 180 ∧ Box wL (N + 6) #[.int .i64 i, .int .i64 k] 193 ∧ Below w.heap.size w wL ∧ N + 7 ≤ wL.heap.size) ⟨?_, ?_, ?_, ?_, ?_, ?_, ?_, ?_⟩ ?_
  ·rw [hN]; exact ((((((Box.at _ _ yL).alloc _).alloc _).alloc _).alloc _).alloc _).alloc _
  ·rw [hN]; exact (((((Box.at _ _ yL).alloc _).alloc _).alloc _).alloc _).alloc _
  ·rw [hN]; exact (((own_lit yL (Nat.le_refl _) (by omega) rfl rfl).alloc _).alloc _).alloc _
  ·rw [hN]; exact ((Box.at _ _ yL).alloc _).alloc _
  ·rw [hN]; exact (Box.at _ _ yL).alloc _
  ·rw [hN]; exact Box.at _ _ yL
  ·exact goBl
  ·rw [hN]; simp
  rintro wL ⟨b5, b6, o9, b9, bC, bD, hbL, zL⟩
  rw [← hN]
  have hMN : c.M < N := by have := HT.out.half.map.lt; omega
  have hKN : c.K < N := by have := HT.out.map.lt; omega
  have hn : n0 ≤ N := by omega
  have kpL : Keep (fun b => b < N ∧ b ≠ c.M ∧ b ≠ c.K) w wL := Keep.of_below hbL (fun b _ hb => by have := hb.1; omega)
  have tL := HT.out.below hc hbL
  have I0 : ComI c a sa fa sc fc (.func (.func kf) first caps) W S i k N w (fun l => ByS a [] l) 0 (fun _ => False) wL := ⟨b5, b6, ⟨[], _, 0, b9, o9, .nil (fun l ⟨_, h, _⟩ => by cases h), Nat.le_refl _, fun _ _ h => h⟩, tL, kpL⟩
  have hH := tL.half
  clear hrun k0 lk x0 x1 x2 x3 x4 lx lx1 lx2 lx3 lx4 b5 b6 o9 b9 hbL kpL
  have hLT : TellLt c N := ⟨by have := HT.out.known.lt; omega, by have := HT.out.x.lt; omega, by have := HT.out.tell.lt; omega, by have := HT.out.worth.lt; omega, by have := HT.out.half.pair.lt; omega, by have := HT.out.half.fin.lt; omega, by have := HT.out.half.known.lt; omega, hMN, hKN⟩
  have R3 := fun hx {p} => row_lt (p := p) HT.out.half.s hx; have R4 := fun hx {p} => row_lt (p := p) HT.out.half.f hx
  rw [← hN] at R3 R4
  have HN := hid hN
  clear hN
  refine wpIn_range_X rfl (by omega) (gf := 160) (lb := #[.pointer (some ⟨N + 5, 0, none⟩), .pointer (some ⟨N + 6, 0, none⟩)]) rfl trivial (enters_of Tryz.func160 (by kernel_rfl) rfl)
   (best1_stops (N + 5) (N + 6) c.pb c.eb c.qb c.M a.id a.hs a.st a.fo sa fa sc fc i k hi hk (by have := hc.l1; omega) (by have := hc.l2; omega) (fun b => b < N ∧ b ≠ c.M ∧ b ≠ c.K) (fun h => h.2.1 rfl) (fun hx p hp => ⟨R3 hx hp, hH.map.ne_row hH.s hx hp, tL.map.ne_row hH.s hx hp⟩) (fun hx p hp => ⟨R4 hx hp, hH.map.ne_row hH.f hx hp, tL.map.ne_row hH.f hx hp⟩) wL bC bD hH)
   (fun h k => h.trans k) ?kb (Below.refl _ _) (fun _ => rfl) ?hSt
   (fun pre W' => ComI c a sa fa sc fc (.func (.func kf) first caps) W S i k N w (fun l => ByS a (pre.map (·.1)) l) (2 * pre.length) (fun _ => False) W' ∧ wL.heap.size ≤ W'.heap.size)
   (fun _ _ _ => False) ?hI ?hIx ⟨I0, Nat.le_refl _⟩
   (fun x a' W' => ∃ Bx, wL.heap.size ≤ Bx ∧ Box W' Bx #[.int .i64 x.1.i, .int .i64 x.1.k, .int .i64 x.1.s, .int .i64 x.1.f, .int .i64 x.1.wr] 204 ∧ ∃ f : Nat → Value, a' = ⟨((List.range 66).map f).toArray, []⟩ ∧ f 3 = .pointer (some ⟨c.tb, 0, none⟩) ∧ f 4 = .pointer (some ⟨c.vb, 0, none⟩) ∧ f 9 = .pointer (some ⟨N + 4, 0, none⟩) ∧ f 10 = .pointer (some ⟨Bx, 0, none⟩)) ?hAx ?assign ?body ?done ?stop
  case kb =>
   intro W1 l1 o o' hl1 ho hco _
   have k1 : Keep (· ≠ l1) W1 (W1.putObj l1 o') := (Keep.refl _ _).putObj _ _ (fun _ h => h rfl)
   exact KpB.of_keepZ k1 (fun b hb e => by subst e; obtain ⟨o2, h2, h3⟩ := hb; rw [ho] at h2; cases h2; rw [hco] at h3; cases h3) (fun b hb => show b ≠ l1 by have := hb.1; omega) (fun h => h.kept (World.putObj_heap_other (show c.M ≠ l1 by omega)))
  case hSt => exact fun A B h => keepsFrom_of h.1 (show c.M < wL.heap.size by omega)
  case hI =>
   refine ⟨?_, ?_⟩
   ·rintro pre W1 W2 row ⟨I1, z1⟩ hg hr
    have hrc : ∀ r, row = some r → ∃ o : Obj, W1.heap[r]? = some o ∧ o.isCells = false := fun r e => (hr r e).2
    have hlt : ∀ b, b < N → row ≠ some b := fun b hb e => by have := (hr b e).1; omega
    exact ⟨I1.keepZ hc hn (keep_of_grown hg) (fun b hb => cell_not_row hrc hb) (fun b hb _ _ => hlt b hb) (I1.tell.half.map.kept (hg.block c.M I1.tell.half.map.lt (fun e => hlt _ hMN e.symm))) (I1.tell.map.kept (hg.block c.K I1.tell.map.lt (fun e => hlt _ hKN e.symm))), Nat.le_trans z1 hg.size⟩
   ·rintro pre W1 W2 ⟨I1, z1⟩ ⟨hk, hp⟩
    exact ⟨I1.keepZ hc hn hk (fun b hb => map_not_cell I1.tell.half.map hb) (fun b _ hb _ => hb) (hp I1.tell.half.map) (hk.pmap (show c.K ≠ c.M from Ne.symm hc.ne) I1.tell.map), Nat.le_trans z1 hk.size⟩
  case hIx => exact fun _ => ⟨fun _ _ _ _ h _ _ => h, fun _ _ _ h _ => h⟩
  case hAx =>
   rintro x a' _ W1 W2 row ⟨Bx, hB, hb, hf⟩ hg hr
   exact ⟨Bx, hB, box_own hb hg (fun r e => (hr r e).2), hf⟩
  case assign =>
   rintro l2 pre ⟨x, hx⟩ W1 K ⟨I1, z1⟩ hK
   simp only [St.val]
   gi_wp2
   have k1 := (Keep.refl (fun b => b < W1.heap.size) W1).alloc (.cells #[.int .i64 x.i, .int .i64 x.k, .int .i64 x.s, .int .i64 x.f, .int .i64 x.wr] 204)
   refine hK _ _ ((KeepsOthers.alloc _ _).from _) (KpB.of_keepZ k1 (fun b ⟨_, ho, _⟩ => (Array.getElem?_eq_some_iff.1 ho).1) (fun b hb => by have := hb.1; show b < W1.heap.size; omega) (fun h => h.alloc _)) ⟨I1.keepZ hc hn k1 (fun b ⟨_, ho, _⟩ => (Array.getElem?_eq_some_iff.1 ho).1) (fun b hb _ _ => by show b < W1.heap.size; omega) (I1.tell.half.map.alloc _) (I1.tell.map.alloc _), by simp; omega⟩ ⟨W1.heap.size, z1, Box.new _ _ _, ?_⟩
   refine acts_of rfl ?_
   exact ⟨rfl, rfl, rfl, rfl⟩
  case body =>
   rintro l2 pre ⟨x, hx⟩ a' W1 hl' ⟨r, hr⟩ ⟨I1, z1⟩ ⟨Bx, hBx, bX, f, rfl, f3, f4, f9, f10⟩ hlt2
   obtain ⟨b1, b2, b3, b4, b5⟩ := step_bound hx hi hk
   rw [show (List.range 66).map f = [f 0, f 1, f 2, f 3, f 4, f 5, f 6, f 7, f 8, f 9, f 10, f 11, f 12, f 13, f 14, f 15, f 16, f 17, f 18, f 19, f 20, f 21, f 22, f 23, f 24, f 25, f 26, f 27, f 28, f 29, f 30, f 31, f 32, f 33, f 34, f 35, f 36, f 37, f 38, f 39, f 40, f 41, f 42, f 43, f 44, f 45, f 46, f 47, f 48, f 49, f 50, f 51, f 52, f 53, f 54, f 55, f 56, f 57, f 58, f 59, f 60, f 61, f 62, f 63, f 64, f 65] from rfl, f3, f4, f9, f10]
   clear f3 f4 f9 f10
   have y0 : W1.cell? ⟨c.tb, 0, none⟩ = some (tellV c.kb c.xb c.tb c.vb) := I1.tell.tell.cell 0
   have x0 : W1.cell? ⟨Bx, 0, none⟩ = some (.int .i64 x.i) := bX.cell 0
   have x1 : W1.cell? ⟨Bx, 1, none⟩ = some (.int .i64 x.k) := bX.cell 1
   have II := hid I1; have BB := hid bX
   clear I1 bX
   unfold tellV at y0
   gi_wp2_with (fail)
   refine ⟨trivial, ?_⟩
   gi_at_call 145
   refine (CallsIn.inRound l2 (callsIn_wide.2 (IH.out x.i x.k W1 b1 b2 b3 (by omega) II.out.tell))).mono ?_
   rintro e w5 ⟨lo, hi5, rfl, hsp, kp5, hM5, hK5⟩
   have hcel : ∀ b, CellAt W1 b → b ≠ c.M ∧ b ≠ c.K := fun b hb => ⟨map_not_cell II.out.tell.half.map hb, map_not_cell II.out.tell.map hb⟩
   have I5 := hid (II.out.keepZ hc hn kp5 hcel (fun b _ h1 h2 => ⟨h1, h2⟩) hM5 hK5)
   have B5 := hid (kp5.box (hcel _ BB.out.at_) BB.out)
   have KB5 : KpB (fun b => b < N ∧ b ≠ c.M ∧ b ≠ c.K) c.M a.st a.fo W1 w5 := KpB.of_keepZ kp5 hcel (fun b hb => hb.2) (fun _ => hM5)
   have KF5 : KeepsFrom wL.heap.size W1 w5 := ⟨kp5.size, fun q o hB hq _ => (kp5.block q (Array.getElem?_eq_some_iff.1 hq).1 ⟨by omega, by omega⟩).trans hq⟩
   have z5 := kp5.size
   have sb := span_bound hc.wb (by have := hc.l1; simp; omega) (by have := hc.l2; simp; omega) hsp
   clear kp5 hM5 hK5 hcel x0 x1 y0
   obtain ⟨⟨v0, v1, v2, v3, v4⟩, lv⟩ : (w5.cell? ⟨Bx, 0, none⟩ = some (.int .i64 x.i) ∧ w5.cell? ⟨Bx, 1, none⟩ = some (.int .i64 x.k) ∧ w5.cell? ⟨Bx, 2, none⟩ = some (.int .i64 x.s) ∧ w5.cell? ⟨Bx, 3, none⟩ = some (.int .i64 x.f) ∧ w5.cell? ⟨Bx, 4, none⟩ = some (.int .i64 x.wr)) ∧ Bx < w5.heap.size := ⟨⟨B5.out.cell 0, B5.out.cell 1, B5.out.cell 2, B5.out.cell 3, B5.out.cell 4⟩, B5.out.lt⟩
   gi_wp2_with (fail)
   refine ⟨trivial, ?_⟩
   gi_at_call 147
   refine (CallsIn.inRound l2 (callsIn_wide.2 (notches_step x _))).mono ?_
   rintro e w6 ⟨na, nc, rfl, hna, hb6, hnf⟩
   obtain ⟨p11, hp11⟩ : ∃ p, p = w5.heap.size := ⟨_, rfl⟩
   obtain ⟨L6, hL6⟩ : ∃ L, L = w6.heap.size := ⟨_, rfl⟩
   have B11 := hid ((Box.at (w := w5) #[.int .i64 lo, .int .i64 hi5] 73 hp11).below hb6 (by simp; omega))
   have hb65 : Below w5.heap.size w5 w6 := ((Below.refl _ w5).alloc (Nat.le_refl _) _).trans (hb6.mono (by simp))
   have kp6 : Keep (fun b => b < w5.heap.size) w5 w6 := Keep.of_below hb65 (fun _ _ h => h)
   have cel6 : ∀ b, CellAt w5 b → b < w5.heap.size := fun b ⟨_, ho, _⟩ => (Array.getElem?_eq_some_iff.1 ho).1
   have hNW : N + 7 ≤ w5.heap.size := by omega
   have I5q := I5.out.iff (Q' := fun b => p11 ≤ b ∧ b < L6) (fun _ => Iff.rfl) (Nat.le_refl _) (fun g _ hg _ hq => by have := hq.1; omega)
   have I6 := hid (I5q.keepZ hc hn kp6 cel6 (fun b hb _ _ => show b < w5.heap.size by omega) (I5.out.tell.half.map.kept (hb65.block _ I5.out.tell.half.map.lt)) (I5.out.tell.map.kept (hb65.block _ I5.out.tell.map.lt)))
   have KB6 := KB5.trans (KpB.of_keepZ kp6 cel6 (fun b hb => by have := hb.1; show b < w5.heap.size; omega) (fun h => h.kept (hb65.block _ h.lt)))
   have KF6 := KF5.trans (kf_below (B := wL.heap.size) hb65)
   have RN := hid hna
   have np : N + 7 ≤ p11 := by omega
   have pL : p11 < L6 := by have := B11.out.lt; omega
   have pz : W1.heap.size ≤ p11 := by omega
   have hnq : ∀ p, na = some p → p11 ≤ p.block ∧ p.block < L6 := fun p e => ⟨by have := hnf p e; simp at this; omega, by rw [hL6]; exact row_lt hna (List.ne_nil_of_length_pos (by have := notchesL_len x; omega)) e⟩
   have zL6 : L6 ≤ w6.heap.size := by omega
   rw [← hp11]
   clear hp11 hL6 hb6 hb65 kp6 cel6 KB5 KF5 v0 v1 v2 v3 v4 lv hna I5 B5 I5q hnf
   have nl := notchesL_len x
   gi_wp2_with (fail)
   gi_loopw [34] (fun p wr => ∃ j : Nat, j ≤ (notchesL x).length ∧ p = .int .i64 j ∧ ComI c a sa fa sc fc (.func (.func kf) first caps) W S i k N w (fun l => ByS a (pre.map (·.1)) l ∨ ByN a x ((notchesL x).take j) l) (2 * pre.length + j) (fun b => p11 ≤ b ∧ b < L6) wr ∧ Box wr p11 #[.int .i64 lo, .int .i64 hi5] 73 ∧ RdI wr na (notchesL x) ∧ KpB (fun b => b < N ∧ b ≠ c.M ∧ b ≠ c.K) c.M a.st a.fo W1 wr ∧ KeepsFrom wL.heap.size W1 wr ∧ L6 ≤ wr.heap.size) (fun p _ => (notchesL x).length - (intOf p).toNat)
   case atStart => exact ⟨0, Nat.zero_le _, rfl, I6.out.iff (fun l => ⟨.inl, fun h => h.resolve_right (fun ⟨_, h, _⟩ => by simp at h)⟩) (by omega) (fun _ _ _ h => h), B11.out, RN.out, KB6, KF6, zL6⟩
   case round =>
    clear I6 B11 RN KB6 KF6 zL6
    obtain ⟨j, hj, rfl, J, b11, rn, kb, kf', zr⟩ := hrel
    by_cases hlt : j < (notchesL x).length
    ·obtain ⟨bn, on, rfl, cn⟩ := rn j hlt
     have hnn := step_notch hc.o1 hc.o2 hx (List.getElem_mem hlt)
     have JJ := hid J; have B11 := hid b11; have RN := hid rn; have KB := hid kb; have KF := hid kf'
     obtain ⟨ss, la, lc, g1, g2, g3, g4, g5⟩ := J.l9
     have q0 : wr.cell? ⟨N + 4, 0, none⟩ = some (.slice la ss.length lc) := g1.cell 0
     have q1 : wr.cell? ⟨c.vb, 0, none⟩ = some (.func (.func kf) first caps) := J.tell.worth.cell 0
     have q2 : wr.cell? ⟨p11, 0, none⟩ = some (.int .i64 lo) := b11.cell 0
     have q3 : wr.cell? ⟨p11, 1, none⟩ = some (.int .i64 hi5) := b11.cell 1
     have G1 := hid g1; have G2 := hid g2; have G3 := hid g3
     have lcn := cell_lt cn
     clear J b11 rn kb kf' g1 g2 g3
     obtain ⟨n, hne⟩ : ∃ n, (notchesL x)[j] = n := ⟨_, rfl⟩
     rw [hne] at cn hnn
     have wbn := hc.wb n
     have hw1 := wrap_mid (n := W n + lo) (by omega) (by omega)
     have hw2 := wrap_mid (n := W n + hi5) (by omega) (by omega)
     gi_wp2_with (fail)
     refine wpIn_region_G [0, 1, 5, 7, 11] (fun w' => w'.cell? ⟨N + 4, 0, none⟩ = some (.slice la ss.length lc) ∧ w'.cell? ⟨c.vb, 0, none⟩ = some (.func (.func kf) first caps) ∧ w'.cell? ⟨p11, 0, none⟩ = some (.int .i64 lo) ∧ w'.cell? ⟨p11, 1, none⟩ = some (.int .i64 hi5)) hm ⟨by go_simp, by go_simp, by go_simp, by go_simp⟩ ?_
     intro hS0; have hS := hid hS0; clear hS0
     have dr : Below wr.heap.size wr wr.drew := ⟨rfl, rfl, rfl, Nat.le_refl _, fun _ _ => rfl⟩
     have BB0 : ComB c a sa fa sc fc (.func (.func kf) first caps) W S i k N w (fun l => ByS a (pre.map (·.1)) l ∨ ByN a x ((notchesL x).take j) l) (2 * pre.length + j) (fun b => p11 ≤ b ∧ b < L6) wL.heap.size W1 p11 lo hi5 (some ⟨bn, on, none⟩) (notchesL x) ss la lc wr := ⟨JJ.out, B11.out, RN.out, KB.out, KF.out, by omega, G1.out, G2.out, g5⟩
     have BB0 := BB0.below hc hn (by omega) dr
     have zd2 : L6 ≤ wr.drew.heap.size := by show L6 ≤ wr.heap.size; omega
     have zd : W1.heap.size ≤ wr.drew.heap.size := by show W1.heap.size ≤ wr.heap.size; omega
     clear JJ B11 RN KB KF zr G1 G2 q0 q1 q2 q3 cn lcn dr
     refine anyWG (fun W' => ComB c a sa fa sc fc (.func (.func kf) first caps) W S i k N w (fun l => ByS a (pre.map (·.1)) l ∨ ByN a x ((notchesL x).take j) l) (2 * pre.length + j) (fun b => p11 ≤ b ∧ b < L6) wL.heap.size W1 p11 lo hi5 (some ⟨bn, on, none⟩) (notchesL x) ss la lc W' ∧ L6 ≤ W'.heap.size ∧ (W'.cell? ⟨N + 4, 0, none⟩ = some (.slice la ss.length lc) ∧ W'.cell? ⟨c.vb, 0, none⟩ = some (.func (.func kf) first caps) ∧ W'.cell? ⟨p11, 0, none⟩ = some (.int .i64 lo) ∧ W'.cell? ⟨p11, 1, none⟩ = some (.int .i64 hi5))) ⟨BB0, zd2, hS.out⟩ ?_
     clear BB0 hS zd zd2
     rintro wc ⟨cb, zc, hs⟩
     have CB := hid cb; have hS := hid hs
     clear cb hs
     (apply wpAnyG_held (wide_round _) (i := 0) rfl (by kernel_rfl) (fun _ _ _ h => h) hS.out; · first | exact .inr ⟨rfl, rfl⟩ | exact .inl ⟨rfl, fun w' hS' => by (obtain ⟨s1, s2, s3, s4⟩ := hS'; go_simp; rfl)⟩); simp only [Act.put, List.setIfInBounds_toArray, List.set_cons_succ, List.set_cons_zero, List.getElem_toArray, List.getElem_cons_succ, List.getElem_cons_zero]
     (apply wpAnyG_held (wide_round _) (i := 1) rfl (by kernel_rfl) (fun _ _ _ h => h) hS.out; · first | exact .inr ⟨rfl, rfl⟩ | exact .inl ⟨rfl, fun w' hS' => by (obtain ⟨s1, s2, s3, s4⟩ := hS'; go_simp; rfl)⟩); simp only [Act.put, List.setIfInBounds_toArray, List.set_cons_succ, List.set_cons_zero, List.getElem_toArray, List.getElem_cons_succ, List.getElem_cons_zero]
     (apply wpAnyG_pure (wide_round _) (i := 2) rfl (by kernel_rfl) (fun _ _ _ h => h); · first | exact .inr ⟨rfl, rfl⟩ | exact .inl ⟨rfl, fun w' => by go_simp; rfl⟩); simp only [Act.put, List.setIfInBounds_toArray, List.set_cons_succ, List.set_cons_zero, List.getElem_toArray, List.getElem_cons_succ, List.getElem_cons_zero]
     (apply wpAnyG_pure (wide_round _) (i := 4) rfl (by kernel_rfl) (fun _ _ _ h => h); · first | exact .inr ⟨rfl, rfl⟩ | exact .inl ⟨rfl, fun w' => by go_simp; rfl⟩); simp only [Act.put, List.setIfInBounds_toArray, List.set_cons_succ, List.set_cons_zero, List.getElem_toArray, List.getElem_cons_succ, List.getElem_cons_zero]
     (apply wpAnyG_held (wide_round _) (i := 5) rfl (by kernel_rfl) (fun _ _ _ h => h) hS.out; · first | exact .inr ⟨rfl, rfl⟩ | exact .inl ⟨rfl, fun w' hS' => by (obtain ⟨s1, s2, s3, s4⟩ := hS'; go_simp; rfl)⟩); simp only [Act.put, List.setIfInBounds_toArray, List.set_cons_succ, List.set_cons_zero, List.getElem_toArray, List.getElem_cons_succ, List.getElem_cons_zero]
     (apply wpAnyG_held (wide_round _) (i := 7) rfl (by kernel_rfl) (fun _ _ _ h => h) hS.out; · first | exact .inr ⟨rfl, rfl⟩ | exact .inl ⟨rfl, fun w' hS' => by (obtain ⟨s1, s2, s3, s4⟩ := hS'; go_simp; rfl)⟩); simp only [Act.put, List.setIfInBounds_toArray, List.set_cons_succ, List.set_cons_zero, List.getElem_toArray, List.getElem_cons_succ, List.getElem_cons_zero]
     (apply wpAnyG_pure (wide_round _) (i := 8) rfl (by kernel_rfl) (fun _ _ _ h => h); · first | exact .inr ⟨rfl, rfl⟩ | exact .inl ⟨rfl, fun w' => by go_simp; rfl⟩); simp only [Act.put, List.setIfInBounds_toArray, List.set_cons_succ, List.set_cons_zero, List.getElem_toArray, List.getElem_cons_succ, List.getElem_cons_zero]
     (apply wpAnyG_pure (wide_round _) (i := 10) rfl (by kernel_rfl) (fun _ _ _ h => h); · first | exact .inr ⟨rfl, rfl⟩ | exact .inl ⟨rfl, fun w' => by go_simp; rfl⟩); simp only [Act.put, List.setIfInBounds_toArray, List.set_cons_succ, List.set_cons_zero, List.getElem_toArray, List.getElem_cons_succ, List.getElem_cons_zero]
     (apply wpAnyG_held (wide_round _) (i := 11) rfl (by kernel_rfl) (fun _ _ _ h => h) hS.out; · first | exact .inr ⟨rfl, rfl⟩ | exact .inl ⟨rfl, fun w' hS' => by (obtain ⟨s1, s2, s3, s4⟩ := hS'; go_simp; rfl)⟩); simp only [Act.put, List.setIfInBounds_toArray, List.set_cons_succ, List.set_cons_zero, List.getElem_toArray, List.getElem_cons_succ, List.getElem_cons_zero]
     refine wpAnyG_one (i := 3) rfl ⟨by kernel_rfl, by kernel_rfl⟩ ?_
     intro K hK
     have eg := EG.out
     go_simp
     clear eg
     refine ⟨trivial, ?_⟩
     refine (CallsIn.inRound l2 (callsIn_wide.2 (HC.out n wc hnn.1 hnn.2 CB.out.com.tell.s))).mono ?_
     rintro e w7 ⟨rfl, hb7⟩
     have CB := hid (CB.out.below hc hn (by have := CB.out.z; omega) hb7)
     refine shutSG hK ⟨CB.out.g1.cell 0, CB.out.com.tell.worth.cell 0, CB.out.b11.cell 0, CB.out.b11.cell 1⟩ (fun hS => ?_)
     clear hK K
     (apply wpAnyG_pure (wide_round _) (i := 6) rfl (by kernel_rfl) (fun _ _ _ h => h); · first | exact .inr ⟨rfl, rfl⟩ | exact .inl ⟨rfl, fun w' => by go_simp; rfl⟩); simp only [Act.put, List.setIfInBounds_toArray, List.set_cons_succ, List.set_cons_zero, List.getElem_toArray, List.getElem_cons_succ, List.getElem_cons_zero]
     refine wpAnyG_one (i := 9) rfl ⟨by kernel_rfl, by kernel_rfl⟩ ?_
     intro K hK
     have eg := EG.out
     go_simp
     clear eg
     refine ⟨trivial, ?_⟩
     refine (CallsIn.inRound l2 (callsIn_wide.2 (HC.out n w7 hnn.1 hnn.2 CB.out.com.tell.s))).mono ?_
     rintro e w8 ⟨rfl, hb8⟩
     have CB := hid (CB.out.below hc hn (by have := CB.out.z; omega) hb8)
     refine shutSG hK ⟨CB.out.g1.cell 0, CB.out.com.tell.worth.cell 0, CB.out.b11.cell 0, CB.out.b11.cell 1⟩ (fun hS => ?_)
     clear hK K
     (apply wpAnyG_pure (wide_round _) (i := 12) rfl (by kernel_rfl) (fun _ _ _ h => h); · first | exact .inr ⟨rfl, rfl⟩ | exact .inl ⟨rfl, fun w' => by go_simp; rfl⟩); simp only [Act.put, List.setIfInBounds_toArray, List.set_cons_succ, List.set_cons_zero, List.getElem_toArray, List.getElem_cons_succ, List.getElem_cons_zero]
     (apply wpAnyG_pure (wide_round _) (i := 13) rfl (by kernel_rfl) (fun _ _ _ h => h); · first | exact .inr ⟨rfl, rfl⟩ | exact .inl ⟨rfl, fun w' => by go_simp; rfl⟩); simp only [Act.put, List.setIfInBounds_toArray, List.set_cons_succ, List.set_cons_zero, List.getElem_toArray, List.getElem_cons_succ, List.getElem_cons_zero]
     refine wpAnyG_one (i := 14) rfl ⟨by kernel_rfl, by kernel_rfl⟩ ?_
     intro K hK
     go_simp
     have ba : Below w8.heap.size w8 (w8.alloc (.cells #[.int .i64 (W n + lo), .int .i64 (W n + hi5)] 73)) := (Below.refl _ _).alloc (Nat.le_refl _) _
     have CB8 := CB
     have CB := hid (CB.out.below hc hn (by have := CB.out.z; omega) ba)
     refine shutSG hK ⟨CB.out.g1.cell 0, CB.out.com.tell.worth.cell 0, CB.out.b11.cell 0, CB.out.b11.cell 1⟩ (fun hS => ?_)
     clear hK K
     refine wpAnyG_one (i := 15) rfl ⟨by kernel_rfl, by kernel_rfl⟩ ?_
     intro K hK
     refine stepIn_append_any _ rfl _ _ _ rfl (N + 3) 73 i0 _ 2 16 Tryz.underlying208 hi0 iz0 iz1 iz2 rfl (by decide) (.slice la ss.length lc) ss.length (rowC spC ss) rfl CB.out.g2 (some ⟨w8.heap.size, 0, none⟩) 1 1 [.int .i64 (W n + lo), .int .i64 (W n + hi5)] rfl rfl (fun h => by cases h) (box_news (Box.new _ _ _) rfl) (by simp [Value.oneCell']) (by omega) (by omega) (by have := CB.out.z; omega) ?_
     intro la2 lc2 w9 own9 gr9 pl9
     refine shutNG hK (by kernel_rfl) ?_
     clear hK K
     refine wpAnyG_one (i := 16) rfl ⟨by kernel_rfl, by kernel_rfl⟩ ?_
     intro K hK
     have Q9 := hid (CB.out.g1.grown gr9 (own_ne' CB.out.g2 CB.out.g1 (by decide)))
     have u0 := Q9.out.cell 0; have u1 := Q9.out.frozen 0; have u2 := Q9.out.lt
     simp only [List.getElem?_toArray, List.getElem?_cons_zero, List.getElem?_cons_succ] at u0
     go_simp
     clear u0 u1 u2
     refine shutNG hK (by kernel_rfl) ?_
     clear hK K
     refine wpAnyG_done (by kernel_rfl) ?_ _
     have hsn : (notchesL x).take (j + 1) = (notchesL x).take j ++ [n] := by rw [List.take_succ_eq_append_getElem hlt, hne]
     obtain ⟨X8, hX8⟩ : ∃ X, X = (w8.alloc (.cells #[.int .i64 (W n + lo), .int .i64 (W n + hi5)] 73)) := ⟨_, rfl⟩
     rw [← hX8] at gr9 CB pl9
     have rl := fun g hg => CB.out.g2.lt g hg
     have kpF : Keep (· < N + 3) X8 (w9.setCell ⟨N + 4, 0, none⟩ (.slice la2 (ss.length + 1) lc2)) := ((Keep.refl _ _).grown gr9 (fun r e _ hz => by have := (rl r e).1; have : r < N + 3 := hz; omega)).setCell _ _ (fun _ h => by have : N + 4 < N + 3 := h; omega)
     have kpQ : Keep (fun b => p11 ≤ b ∧ b < L6) X8 (w9.setCell ⟨N + 4, 0, none⟩ (.slice la2 (ss.length + 1) lc2)) := ((Keep.refl _ _).grown gr9 (fun r e _ hz => CB.out.g3 r e hz)).setCell _ _ (fun _ h => by have : p11 ≤ N + 4 := h.1; omega)
     have kfF : KeepsFrom wL.heap.size X8 (w9.setCell ⟨N + 4, 0, none⟩ (.slice la2 (ss.length + 1) lc2)) := (kf_own CB.out.g2 gr9).trans ((KeepsOthers.setCell _ _ _).from _)
     have kbF : KpB (fun b => b < N ∧ b ≠ c.M ∧ b ≠ c.K) c.M a.st a.fo X8 (w9.setCell ⟨N + 4, 0, none⟩ (.slice la2 (ss.length + 1) lc2)) := by
      refine ⟨kpF.os, kpF.tape, kpF.output, kpF.size, fun b cs t hb ht => ?_, fun k hk hr => kpF.block k hk (by have := hr.1; show k < N + 3; omega), fun h => kpF.pmap (show c.M < N + 3 by omega) h⟩
      have n1 : b ≠ N + 4 := fun e => by
       subst e
       have h1 := CB.out.g1
       unfold Box at h1 hb
       rw [h1] at hb
       simp at hb
       obtain ⟨_, rfl⟩ := hb
       rcases ht with h | h | h | h <;> cases h
      have hg := hb.grown gr9 (own_ne' CB.out.g2 hb (by rcases ht with h | h | h | h <;> (rw [h]; decide)))
      exact hg.other _ _ _ n1
     have z9 := gr9.size
     have zx : L6 ≤ X8.heap.size := by have h7 := hb7.size; have h8 := hb8.size; rw [hX8]; simp; omega
     have hcom := CB.out.com
     have hsp2 := G3.out.snoc (hsp.pre hc.w0 hnn.1)
     gi_wp2_with (fail)
     refine ⟨⟨j + 1, by omega, by go_num, ⟨kpF.box (show N < N + 3 by omega) hcom.p5, kpF.box (show N + 1 < N + 3 by omega) hcom.p6, ⟨ss ++ [(W n + lo, W n + hi5)], la2, lc2, ?_, ?_, ?_, by rw [List.length_append]; simp only [List.length_cons, List.length_nil]; omega, ?_⟩, hcom.tell.low hc hn hLT R3 R4 (kpF.mono (fun b _ hb => by have : b < N := hb; show b < N + 3; omega)), hcom.kp.trans (kpF.mono (fun b _ hb => by have := hb.1; show b < N + 3; omega))⟩, kpQ.box ⟨Nat.le_refl _, pL⟩ CB.out.b11, kpQ.rdI (fun _ p hp => hnq p hp) CB.out.rn, CB.out.kb.trans kbF, CB.out.kf.trans kfF, by rw [World.size_setCell]; omega⟩, by simp [intOf]; omega⟩
     ·rw [List.length_append]; exact Q9.out.set 0 _
     ·rw [List.length_append, rowC_append, rowC_one]; exact own_kp' own9 ((Keep.refl (· ≠ N + 4) _).setCell _ _ (fun _ h => h rfl)) (fun g hg e => own_ne' own9 Q9.out (by decide) (e ▸ hg))
     ·refine hsp2.iff (fun l => ?_)
      rw [hsn]
      show (ByS a (pre.map (·.1)) l ∨ ByN a x ((notchesL x).take j) l) ∨ (∃ r, TrueL (a.st.drop x.i) (a.fo.drop x.k) r ∧ l = preL n r) ↔ _
      rw [byN_snoc, or_assoc]
     ·intro g hg
      rw [List.length_append] at hg
      rcases pl9 with h | h
      ·exact CB.out.g3 g (h ▸ hg)
      ·intro hq
       have h2 : g = X8.heap.size := by
        have h3 := h.symm.trans hg
        simpa using h3.symm
       omega
    ·gi_wp2_with (fail)
     have hje : j = (notchesL x).length := by omega
     rw [List.take_of_length_le (by omega)] at J
     refine ⟨kf', kb, J.iff (fun l => ?_) (by simp; omega) (fun _ _ _ _ h => h), by omega⟩
     rw [List.map_append]
     exact (byS_snoc a (pre.map (·.1)) x l).symm
  case done =>
   rintro D ys W1 hD hall ⟨I1, z1⟩ hKD
   obtain ⟨ss, la, lc, g1, g2, g3, g4, -⟩ := I1.l9
   have q0 : W1.cell? ⟨N + 4, 0, none⟩ = some (.slice la ss.length lc) := g1.cell 0
   have hall' : ys.map (·.1) = bestL a.st a.fo i k := hall
   rw [hall'] at g3
   have y5 : ys.length ≤ 3 := by
    have h1 := congrArg List.length hall'
    have h2 := List.length_filter_le (isBest a.st a.fo i k) (stepsL a.st a.fo i k)
    have h3 := stepsL_le a.st a.fo i k
    simp only [List.length_map] at h1
    unfold bestL at h1
    omega
   have hDN : N + 7 ≤ D := by omega
   have a0 := I1.p5.cell 0; have a1 := I1.p5.cell 1
   simp only [List.getElem?_toArray, List.getElem?_cons_zero, List.getElem?_cons_succ] at a0 a1
   have c0 := I1.p6.cell 0; have c1 := I1.p6.cell 1; have c2 := I1.p6.frozen 0; have c3 := I1.p6.frozen 1; have c4 := I1.p6.lt
   simp only [List.getElem?_toArray, List.getElem?_cons_zero, List.getElem?_cons_succ] at c0 c1
   have k0 : W1.cell? ⟨c.kb, 0, none⟩ = some (.map (some c.K)) := I1.tell.known.cell 0
   have II := hid I1; have G2 := hid g2; have G3 := hid g3
   clear I1 g1 g2 g3 hall hall' I0 bC bD hH tL
   by_cases hend : i = a.st.length ∧ k = a.fo.length
   ·have hss : ss = [] := by
     rcases G3.out with ⟨h, _⟩ | ⟨h, h2⟩
     ·exact h
     ·obtain ⟨l, ⟨x, hx, _⟩, _⟩ := h2.lo
      have hb := (mem_best.1 hx).1
      have := (step_bound hb hi hk).2.2.1
      omega
    subst hss
    have HE := hid hend; clear hend
    gi_wp2_with (fail)
    have hKD2 := ((KeepsOthers.setCell W1 ⟨N + 1, 0, none⟩ (.int .i64 0)).trans (KeepsOthers.setCell _ ⟨N + 1, 1, none⟩ (.int .i64 0))).same D _ hKD rfl
    have kV : Keep (fun b => b ≠ N + 1 ∧ b ≠ D) W1 (((W1.setCell ⟨N + 1, 0, none⟩ (.int .i64 0)).setCell ⟨N + 1, 1, none⟩ (.int .i64 0)).putObj D (.deferred none)) := (((Keep.refl _ _).setCell _ _ (fun _ h => h.1 rfl)).setCell _ _ (fun _ h => h.1 rfl)).putObj _ _ (fun _ h => h.2 rfl)
    have bV : Box (((W1.setCell ⟨N + 1, 0, none⟩ (.int .i64 0)).setCell ⟨N + 1, 1, none⟩ (.int .i64 0)).putObj D (.deferred none)) (N + 1) #[.int .i64 0, .int .i64 0] 73 := ((Keep.refl (· ≠ D) _).putObj _ _ (fun _ h => h rfl)).box (show N + 1 ≠ D by omega) ((II.out.p6.set 0 _).set 1 _)
    refine ⟨by simp, .inl ⟨D, _, rfl, run_takeDeferred hKD2, ?_⟩⟩
    generalize (((W1.setCell ⟨N + 1, 0, none⟩ (.int .i64 0)).setCell ⟨N + 1, 1, none⟩ (.int .i64 0)).putObj D (.deferred none)) = V at kV bV ⊢
    have r0 := bV.cell 0; have r1 := bV.cell 1
    simp only [List.getElem?_toArray, List.getElem?_cons_zero, List.getElem?_cons_succ] at r0 r1
    refine ⟨.agg #[.int .i64 0, .int .i64 0], by simp [results, Tryz.results145, go_sem, r0, r1], 0, 0, rfl, ?_, ?_, kV.pmap ⟨by omega, by omega⟩ II.out.tell.half.map, kV.pmap ⟨by omega, by omega⟩ II.out.tell.map⟩
    ·rw [HE.out.1, HE.out.2]
     exact IsSpan.nil.iff (fun x => (true_end x).symm)
    ·exact (II.out.kp.trans (kV.mono (fun b _ hz => ⟨by have := hz.1; omega, by have := hz.1; omega⟩))).mono (fun b hb hz => ⟨by have := HN.out; omega, hz⟩)
   ·have hss : 0 < ss.length := by
     rcases G3.out with ⟨_, h⟩ | ⟨h, _⟩
     ·exfalso
      exact h (a.st.drop i) ((true_iff hc.o1 hc.o2 hi hk hend _).1 (by unfold TrueL; rw [dist_self]; omega))
     ·exact List.length_pos_iff.2 h
    have hsz : (((ss.length : Nat) : Int) == 0) = false := by rw [beq_eq_false_iff_ne]; omega
    have hsp : IsSpan W (TrueL (a.st.drop i) (a.fo.drop k)) (endsL ss).1 (endsL ss).2 := by
     rcases G3.out with ⟨h, _⟩ | ⟨_, h⟩
     ·subst h; cases hss
     ·exact h.iff (fun l => (true_iff hc.o1 hc.o2 hi hk hend l).symm)
    have HSP := hid hsp; clear hsp
    gi_wp2_with (fail)
    obtain ⟨E, hE⟩ : ∃ E, endsL ss = E := ⟨_, rfl⟩
    rw [hE] at HSP
    have HE2 := hid hE; clear hE
    obtain ⟨lo, hi2⟩ := E
    dsimp only at HSP
    refine wpIn_post (fun a' W' => ∃ f : Nat → Value, a' = ⟨((List.range 66).map f).toArray, [{ target := .collected D, args := #[] }]⟩ ∧ f 1 = .pointer (some ⟨c.kb, 0, none⟩) ∧ f 5 = .pointer (some ⟨N, 0, none⟩) ∧ f 6 = .pointer (some ⟨N + 1, 0, none⟩) ∧ Box W' c.kb #[.map (some c.K)] 205 ∧ Box W' N #[.int .i64 i, .int .i64 k] 193 ∧ Box W' (N + 1) #[.int .i64 0, .int .i64 0] 73 ∧ W'.heap[D]? = some (.deferred (some [])) ∧ PMap W' c.M a.st.length a.fo.length (Known a.st a.fo) ∧ PMap W' c.K a.st.length a.fo.length (KnownS W a.st a.fo) ∧ Keep (fun b => b < N ∧ b ≠ c.M ∧ b ≠ c.K) w W' ∧
     (Instr.lookup 205 (.map (some c.K)) (.agg #[.int .i64 i, .int .i64 k]) false).run Tryz.prog W' = .ok (.agg #[.int .i64 lo, .int .i64 hi2]) W') ?reg ?rest
    ·refine wpIn_region_G [0, 1, 2] (fun w' => w'.cell? ⟨c.kb, 0, none⟩ = some (.map (some c.K)) ∧ w'.cell? ⟨N, 0, none⟩ = some (.int .i64 i) ∧ w'.cell? ⟨N, 1, none⟩ = some (.int .i64 k) ∧ w'.cell? ⟨N + 4, 0, none⟩ = some (.slice la ss.length lc)) hm ⟨by go_simp, by go_simp, by go_simp, by go_simp⟩ ?_
     intro hS0; have hS := hid hS0; clear hS0
     have hne : ss ≠ [] := List.length_pos_iff.1 hss
     (apply wpAnyG_held wide_wide (i := 0) rfl (by kernel_rfl) (fun _ _ _ h => h) hS.out; · first | exact .inr ⟨rfl, rfl⟩ | exact .inl ⟨rfl, fun w' hS' => by (obtain ⟨s1, s2, s3, s4⟩ := hS'; go_simp; rfl)⟩); simp only [Act.put, List.setIfInBounds_toArray, List.set_cons_succ, List.set_cons_zero, List.getElem_toArray, List.getElem_cons_succ, List.getElem_cons_zero]
     (apply wpAnyG_held wide_wide (i := 1) rfl (by kernel_rfl) (fun _ _ _ h => h) hS.out; · first | exact .inr ⟨rfl, rfl⟩ | exact .inl ⟨rfl, fun w' hS' => by (obtain ⟨s1, s2, s3, s4⟩ := hS'; go_simp; rfl)⟩); simp only [Act.put, List.setIfInBounds_toArray, List.set_cons_succ, List.set_cons_zero, List.getElem_toArray, List.getElem_cons_succ, List.getElem_cons_zero]
     (apply wpAnyG_held wide_wide (i := 2) rfl (by kernel_rfl) (fun _ _ _ h => h) hS.out; · first | exact .inr ⟨rfl, rfl⟩ | exact .inl ⟨rfl, fun w' hS' => by (obtain ⟨s1, s2, s3, s4⟩ := hS'; go_simp; rfl)⟩); simp only [Act.put, List.setIfInBounds_toArray, List.set_cons_succ, List.set_cons_zero, List.getElem_toArray, List.getElem_cons_succ, List.getElem_cons_zero]
     refine wpAnyG_one (i := 3) rfl ⟨by kernel_rfl, by kernel_rfl⟩ ?_
     intro K hK
     go_simp
     refine ⟨trivial, ?_⟩
     refine (callsIn_wide.2 (ends_any la lc ss W1.drew (by omega) hne (RdX.of_own spC_len (by decide) G2.out).drew)).mono ?_
     rintro e w5 ⟨rfl, hb5'⟩
     rw [HE2.out]
     dsimp only
     have hb5 : Below W1.heap.size W1 w5 := ⟨hb5'.os, hb5'.tape, hb5'.output, hb5'.size, hb5'.block⟩
     have I5 := II.out.below hc hn (by omega) hb5
     have KD5 := (hb5.block D (Array.getElem?_eq_some_iff.1 hKD).1).trans hKD
     obtain ⟨w6, hrun6, hp6, hg6, hz6, hlk6⟩ := I5.tell.map.store2 (t := 205) (e := 73) Tryz.underlying205 (fun w => Tryz.zeroValue73 w) (by have := hc.l1; omega) (by have := hc.l2; omega) hi hk (v := .agg #[.int .i64 lo, .int .i64 hi2]) ⟨lo, hi2, rfl, HSP.out⟩
     have hlk := hlk6 w6 rfl
     unfold plc at hrun6 hlk
     have kM6 : Keep (· ≠ c.K) w5 w6 := keep_of_grown hg6 |>.mono (fun b _ h e => h (by cases e; rfl))
     clear hlk6 hg6 hb5'
     refine shutSG hK ⟨I5.tell.known.cell 0, I5.p5.cell 0, I5.p5.cell 1, (by obtain ⟨ss', la', lc', h1, _⟩ := I5.l9; exact (hb5.cell (cell_lt q0)).trans q0)⟩ (fun hS => ?_)
     clear hK K
     refine wpAnyG_one (i := 4) rfl ⟨by kernel_rfl, by kernel_rfl⟩ ?_
     intro K hK
     go_simp
     clear hrun6
     refine shutNG hK (by kernel_rfl) ?_
     clear hK K
     refine wpAnyG_done (by kernel_rfl) ?_ _
     have K0 := kM6.box (map_not_cell I5.tell.map I5.tell.known.at_) I5.tell.known
     have P5 := kM6.box (map_not_cell I5.tell.map I5.p5.at_) I5.p5
     have P6 := kM6.box (map_not_cell I5.tell.map I5.p6.at_) I5.p6
     have KD6 := (kM6.block D (Array.getElem?_eq_some_iff.1 KD5).1 (show D ≠ c.K by omega)).trans KD5
     refine acts_of' rfl ?_
     exact ⟨rfl, rfl, rfl, K0, P5, P6, KD6, kM6.pmap hc.ne I5.tell.half.map, hp6, I5.kp.trans (kM6.mono (fun b _ hz => hz.2.2)), hlk⟩
    ·rintro a' w6 ⟨f, rfl, f1, f5, f6, K0, P5, P6, KD6, hpM, hp6, kp6, hlk⟩
     rw [show (List.range 66).map f = [f 0, f 1, f 2, f 3, f 4, f 5, f 6, f 7, f 8, f 9, f 10, f 11, f 12, f 13, f 14, f 15, f 16, f 17, f 18, f 19, f 20, f 21, f 22, f 23, f 24, f 25, f 26, f 27, f 28, f 29, f 30, f 31, f 32, f 33, f 34, f 35, f 36, f 37, f 38, f 39, f 40, f 41, f 42, f 43, f 44, f 45, f 46, f 47, f 48, f 49, f 50, f 51, f 52, f 53, f 54, f 55, f 56, f 57, f 58, f 59, f 60, f 61, f 62, f 63, f 64, f 65] from rfl, f1, f5, f6]
     clear f1 f5 f6
     have m0 : w6.cell? ⟨c.kb, 0, none⟩ = some (.map (some c.K)) := K0.cell 0
     have m1 : w6.cell? ⟨N, 0, none⟩ = some (.int .i64 i) := P5.cell 0
     have m2 : w6.cell? ⟨N, 1, none⟩ = some (.int .i64 k) := P5.cell 1
     have d0 : w6.cell? ⟨N + 1, 0, none⟩ = some (.int .i64 0) := P6.cell 0
     have d1 : w6.cell? ⟨N + 1, 1, none⟩ = some (.int .i64 0) := P6.cell 1
     have d2 := P6.frozen 0; have d3 := P6.frozen 1; have d4 := P6.lt
     have HP6 := hid P6
     clear K0 P5 P6 q0 a0 a1 c0 c1 c2 c3 c4 k0
     gi_wp2_with (fail)
     have hKD2 := ((KeepsOthers.setCell w6 ⟨N + 1, 0, none⟩ (.int .i64 lo)).trans (KeepsOthers.setCell _ ⟨N + 1, 1, none⟩ (.int .i64 hi2))).same D _ KD6 rfl
     have kV : Keep (fun b => b ≠ N + 1 ∧ b ≠ D) w6 (((w6.setCell ⟨N + 1, 0, none⟩ (.int .i64 lo)).setCell ⟨N + 1, 1, none⟩ (.int .i64 hi2)).putObj D (.deferred none)) := (((Keep.refl _ _).setCell _ _ (fun _ h => h.1 rfl)).setCell _ _ (fun _ h => h.1 rfl)).putObj _ _ (fun _ h => h.2 rfl)
     have bV : Box (((w6.setCell ⟨N + 1, 0, none⟩ (.int .i64 lo)).setCell ⟨N + 1, 1, none⟩ (.int .i64 hi2)).putObj D (.deferred none)) (N + 1) #[.int .i64 lo, .int .i64 hi2] 73 := ((Keep.refl (· ≠ D) _).putObj _ _ (fun _ h => h rfl)).box (show N + 1 ≠ D by omega) ((HP6.out.set 0 _).set 1 _)
     refine ⟨by simp, .inl ⟨D, _, rfl, run_takeDeferred hKD2, ?_⟩⟩
     generalize (((w6.setCell ⟨N + 1, 0, none⟩ (.int .i64 lo)).setCell ⟨N + 1, 1, none⟩ (.int .i64 hi2)).putObj D (.deferred none)) = V at kV bV ⊢
     have r0 := bV.cell 0; have r1 := bV.cell 1
     simp only [List.getElem?_toArray, List.getElem?_cons_zero, List.getElem?_cons_succ] at r0 r1
     refine ⟨.agg #[.int .i64 lo, .int .i64 hi2], by simp [results, Tryz.results145, go_sem, r0, r1], lo, hi2, rfl, HSP.out, ?_, kV.pmap ⟨by omega, by omega⟩ hpM, kV.pmap ⟨by omega, by omega⟩ hp6⟩
     exact (kp6.trans (kV.mono (fun b _ hz => ⟨by have := hz.1; omega, by have := hz.1; omega⟩))).mono (fun b hb hz => ⟨by have := HN.out; omega, hz⟩)
  case stop =>
   rintro D c pre W1 _ _ h _
   exact h.elim
 ·gi_wp2_with (fail)
  refine ⟨.agg #[.int .i64 lo, .int .i64 hi2], by simp [results, Tryz.results145, go_sem], lo, hi2, rfl, hsp, ((Keep.refl _ _).alloc _).alloc _ |>.alloc _, ((HT.out.half.map.alloc _).alloc _).alloc _, ((HT.out.map.alloc _).alloc _).alloc _⟩
theorem tell_any (c : CB) (a : Tl) (sa fa : Option Addr) (sc fc : Nat) (fv : Value) (W : Int → Int) (S : World → Prop) (n0 : Nat) (hc : TellC c a fv W S n0) (i k : Nat) (w : World) (hi : i ≤ a.st.length) (hk : k ≤ a.fo.length) (hn0 : n0 ≤ w.heap.size) (hT : Tell w c a sa fa sc fc fv W S) :
  Calls Tryz.prog 145 #[plc i k, .pointer (some ⟨c.kb, 0, none⟩), .pointer (some ⟨c.xb, 0, none⟩), .pointer (some ⟨c.tb, 0, none⟩), .pointer (some ⟨c.vb, 0, none⟩)] w (TellP c a W i k w) := by
 have h : ∀ m i k w, (a.st.length - i) + (a.fo.length - k) < m → i ≤ a.st.length → k ≤ a.fo.length → n0 ≤ w.heap.size → Tell w c a sa fa sc fc fv W S →
   Calls Tryz.prog 145 #[plc i k, .pointer (some ⟨c.kb, 0, none⟩), .pointer (some ⟨c.xb, 0, none⟩), .pointer (some ⟨c.tb, 0, none⟩), .pointer (some ⟨c.vb, 0, none⟩)] w (TellP c a W i k w) := by
  intro m
  induction m with
  | zero => intro i k w h; omega
  | succ m ih =>
   intro i k w hm hi hk hn0 hT
   exact tell_step c a sa fa sc fc fv W S n0 hc i k hi hk (fun i' k' w' hi' hk' hlt hn' hT' => ih i' k' w' (by omega) hi' hk' hn' hT') w hn0 hT
 exact h _ i k w (Nat.lt_succ_self _) hi hk hn0 hT
theorem wp_calls_world {P : Program} {f : Nat} {args : Array Value} {w : World} {R : Ending → World → Prop} (T : World → Prop) (hT : T w) (h : ∀ w', T w' → Calls P f args w' R) : Calls P f args w R := h w hT
theorem comes_any (pb eb qb M : Nat) (a : Tl) (sa fa : Option Addr) (sc fc : Nat) (fv : Value) (W : Int → Int) (S : World → Prop) (w : World) (l1 : a.st.length ≤ 1000) (l2 : a.fo.length ≤ 1000) (o1 : okN a.st = true) (o2 : okN a.fo = true) (wf : Worth S fv W) (w0 : W 0 = 0) (wb : ∀ n, -1000 ≤ W n ∧ W n ≤ 1000)
  (sk : ∀ w1 w2, S w1 → Keep (fun b => b < w.heap.size ∧ b ≠ M) w1 w2 → S w2) (hs : S w) (hH : Half w pb eb qb M a.id a.hs a.st a.fo sa fa sc fc) :
  Calls Tryz.prog 128 #[.agg (pairC a.id a.hs a.st a.fo sa fa sc fc (leftV eb qb pb)), fv] w fun e w' => ∃ lo hi, e = .returned (.agg #[.int .i64 lo, .int .i64 hi]) ∧ IsSpan W (TrueL a.st a.fo) lo hi ∧ Keep (fun b => b ≠ M) w w' := by
 have hmm := @run_makeMap Tryz.prog
 have HH := hid hH; have SK := hid sk; have HS := hid hs
 have wf' := wf
 obtain ⟨kf, first, caps, rfl, -, -⟩ := wf'
 clear hH sk hs
 unfold pairC leftV
 go_enter Tryz.func128, Tryz.ntmps128
 go_wp2_with fail
 refine wp_calls_world (fun W0 => Tell W0 ⟨w.heap.size + 1 + 1 + 1 + 1, w.heap.size, w.heap.size + 1 + 1 + 1 + 1 + 1, w.heap.size + 1, pb, eb, qb, M, w.heap.size + 1 + 1 + 1⟩ a sa fa sc fc (.func (.func kf) first caps) W S ∧ Box W0 (w.heap.size + 1 + 1) #[.int .i64 0, .int .i64 0] 73 ∧ Below w.heap.size w W0 ∧ w.heap.size + 6 ≤ W0.heap.size) ⟨⟨?_, ?_, ?_, ?_, ?_, ?_, ?_⟩, ?_, ?_, ?_⟩ ?_
 ·exact (Box.at _ _ yL).alloc _
 ·exact (((((Box.new _ _ _).alloc _).alloc _).alloc _).alloc _).alloc _
 ·exact Box.at _ _ yL
 ·exact ((((Box.at _ _ yL).alloc _).alloc _).alloc _).alloc _
 ·exact HH.out.keep ((((((Keep.refl _ _).alloc _).alloc _).alloc _).alloc _).alloc _ |>.alloc _) ((((((HH.out.map.alloc _).alloc _).alloc _).alloc _).alloc _).alloc _)
 ·exact ((PMap.at _ _ _ yL).alloc _).alloc _
 ·exact SK.out _ _ HS.out ((((((Keep.refl _ _).alloc _).alloc _).alloc _).alloc _).alloc _ |>.alloc _)
 ·exact (((Box.at _ _ yL).alloc _).alloc _).alloc _
 ·exact goBl
 ·simp
 rintro W0 ⟨hT, b4, hb, z0⟩
 have lM := HH.out.map.lt
 have hc : TellC ⟨w.heap.size + 1 + 1 + 1 + 1, w.heap.size, w.heap.size + 1 + 1 + 1 + 1 + 1, w.heap.size + 1, pb, eb, qb, M, w.heap.size + 1 + 1 + 1⟩ a (.func (.func kf) first caps) W S w.heap.size :=
  ⟨by show M ≠ w.heap.size + 1 + 1 + 1; omega, l1, l2, o1, o2, wf, w0, wb, fun w1 w2 h k => SK.out w1 w2 h (k.mono (fun b _ hb => ⟨hb.1, hb.2, by have := hb.1; show b ≠ w.heap.size + 1 + 1 + 1; omega⟩))⟩
 refine (tell_any _ a sa fa sc fc _ W S w.heap.size hc 0 0 W0 (Nat.zero_le _) (Nat.zero_le _) hb.size hT).mono ?_
 rintro e w5 ⟨lo, hi, rfl, hsp, kp, hM5, hK5⟩
 dsimp only at kp hM5 hK5
 rw [List.drop_zero, List.drop_zero] at hsp
 have b5 := kp.box ⟨by omega, by omega⟩ b4
 have r0 := b5.cell 0; have r1 := b5.cell 1; have r2 := b5.frozen 0; have r3 := b5.frozen 1; have r4 := b5.lt
 simp only [List.getElem?_toArray, List.getElem?_cons_zero, List.getElem?_cons_succ] at r0 r1
 have KP := hid kp; have HB := hid hb; have HSP := hid hsp; have z5 := kp.size
 clear kp hM5 hK5 hT b4 hb hsp b5
 go_wp2_with fail
 refine bodyPost_ret (v := .agg #[.int .i64 lo, .int .i64 hi]) (by simp [results, Tryz.results128, go_sem, r0, r1, r2, r3, r4]) rfl ⟨lo, hi, rfl, HSP.out, ?_⟩
 have k1 : Keep (fun b => b < w.heap.size ∧ b ≠ M) w W0 := Keep.of_below HB.out (fun b _ h => h.1)
 have k2 : Keep (fun b => b < w.heap.size ∧ b ≠ M) W0 w5 := KP.out.mono (fun b _ h => ⟨h.2, by have := h.1; omega⟩)
 have k3 := ((k1.trans k2).setCell ⟨w.heap.size + 1 + 1, 0, none⟩ (.int .i64 lo) (fun _ h => by have : w.heap.size + 1 + 1 < w.heap.size := h.1; omega)).setCell ⟨w.heap.size + 1 + 1, 1, none⟩ (.int .i64 hi) (fun _ h => by have : w.heap.size + 1 + 1 < w.heap.size := h.1; omega)
 exact k3.mono (fun b hb h => ⟨hb, h⟩)
end Go.Proofs.YtihonljdanjfmaaGreatDoor
