/- The fewest false notches behind a place, by the program's memo: 'halves' and what it hands back. -/
import Derived.Test.YthddoikmgpgakaaDoorProg
import Derived.Test.YthddoikmgpgakaaDoorBase
import Derived.Outline
import Derived.RangeFuncNested
import Derived.Shelf.Abstract
import Derived.Deep.QuietTactic
import Derived.BigQuiet
import Derived.Deep.RegionHeld3
import Derived.WalkSmall
import Derived.Laws.EntriesVeiled
import Derived.LoopNIn
import Derived.LoopIn
import Derived.Test.YthddoikmgpgakaaDoorDist
import Derived.Test.YthddoikmgpgakaaDoorSteps
namespace Go.Proofs.YthddoikmgpgakaaDoor
open Go.RowKit Go.Proofs Go.Shelf

attribute [local go_sem] Oper.semAt_some

/-- The fewest false notches behind a place. -/
def dd (st fo : List Int) (i k : Nat) : Nat := dist (st.drop i) (fo.drop k)
theorem dd_le (st fo : List Int) (i k : Nat) (hl : st.length ≤ 2000) (hl2 : fo.length ≤ 2000) : dd st fo i k ≤ 4000 := by
  have := dist_le (st.drop i) (fo.drop k)
  simp only [List.length_drop] at this
  unfold dd
  omega

/-- The least of some steps, as the program reckons it. -/
def lst (d : Nat → Nat → Nat) (pre : List St) : Int := pre.foldl (fun m x => if m < 0 ∨ x.wr + d x.i x.k < m then x.wr + d x.i x.k else m) (-1)
theorem lst_nil (d : Nat → Nat → Nat) : lst d [] = -1 := rfl
theorem lst_snoc (d : Nat → Nat → Nat) (pre : List St) (x : St) : lst d (pre ++ [x]) = if lst d pre < 0 ∨ x.wr + d x.i x.k < lst d pre then x.wr + d x.i x.k else lst d pre := by
  unfold lst; rw [List.foldl_append]; rfl

theorem lst_steps {st fo : List Int} {i k : Nat} (hi : i ≤ st.length) (hk : k ≤ fo.length) (hne : ¬ (i = st.length ∧ k = fo.length)) : lst (dd st fo) (stepsL st fo i k) = (dd st fo i k : Int) := by
  by_cases h1 : i < st.length
  · by_cases h2 : k < fo.length
    · have e := dist_drop h1 h2
      rw [stepsL, step1_yes h1 h2, step2_yes k h1, step3_yes i h2]
      simp only [lst, List.foldl, List.cons_append, List.nil_append, dd]
      rw [e]
      by_cases he : st[i] = fo[k]
      · simp only [he, if_true]
        split <;> split <;> split <;> omega
      · simp only [he, if_false]
        split <;> split <;> split <;> omega
    · have e1 : dd st fo i k = (st.length - i) + (fo.length - k) := dist_end (.inr (by omega))
      have e2 : dd st fo (i + 1) k = (st.length - (i + 1)) + (fo.length - k) := dist_end (.inr (by omega))
      rw [stepsL, step1_no (fun h => h2 h.2), step2_yes k h1, step3_no i h2]
      simp only [lst, List.foldl, List.append_nil, List.nil_append, e1, e2]
      rw [if_pos (by omega)]
      omega
  · by_cases h2 : k < fo.length
    · have e1 : dd st fo i k = (st.length - i) + (fo.length - k) := dist_end (.inl (by omega))
      have e2 : dd st fo i (k + 1) = (st.length - i) + (fo.length - (k + 1)) := dist_end (.inl (by omega))
      rw [stepsL, step1_no (fun h => h1 h.1), step2_no k h1, step3_yes i h2]
      simp only [lst, List.foldl, List.nil_append, e1, e2]
      rw [if_pos (by omega)]
      omega
    · exact absurd ⟨by omega, by omega⟩ hne

/-- The function value that 'halves' lays into the pair. -/
def leftV (eb kb pb : Nat) : Value := .func (.func 106) #[] #[.pointer (some ⟨eb, 0, none⟩), .pointer (some ⟨kb, 0, none⟩), .pointer (some ⟨pb, 0, none⟩)]
/-- What is known of places. -/
def Known (st fo : List Int) (i k : Nat) (v : Value) : Prop := v = .int .i64 (dd st fo i k : Int)
/-- The cells of a pair. -/
def pairC (id hs : Int) (st fo : List Int) (sa fa : Option Addr) (sc fc : Nat) (fv : Value) : Array Value := #[.int .i64 id, .int .i64 hs, .slice sa st.length sc, .slice fa fo.length fc, fv]

/-- A tally at work. -/
structure Half (w : World) (pb eb kb M : Nat) (id hs : Int) (st fo : List Int) (sa fa : Option Addr) (sc fc : Nat) : Prop where
  pair : Box w pb (pairC id hs st fo sa fa sc fc (leftV eb kb pb)) 134
  fin : Box w eb #[.int .i64 st.length, .int .i64 fo.length] 137
  known : Box w kb #[.map (some M)] 170
  map : PMap w M st.length fo.length (Known st fo)
  s : RdI w sa st
  f : RdI w fa fo

theorem Half.keep {w w' : World} {pb eb kb M : Nat} {id hs : Int} {st fo : List Int} {sa fa : Option Addr} {sc fc : Nat} (h : Half w pb eb kb M id hs st fo sa fa sc fc) (hk : Keep (· ≠ M) w w') (hm : PMap w' M st.length fo.length (Known st fo)) :
    Half w' pb eb kb M id hs st fo sa fa sc fc :=
  ⟨hk.box (h.map.ne_box h.pair) h.pair, hk.box (h.map.ne_box h.fin) h.fin, hk.box (h.map.ne_box h.known) h.known, hm, hk.rdI (fun hx _ hp => h.map.ne_row h.s hx hp) h.s, hk.rdI (fun hx _ hp => h.map.ne_row h.f hx hp) h.f⟩


theorem eqPlace (a b c d : Int) (w : World) : (Op.equalIn 10000 137 (.agg #[.int .i64 a, .int .i64 b]) (.agg #[.int .i64 c, .int .i64 d])).run Tryd.prog w = .ok (a == c && b == d) w := by
  have u3 := Tryd.underlying3
  have a3 := Tryd.isAgg3
  have z3 := Tryd.sizeOf3
  rw [show (10000 : Nat) = 9999 + 1 from rfl, Op.equalIn]
  simp only [Sem.run_bind, run_underlying Tryd.underlying137, Result.andThen_ok]
  simp only [Std.Legacy.Range.forIn_eq_forIn_range', Std.Legacy.Range.size, Nat.sub_zero, Nat.add_sub_cancel, Nat.div_one, List.range'_succ, List.range'_zero, List.forIn_cons, List.forIn_nil]
  go_simp
  by_cases h1 : a = c <;> by_cases h2 : b = d <;> simp [h1, h2]
attribute [local go_sem] eqPlace

theorem row_lt {w : World} {a : Option Addr} {xs : List Int} (hr : RdI w a xs) (hx : xs ≠ []) {p : Addr} (hp : a = some p) : p.block < w.heap.size := by
  obtain ⟨b, o, ha, hc⟩ := hr 0 (List.length_pos_iff.2 hx)
  rw [hp] at ha
  cases ha
  exact cell_lt hc
theorem keepsFrom_of {M B : Nat} {W W' : World} (h : Keep (· ≠ M) W W') (hM : M < B) : KeepsFrom B W W' :=
  ⟨h.size, fun k o hB hk _ => (h.block k (Array.getElem?_eq_some_iff.1 hk).1 (show k ≠ M by omega)).trans hk⟩
theorem step_bound {st fo : List Int} {i k : Nat} {x : St} (h : x ∈ stepsL st fo i k) (hi : i ≤ st.length) (hk : k ≤ fo.length) :
    x.i ≤ st.length ∧ x.k ≤ fo.length ∧ (st.length - x.i) + (fo.length - x.k) < (st.length - i) + (fo.length - k) ∧ 0 ≤ x.wr ∧ x.wr ≤ 1 := by
  rw [stepsL, List.mem_append, List.mem_append] at h
  rcases h with h | h | h
  · by_cases hh : i < st.length ∧ k < fo.length
    · rw [step1_yes hh.1 hh.2, List.mem_singleton] at h
      subst h
      refine ⟨hh.1, hh.2, ?_, ?_, ?_⟩
      · show (st.length - (i + 1)) + (fo.length - (k + 1)) < _; omega
      · show (0 : Int) ≤ if _ then 0 else 1; split <;> omega
      · show (if _ then 0 else 1 : Int) ≤ 1; split <;> omega
    · rw [step1_no hh] at h; cases h
  · by_cases hh : i < st.length
    · rw [step2_yes k hh, List.mem_singleton] at h
      subst h
      exact ⟨hh, hk, (show (st.length - (i + 1)) + (fo.length - k) < _ by omega), (by show (0 : Int) ≤ 1; omega), (by show (1 : Int) ≤ 1; omega)⟩
    · rw [step2_no k hh] at h; cases h
  · by_cases hh : k < fo.length
    · rw [step3_yes i hh, List.mem_singleton] at h
      subst h
      exact ⟨hi, hh, (show (st.length - i) + (fo.length - (k + 1)) < _ by omega), (by show (0 : Int) ≤ 1; omega), (by show (1 : Int) ≤ 1; omega)⟩
    · rw [step3_no i hh] at h; cases h
theorem wrap_small {n : Int} (h0 : 0 ≤ n) (h1 : n ≤ 10000) : IntKind.i64.wrap n = n := by
  simp only [IntKind.wrap, IntKind.signed, IntKind.bits]
  simp
  omega

/-- The least of the steps that have come. -/
def leastA (st fo : List Int) (i k : Nat) (pre : List (StAt st fo i k)) : Int := lst (dd st fo) (pre.map (·.1))
theorem leastA_nil (st fo : List Int) (i k : Nat) : leastA st fo i k [] = -1 := rfl
theorem leastA_snoc (st fo : List Int) (i k : Nat) (pre : List (StAt st fo i k)) (x : StAt st fo i k) :
    leastA st fo i k (pre ++ [x]) = if leastA st fo i k pre < 0 ∨ x.1.wr + dd st fo x.1.i x.1.k < leastA st fo i k pre then x.1.wr + dd st fo x.1.i x.1.k else leastA st fo i k pre := by
  unfold leastA
  rw [List.map_append]
  exact lst_snoc _ _ _
theorem leastA_all {st fo : List Int} {i k : Nat} (hi : i ≤ st.length) (hk : k ≤ fo.length) (hne : ¬ (i = st.length ∧ k = fo.length)) {ys : List (StAt st fo i k)} (h : AllCome st fo i k ys) : leastA st fo i k ys = (dd st fo i k : Int) := by
  unfold leastA
  rw [show ys.map (·.1) = _ from h]
  exact lst_steps hi hk hne

/-- What a call of it comes to. -/
def LeftP (M : Nat) (st fo : List Int) (i k : Nat) (w : World) (e : Ending) (w' : World) : Prop :=
  e = .returned (.int .i64 (dd st fo i k : Int)) ∧ Keep (· ≠ M) w w' ∧ PMap w' M st.length fo.length (Known st fo)

set_option maxRecDepth 20000 in
set_option maxHeartbeats 4000000 in
theorem left_step (pb eb kb M : Nat) (id hs : Int) (st fo : List Int) (sa fa : Option Addr) (sc fc : Nat) (hl : st.length ≤ 2000) (hl2 : fo.length ≤ 2000) (i k : Nat) (hi : i ≤ st.length) (hk : k ≤ fo.length)
    (ih : ∀ i' k' w, i' ≤ st.length → k' ≤ fo.length → (st.length - i') + (fo.length - k') < (st.length - i) + (fo.length - k) → Half w pb eb kb M id hs st fo sa fa sc fc →
      Calls Tryd.prog 106 #[plc i' k', .pointer (some ⟨eb, 0, none⟩), .pointer (some ⟨kb, 0, none⟩), .pointer (some ⟨pb, 0, none⟩)] w (LeftP M st fo i' k' w))
    (w : World) (hH : Half w pb eb kb M id hs st fo sa fa sc fc) :
    Calls Tryd.prog 106 #[plc i k, .pointer (some ⟨eb, 0, none⟩), .pointer (some ⟨kb, 0, none⟩), .pointer (some ⟨pb, 0, none⟩)] w (LeftP M st fo i k w) := by
  have hm := mixedS
  have hl0 := hl
  have IH := hid ih; clear ih
  have HH := hid hH
  have l1 := hH.pair.lt; have l2 := hH.fin.lt; have l3 := hH.known.lt; have l4 := hH.map.lt
  have e0 : w.cell? ⟨eb, 0, none⟩ = some (.int .i64 st.length) := hH.fin.cell 0
  have e1 : w.cell? ⟨eb, 1, none⟩ = some (.int .i64 fo.length) := hH.fin.cell 1
  have k0 : w.cell? ⟨kb, 0, none⟩ = some (.map (some M)) := hH.known.cell 0
  have p0 : w.cell? ⟨pb, 0, none⟩ = some (.int .i64 id) := hH.pair.cell 0
  have p1 : w.cell? ⟨pb, 1, none⟩ = some (.int .i64 hs) := hH.pair.cell 1
  have p2 : w.cell? ⟨pb, 2, none⟩ = some (.slice sa st.length sc) := hH.pair.cell 2
  have p3 : w.cell? ⟨pb, 3, none⟩ = some (.slice fa fo.length fc) := hH.pair.cell 3
  have p4 : w.cell? ⟨pb, 4, none⟩ = some (.func (.func 106) #[] #[.pointer (some ⟨eb, 0, none⟩), .pointer (some ⟨kb, 0, none⟩), .pointer (some ⟨pb, 0, none⟩)]) := hH.pair.cell 4
  refine (callsIn_wide (n := 3)).1 (callsIn_of_wp_marks Tryd.func106 rfl trivial ?_ rfl)
  simp only [Tryd.ntmps106, List.size_toArray, List.length_cons, List.length_nil, Nat.reduceAdd, Nat.reduceSub, Array.replicate_succ, Array.replicate_zero, List.push_toArray, List.append_toArray, List.nil_append, List.cons_append]
  unfold plc
  by_cases hend : i = st.length ∧ k = fo.length
  · obtain ⟨rfl, rfl⟩ := hend
    gi_wp2
    refine ⟨_, results_tmp rfl _ _ _, ?_⟩
    have h0 : dd st fo st.length fo.length = 0 := (dist_end (.inl (Nat.le_refl _))).trans (by omega)
    exact ⟨by rw [h0]; rfl, (Keep.refl _ _).alloc _, hH.map.kept (Below.heap_alloc _ _ _ l4)⟩
  · have hq : ((i : Int) == (st.length : Int) && (k : Int) == (fo.length : Int)) = false := by
      rw [Bool.and_eq_false_iff]; simp only [beq_eq_false_iff_ne, ne_eq]; omega
    have hP := hH.map.kept (w' := w.alloc (.cells #[.int .i64 i, .int .i64 k] 137)) (Below.heap_alloc _ _ _ l4)
    have hlk := hP.look (t := 170) (e := 3) Tryd.underlying170 (z := .int .i64 0) (Tryd.zeroValue3 _) (i := i) (k := k) (by omega) (by omega)
    unfold plc at hlk
    rcases hlk with hrun | ⟨v, rfl, hrun⟩
    · clear hH hP
      gi_wp2_with (refine ⟨trivial, ?_⟩; gi_at_call 107; refine (callsIn_wide.2 (steps_any _ i k _ rfl)).mono ?_; rintro e w' ⟨rfl, rfl⟩)
      refine wpIn_world (fun wL => Box wL w.heap.size #[.int .i64 i, .int .i64 k] 137 ∧ Box wL (w.heap.size + 1) #[.int .i64 (-1)] 3 ∧ Box wL (w.heap.size + 1 + 1) (pairC id hs st fo sa fa sc fc (leftV eb kb pb)) 134 ∧ Box wL (w.heap.size + 1 + 1 + 1) #[.int .i64 i, .int .i64 k] 137 ∧ w.heap.size + 4 ≤ wL.heap.size ∧ Below w.heap.size w wL) ⟨?_, ?_, ?_, ?_, by simp, ?_⟩ ?_
      · exact (((Box.at _ _ (by first | omega | (simp; done) | (simp; omega))).alloc _).alloc _).alloc _
      · exact ((Box.at _ _ (by first | omega | (simp; done) | (simp; omega))).alloc _).alloc _
      · exact (Box.at _ _ (by first | omega | (simp; done) | (simp; omega))).alloc _
      · exact Box.at _ _ (by first | omega | (simp; done) | (simp; omega))
      · exact (by repeat (first | (with_reducible exact Below.refl _ _) | (with_reducible assumption) | (with_reducible refine Below.drew ?_) | (with_reducible refine below_drewN ?_ _) | (with_reducible refine Below.alloc ?_ (by first | omega | (simp; done) | (simp; omega)) _) | (with_reducible refine Below.setCell ?_ (by first | omega | (simp; done) | (simp; omega)) _) | (with_reducible refine Below.trans ?_ (Below.mono (by assumption) (by first | omega | (simp; done) | (simp; omega))))))
      rintro wL ⟨bA, bB, bC, bD, zL, hbL⟩
      clear hrun hq p0 p1 p2 p3 p4 e0 e1 k0
      have hHL := HH.out.keep (w' := wL) (Keep.of_below hbL (fun _ h _ => h)) (HH.out.map.kept (hbL.block _ l4))
      have HHL := hid hHL
      have ZL := hid zL

      refine wpIn_rangeFunc_ownH rfl (by omega) (gf := 125) (lb := #[.pointer (some ⟨w.heap.size + 1 + 1 + 1, 0, none⟩), .pointer (some ⟨w.heap.size + 1 + 1, 0, none⟩)]) rfl trivial (enters_of Tryd.func125 (by kernel_rfl) rfl)
        (steps1_stops 2 (w.heap.size + 1 + 1 + 1) (w.heap.size + 1 + 1) id hs st fo sa fa sc fc (leftV eb kb pb) i k hi hk (by omega) (by omega) (fun b => b ≠ M ∧ b ≠ w.heap.size + 1 ∧ b < wL.heap.size)
          ⟨by omega, by omega, by omega⟩ ⟨by omega, by omega, by omega⟩ ?z3 ?z4 wL ⟨bD, bC, hHL.s, hHL.f⟩)
        (fun h k => h.trans k) ?kb (Below.refl _ _) (fun _ => rfl)
        (fun pre W => Box W (w.heap.size + 1) #[.int .i64 (leastA st fo i k pre)] 3 ∧ Box W w.heap.size #[.int .i64 i, .int .i64 k] 137 ∧ Keep (· ≠ M) w W ∧ PMap W M st.length fo.length (Known st fo) ∧ wL.heap.size ≤ W.heap.size)
        (fun _ _ _ => False) ?hI ?hIx ⟨bB, bA, Keep.of_below hbL (fun _ h _ => h), hHL.map, Nat.le_refl _⟩
        (fun x a' W => ∃ Bx, wL.heap.size ≤ Bx ∧ Box W Bx #[.int .i64 x.1.i, .int .i64 x.1.k, .int .i64 x.1.s, .int .i64 x.1.f, .int .i64 x.1.wr] 142 ∧ ∃ f : Nat → Value, a' = ⟨((List.range 46).map f).toArray, []⟩ ∧ f 3 = .pointer (some ⟨pb, 0, none⟩) ∧ f 8 = .pointer (some ⟨w.heap.size + 1, 0, none⟩) ∧ f 9 = .pointer (some ⟨Bx, 0, none⟩)) ?hAx ?assign ?body ?done ?stop
      case z3 => exact fun hx p hp => ⟨HHL.out.map.ne_row HHL.out.s hx hp, by have := row_lt HH.out.s hx hp; omega, by have := row_lt HH.out.s hx hp; omega⟩
      case z4 => exact fun hx p hp => ⟨HHL.out.map.ne_row HHL.out.f hx hp, by have := row_lt HH.out.f hx hp; omega, by have := row_lt HH.out.f hx hp; omega⟩
      case kb => exact fun W l o o' hl _ _ _ => (Keep.refl _ _).putObj l o' (fun _ hz => by have := hz.2.2; omega)
      case hI =>
        rintro pre W W' row ⟨iB, iA, iK, iP, iz⟩ hg hr
        have hrow : ∀ r, r < wL.heap.size → row ≠ some r := fun r hlt e => by have := (hr r e).1; omega
        exact ⟨iB.grown hg (hrow _ (by omega)), iA.grown hg (hrow _ (by omega)), iK.grown hg (fun r e hlt => absurd e (hrow r (by omega))), iP.kept (hg.block M iP.lt (fun e => hrow M (by omega) e.symm)), Nat.le_trans iz hg.size⟩
      case hIx => exact fun _ _ _ _ _ hs _ _ => hs
      case hAx =>
        rintro x a' _ W W' row ⟨Bx, hB, hb, hf⟩ hg hr
        refine ⟨Bx, hB, hb.grown hg (fun e => ?_), hf⟩
        obtain ⟨o, ho, hc⟩ := (hr Bx e).2
        rw [show W.heap[Bx]? = _ from hb] at ho
        cases ho
        cases hc
      case assign =>
        rintro l pre ⟨x, hx⟩ W K ⟨iB, iA, iK, iP, iz⟩ hK
        simp only [St.val]
        gi_wp2
        refine hK _ _ ((KeepsOthers.alloc _ _).from _) ((Keep.refl _ _).alloc _) ⟨iB.alloc _, iA.alloc _, iK.alloc _, iP.kept (Below.heap_alloc _ _ _ iP.lt), by simp; omega⟩ ⟨W.heap.size, iz, Box.new _ _ _, ?_⟩
        refine acts_of rfl ?_
        exact ⟨rfl, rfl, rfl⟩
      case body =>
        rintro l pre ⟨x, hx⟩ a' W hl ⟨r, hr⟩ ⟨iB, iA, iK, iP, iz⟩ ⟨Bx, hBx, bX, f, rfl, f3, f8, f9⟩ hlt
        obtain ⟨b1, b2, b3, b4, b5⟩ := step_bound hx hi hk
        have d1 := dd_le st fo x.i x.k hl0 hl2
        rw [show (List.range 46).map f = [f 0, f 1, f 2, f 3, f 4, f 5, f 6, f 7, f 8, f 9, f 10, f 11, f 12, f 13, f 14, f 15, f 16, f 17, f 18, f 19, f 20, f 21, f 22, f 23, f 24, f 25, f 26, f 27, f 28, f 29, f 30, f 31, f 32, f 33, f 34, f 35, f 36, f 37, f 38, f 39, f 40, f 41, f 42, f 43, f 44, f 45] from rfl, f3, f8, f9]
        clear f3 f8 f9
        have HK := hid iK; have HP := hid iP; have HB := hid iB; have HA := hid iA; have HX := hid bX
        have hHW := HH.out.keep iK iP
        have HHW := hid hHW
        have p4 : W.cell? ⟨pb, 4, none⟩ = some (.func (.func 106) #[] #[.pointer (some ⟨eb, 0, none⟩), .pointer (some ⟨kb, 0, none⟩), .pointer (some ⟨pb, 0, none⟩)]) := hHW.pair.cell 4
        have x0 : W.cell? ⟨Bx, 0, none⟩ = some (.int .i64 x.i) := bX.cell 0
        have x1 : W.cell? ⟨Bx, 1, none⟩ = some (.int .i64 x.k) := bX.cell 1
        have x4 : W.cell? ⟨Bx, 4, none⟩ = some (.int .i64 x.wr) := bX.cell 4
        clear iB iA iK iP bX hHW
        gi_wp2
        refine wpIn_region_G [1, 3, 5] (fun w' => w'.cell? ⟨pb, 4, none⟩ = some (.func (.func 106) #[] #[.pointer (some ⟨eb, 0, none⟩), .pointer (some ⟨kb, 0, none⟩), .pointer (some ⟨pb, 0, none⟩)]) ∧ w'.cell? ⟨Bx, 0, none⟩ = some (.int .i64 x.i) ∧ w'.cell? ⟨Bx, 1, none⟩ = some (.int .i64 x.k) ∧ w'.cell? ⟨Bx, 4, none⟩ = some (.int .i64 x.wr)) hm ⟨by go_simp, by go_simp, by go_simp, by go_simp⟩ ?_
        intro hS0; have hS := hid hS0; clear hS0
        (apply wpAnyG_pure (wide_round _) (i := 0) rfl (by kernel_rfl) (fun _ _ _ h => h); · first | exact .inr ⟨rfl, rfl⟩ | exact .inl ⟨rfl, fun w' => by go_simp; rfl⟩); simp only [Act.put, List.setIfInBounds_toArray, List.set_cons_succ, List.set_cons_zero, List.getElem_toArray, List.getElem_cons_succ, List.getElem_cons_zero]
        (apply wpAnyG_held (wide_round _) (i := 1) rfl (by kernel_rfl) (fun _ _ _ h => h) hS.out; · first | exact .inr ⟨rfl, rfl⟩ | exact .inl ⟨rfl, fun w' hS' => by (obtain ⟨s1, s2, s3, s4⟩ := hS'; go_simp; rfl)⟩); simp only [Act.put, List.setIfInBounds_toArray, List.set_cons_succ, List.set_cons_zero, List.getElem_toArray, List.getElem_cons_succ, List.getElem_cons_zero]
        (apply wpAnyG_pure (wide_round _) (i := 2) rfl (by kernel_rfl) (fun _ _ _ h => h); · first | exact .inr ⟨rfl, rfl⟩ | exact .inl ⟨rfl, fun w' => by go_simp; rfl⟩); simp only [Act.put, List.setIfInBounds_toArray, List.set_cons_succ, List.set_cons_zero, List.getElem_toArray, List.getElem_cons_succ, List.getElem_cons_zero]
        (apply wpAnyG_held (wide_round _) (i := 3) rfl (by kernel_rfl) (fun _ _ _ h => h) hS.out; · first | exact .inr ⟨rfl, rfl⟩ | exact .inl ⟨rfl, fun w' hS' => by (obtain ⟨s1, s2, s3, s4⟩ := hS'; go_simp; rfl)⟩); simp only [Act.put, List.setIfInBounds_toArray, List.set_cons_succ, List.set_cons_zero, List.getElem_toArray, List.getElem_cons_succ, List.getElem_cons_zero]
        (apply wpAnyG_pure (wide_round _) (i := 4) rfl (by kernel_rfl) (fun _ _ _ h => h); · first | exact .inr ⟨rfl, rfl⟩ | exact .inl ⟨rfl, fun w' => by go_simp; rfl⟩); simp only [Act.put, List.setIfInBounds_toArray, List.set_cons_succ, List.set_cons_zero, List.getElem_toArray, List.getElem_cons_succ, List.getElem_cons_zero]
        (apply wpAnyG_held (wide_round _) (i := 5) rfl (by kernel_rfl) (fun _ _ _ h => h) hS.out; · first | exact .inr ⟨rfl, rfl⟩ | exact .inl ⟨rfl, fun w' hS' => by (obtain ⟨s1, s2, s3, s4⟩ := hS'; go_simp; rfl)⟩); simp only [Act.put, List.setIfInBounds_toArray, List.set_cons_succ, List.set_cons_zero, List.getElem_toArray, List.getElem_cons_succ, List.getElem_cons_zero]
        refine wpAnyG_one (i := 6) rfl ⟨by kernel_rfl, by kernel_rfl⟩ ?_
        intro K hK
        go_simp
        refine ⟨trivial, ?_⟩
        refine (CallsIn.inRound l (callsIn_wide.2 (IH.out x.i x.k _ b1 b2 b3 (HHW.out.keep (Keep.drew (Keep.refl _ _)) (HHW.out.map.kept rfl))))).mono ?_
        rintro e w6 ⟨rfl, hk6, hp6⟩
        have KW : Keep (· ≠ M) W w6 := (Keep.drew (Keep.refl _ W)).trans hk6
        refine shutSG hK ⟨KW.cell (HHW.out.map.ne_box HHW.out.pair) p4, KW.cell (show Bx ≠ M by omega) x0, KW.cell (show Bx ≠ M by omega) x1, KW.cell (show Bx ≠ M by omega) x4⟩ (fun hS => ?_)
        clear hK K
        (apply wpAnyG_pure (wide_round _) (i := 7) rfl (by kernel_rfl) (fun _ _ _ h => h); · first | exact .inr ⟨rfl, rfl⟩ | exact .inl ⟨rfl, fun w' => by go_simp; rfl⟩); simp only [Act.put, List.setIfInBounds_toArray, List.set_cons_succ, List.set_cons_zero, List.getElem_toArray, List.getElem_cons_succ, List.getElem_cons_zero]
        (apply wpAnyG_pure (wide_round _) (i := 8) rfl (by kernel_rfl) (fun _ _ _ h => h); · first | exact .inr ⟨rfl, rfl⟩ | exact .inl ⟨rfl, fun w' => by go_simp; rfl⟩); simp only [Act.put, List.setIfInBounds_toArray, List.set_cons_succ, List.set_cons_zero, List.getElem_toArray, List.getElem_cons_succ, List.getElem_cons_zero]
        refine wpAnyG_done (by kernel_rfl) ?_ _
        clear hS x0 x1 x4 p4
        have B6 := KW.box (show w.heap.size + 1 ≠ M by omega) HB.out
        have A6 := KW.box (show w.heap.size ≠ M by omega) HA.out
        have c8 : w6.cell? ⟨w.heap.size + 1, 0, none⟩ = some (.int .i64 (leastA st fo i k pre)) := B6.cell 0
        have k8 := B6.frozen 0
        have hl6 := B6.lt
        have hw := wrap_small (n := x.wr + (dd st fo x.i x.k : Int)) (by omega) (by omega)
        simp only [hw]
        have hsn := leastA_snoc st fo i k pre ⟨x, hx⟩
        have HSN := hid hsn; clear hsn
        have KF := keepsFrom_of KW (B := wL.heap.size) (by omega)
        have KZ : Keep (fun b => b ≠ M ∧ b ≠ w.heap.size + 1 ∧ b < wL.heap.size) W w6 := KW.mono (fun b _ hz => hz.1)
        have K1 := HK.out.trans KW
        have hz6 := KW.size
        have hM1 : M ≠ w.heap.size + 1 := by omega
        by_cases h1 : leastA st fo i k pre < 0
        · have H1 := hid h1
          gi_wp2
          refine ⟨KF.trans ((KeepsOthers.setCell _ _ _).from _), KZ.setCell ⟨w.heap.size + 1, 0, none⟩ _ (fun _ hz => hz.2.1 rfl), ?_, A6.other _ _ _ (by omega), K1.setCell _ _ (fun h => by have : w.heap.size + 1 < w.heap.size := h; omega), hp6.kept (Below.heap_setCell _ _ _ _ hM1), by rw [World.size_setCell]; omega⟩
          rw [HSN.out, if_pos (.inl H1.out)]
          exact B6.set 0 _
        · by_cases h2 : x.wr + (dd st fo x.i x.k : Int) < leastA st fo i k pre
          · have H2 := hid h2
            gi_wp2
            refine ⟨KF.trans ((KeepsOthers.setCell _ _ _).from _), KZ.setCell ⟨w.heap.size + 1, 0, none⟩ _ (fun _ hz => hz.2.1 rfl), ?_, A6.other _ _ _ (by omega), K1.setCell _ _ (fun h => by have : w.heap.size + 1 < w.heap.size := h; omega), hp6.kept (Below.heap_setCell _ _ _ _ hM1), by rw [World.size_setCell]; omega⟩
            rw [HSN.out, if_pos (.inr H2.out)]
            exact B6.set 0 _
          · have H1 := hid h1; have H2 := hid h2
            gi_wp2
            refine ⟨KF, KZ, ?_, A6, K1, hp6, by omega⟩
            rw [HSN.out, if_neg (fun h => by have g1 := H1.out; have g2 := H2.out; omega)]
            exact B6
      case done =>
        rintro D ys W hD hall ⟨iB, iA, iK, iP, iz⟩ hKD
        have hfin := leastA_all hi hk hend hall
        rw [hfin] at iB
        clear hall hfin
        have hHW := HH.out.keep iK iP
        have k0 : W.cell? ⟨kb, 0, none⟩ = some (.map (some M)) := hHW.known.cell 0
        have c8 : W.cell? ⟨w.heap.size + 1, 0, none⟩ = some (.int .i64 (dd st fo i k : Int)) := iB.cell 0
        have a0 : W.cell? ⟨w.heap.size, 0, none⟩ = some (.int .i64 i) := iA.cell 0
        have a1 : W.cell? ⟨w.heap.size, 1, none⟩ = some (.int .i64 k) := iA.cell 1
        obtain ⟨w5, hrun5, hp5, hg5, hz5⟩ := iP.store (t := 170) (e := 3) Tryd.underlying170 (by omega) (by omega) hi hk (v := .int .i64 (dd st fo i k : Int)) rfl
        unfold plc at hrun5
        have B5 := iB.grown hg5 (show some M ≠ some (w.heap.size + 1) from fun e => by cases e; omega)
        have c85 : w5.cell? ⟨w.heap.size + 1, 0, none⟩ = some (.int .i64 (dd st fo i k : Int)) := B5.cell 0
        have hKD5 : w5.heap[D]? = some (.deferred (some [])) := (hg5.block D (Array.getElem?_eq_some_iff.1 hKD).1 (fun e => by cases e; omega)).trans hKD
        have hDM : M ≠ D := by omega
        have K5 := iK.grown hg5 (fun r e _ hz => by cases e; exact hz rfl)
        have hDw : ¬ D < w.heap.size := by omega
        clear iB iA iK iP hHW hKD B5 hg5 hz5
        gi_wp2
        refine ⟨by simp, .inl ⟨_, _, rfl, run_takeDeferred hKD5, ?_⟩⟩
        exact ⟨_, results_tmp rfl _ _ _, rfl, K5.putObj _ _ (fun h => absurd h hDw), hp5.kept (World.putObj_heap_other hDM)⟩
      case stop =>
        rintro D c pre W _ _ h _
        exact h.elim
    · clear hH
      gi_wp2
      refine ⟨_, results_tmp rfl _ _ _, ?_⟩
      exact ⟨rfl, (Keep.refl _ _).alloc _, hP⟩

theorem field_left (c0 c1 c2 c3 v : Value) (w : World) : (Instr.field 134 (.agg #[c0, c1, c2, c3, v]) 1).run Tryd.prog w = .ok v w := by kernel_rfl

/-- **The memo tells the fewest false notches behind a place.** -/
theorem left_any (pb eb kb M : Nat) (id hs : Int) (st fo : List Int) (sa fa : Option Addr) (sc fc : Nat) (hl : st.length ≤ 2000) (hl2 : fo.length ≤ 2000) (i k : Nat) (w : World) (hi : i ≤ st.length) (hk : k ≤ fo.length) (hH : Half w pb eb kb M id hs st fo sa fa sc fc) :
    Calls Tryd.prog 106 #[plc i k, .pointer (some ⟨eb, 0, none⟩), .pointer (some ⟨kb, 0, none⟩), .pointer (some ⟨pb, 0, none⟩)] w (LeftP M st fo i k w) := by
  have h : ∀ m i k w, (st.length - i) + (fo.length - k) < m → i ≤ st.length → k ≤ fo.length → Half w pb eb kb M id hs st fo sa fa sc fc →
      Calls Tryd.prog 106 #[plc i k, .pointer (some ⟨eb, 0, none⟩), .pointer (some ⟨kb, 0, none⟩), .pointer (some ⟨pb, 0, none⟩)] w (LeftP M st fo i k w) := by
    intro m
    induction m with
    | zero => intro i k w h; omega
    | succ m ih =>
      intro i k w hm hi hk hH
      exact left_step pb eb kb M id hs st fo sa fa sc fc hl hl2 i k hi hk (fun i' k' w' hi' hk' hlt hH' => ih i' k' w' (by omega) hi' hk' hH') w hH
  exact h _ i k w (Nat.lt_succ_self _) hi hk hH

theorem PMap.at {w : World} {n : Nat} (A B : Nat) (V : Nat → Nat → Value → Prop) (hn : n = w.heap.size) : PMap (w.alloc (.map #[] 0)) n A B V := hn ▸ PMap.made w A B V
theorem PMap.alloc {w : World} {b A B : Nat} {V : Nat → Nat → Value → Prop} (h : PMap w b A B V) (o : Obj) : PMap (w.alloc o) b A B V := h.kept (Below.heap_alloc _ _ _ h.lt)

set_option maxRecDepth 20000 in
/-- 'halves': a tally at work, in new memory. -/
theorem halves_any (id hs : Int) (st fo : List Int) (sa fa : Option Addr) (sc fc : Nat) (w : World) (hl : st.length ≤ 2000) (hl2 : fo.length ≤ 2000) (h1 : RdI w sa st) (h2 : RdI w fa fo) :
    Calls Tryd.prog 83 #[.agg #[.int .i64 id, .int .i64 hs, .slice sa st.length sc, .slice fa fo.length fc]] w fun e w' => ∃ pb eb kb M, e = .returned (.agg (pairC id hs st fo sa fa sc fc (leftV eb kb pb))) ∧ Below w.heap.size w w' ∧ w.heap.size ≤ M ∧ Half w' pb eb kb M id hs st fo sa fa sc fc := by
  have hmm := @run_makeMap Tryd.prog
  have H1 := hid h1; have H2 := hid h2; clear h1 h2
  go_enter Tryd.func83, Tryd.ntmps83
  go_wp2_with fail
  refine bodyPost_ret (v := .agg (pairC id hs st fo sa fa sc fc (leftV (w.heap.size + 3) (w.heap.size + 5) (w.heap.size + 2)))) (by simp [results, Tryd.results83, go_sem, pairC, leftV]) rfl ?_
  refine ⟨w.heap.size + 2, w.heap.size + 3, w.heap.size + 5, w.heap.size + 4, rfl, (by repeat (first | (with_reducible exact Below.refl _ _) | (with_reducible assumption) | (with_reducible refine Below.drew ?_) | (with_reducible refine below_drewN ?_ _) | (with_reducible refine Below.alloc ?_ (by first | omega | (simp; done) | (simp; omega)) _) | (with_reducible refine Below.setCell ?_ (by first | omega | (simp; done) | (simp; omega)) _) | (with_reducible refine Below.trans ?_ (Below.mono (by assumption) (by first | omega | (simp; done) | (simp; omega)))))), by omega, ⟨(show Box _ (w.heap.size + 2) #[.int .i64 id, .int .i64 hs, .slice sa st.length sc, .slice fa fo.length fc, .func (.func 106) #[] #[.pointer (some ⟨w.heap.size + 3, 0, none⟩), .pointer (some ⟨w.heap.size + 5, 0, none⟩), .pointer (some ⟨w.heap.size + 2, 0, none⟩)]] 134 from (by repeat (first | (with_reducible assumption) | (with_reducible refine Box.at _ _ (by first | omega | (simp; done) | (simp; omega))) | (with_reducible refine Box.drew ?_) | (with_reducible refine Box.alloc ?_ _) | (with_reducible refine Box.other ?_ _ _ _ (by first | omega | (simp; done) | (simp; omega))) | (refine Box.below ?_ hb2 (by first | omega | (simp; done) | (simp; omega))) | (refine Box.below ?_ hb3 (by first | omega | (simp; done) | (simp; omega)))))), (by repeat (first | (with_reducible assumption) | (with_reducible refine Box.at _ _ (by first | omega | (simp; done) | (simp; omega))) | (with_reducible refine Box.drew ?_) | (with_reducible refine Box.alloc ?_ _) | (with_reducible refine Box.other ?_ _ _ _ (by first | omega | (simp; done) | (simp; omega))) | (refine Box.below ?_ hb2 (by first | omega | (simp; done) | (simp; omega))) | (refine Box.below ?_ hb3 (by first | omega | (simp; done) | (simp; omega))))), (by repeat (first | (with_reducible assumption) | (with_reducible refine Box.at _ _ (by first | omega | (simp; done) | (simp; omega))) | (with_reducible refine Box.drew ?_) | (with_reducible refine Box.alloc ?_ _) | (with_reducible refine Box.other ?_ _ _ _ (by first | omega | (simp; done) | (simp; omega))) | (refine Box.below ?_ hb2 (by first | omega | (simp; done) | (simp; omega))) | (refine Box.below ?_ hb3 (by first | omega | (simp; done) | (simp; omega))))), (PMap.at _ _ _ (by first | omega | (simp; done) | (simp; omega))).alloc _, ?_, ?_⟩⟩
  · exact H1.out.below (by repeat (first | (with_reducible exact Below.refl _ _) | (with_reducible assumption) | (with_reducible refine Below.drew ?_) | (with_reducible refine below_drewN ?_ _) | (with_reducible refine Below.alloc ?_ (by first | omega | (simp; done) | (simp; omega)) _) | (with_reducible refine Below.setCell ?_ (by first | omega | (simp; done) | (simp; omega)) _) | (with_reducible refine Below.trans ?_ (Below.mono (by assumption) (by first | omega | (simp; done) | (simp; omega))))))
  · exact H2.out.below (by repeat (first | (with_reducible exact Below.refl _ _) | (with_reducible assumption) | (with_reducible refine Below.drew ?_) | (with_reducible refine below_drewN ?_ _) | (with_reducible refine Below.alloc ?_ (by first | omega | (simp; done) | (simp; omega)) _) | (with_reducible refine Below.setCell ?_ (by first | omega | (simp; done) | (simp; omega)) _) | (with_reducible refine Below.trans ?_ (Below.mono (by assumption) (by first | omega | (simp; done) | (simp; omega))))))

set_option maxRecDepth 20000 in
/-- 'between': the fewest false notches between two lists. -/
theorem between_any (st fo : List Int) (sa fa : Option Addr) (sc fc : Nat) (w : World) (hl : st.length ≤ 2000) (hl2 : fo.length ≤ 2000) (h1 : RdI w sa st) (h2 : RdI w fa fo) :
    Calls Tryd.prog 84 #[.slice sa st.length sc, .slice fa fo.length fc] w fun e w' => e = .returned (.int .i64 (dist st fo : Int)) ∧ Below w.heap.size w w' := by
  have H1 := hid h1; have H2 := hid h2; clear h1 h2
  go_enter Tryd.func84, Tryd.ntmps84
  go_wp2_with fail
  refine (halves_any 0 0 st fo sa fa sc fc w hl hl2 H1.out H2.out).mono ?_
  rintro e w1 ⟨pb, eb, kb, M, rfl, hb1, hM, hH⟩
  have HH := hid hH; clear hH
  unfold pairC leftV
  have hfd := field_left
  go_wp2_with fail
  refine (left_any pb eb kb M 0 0 st fo sa fa sc fc hl hl2 0 0 w1 (Nat.zero_le _) (Nat.zero_le _) HH.out).mono ?_
  rintro e w2 ⟨rfl, hk2, _⟩
  go_wp2_with fail
  go_ret
  exact ⟨(congrArg (fun b => Ending.returned (Value.int .i64 b)) rfl), hb1.trans (hk2.below (B := w.heap.size) (fun k hk => show k ≠ M by omega) hb1.size)⟩

end Go.Proofs.YthddoikmgpgakaaDoor
