/- The steps from a place: what the iterator yields. -/
import Derived.Test.YthddoikmgpgakaaDoorProg
import Derived.Test.YthddoikmgpgakaaDoorBase
import Derived.Outline
import Derived.RangeFuncNested
import Derived.Shelf.Abstract
import Derived.Deep.QuietTactic
import Derived.BigQuiet
import Derived.Deep.RegionHeld3
import Derived.WalkSmall
import Derived.Laws.EntriesVeiled
import Derived.RangeFuncBound
import Derived.RangeFuncLeaves
import Derived.Shelf.RegionOpen
import Derived.OwnWalkIn
import Derived.TacticsInMore
import Derived.Sort.BigQuietIn
import Derived.Test.YthddoikmgpgakaaDoorKeep
import Derived.Test.YthddoikmgpgakaaDoorRegIn
import Derived.Test.YthddoikmgpgakaaDoorTl
namespace Go.Proofs.YthddoikmgpgakaaDoor
open Go.RowKit Go.Proofs Go.Shelf

attribute [local go_sem] Oper.semAt_some

/-- A step: where it leads, the notches of both halves, how many are false. -/
structure St where
  i : Nat
  k : Nat
  s : Int
  f : Int
  wr : Int
def St.val (x : St) : Value := .agg #[.int .i64 x.i, .int .i64 x.k, .int .i64 x.s, .int .i64 x.f, .int .i64 x.wr]

/-- The steps from a place. -/
def step1 (st fo : List Int) (i k : Nat) : List St := if h : i < st.length ∧ k < fo.length then [⟨i + 1, k + 1, st[i]'h.1, fo[k]'h.2, if st[i]'h.1 = fo[k]'h.2 then 0 else 1⟩] else []
def step2 (st : List Int) (i k : Nat) : List St := if h : i < st.length then [⟨i + 1, k, st[i], 0, 1⟩] else []
def step3 (fo : List Int) (i k : Nat) : List St := if h : k < fo.length then [⟨i, k + 1, 0, fo[k], 1⟩] else []
def stepsL (st fo : List Int) (i k : Nat) : List St := step1 st fo i k ++ (step2 st i k ++ step3 fo i k)

/-- A step from the place. -/
abbrev StAt (st fo : List Int) (i k : Nat) := { x : St // x ∈ stepsL st fo i k }

/-- 'steps': the receiver and the place are boxed. -/
theorem steps_any (cs : Array Value) (i k : Nat) (w : World) (hcs : cs.size = 5) :
    Calls Tryd.prog 107 #[.agg cs, plc i k] w fun e w' => e = .returned (.func (.func 125) #[] #[.pointer (some ⟨w.heap.size + 1, 0, none⟩), .pointer (some ⟨w.heap.size, 0, none⟩)]) ∧ w' = (w.alloc (.cells cs 134)).alloc (.cells #[.int .i64 i, .int .i64 k] 137) := by
  go_enter Tryd.func107, Tryd.ntmps107
  unfold plc
  go_wp2_with fail
  go_ret
  exact ⟨by simp, by simp [Value.cells]⟩

theorem mixedS : Tryd.prog.follows .mixedOrders = true := by kernel_rfl

theorem wrap_succ {i : Nat} (h : i ≤ 4000) : IntKind.i64.wrap ((i : Int) + 1) = ((i + 1 : Nat) : Int) := by
  simp only [IntKind.wrap, IntKind.signed, IntKind.bits]
  simp
  omega
theorem grown_of_below {w w' : World} (h : Below w.heap.size w w') : w.grownBy w' none := ⟨h.os, h.tape, h.output, h.size, fun k hk _ => h.block k hk⟩
theorem step2_yes {st : List Int} {i : Nat} (k : Nat) (h : i < st.length) : step2 st i k = [⟨i + 1, k, st[i], 0, 1⟩] := by simp [step2, h]
theorem step2_no {st : List Int} {i : Nat} (k : Nat) (h : ¬ i < st.length) : step2 st i k = [] := by simp [step2, h]
theorem step3_yes {fo : List Int} {k : Nat} (i : Nat) (h : k < fo.length) : step3 fo i k = [⟨i, k + 1, 0, fo[k], 1⟩] := by simp [step3, h]
theorem step3_no {fo : List Int} {k : Nat} (i : Nat) (h : ¬ k < fo.length) : step3 fo i k = [] := by simp [step3, h]
theorem step1_yes {st fo : List Int} {i k : Nat} (hi : i < st.length) (hk : k < fo.length) : step1 st fo i k = [⟨i + 1, k + 1, st[i], fo[k], if st[i] = fo[k] then 0 else 1⟩] := by simp [step1, hi, hk]
theorem step1_no {st fo : List Int} {i k : Nat} (h : ¬ (i < st.length ∧ k < fo.length)) : step1 st fo i k = [] := by simp only [step1, dif_neg h]

theorem mem_step1 {st fo : List Int} {i k : Nat} (hi : i < st.length) (hk : k < fo.length) : (⟨i + 1, k + 1, st[i], fo[k], if st[i] = fo[k] then 0 else 1⟩ : St) ∈ stepsL st fo i k := by
  rw [stepsL, step1_yes hi hk]; simp
theorem mem_step2 {st : List Int} (fo : List Int) {i : Nat} (k : Nat) (hi : i < st.length) : (⟨i + 1, k, st[i], 0, 1⟩ : St) ∈ stepsL st fo i k := by
  rw [stepsL, step2_yes k hi]; simp
theorem mem_step3 (st : List Int) {fo : List Int} (i : Nat) {k : Nat} (hk : k < fo.length) : (⟨i, k + 1, 0, fo[k], 1⟩ : St) ∈ stepsL st fo i k := by
  rw [stepsL, step3_yes i hk]; simp
theorem pre_step1 {st fo : List Int} {i k : Nat} (hi : i < st.length) (hk : k < fo.length) : [(⟨i + 1, k + 1, st[i], fo[k], if st[i] = fo[k] then 0 else 1⟩ : St)] <+: stepsL st fo i k :=
  ⟨step2 st i k ++ step3 fo i k, by rw [stepsL, step1_yes hi hk]⟩
theorem pre_step2 {st : List Int} (fo : List Int) {i : Nat} (k : Nat) (hi : i < st.length) : step1 st fo i k ++ [(⟨i + 1, k, st[i], 0, 1⟩ : St)] <+: stepsL st fo i k :=
  ⟨step3 fo i k, by rw [stepsL, step2_yes k hi, List.append_assoc]⟩

theorem steps_yes (st : List Int) {fo : List Int} (i : Nat) {k : Nat} (hk : k < fo.length) : stepsL st fo i k = step1 st fo i k ++ step2 st i k ++ [⟨i, k + 1, 0, fo[k], 1⟩] := by
  rw [stepsL, step3_yes i hk, List.append_assoc]
theorem steps_no (st : List Int) {fo : List Int} (i : Nat) {k : Nat} (hk : ¬ k < fo.length) : stepsL st fo i k = step1 st fo i k ++ step2 st i k := by
  rw [stepsL, step3_no i hk, List.append_nil]
theorem yield_bool {e : Ending} {A B C : Prop} (h : (e = .returned (.bool true) ∧ A ∧ B) ∨ (e = .returned (.bool false) ∧ C)) : ∃ b, e = .returned (.bool b) ∧ (b = true → A ∧ B) ∧ (b = false → C) := by
  rcases h with ⟨rfl, h⟩ | ⟨rfl, h⟩
  · exact ⟨true, rfl, fun _ => h, fun h0 => by cases h0⟩
  · exact ⟨false, rfl, fun h0 => (by cases h0), fun _ => h⟩

/-- What lies ready for the iterator. -/
structure Lies (W : World) (pb xb : Nat) (id hs : Int) (st fo : List Int) (sa fa : Option Addr) (sc fc : Nat) (fv : Value) (i k : Nat) : Prop where
  p : Box W pb #[.int .i64 i, .int .i64 k] 137
  x : Box W xb #[.int .i64 id, .int .i64 hs, .slice sa st.length sc, .slice fa fo.length fc, fv] 134
  s : RdI W sa st
  f : RdI W fa fo
theorem Lies.keep {Z : Nat → Prop} {W W' : World} {pb xb : Nat} {id hs : Int} {st fo : List Int} {sa fa : Option Addr} {sc fc : Nat} {fv : Value} {i k : Nat} (h : Lies W pb xb id hs st fo sa fa sc fc fv i k) (hk : Keep Z W W')
    (hz1 : Z pb) (hz2 : Z xb) (hz3 : st ≠ [] → ∀ p, sa = some p → Z p.block) (hz4 : fo ≠ [] → ∀ p, fa = some p → Z p.block) : Lies W' pb xb id hs st fo sa fa sc fc fv i k :=
  ⟨hk.box hz1 h.p, hk.box hz2 h.x, hk.rdI hz3 h.s, hk.rdI hz4 h.f⟩
theorem Lies.below {W W' : World} {pb xb : Nat} {id hs : Int} {st fo : List Int} {sa fa : Option Addr} {sc fc : Nat} {fv : Value} {i k : Nat} (h : Lies W pb xb id hs st fo sa fa sc fc fv i k) (hk : Below W.heap.size W W') : Lies W' pb xb id hs st fo sa fa sc fc fv i k :=
  h.keep (Z := fun _ => True) (Keep.of_below hk (fun _ h _ => h)) trivial trivial (fun _ _ _ => trivial) (fun _ _ _ => trivial)

theorem step1_len (st fo : List Int) (i k : Nat) : (step1 st fo i k).length ≤ 1 := by unfold step1; split <;> simp
theorem step2_len (st : List Int) (i k : Nat) : (step2 st i k).length ≤ 1 := by unfold step2; split <;> simp
/-- All steps have come; some have come. -/
def AllCome (st fo : List Int) (i k : Nat) (ys : List (StAt st fo i k)) : Prop := ys.map (·.1) = stepsL st fo i k
def PartCome (st fo : List Int) (i k : Nat) (ys : List (StAt st fo i k)) : Prop := ys.map (·.1) <+: stepsL st fo i k
/-- Between two steps of the iterator. -/
def MidS (l pb xb : Nat) (id hs : Int) (st fo : List Int) (sa fa : Option Addr) (sc fc : Nat) (fv : Value) (i k : Nat) (J : List (StAt st fo i k) → World → Prop) (L : List St) (a : Act) (w' : World) : Prop :=
  ∃ f : Nat → Value, a = ⟨((List.range 94).map f).toArray, []⟩ ∧ f 0 = .func (.yield l) #[] #[] ∧ f 1 = .pointer (some ⟨pb, 0, none⟩) ∧ f 2 = .pointer (some ⟨xb, 0, none⟩) ∧ f 4 = .bool (decide (i < st.length)) ∧ f 5 = .bool (decide (k < fo.length)) ∧ Lies w' pb xb id hs st fo sa fa sc fc fv i k ∧ ∃ pre, pre.map (·.1) = L ∧ J pre w'

set_option maxRecDepth 20000 in
set_option maxHeartbeats 4000000 in
theorem steps1_in (n : Nat) (l pb xb : Nat) (id hs : Int) (st fo : List Int) (sa fa : Option Addr) (sc fc : Nat) (fv : Value) (i k : Nat) (hi : i ≤ st.length) (hk : k ≤ fo.length) (hl : st.length ≤ 4000) (hl2 : fo.length ≤ 4000)
    (Z : Nat → Prop) (hz1 : Z pb) (hz2 : Z xb) (hz3 : st ≠ [] → ∀ p, sa = some p → Z p.block) (hz4 : fo ≠ [] → ∀ p, fa = some p → Z p.block) (B : Nat) (J Jx : List (StAt st fo i k) → World → Prop) (hJ : AbidesFrom B J)
    (hY : ∀ pre (x : StAt st fo i k) W, J pre W → pre.length < 3 → YieldAt Fence.wide (n - 1) Tryd.prog l #[x.1.val] W fun e W' =>
      (e = .returned (.bool true) ∧ J (pre ++ [x]) W' ∧ Keep Z W W') ∨ (e = .returned (.bool false) ∧ Jx (pre ++ [x]) W'))
    (W : World) (hL : Lies W pb xb id hs st fo sa fa sc fc fv i k) (h0 : J [] W) :
    CallsIn Fence.wide n Tryd.prog 125 #[.func (.yield l) #[] #[], .pointer (some ⟨pb, 0, none⟩), .pointer (some ⟨xb, 0, none⟩)] W fun e W' => (∃ v, e = .returned v) ∧
      ((∃ ys, AllCome st fo i k ys ∧ J ys W') ∨ (∃ pre, PartCome st fo i k pre ∧ Jx pre W')) := by
  have hm := mixedS
  have HY := hid hY; clear hY
  have HL := hid hL
  refine callsIn_of_wp Tryd.func125 rfl trivial ?_ rfl
  simp only [Tryd.ntmps125, List.size_toArray, List.length_cons, List.length_nil, Nat.reduceAdd, Nat.reduceSub, Array.replicate_succ, Array.replicate_zero, List.push_toArray, List.append_toArray, List.nil_append, List.cons_append]
  refine wpIn_cut (fun a w => ∃ f : Nat → Value, a = ⟨((List.range 94).map f).toArray, []⟩ ∧ f 0 = .func (.yield l) #[] #[] ∧ f 1 = .pointer (some ⟨pb, 0, none⟩) ∧ f 2 = .pointer (some ⟨xb, 0, none⟩) ∧ f 4 = .bool (decide (i < st.length)) ∧ f 5 = .bool (decide (k < fo.length)) ∧ Below W.heap.size W w) ?_ ?_
  · have p0 : W.cell? ⟨pb, 0, none⟩ = some (.int .i64 i) := hL.p.cell 0
    have p1 : W.cell? ⟨pb, 1, none⟩ = some (.int .i64 k) := hL.p.cell 1
    have x2 : W.cell? ⟨xb, 2, none⟩ = some (.slice sa st.length sc) := hL.x.cell 2
    have x3 : W.cell? ⟨xb, 3, none⟩ = some (.slice fa fo.length fc) := hL.x.cell 3
    gi_big_quiet_th (fail)
    refine acts_of rfl ?_
    exact ⟨rfl, rfl, rfl, (by first | rfl | (simp [*]; done) | (simp [*]; omega) | (simp_all; done) | (simp_all; omega)), (by first | rfl | (simp [*]; done) | (simp [*]; omega) | (simp_all; done) | (simp_all; omega)), (by repeat (first | (with_reducible exact Below.refl _ _) | (with_reducible assumption) | (with_reducible refine Below.drew ?_) | (with_reducible refine below_drewN ?_ _) | (with_reducible refine Below.alloc ?_ (by first | omega | (simp; done) | (simp; omega)) _) | (with_reducible refine Below.setCell ?_ (by first | omega | (simp; done) | (simp; omega)) _) | (with_reducible refine Below.trans ?_ (Below.mono (by assumption) (by first | omega | (simp; done) | (simp; omega))))))⟩
  rintro a w ⟨f, rfl, f0, f1, f2, f4, f5, hb⟩
  rw [show (List.range 94).map f = [f 0, f 1, f 2, f 3, f 4, f 5, f 6, f 7, f 8, f 9, f 10, f 11, f 12, f 13, f 14, f 15, f 16, f 17, f 18, f 19, f 20, f 21, f 22, f 23, f 24, f 25, f 26, f 27, f 28, f 29, f 30, f 31, f 32, f 33, f 34, f 35, f 36, f 37, f 38, f 39, f 40, f 41, f 42, f 43, f 44, f 45, f 46, f 47, f 48, f 49, f 50, f 51, f 52, f 53, f 54, f 55, f 56, f 57, f 58, f 59, f 60, f 61, f 62, f 63, f 64, f 65, f 66, f 67, f 68, f 69, f 70, f 71, f 72, f 73, f 74, f 75, f 76, f 77, f 78, f 79, f 80, f 81, f 82, f 83, f 84, f 85, f 86, f 87, f 88, f 89, f 90, f 91, f 92, f 93] from rfl, f0, f1, f2, f4, f5]
  clear f0 f1 f2 f4 f5
  have hLw := hL.below hb
  have hJw := hJ [] W w none h0 (grown_of_below hb) (by simp)
  clear h0 hb
  -- the step by which a notch stays, or is turned
  refine wpIn_cut (MidS l pb xb id hs st fo sa fa sc fc fv i k J (step1 st fo i k)) ?_ ?_
  · have pre0 : ¬ (i < st.length ∧ k < fo.length) → ∃ pre : List (StAt st fo i k), pre.map (·.1) = step1 st fo i k ∧ J pre w := fun h => ⟨[], by rw [step1_no h]; rfl, hJw⟩
    have PRE := hid pre0; clear pre0
    have hz3' := hid hz3; have hz4' := hid hz4; clear hz3 hz4
    by_cases hi' : i < st.length
    · by_cases hk' : k < fo.length
      · have HLw := hid hLw
        obtain ⟨ab, ao, rfl, ca⟩ := hLw.s i hi'
        obtain ⟨bb, bo, rfl, cb⟩ := hLw.f k hk'
        have la := cell_lt ca; have lb := cell_lt cb; have l1 := hLw.p.lt; have l2 := hLw.x.lt
        have p0 : w.cell? ⟨pb, 0, none⟩ = some (.int .i64 i) := hLw.p.cell 0
        have p1 : w.cell? ⟨pb, 1, none⟩ = some (.int .i64 k) := hLw.p.cell 1
        have x2 : w.cell? ⟨xb, 2, none⟩ = some (.slice (some ⟨ab, ao, none⟩) st.length sc) := hLw.x.cell 2
        have x3 : w.cell? ⟨xb, 3, none⟩ = some (.slice (some ⟨bb, bo, none⟩) fo.length fc) := hLw.x.cell 3
        clear hLw hL HL
        gi_wp2
        refine wpIn_region_G [1, 4, 9, 11, 13, 16, 18, 20] (fun w' => w'.cell? ⟨pb, 0, none⟩ = some (.int .i64 i) ∧ w'.cell? ⟨pb, 1, none⟩ = some (.int .i64 k) ∧ w'.cell? ⟨xb, 2, none⟩ = some (.slice (some ⟨ab, ao, none⟩) st.length sc) ∧ w'.cell? ⟨xb, 3, none⟩ = some (.slice (some ⟨bb, bo, none⟩) fo.length fc) ∧ w'.cell? ⟨ab, ao + i, none⟩ = some (.int .i64 st[i]) ∧ w'.cell? ⟨bb, bo + k, none⟩ = some (.int .i64 fo[k])) hm ⟨by go_simp, by go_simp, by go_simp, by go_simp, by go_simp, by go_simp⟩ ?_
        intro hS0; have hS := hid hS0; clear hS0
        (apply wpAnyG_pure wide_wide (i := 0) rfl (by kernel_rfl) (fun _ _ _ h => h); · first | exact .inr ⟨rfl, rfl⟩ | exact .inl ⟨rfl, fun w' => by go_simp; rfl⟩); simp only [Act.put, List.setIfInBounds_toArray, List.set_cons_succ, List.set_cons_zero, List.getElem_toArray, List.getElem_cons_succ, List.getElem_cons_zero]
        (apply wpAnyG_held wide_wide (i := 1) rfl (by kernel_rfl) (fun _ _ _ h => h) hS.out; · first | exact .inr ⟨rfl, rfl⟩ | exact .inl ⟨rfl, fun w' hS' => by (obtain ⟨s1, s2, s3, s4, s5, s6⟩ := hS'; go_simp; rfl)⟩); simp only [Act.put, List.setIfInBounds_toArray, List.set_cons_succ, List.set_cons_zero, List.getElem_toArray, List.getElem_cons_succ, List.getElem_cons_zero]
        (apply wpAnyG_pure wide_wide (i := 2) rfl (by kernel_rfl) (fun _ _ _ h => h); · first | exact .inr ⟨rfl, rfl⟩ | exact .inl ⟨rfl, fun w' => by go_simp; rfl⟩); simp only [Act.put, List.setIfInBounds_toArray, List.set_cons_succ, List.set_cons_zero, List.getElem_toArray, List.getElem_cons_succ, List.getElem_cons_zero]
        (apply wpAnyG_pure wide_wide (i := 3) rfl (by kernel_rfl) (fun _ _ _ h => h); · first | exact .inr ⟨rfl, rfl⟩ | exact .inl ⟨rfl, fun w' => by go_simp; rfl⟩); simp only [Act.put, List.setIfInBounds_toArray, List.set_cons_succ, List.set_cons_zero, List.getElem_toArray, List.getElem_cons_succ, List.getElem_cons_zero]
        (apply wpAnyG_held wide_wide (i := 4) rfl (by kernel_rfl) (fun _ _ _ h => h) hS.out; · first | exact .inr ⟨rfl, rfl⟩ | exact .inl ⟨rfl, fun w' hS' => by (obtain ⟨s1, s2, s3, s4, s5, s6⟩ := hS'; go_simp; rfl)⟩); simp only [Act.put, List.setIfInBounds_toArray, List.set_cons_succ, List.set_cons_zero, List.getElem_toArray, List.getElem_cons_succ, List.getElem_cons_zero]
        (apply wpAnyG_pure wide_wide (i := 5) rfl (by kernel_rfl) (fun _ _ _ h => h); · first | exact .inr ⟨rfl, rfl⟩ | exact .inl ⟨rfl, fun w' => by go_simp; rfl⟩); simp only [Act.put, List.setIfInBounds_toArray, List.set_cons_succ, List.set_cons_zero, List.getElem_toArray, List.getElem_cons_succ, List.getElem_cons_zero]
        (apply wpAnyG_pure wide_wide (i := 6) rfl (by kernel_rfl) (fun _ _ _ h => h); · first | exact .inr ⟨rfl, rfl⟩ | exact .inl ⟨rfl, fun w' => by go_simp; rfl⟩); simp only [Act.put, List.setIfInBounds_toArray, List.set_cons_succ, List.set_cons_zero, List.getElem_toArray, List.getElem_cons_succ, List.getElem_cons_zero]
        (apply wpAnyG_pure wide_wide (i := 7) rfl (by kernel_rfl) (fun _ _ _ h => h); · first | exact .inr ⟨rfl, rfl⟩ | exact .inl ⟨rfl, fun w' => by go_simp; rfl⟩); simp only [Act.put, List.setIfInBounds_toArray, List.set_cons_succ, List.set_cons_zero, List.getElem_toArray, List.getElem_cons_succ, List.getElem_cons_zero]
        (apply wpAnyG_pure wide_wide (i := 8) rfl (by kernel_rfl) (fun _ _ _ h => h); · first | exact .inr ⟨rfl, rfl⟩ | exact .inl ⟨rfl, fun w' => by go_simp; rfl⟩); simp only [Act.put, List.setIfInBounds_toArray, List.set_cons_succ, List.set_cons_zero, List.getElem_toArray, List.getElem_cons_succ, List.getElem_cons_zero]
        (apply wpAnyG_held wide_wide (i := 9) rfl (by kernel_rfl) (fun _ _ _ h => h) hS.out; · first | exact .inr ⟨rfl, rfl⟩ | exact .inl ⟨rfl, fun w' hS' => by (obtain ⟨s1, s2, s3, s4, s5, s6⟩ := hS'; go_simp; rfl)⟩); simp only [Act.put, List.setIfInBounds_toArray, List.set_cons_succ, List.set_cons_zero, List.getElem_toArray, List.getElem_cons_succ, List.getElem_cons_zero]
        (apply wpAnyG_pure wide_wide (i := 10) rfl (by kernel_rfl) (fun _ _ _ h => h); · first | exact .inr ⟨rfl, rfl⟩ | exact .inl ⟨rfl, fun w' => by go_simp; rfl⟩); simp only [Act.put, List.setIfInBounds_toArray, List.set_cons_succ, List.set_cons_zero, List.getElem_toArray, List.getElem_cons_succ, List.getElem_cons_zero]
        (apply wpAnyG_held wide_wide (i := 11) rfl (by kernel_rfl) (fun _ _ _ h => h) hS.out; · first | exact .inr ⟨rfl, rfl⟩ | exact .inl ⟨rfl, fun w' hS' => by (obtain ⟨s1, s2, s3, s4, s5, s6⟩ := hS'; go_simp; rfl)⟩); simp only [Act.put, List.setIfInBounds_toArray, List.set_cons_succ, List.set_cons_zero, List.getElem_toArray, List.getElem_cons_succ, List.getElem_cons_zero]
        (apply wpAnyG_pure wide_wide (i := 12) rfl (by kernel_rfl) (fun _ _ _ h => h); · first | exact .inr ⟨rfl, rfl⟩ | exact .inl ⟨rfl, fun w' => by go_simp; rfl⟩); simp only [Act.put, List.setIfInBounds_toArray, List.set_cons_succ, List.set_cons_zero, List.getElem_toArray, List.getElem_cons_succ, List.getElem_cons_zero]
        (apply wpAnyG_held wide_wide (i := 13) rfl (by kernel_rfl) (fun _ _ _ h => h) hS.out; · first | exact .inr ⟨rfl, rfl⟩ | exact .inl ⟨rfl, fun w' hS' => by (obtain ⟨s1, s2, s3, s4, s5, s6⟩ := hS'; go_simp; rfl)⟩); simp only [Act.put, List.setIfInBounds_toArray, List.set_cons_succ, List.set_cons_zero, List.getElem_toArray, List.getElem_cons_succ, List.getElem_cons_zero]
        (apply wpAnyG_pure wide_wide (i := 14) rfl (by kernel_rfl) (fun _ _ _ h => h); · first | exact .inr ⟨rfl, rfl⟩ | exact .inl ⟨rfl, fun w' => by go_simp; rfl⟩); simp only [Act.put, List.setIfInBounds_toArray, List.set_cons_succ, List.set_cons_zero, List.getElem_toArray, List.getElem_cons_succ, List.getElem_cons_zero]
        (apply wpAnyG_pure wide_wide (i := 15) rfl (by kernel_rfl) (fun _ _ _ h => h); · first | exact .inr ⟨rfl, rfl⟩ | exact .inl ⟨rfl, fun w' => by go_simp; rfl⟩); simp only [Act.put, List.setIfInBounds_toArray, List.set_cons_succ, List.set_cons_zero, List.getElem_toArray, List.getElem_cons_succ, List.getElem_cons_zero]
        (apply wpAnyG_held wide_wide (i := 16) rfl (by kernel_rfl) (fun _ _ _ h => h) hS.out; · first | exact .inr ⟨rfl, rfl⟩ | exact .inl ⟨rfl, fun w' hS' => by (obtain ⟨s1, s2, s3, s4, s5, s6⟩ := hS'; go_simp; rfl)⟩); simp only [Act.put, List.setIfInBounds_toArray, List.set_cons_succ, List.set_cons_zero, List.getElem_toArray, List.getElem_cons_succ, List.getElem_cons_zero]
        (apply wpAnyG_pure wide_wide (i := 17) rfl (by kernel_rfl) (fun _ _ _ h => h); · first | exact .inr ⟨rfl, rfl⟩ | exact .inl ⟨rfl, fun w' => by go_simp; rfl⟩); simp only [Act.put, List.setIfInBounds_toArray, List.set_cons_succ, List.set_cons_zero, List.getElem_toArray, List.getElem_cons_succ, List.getElem_cons_zero]
        (apply wpAnyG_held wide_wide (i := 18) rfl (by kernel_rfl) (fun _ _ _ h => h) hS.out; · first | exact .inr ⟨rfl, rfl⟩ | exact .inl ⟨rfl, fun w' hS' => by (obtain ⟨s1, s2, s3, s4, s5, s6⟩ := hS'; go_simp; rfl)⟩); simp only [Act.put, List.setIfInBounds_toArray, List.set_cons_succ, List.set_cons_zero, List.getElem_toArray, List.getElem_cons_succ, List.getElem_cons_zero]
        (apply wpAnyG_pure wide_wide (i := 19) rfl (by kernel_rfl) (fun _ _ _ h => h); · first | exact .inr ⟨rfl, rfl⟩ | exact .inl ⟨rfl, fun w' => by go_simp; rfl⟩); simp only [Act.put, List.setIfInBounds_toArray, List.set_cons_succ, List.set_cons_zero, List.getElem_toArray, List.getElem_cons_succ, List.getElem_cons_zero]
        (apply wpAnyG_held wide_wide (i := 20) rfl (by kernel_rfl) (fun _ _ _ h => h) hS.out; · first | exact .inr ⟨rfl, rfl⟩ | exact .inl ⟨rfl, fun w' hS' => by (obtain ⟨s1, s2, s3, s4, s5, s6⟩ := hS'; go_simp; rfl)⟩); simp only [Act.put, List.setIfInBounds_toArray, List.set_cons_succ, List.set_cons_zero, List.getElem_toArray, List.getElem_cons_succ, List.getElem_cons_zero]
        (apply wpAnyG_pure wide_wide (i := 21) rfl (by kernel_rfl) (fun _ _ _ h => h); · first | exact .inr ⟨rfl, rfl⟩ | exact .inl ⟨rfl, fun w' => by go_simp; rfl⟩); simp only [Act.put, List.setIfInBounds_toArray, List.set_cons_succ, List.set_cons_zero, List.getElem_toArray, List.getElem_cons_succ, List.getElem_cons_zero]
        refine wpAnyG_one (i := 22) rfl ⟨by kernel_rfl, by kernel_rfl⟩ ?_
        intro K hK
        go_simp
        refine shutSG hK ((fun h : Below w.heap.size w _ => ⟨(h.cell (p := ⟨pb, 0, none⟩) l1).trans p0, (h.cell (p := ⟨pb, 1, none⟩) l1).trans p1, (h.cell (p := ⟨xb, 2, none⟩) l2).trans x2, (h.cell (p := ⟨xb, 3, none⟩) l2).trans x3, (h.cell (p := ⟨ab, ao + i, none⟩) la).trans ca, (h.cell (p := ⟨bb, bo + k, none⟩) lb).trans cb⟩) (by repeat (first | (with_reducible exact Below.refl _ _) | (with_reducible assumption) | (with_reducible refine Below.drew ?_) | (with_reducible refine below_drewN ?_ _) | (with_reducible refine Below.alloc ?_ (by first | omega | (simp; done) | (simp; omega)) _) | (with_reducible refine Below.setCell ?_ (by first | omega | (simp; done) | (simp; omega)) _) | (with_reducible refine Below.trans ?_ (Below.mono (by assumption) (by first | omega | (simp; done) | (simp; omega))))))) (fun hS => ?_)
        clear hK K
        refine wpAnyG_one (i := 23) rfl ⟨by kernel_rfl, by kernel_rfl⟩ ?_
        intro K hK
        go_simp
        refine shutNG hK (by kernel_rfl) ?_
        clear hK K
        refine wpAnyG_done (by kernel_rfl) ?_ _
        clear hS
        refine forget (fun w2 => Box w2 w.heap.size #[.int .i64 (i + 1 : Nat), .int .i64 (k + 1 : Nat), .int .i64 st[i], .int .i64 fo[k], .int .i64 0] 142 ∧ w2.heap.size = w.heap.size + 1 ∧ Below w.heap.size w w2) ⟨?_, by simp, ?_⟩ ?_
        · rw [wrap_succ (by omega), wrap_succ (by omega)]
          exact (Box.new _ _ _).drew
        · exact (by repeat (first | (with_reducible exact Below.refl _ _) | (with_reducible assumption) | (with_reducible refine Below.drew ?_) | (with_reducible refine below_drewN ?_ _) | (with_reducible refine Below.alloc ?_ (by first | omega | (simp; done) | (simp; omega)) _) | (with_reducible refine Below.setCell ?_ (by first | omega | (simp; done) | (simp; omega)) _) | (with_reducible refine Below.trans ?_ (Below.mono (by assumption) (by first | omega | (simp; done) | (simp; omega))))))
        rintro w2 ⟨b2, z2, hb2⟩
        have g0 := b2.cell 0; have g1 := b2.cell 1; have g2 := b2.cell 2; have g3 := b2.cell 3; have g4 := b2.cell 4
        have k4 := b2.frozen 4
        have hbl := b2.lt
        simp at g0 g1 g2 g3 g4
        by_cases he : st[i] = fo[k]
        · have hJ2 := hJ [] w w2 none hJw (grown_of_below hb2) (by simp)
          obtain ⟨fn, tmps, assign, body, hy, hR⟩ := HY.out [] ⟨_, mem_step1 hi' hk'⟩ w2 hJ2 (by simp)
          simp [St.val, he] at hy
          gi_wp2
          refine ⟨fun h => (by cases h), hR.mono ?_⟩
          rintro e w4 (⟨rfl, hJ4, hk4⟩ | ⟨rfl, hJx⟩)
          · gi_wp2
            unfold MidS; refine acts_of rfl ?_
            exact ⟨rfl, rfl, rfl, (by first | rfl | (simp [*]; done) | (simp [*]; omega) | (simp_all; done) | (simp_all; omega)), (by first | rfl | (simp [*]; done) | (simp [*]; omega) | (simp_all; done) | (simp_all; omega)), (HLw.out.below hb2).keep hk4 hz1 hz2 hz3'.out hz4'.out, [⟨_, mem_step1 hi' hk'⟩], (step1_yes hi' hk').symm, hJ4⟩
          · gi_wp2
            refine bodyPost_ret (results_none rfl _ _ _) rfl ?_
            exact ⟨⟨_, rfl⟩, .inr ⟨[⟨_, mem_step1 hi' hk'⟩], pre_step1 hi' hk', hJx⟩⟩
        · have hb3 : Below w.heap.size w (w2.setCell ⟨w.heap.size, 4, none⟩ (.int .i64 1)) := hb2.setCell (p := ⟨w.heap.size, 4, none⟩) (Nat.le_refl _) _
          have hJ2 := hJ [] w _ none hJw (grown_of_below hb3) (by simp)
          obtain ⟨fn, tmps, assign, body, hy, hR⟩ := HY.out [] ⟨_, mem_step1 hi' hk'⟩ _ hJ2 (by simp)
          simp [St.val, he] at hy
          gi_wp2
          refine ⟨fun h => (by cases h), hR.mono ?_⟩
          rintro e w4 (⟨rfl, hJ4, hk4⟩ | ⟨rfl, hJx⟩)
          · gi_wp2
            unfold MidS; refine acts_of rfl ?_
            exact ⟨rfl, rfl, rfl, (by first | rfl | (simp [*]; done) | (simp [*]; omega) | (simp_all; done) | (simp_all; omega)), (by first | rfl | (simp [*]; done) | (simp [*]; omega) | (simp_all; done) | (simp_all; omega)), (HLw.out.below hb3).keep hk4 hz1 hz2 hz3'.out hz4'.out, [⟨_, mem_step1 hi' hk'⟩], (step1_yes hi' hk').symm, hJ4⟩
          · gi_wp2
            refine bodyPost_ret (results_none rfl _ _ _) rfl ?_
            exact ⟨⟨_, rfl⟩, .inr ⟨[⟨_, mem_step1 hi' hk'⟩], pre_step1 hi' hk', hJx⟩⟩
      · obtain ⟨pre, hp, hj⟩ := PRE.out (fun h => hk' h.2)
        gi_wp2
        unfold MidS; refine acts_of rfl ?_
        exact ⟨rfl, rfl, rfl, (by first | rfl | (simp [*]; done) | (simp [*]; omega) | (simp_all; done) | (simp_all; omega)), (by first | rfl | (simp [*]; done) | (simp [*]; omega) | (simp_all; done) | (simp_all; omega)), hLw, pre, hp, hj⟩
    · obtain ⟨pre, hp, hj⟩ := PRE.out (fun h => hi' h.1)
      gi_wp2
      unfold MidS; refine acts_of rfl ?_
      exact ⟨rfl, rfl, rfl, (by first | rfl | (simp [*]; done) | (simp [*]; omega) | (simp_all; done) | (simp_all; omega)), (by first | rfl | (simp [*]; done) | (simp [*]; omega) | (simp_all; done) | (simp_all; omega)), hLw, pre, hp, hj⟩
  clear hLw hJw
  rintro a w1 ⟨f, rfl, f0, f1, f2, f4, f5, hL1, pre1, hp1, hJ1⟩
  rw [show (List.range 94).map f = [f 0, f 1, f 2, f 3, f 4, f 5, f 6, f 7, f 8, f 9, f 10, f 11, f 12, f 13, f 14, f 15, f 16, f 17, f 18, f 19, f 20, f 21, f 22, f 23, f 24, f 25, f 26, f 27, f 28, f 29, f 30, f 31, f 32, f 33, f 34, f 35, f 36, f 37, f 38, f 39, f 40, f 41, f 42, f 43, f 44, f 45, f 46, f 47, f 48, f 49, f 50, f 51, f 52, f 53, f 54, f 55, f 56, f 57, f 58, f 59, f 60, f 61, f 62, f 63, f 64, f 65, f 66, f 67, f 68, f 69, f 70, f 71, f 72, f 73, f 74, f 75, f 76, f 77, f 78, f 79, f 80, f 81, f 82, f 83, f 84, f 85, f 86, f 87, f 88, f 89, f 90, f 91, f 92, f 93] from rfl, f0, f1, f2, f4, f5]
  clear f0 f1 f2 f4 f5
  have hq1 : pre1.length < 3 := by
    have := congrArg List.length hp1
    rw [List.length_map] at this
    have := step1_len st fo i k; omega
  -- the step by which one is cut off
  refine wpIn_cut (MidS l pb xb id hs st fo sa fa sc fc fv i k J (step1 st fo i k ++ step2 st i k)) ?_ ?_
  · have hz3' := hid hz3; have hz4' := hid hz4; clear hz3 hz4
    have HP1 := hid hp1; clear hp1
    have HLw := hid hL1
    by_cases hi' : i < st.length
    · obtain ⟨ab, ao, rfl, ca⟩ := hL1.s i hi'
      have la := cell_lt ca; have l1 := hL1.p.lt; have l2 := hL1.x.lt
      have p0 : w1.cell? ⟨pb, 0, none⟩ = some (.int .i64 i) := hL1.p.cell 0
      have p1 : w1.cell? ⟨pb, 1, none⟩ = some (.int .i64 k) := hL1.p.cell 1
      have x2 : w1.cell? ⟨xb, 2, none⟩ = some (.slice (some ⟨ab, ao, none⟩) st.length sc) := hL1.x.cell 2
      clear hL1
      gi_wp2
      refine wpIn_region_G [4, 7, 11, 13, 15] (fun w' => w'.cell? ⟨pb, 0, none⟩ = some (.int .i64 i) ∧ w'.cell? ⟨pb, 1, none⟩ = some (.int .i64 k) ∧ w'.cell? ⟨xb, 2, none⟩ = some (.slice (some ⟨ab, ao, none⟩) st.length sc) ∧ w'.cell? ⟨ab, ao + i, none⟩ = some (.int .i64 st[i])) hm ⟨by go_simp, by go_simp, by go_simp, by go_simp⟩ ?_
      intro hS0; have hS := hid hS0; clear hS0
      (apply wpAnyG_pure wide_wide (i := 0) rfl (by kernel_rfl) (fun _ _ _ h => h); · first | exact .inr ⟨rfl, rfl⟩ | exact .inl ⟨rfl, fun w' => by go_simp; rfl⟩); simp only [Act.put, List.setIfInBounds_toArray, List.set_cons_succ, List.set_cons_zero, List.getElem_toArray, List.getElem_cons_succ, List.getElem_cons_zero]
      (apply wpAnyG_pure wide_wide (i := 1) rfl (by kernel_rfl) (fun _ _ _ h => h); · first | exact .inr ⟨rfl, rfl⟩ | exact .inl ⟨rfl, fun w' => by go_simp; rfl⟩); simp only [Act.put, List.setIfInBounds_toArray, List.set_cons_succ, List.set_cons_zero, List.getElem_toArray, List.getElem_cons_succ, List.getElem_cons_zero]
      (apply wpAnyG_pure wide_wide (i := 2) rfl (by kernel_rfl) (fun _ _ _ h => h); · first | exact .inr ⟨rfl, rfl⟩ | exact .inl ⟨rfl, fun w' => by go_simp; rfl⟩); simp only [Act.put, List.setIfInBounds_toArray, List.set_cons_succ, List.set_cons_zero, List.getElem_toArray, List.getElem_cons_succ, List.getElem_cons_zero]
      (apply wpAnyG_pure wide_wide (i := 3) rfl (by kernel_rfl) (fun _ _ _ h => h); · first | exact .inr ⟨rfl, rfl⟩ | exact .inl ⟨rfl, fun w' => by go_simp; rfl⟩); simp only [Act.put, List.setIfInBounds_toArray, List.set_cons_succ, List.set_cons_zero, List.getElem_toArray, List.getElem_cons_succ, List.getElem_cons_zero]
      (apply wpAnyG_held wide_wide (i := 4) rfl (by kernel_rfl) (fun _ _ _ h => h) hS.out; · first | exact .inr ⟨rfl, rfl⟩ | exact .inl ⟨rfl, fun w' hS' => by (obtain ⟨s1, s2, s3, s4⟩ := hS'; go_simp; rfl)⟩); simp only [Act.put, List.setIfInBounds_toArray, List.set_cons_succ, List.set_cons_zero, List.getElem_toArray, List.getElem_cons_succ, List.getElem_cons_zero]
      (apply wpAnyG_pure wide_wide (i := 5) rfl (by kernel_rfl) (fun _ _ _ h => h); · first | exact .inr ⟨rfl, rfl⟩ | exact .inl ⟨rfl, fun w' => by go_simp; rfl⟩); simp only [Act.put, List.setIfInBounds_toArray, List.set_cons_succ, List.set_cons_zero, List.getElem_toArray, List.getElem_cons_succ, List.getElem_cons_zero]
      (apply wpAnyG_pure wide_wide (i := 6) rfl (by kernel_rfl) (fun _ _ _ h => h); · first | exact .inr ⟨rfl, rfl⟩ | exact .inl ⟨rfl, fun w' => by go_simp; rfl⟩); simp only [Act.put, List.setIfInBounds_toArray, List.set_cons_succ, List.set_cons_zero, List.getElem_toArray, List.getElem_cons_succ, List.getElem_cons_zero]
      (apply wpAnyG_held wide_wide (i := 7) rfl (by kernel_rfl) (fun _ _ _ h => h) hS.out; · first | exact .inr ⟨rfl, rfl⟩ | exact .inl ⟨rfl, fun w' hS' => by (obtain ⟨s1, s2, s3, s4⟩ := hS'; go_simp; rfl)⟩); simp only [Act.put, List.setIfInBounds_toArray, List.set_cons_succ, List.set_cons_zero, List.getElem_toArray, List.getElem_cons_succ, List.getElem_cons_zero]
      (apply wpAnyG_pure wide_wide (i := 8) rfl (by kernel_rfl) (fun _ _ _ h => h); · first | exact .inr ⟨rfl, rfl⟩ | exact .inl ⟨rfl, fun w' => by go_simp; rfl⟩); simp only [Act.put, List.setIfInBounds_toArray, List.set_cons_succ, List.set_cons_zero, List.getElem_toArray, List.getElem_cons_succ, List.getElem_cons_zero]
      (apply wpAnyG_pure wide_wide (i := 9) rfl (by kernel_rfl) (fun _ _ _ h => h); · first | exact .inr ⟨rfl, rfl⟩ | exact .inl ⟨rfl, fun w' => by go_simp; rfl⟩); simp only [Act.put, List.setIfInBounds_toArray, List.set_cons_succ, List.set_cons_zero, List.getElem_toArray, List.getElem_cons_succ, List.getElem_cons_zero]
      (apply wpAnyG_pure wide_wide (i := 10) rfl (by kernel_rfl) (fun _ _ _ h => h); · first | exact .inr ⟨rfl, rfl⟩ | exact .inl ⟨rfl, fun w' => by go_simp; rfl⟩); simp only [Act.put, List.setIfInBounds_toArray, List.set_cons_succ, List.set_cons_zero, List.getElem_toArray, List.getElem_cons_succ, List.getElem_cons_zero]
      (apply wpAnyG_held wide_wide (i := 11) rfl (by kernel_rfl) (fun _ _ _ h => h) hS.out; · first | exact .inr ⟨rfl, rfl⟩ | exact .inl ⟨rfl, fun w' hS' => by (obtain ⟨s1, s2, s3, s4⟩ := hS'; go_simp; rfl)⟩); simp only [Act.put, List.setIfInBounds_toArray, List.set_cons_succ, List.set_cons_zero, List.getElem_toArray, List.getElem_cons_succ, List.getElem_cons_zero]
      (apply wpAnyG_pure wide_wide (i := 12) rfl (by kernel_rfl) (fun _ _ _ h => h); · first | exact .inr ⟨rfl, rfl⟩ | exact .inl ⟨rfl, fun w' => by go_simp; rfl⟩); simp only [Act.put, List.setIfInBounds_toArray, List.set_cons_succ, List.set_cons_zero, List.getElem_toArray, List.getElem_cons_succ, List.getElem_cons_zero]
      (apply wpAnyG_held wide_wide (i := 13) rfl (by kernel_rfl) (fun _ _ _ h => h) hS.out; · first | exact .inr ⟨rfl, rfl⟩ | exact .inl ⟨rfl, fun w' hS' => by (obtain ⟨s1, s2, s3, s4⟩ := hS'; go_simp; rfl)⟩); simp only [Act.put, List.setIfInBounds_toArray, List.set_cons_succ, List.set_cons_zero, List.getElem_toArray, List.getElem_cons_succ, List.getElem_cons_zero]
      (apply wpAnyG_pure wide_wide (i := 14) rfl (by kernel_rfl) (fun _ _ _ h => h); · first | exact .inr ⟨rfl, rfl⟩ | exact .inl ⟨rfl, fun w' => by go_simp; rfl⟩); simp only [Act.put, List.setIfInBounds_toArray, List.set_cons_succ, List.set_cons_zero, List.getElem_toArray, List.getElem_cons_succ, List.getElem_cons_zero]
      (apply wpAnyG_held wide_wide (i := 15) rfl (by kernel_rfl) (fun _ _ _ h => h) hS.out; · first | exact .inr ⟨rfl, rfl⟩ | exact .inl ⟨rfl, fun w' hS' => by (obtain ⟨s1, s2, s3, s4⟩ := hS'; go_simp; rfl)⟩); simp only [Act.put, List.setIfInBounds_toArray, List.set_cons_succ, List.set_cons_zero, List.getElem_toArray, List.getElem_cons_succ, List.getElem_cons_zero]
      (apply wpAnyG_pure wide_wide (i := 16) rfl (by kernel_rfl) (fun _ _ _ h => h); · first | exact .inr ⟨rfl, rfl⟩ | exact .inl ⟨rfl, fun w' => by go_simp; rfl⟩); simp only [Act.put, List.setIfInBounds_toArray, List.set_cons_succ, List.set_cons_zero, List.getElem_toArray, List.getElem_cons_succ, List.getElem_cons_zero]
      refine wpAnyG_one (i := 17) rfl ⟨by kernel_rfl, by kernel_rfl⟩ ?_
      intro K hK
      have hJ2 := hJ pre1 w1 w1.drew none hJ1 (grown_of_below (Below.drew (Below.refl _ _))) (by simp)
      obtain ⟨fn, tmps, assign, body, hy, hR⟩ := HY.out pre1 ⟨_, mem_step2 fo k hi'⟩ _ hJ2 hq1
      simp [St.val] at hy
      have hw := wrap_succ (i := i) (by omega)
      simp only [Int.natCast_add, Int.cast_ofNat_Int] at hw
      go_simp
      refine ⟨fun h => (by cases h), hR.mono ?_⟩
      intro e w4 hd
      obtain ⟨b, rfl, ht, hf⟩ := yield_bool hd
      clear hd
      refine shutNG hK (by kernel_rfl) ?_
      clear hK K
      (apply wpAnyG_pure wide_wide (i := 18) rfl (by kernel_rfl) (fun _ _ _ h => h); · first | exact .inr ⟨rfl, rfl⟩ | exact .inl ⟨rfl, fun w' => by go_simp; rfl⟩); simp only [Act.put, List.setIfInBounds_toArray, List.set_cons_succ, List.set_cons_zero, List.getElem_toArray, List.getElem_cons_succ, List.getElem_cons_zero]
      (apply wpAnyG_pure wide_wide (i := 19) rfl (by kernel_rfl) (fun _ _ _ h => h); · first | exact .inr ⟨rfl, rfl⟩ | exact .inl ⟨rfl, fun w' => by go_simp; rfl⟩); simp only [Act.put, List.setIfInBounds_toArray, List.set_cons_succ, List.set_cons_zero, List.getElem_toArray, List.getElem_cons_succ, List.getElem_cons_zero]
      refine wpAnyG_done (by kernel_rfl) ?_ _
      cases b with
      | true =>
        obtain ⟨hJ4, hk4⟩ := ht rfl
        gi_wp2
        unfold MidS; refine acts_of rfl ?_
        exact ⟨rfl, rfl, rfl, (by first | rfl | (simp [*]; done) | (simp [*]; omega) | (simp_all; done) | (simp_all; omega)), (by first | rfl | (simp [*]; done) | (simp [*]; omega) | (simp_all; done) | (simp_all; omega)), (HLw.out.below (Below.drew (Below.refl _ _))).keep hk4 hz1 hz2 hz3'.out hz4'.out, pre1 ++ [⟨_, mem_step2 fo k hi'⟩], by rw [List.map_append, HP1.out, step2_yes k hi']; rfl, hJ4⟩
      | false =>
        have hJx := hf rfl
        gi_wp2
        refine bodyPost_ret (results_none rfl _ _ _) rfl ?_
        exact ⟨⟨_, rfl⟩, .inr ⟨pre1 ++ [⟨_, mem_step2 fo k hi'⟩], by unfold PartCome; rw [List.map_append, HP1.out]; exact pre_step2 fo k hi', hJx⟩⟩
    · gi_wp2
      refine wpIn_region_G [4, 7, 11, 13, 15] (fun _ => True) hm trivial ?_
      intro hS0; have hS := hid hS0; clear hS0
      (apply wpAnyG_pure wide_wide (i := 0) rfl (by kernel_rfl) (fun _ _ _ h => h); · first | exact .inr ⟨rfl, rfl⟩ | exact .inl ⟨rfl, fun w' => by go_simp; rfl⟩); simp only [Act.put, List.setIfInBounds_toArray, List.set_cons_succ, List.set_cons_zero, List.getElem_toArray, List.getElem_cons_succ, List.getElem_cons_zero]
      (apply wpAnyG_pure wide_wide (i := 1) rfl (by kernel_rfl) (fun _ _ _ h => h); · first | exact .inr ⟨rfl, rfl⟩ | exact .inl ⟨rfl, fun w' => by go_simp; rfl⟩); simp only [Act.put, List.setIfInBounds_toArray, List.set_cons_succ, List.set_cons_zero, List.getElem_toArray, List.getElem_cons_succ, List.getElem_cons_zero]
      (apply wpAnyG_pure wide_wide (i := 2) rfl (by kernel_rfl) (fun _ _ _ h => h); · first | exact .inr ⟨rfl, rfl⟩ | exact .inl ⟨rfl, fun w' => by go_simp; rfl⟩); simp only [Act.put, List.setIfInBounds_toArray, List.set_cons_succ, List.set_cons_zero, List.getElem_toArray, List.getElem_cons_succ, List.getElem_cons_zero]
      (apply wpAnyG_pure wide_wide (i := 3) rfl (by kernel_rfl) (fun _ _ _ h => h); · first | exact .inr ⟨rfl, rfl⟩ | exact .inl ⟨rfl, fun w' => by go_simp; rfl⟩); simp only [Act.put, List.setIfInBounds_toArray, List.set_cons_succ, List.set_cons_zero, List.getElem_toArray, List.getElem_cons_succ, List.getElem_cons_zero]
      (apply wpAnyG_held wide_wide (i := 4) rfl (by kernel_rfl) (fun _ _ _ h => h) hS.out; · first | exact .inr ⟨rfl, rfl⟩ | exact .inl ⟨rfl, fun w' hS' => by (obtain s1 := hS'; go_simp; rfl)⟩); simp only [Act.put, List.setIfInBounds_toArray, List.set_cons_succ, List.set_cons_zero, List.getElem_toArray, List.getElem_cons_succ, List.getElem_cons_zero]
      (apply wpAnyG_pure wide_wide (i := 5) rfl (by kernel_rfl) (fun _ _ _ h => h); · first | exact .inr ⟨rfl, rfl⟩ | exact .inl ⟨rfl, fun w' => by go_simp; rfl⟩); simp only [Act.put, List.setIfInBounds_toArray, List.set_cons_succ, List.set_cons_zero, List.getElem_toArray, List.getElem_cons_succ, List.getElem_cons_zero]
      (apply wpAnyG_pure wide_wide (i := 6) rfl (by kernel_rfl) (fun _ _ _ h => h); · first | exact .inr ⟨rfl, rfl⟩ | exact .inl ⟨rfl, fun w' => by go_simp; rfl⟩); simp only [Act.put, List.setIfInBounds_toArray, List.set_cons_succ, List.set_cons_zero, List.getElem_toArray, List.getElem_cons_succ, List.getElem_cons_zero]
      (apply wpAnyG_held wide_wide (i := 7) rfl (by kernel_rfl) (fun _ _ _ h => h) hS.out; · first | exact .inr ⟨rfl, rfl⟩ | exact .inl ⟨rfl, fun w' hS' => by (obtain s1 := hS'; go_simp; rfl)⟩); simp only [Act.put, List.setIfInBounds_toArray, List.set_cons_succ, List.set_cons_zero, List.getElem_toArray, List.getElem_cons_succ, List.getElem_cons_zero]
      (apply wpAnyG_pure wide_wide (i := 8) rfl (by kernel_rfl) (fun _ _ _ h => h); · first | exact .inr ⟨rfl, rfl⟩ | exact .inl ⟨rfl, fun w' => by go_simp; rfl⟩); simp only [Act.put, List.setIfInBounds_toArray, List.set_cons_succ, List.set_cons_zero, List.getElem_toArray, List.getElem_cons_succ, List.getElem_cons_zero]
      (apply wpAnyG_pure wide_wide (i := 9) rfl (by kernel_rfl) (fun _ _ _ h => h); · first | exact .inr ⟨rfl, rfl⟩ | exact .inl ⟨rfl, fun w' => by go_simp; rfl⟩); simp only [Act.put, List.setIfInBounds_toArray, List.set_cons_succ, List.set_cons_zero, List.getElem_toArray, List.getElem_cons_succ, List.getElem_cons_zero]
      (apply wpAnyG_pure wide_wide (i := 10) rfl (by kernel_rfl) (fun _ _ _ h => h); · first | exact .inr ⟨rfl, rfl⟩ | exact .inl ⟨rfl, fun w' => by go_simp; rfl⟩); simp only [Act.put, List.setIfInBounds_toArray, List.set_cons_succ, List.set_cons_zero, List.getElem_toArray, List.getElem_cons_succ, List.getElem_cons_zero]
      (apply wpAnyG_held wide_wide (i := 11) rfl (by kernel_rfl) (fun _ _ _ h => h) hS.out; · first | exact .inr ⟨rfl, rfl⟩ | exact .inl ⟨rfl, fun w' hS' => by (obtain s1 := hS'; go_simp; rfl)⟩); simp only [Act.put, List.setIfInBounds_toArray, List.set_cons_succ, List.set_cons_zero, List.getElem_toArray, List.getElem_cons_succ, List.getElem_cons_zero]
      (apply wpAnyG_pure wide_wide (i := 12) rfl (by kernel_rfl) (fun _ _ _ h => h); · first | exact .inr ⟨rfl, rfl⟩ | exact .inl ⟨rfl, fun w' => by go_simp; rfl⟩); simp only [Act.put, List.setIfInBounds_toArray, List.set_cons_succ, List.set_cons_zero, List.getElem_toArray, List.getElem_cons_succ, List.getElem_cons_zero]
      (apply wpAnyG_held wide_wide (i := 13) rfl (by kernel_rfl) (fun _ _ _ h => h) hS.out; · first | exact .inr ⟨rfl, rfl⟩ | exact .inl ⟨rfl, fun w' hS' => by (obtain s1 := hS'; go_simp; rfl)⟩); simp only [Act.put, List.setIfInBounds_toArray, List.set_cons_succ, List.set_cons_zero, List.getElem_toArray, List.getElem_cons_succ, List.getElem_cons_zero]
      (apply wpAnyG_pure wide_wide (i := 14) rfl (by kernel_rfl) (fun _ _ _ h => h); · first | exact .inr ⟨rfl, rfl⟩ | exact .inl ⟨rfl, fun w' => by go_simp; rfl⟩); simp only [Act.put, List.setIfInBounds_toArray, List.set_cons_succ, List.set_cons_zero, List.getElem_toArray, List.getElem_cons_succ, List.getElem_cons_zero]
      (apply wpAnyG_held wide_wide (i := 15) rfl (by kernel_rfl) (fun _ _ _ h => h) hS.out; · first | exact .inr ⟨rfl, rfl⟩ | exact .inl ⟨rfl, fun w' hS' => by (obtain s1 := hS'; go_simp; rfl)⟩); simp only [Act.put, List.setIfInBounds_toArray, List.set_cons_succ, List.set_cons_zero, List.getElem_toArray, List.getElem_cons_succ, List.getElem_cons_zero]
      (apply wpAnyG_pure wide_wide (i := 16) rfl (by kernel_rfl) (fun _ _ _ h => h); · first | exact .inr ⟨rfl, rfl⟩ | exact .inl ⟨rfl, fun w' => by go_simp; rfl⟩); simp only [Act.put, List.setIfInBounds_toArray, List.set_cons_succ, List.set_cons_zero, List.getElem_toArray, List.getElem_cons_succ, List.getElem_cons_zero]
      refine wpAnyG_one (i := 17) rfl ⟨by kernel_rfl, by kernel_rfl⟩ ?_
      intro K hK
      go_simp
      refine ⟨fun _ _ => trivial, ?_⟩
      refine shutNG hK (by kernel_rfl) ?_
      clear hK K
      (apply wpAnyG_pure wide_wide (i := 18) rfl (by kernel_rfl) (fun _ _ _ h => h); · first | exact .inr ⟨rfl, rfl⟩ | exact .inl ⟨rfl, fun w' => by go_simp; rfl⟩); simp only [Act.put, List.setIfInBounds_toArray, List.set_cons_succ, List.set_cons_zero, List.getElem_toArray, List.getElem_cons_succ, List.getElem_cons_zero]
      (apply wpAnyG_pure wide_wide (i := 19) rfl (by kernel_rfl) (fun _ _ _ h => h); · first | exact .inr ⟨rfl, rfl⟩ | exact .inl ⟨rfl, fun w' => by go_simp; rfl⟩); simp only [Act.put, List.setIfInBounds_toArray, List.set_cons_succ, List.set_cons_zero, List.getElem_toArray, List.getElem_cons_succ, List.getElem_cons_zero]
      refine wpAnyG_done (by kernel_rfl) ?_ _
      gi_wp2
      unfold MidS; refine acts_of rfl ?_
      exact ⟨rfl, rfl, rfl, (by first | rfl | (simp [*]; done) | (simp [*]; omega) | (simp_all; done) | (simp_all; omega)), (by first | rfl | (simp [*]; done) | (simp [*]; omega) | (simp_all; done) | (simp_all; omega)), HLw.out.below (by repeat (first | (with_reducible exact Below.refl _ _) | (with_reducible assumption) | (with_reducible refine Below.drew ?_) | (with_reducible refine below_drewN ?_ _) | (with_reducible refine Below.alloc ?_ (by first | omega | (simp; done) | (simp; omega)) _) | (with_reducible refine Below.setCell ?_ (by first | omega | (simp; done) | (simp; omega)) _) | (with_reducible refine Below.trans ?_ (Below.mono (by assumption) (by first | omega | (simp; done) | (simp; omega)))))), pre1, by rw [HP1.out, step2_no k hi', List.append_nil], hJ pre1 w1 _ none hJ1 (grown_of_below (by repeat (first | (with_reducible exact Below.refl _ _) | (with_reducible assumption) | (with_reducible refine Below.drew ?_) | (with_reducible refine below_drewN ?_ _) | (with_reducible refine Below.alloc ?_ (by first | omega | (simp; done) | (simp; omega)) _) | (with_reducible refine Below.setCell ?_ (by first | omega | (simp; done) | (simp; omega)) _) | (with_reducible refine Below.trans ?_ (Below.mono (by assumption) (by first | omega | (simp; done) | (simp; omega))))))) (by simp)⟩
  clear hL1 hJ1 hp1 hq1 pre1
  rintro a w2 ⟨f, rfl, f0, f1, f2, f4, f5, hL2, pre2, hp2, hJ2⟩
  rw [show (List.range 94).map f = [f 0, f 1, f 2, f 3, f 4, f 5, f 6, f 7, f 8, f 9, f 10, f 11, f 12, f 13, f 14, f 15, f 16, f 17, f 18, f 19, f 20, f 21, f 22, f 23, f 24, f 25, f 26, f 27, f 28, f 29, f 30, f 31, f 32, f 33, f 34, f 35, f 36, f 37, f 38, f 39, f 40, f 41, f 42, f 43, f 44, f 45, f 46, f 47, f 48, f 49, f 50, f 51, f 52, f 53, f 54, f 55, f 56, f 57, f 58, f 59, f 60, f 61, f 62, f 63, f 64, f 65, f 66, f 67, f 68, f 69, f 70, f 71, f 72, f 73, f 74, f 75, f 76, f 77, f 78, f 79, f 80, f 81, f 82, f 83, f 84, f 85, f 86, f 87, f 88, f 89, f 90, f 91, f 92, f 93] from rfl, f0, f1, f2, f4, f5]
  clear f0 f1 f2 f4 f5
  have hq2 : pre2.length < 3 := by
    have := congrArg List.length hp2
    rw [List.length_map, List.length_append] at this
    have := step1_len st fo i k; have := step2_len st i k; omega
  -- the step by which one is added
  have hz3' := hid hz3; have hz4' := hid hz4; clear hz3 hz4
  have HP2 := hid hp2; clear hp2
  by_cases hk' : k < fo.length
  · obtain ⟨bb, bo, rfl, cb⟩ := hL2.f k hk'
    have lb := cell_lt cb; have l1 := hL2.p.lt; have l2 := hL2.x.lt
    have p0 : w2.cell? ⟨pb, 0, none⟩ = some (.int .i64 i) := hL2.p.cell 0
    have p1 : w2.cell? ⟨pb, 1, none⟩ = some (.int .i64 k) := hL2.p.cell 1
    have x3 : w2.cell? ⟨xb, 3, none⟩ = some (.slice (some ⟨bb, bo, none⟩) fo.length fc) := hL2.x.cell 3
    clear hL2
    gi_wp2
    refine wpIn_region_G [2, 4, 9, 11, 13] (fun w' => w'.cell? ⟨pb, 0, none⟩ = some (.int .i64 i) ∧ w'.cell? ⟨pb, 1, none⟩ = some (.int .i64 k) ∧ w'.cell? ⟨xb, 3, none⟩ = some (.slice (some ⟨bb, bo, none⟩) fo.length fc) ∧ w'.cell? ⟨bb, bo + k, none⟩ = some (.int .i64 fo[k])) hm ⟨by go_simp, by go_simp, by go_simp, by go_simp⟩ ?_
    intro hS0; have hS := hid hS0; clear hS0
    (apply wpAnyG_pure wide_wide (i := 0) rfl (by kernel_rfl) (fun _ _ _ h => h); · first | exact .inr ⟨rfl, rfl⟩ | exact .inl ⟨rfl, fun w' => by go_simp; rfl⟩); simp only [Act.put, List.setIfInBounds_toArray, List.set_cons_succ, List.set_cons_zero, List.getElem_toArray, List.getElem_cons_succ, List.getElem_cons_zero]
    (apply wpAnyG_pure wide_wide (i := 1) rfl (by kernel_rfl) (fun _ _ _ h => h); · first | exact .inr ⟨rfl, rfl⟩ | exact .inl ⟨rfl, fun w' => by go_simp; rfl⟩); simp only [Act.put, List.setIfInBounds_toArray, List.set_cons_succ, List.set_cons_zero, List.getElem_toArray, List.getElem_cons_succ, List.getElem_cons_zero]
    (apply wpAnyG_held wide_wide (i := 2) rfl (by kernel_rfl) (fun _ _ _ h => h) hS.out; · first | exact .inr ⟨rfl, rfl⟩ | exact .inl ⟨rfl, fun w' hS' => by (obtain ⟨s1, s2, s3, s4⟩ := hS'; go_simp; rfl)⟩); simp only [Act.put, List.setIfInBounds_toArray, List.set_cons_succ, List.set_cons_zero, List.getElem_toArray, List.getElem_cons_succ, List.getElem_cons_zero]
    (apply wpAnyG_pure wide_wide (i := 3) rfl (by kernel_rfl) (fun _ _ _ h => h); · first | exact .inr ⟨rfl, rfl⟩ | exact .inl ⟨rfl, fun w' => by go_simp; rfl⟩); simp only [Act.put, List.setIfInBounds_toArray, List.set_cons_succ, List.set_cons_zero, List.getElem_toArray, List.getElem_cons_succ, List.getElem_cons_zero]
    (apply wpAnyG_held wide_wide (i := 4) rfl (by kernel_rfl) (fun _ _ _ h => h) hS.out; · first | exact .inr ⟨rfl, rfl⟩ | exact .inl ⟨rfl, fun w' hS' => by (obtain ⟨s1, s2, s3, s4⟩ := hS'; go_simp; rfl)⟩); simp only [Act.put, List.setIfInBounds_toArray, List.set_cons_succ, List.set_cons_zero, List.getElem_toArray, List.getElem_cons_succ, List.getElem_cons_zero]
    (apply wpAnyG_pure wide_wide (i := 5) rfl (by kernel_rfl) (fun _ _ _ h => h); · first | exact .inr ⟨rfl, rfl⟩ | exact .inl ⟨rfl, fun w' => by go_simp; rfl⟩); simp only [Act.put, List.setIfInBounds_toArray, List.set_cons_succ, List.set_cons_zero, List.getElem_toArray, List.getElem_cons_succ, List.getElem_cons_zero]
    (apply wpAnyG_pure wide_wide (i := 6) rfl (by kernel_rfl) (fun _ _ _ h => h); · first | exact .inr ⟨rfl, rfl⟩ | exact .inl ⟨rfl, fun w' => by go_simp; rfl⟩); simp only [Act.put, List.setIfInBounds_toArray, List.set_cons_succ, List.set_cons_zero, List.getElem_toArray, List.getElem_cons_succ, List.getElem_cons_zero]
    (apply wpAnyG_pure wide_wide (i := 7) rfl (by kernel_rfl) (fun _ _ _ h => h); · first | exact .inr ⟨rfl, rfl⟩ | exact .inl ⟨rfl, fun w' => by go_simp; rfl⟩); simp only [Act.put, List.setIfInBounds_toArray, List.set_cons_succ, List.set_cons_zero, List.getElem_toArray, List.getElem_cons_succ, List.getElem_cons_zero]
    (apply wpAnyG_pure wide_wide (i := 8) rfl (by kernel_rfl) (fun _ _ _ h => h); · first | exact .inr ⟨rfl, rfl⟩ | exact .inl ⟨rfl, fun w' => by go_simp; rfl⟩); simp only [Act.put, List.setIfInBounds_toArray, List.set_cons_succ, List.set_cons_zero, List.getElem_toArray, List.getElem_cons_succ, List.getElem_cons_zero]
    (apply wpAnyG_held wide_wide (i := 9) rfl (by kernel_rfl) (fun _ _ _ h => h) hS.out; · first | exact .inr ⟨rfl, rfl⟩ | exact .inl ⟨rfl, fun w' hS' => by (obtain ⟨s1, s2, s3, s4⟩ := hS'; go_simp; rfl)⟩); simp only [Act.put, List.setIfInBounds_toArray, List.set_cons_succ, List.set_cons_zero, List.getElem_toArray, List.getElem_cons_succ, List.getElem_cons_zero]
    (apply wpAnyG_pure wide_wide (i := 10) rfl (by kernel_rfl) (fun _ _ _ h => h); · first | exact .inr ⟨rfl, rfl⟩ | exact .inl ⟨rfl, fun w' => by go_simp; rfl⟩); simp only [Act.put, List.setIfInBounds_toArray, List.set_cons_succ, List.set_cons_zero, List.getElem_toArray, List.getElem_cons_succ, List.getElem_cons_zero]
    (apply wpAnyG_held wide_wide (i := 11) rfl (by kernel_rfl) (fun _ _ _ h => h) hS.out; · first | exact .inr ⟨rfl, rfl⟩ | exact .inl ⟨rfl, fun w' hS' => by (obtain ⟨s1, s2, s3, s4⟩ := hS'; go_simp; rfl)⟩); simp only [Act.put, List.setIfInBounds_toArray, List.set_cons_succ, List.set_cons_zero, List.getElem_toArray, List.getElem_cons_succ, List.getElem_cons_zero]
    (apply wpAnyG_pure wide_wide (i := 12) rfl (by kernel_rfl) (fun _ _ _ h => h); · first | exact .inr ⟨rfl, rfl⟩ | exact .inl ⟨rfl, fun w' => by go_simp; rfl⟩); simp only [Act.put, List.setIfInBounds_toArray, List.set_cons_succ, List.set_cons_zero, List.getElem_toArray, List.getElem_cons_succ, List.getElem_cons_zero]
    (apply wpAnyG_held wide_wide (i := 13) rfl (by kernel_rfl) (fun _ _ _ h => h) hS.out; · first | exact .inr ⟨rfl, rfl⟩ | exact .inl ⟨rfl, fun w' hS' => by (obtain ⟨s1, s2, s3, s4⟩ := hS'; go_simp; rfl)⟩); simp only [Act.put, List.setIfInBounds_toArray, List.set_cons_succ, List.set_cons_zero, List.getElem_toArray, List.getElem_cons_succ, List.getElem_cons_zero]
    (apply wpAnyG_pure wide_wide (i := 14) rfl (by kernel_rfl) (fun _ _ _ h => h); · first | exact .inr ⟨rfl, rfl⟩ | exact .inl ⟨rfl, fun w' => by go_simp; rfl⟩); simp only [Act.put, List.setIfInBounds_toArray, List.set_cons_succ, List.set_cons_zero, List.getElem_toArray, List.getElem_cons_succ, List.getElem_cons_zero]
    refine wpAnyG_one (i := 15) rfl ⟨by kernel_rfl, by kernel_rfl⟩ ?_
    intro K hK
    have hJ3 := hJ pre2 w2 w2.drew none hJ2 (grown_of_below (Below.drew (Below.refl _ _))) (by simp)
    obtain ⟨fn, tmps, assign, body, hy, hR⟩ := HY.out pre2 ⟨_, mem_step3 st i hk'⟩ _ hJ3 hq2
    simp [St.val] at hy
    have hw := wrap_succ (i := k) (by omega)
    simp only [Int.natCast_add, Int.cast_ofNat_Int] at hw
    go_simp
    refine ⟨fun h => (by cases h), hR.mono ?_⟩
    intro e w4 hd
    obtain ⟨b, rfl, ht, hf⟩ := yield_bool hd
    clear hd
    refine shutNG hK (by kernel_rfl) ?_
    clear hK K
    refine wpAnyG_done (by kernel_rfl) ?_ _
    refine bodyPost_end (results_none rfl _ _ _) rfl ?_
    cases b with
    | true => exact ⟨⟨_, rfl⟩, .inl ⟨pre2 ++ [⟨_, mem_step3 st i hk'⟩], by unfold AllCome; rw [List.map_append, HP2.out]; exact (steps_yes st i hk').symm, (ht rfl).1⟩⟩
    | false => exact ⟨⟨_, rfl⟩, .inr ⟨pre2 ++ [⟨_, mem_step3 st i hk'⟩], by unfold PartCome; rw [List.map_append, HP2.out]; exact ⟨[], by rw [List.append_nil]; exact (steps_yes st i hk').symm⟩, hf rfl⟩⟩
  · gi_wp2
    go_end0
    exact ⟨⟨_, rfl⟩, .inl ⟨pre2, by unfold AllCome; rw [HP2.out]; exact (steps_no st i hk').symm, hJ2⟩⟩

/-- What 'steps' hands back yields all steps, or a part. -/
theorem steps1_stops (n : Nat) (pb xb : Nat) (id hs : Int) (st fo : List Int) (sa fa : Option Addr) (sc fc : Nat) (fv : Value) (i k : Nat) (hi : i ≤ st.length) (hk : k ≤ fo.length) (hl : st.length ≤ 4000) (hl2 : fo.length ≤ 4000)
    (Z : Nat → Prop) (hz1 : Z pb) (hz2 : Z xb) (hz3 : st ≠ [] → ∀ p, sa = some p → Z p.block) (hz4 : fo ≠ [] → ∀ p, fa = some p → Z p.block) (w : World) (hL : Lies w pb xb id hs st fo sa fa sc fc fv i k) :
    SeqStopsK Fence.wide n Tryd.prog 125 #[.pointer (some ⟨pb, 0, none⟩), .pointer (some ⟨xb, 0, none⟩)] (fun x : StAt st fo i k => #[x.1.val]) (Keep Z) (AllCome st fo i k) (PartCome st fo i k) 3 w :=
  fun l J Jx W hW hJ _ hY h0 => steps1_in n l pb xb id hs st fo sa fa sc fc fv i k hi hk hl hl2 Z hz1 hz2 hz3 hz4 W.heap.size J Jx hJ hY W (hL.below hW) h0

end Go.Proofs.YthddoikmgpgakaaDoor
