/- Proofs for the seat's cards: Steps, Left, Ed, Best, EdL, True, Spans, Comes, All, Owes, Concat, Table, RefC0, Leaf2, Br, Door, Door7, Twins. No condition of its own. -/
import Derived.Test.YthddoikmgpgakaaDoorProg
import Derived.Outline
import Derived.RangeFuncNested
import Derived.Shelf.Abstract
import Derived.Deep.QuietTactic
import Derived.BigQuiet
import Derived.Deep.RegionHeld3
import Derived.WalkSmall
import Derived.Laws.EntriesVeiled
import Derived.RangeFuncBound
import Derived.RangeFuncLeaves
import Derived.Shelf.RegionOpen
import Derived.OwnWalkIn
import Derived.TacticsInMore
import Derived.Sort.BigQuietIn
import Derived.LoopNIn
import Derived.LoopIn
import Derived.WalkMore
import Derived.Maps.Views
import Derived.Lib.AppendZerosOnto
import Derived.Lib.Walk
import Derived.Lib.SliceRun
import Derived.Laws.MakeOwn
import Derived.Deep.Cut
import Derived.Deep.Slices
import Derived.Test.YthddoikmgpgakaaDoorMa2
set_option linter.unusedVariables false
set_option linter.unusedSimpArgs false
set_option maxRecDepth 40000
set_option maxHeartbeats 32000000
namespace Go.Proofs.YthddoikmgpgakaaDoor
open Go.RowKit Go.Proofs Go.Shelf
attribute [local go_sem] Oper.semAt_some
structure St where
 i : Nat
 k : Nat
 s : Int
 f : Int
 wr : Int
def St.val (x : St) : Value := .agg #[.int .i64 x.i, .int .i64 x.k, .int .i64 x.s, .int .i64 x.f, .int .i64 x.wr]
def step1 (st fo : List Int) (i k : Nat) : List St := if h : i < st.length ∧ k < fo.length then [⟨i + 1, k + 1, st[i]'h.1, fo[k]'h.2, if st[i]'h.1 = fo[k]'h.2 then 0 else 1⟩] else []
def step2 (st : List Int) (i k : Nat) : List St := if h : i < st.length then [⟨i + 1, k, st[i], 0, 1⟩] else []
def step3 (fo : List Int) (i k : Nat) : List St := if h : k < fo.length then [⟨i, k + 1, 0, fo[k], 1⟩] else []
def stepsL (st fo : List Int) (i k : Nat) : List St := step1 st fo i k ++ (step2 st i k ++ step3 fo i k)
abbrev StAt (st fo : List Int) (i k : Nat) := { x : St // x ∈ stepsL st fo i k }
theorem steps_any (cs : Array Value) (i k : Nat) (w : World) (hcs : cs.size = 5) :
  Calls Tryd.prog 107 #[.agg cs, plc i k] w fun e w' => e = .returned (.func (.func 125) #[] #[.pointer (some ⟨w.heap.size + 1, 0, none⟩), .pointer (some ⟨w.heap.size, 0, none⟩)]) ∧ w' = (w.alloc (.cells cs 134)).alloc (.cells #[.int .i64 i, .int .i64 k] 137) := by
 go_enter Tryd.func107, Tryd.ntmps107
 unfold plc
 go_wp2_with fail
 go_ret
 exact ⟨by simp, by simp [Value.cells]⟩
theorem mixedS : Tryd.prog.follows .mixedOrders = true := by kernel_rfl
theorem wrap_succ {i : Nat} (h : i ≤ 4000) : IntKind.i64.wrap ((i : Int) + 1) = ((i + 1 : Nat) : Int) := by
 simp only [IntKind.wrap, IntKind.signed, IntKind.bits]
 simp
 omega
theorem grown_of_below {w w' : World} (h : Below w.heap.size w w') : w.grownBy w' none := ⟨h.os, h.tape, h.output, h.size, fun k hk _ => h.block k hk⟩
theorem step2_yes {st : List Int} {i : Nat} (k : Nat) (h : i < st.length) : step2 st i k = [⟨i + 1, k, st[i], 0, 1⟩] := by simp [step2, h]
theorem step2_no {st : List Int} {i : Nat} (k : Nat) (h : ¬ i < st.length) : step2 st i k = [] := by simp [step2, h]
theorem step3_yes {fo : List Int} {k : Nat} (i : Nat) (h : k < fo.length) : step3 fo i k = [⟨i, k + 1, 0, fo[k], 1⟩] := by simp [step3, h]
theorem step3_no {fo : List Int} {k : Nat} (i : Nat) (h : ¬ k < fo.length) : step3 fo i k = [] := by simp [step3, h]
theorem step1_yes {st fo : List Int} {i k : Nat} (hi : i < st.length) (hk : k < fo.length) : step1 st fo i k = [⟨i + 1, k + 1, st[i], fo[k], if st[i] = fo[k] then 0 else 1⟩] := by simp [step1, hi, hk]
theorem step1_no {st fo : List Int} {i k : Nat} (h : ¬ (i < st.length ∧ k < fo.length)) : step1 st fo i k = [] := by simp only [step1, dif_neg h]
theorem mem_step1 {st fo : List Int} {i k : Nat} (hi : i < st.length) (hk : k < fo.length) : (⟨i + 1, k + 1, st[i], fo[k], if st[i] = fo[k] then 0 else 1⟩ : St) ∈ stepsL st fo i k := by
 rw [stepsL, step1_yes hi hk]; simp
theorem mem_step2 {st : List Int} (fo : List Int) {i : Nat} (k : Nat) (hi : i < st.length) : (⟨i + 1, k, st[i], 0, 1⟩ : St) ∈ stepsL st fo i k := by
 rw [stepsL, step2_yes k hi]; simp
theorem mem_step3 (st : List Int) {fo : List Int} (i : Nat) {k : Nat} (hk : k < fo.length) : (⟨i, k + 1, 0, fo[k], 1⟩ : St) ∈ stepsL st fo i k := by
 rw [stepsL, step3_yes i hk]; simp
theorem pre_step1 {st fo : List Int} {i k : Nat} (hi : i < st.length) (hk : k < fo.length) : [(⟨i + 1, k + 1, st[i], fo[k], if st[i] = fo[k] then 0 else 1⟩ : St)] <+: stepsL st fo i k :=
 ⟨step2 st i k ++ step3 fo i k, by rw [stepsL, step1_yes hi hk]⟩
theorem pre_step2 {st : List Int} (fo : List Int) {i : Nat} (k : Nat) (hi : i < st.length) : step1 st fo i k ++ [(⟨i + 1, k, st[i], 0, 1⟩ : St)] <+: stepsL st fo i k :=
 ⟨step3 fo i k, by rw [stepsL, step2_yes k hi, List.append_assoc]⟩
theorem steps_yes (st : List Int) {fo : List Int} (i : Nat) {k : Nat} (hk : k < fo.length) : stepsL st fo i k = step1 st fo i k ++ step2 st i k ++ [⟨i, k + 1, 0, fo[k], 1⟩] := by
 rw [stepsL, step3_yes i hk, List.append_assoc]
theorem steps_no (st : List Int) {fo : List Int} (i : Nat) {k : Nat} (hk : ¬ k < fo.length) : stepsL st fo i k = step1 st fo i k ++ step2 st i k := by
 rw [stepsL, step3_no i hk, List.append_nil]
theorem yield_bool {e : Ending} {A B C : Prop} (h : (e = .returned (.bool true) ∧ A ∧ B) ∨ (e = .returned (.bool false) ∧ C)) : ∃ b, e = .returned (.bool b) ∧ (b = true → A ∧ B) ∧ (b = false → C) := by
 rcases h with ⟨rfl, h⟩ | ⟨rfl, h⟩
 ·exact ⟨true, rfl, fun _ => h, fun h0 => by cases h0⟩
 ·exact ⟨false, rfl, fun h0 => (by cases h0), fun _ => h⟩
structure Lies (W : World) (pb xb : Nat) (id hs : Int) (st fo : List Int) (sa fa : Option Addr) (sc fc : Nat) (fv : Value) (i k : Nat) : Prop where
 p : Box W pb #[.int .i64 i, .int .i64 k] 137
 x : Box W xb #[.int .i64 id, .int .i64 hs, .slice sa st.length sc, .slice fa fo.length fc, fv] 134
 s : RdI W sa st
 f : RdI W fa fo
theorem Lies.keep {Z : Nat → Prop} {W W' : World} {pb xb : Nat} {id hs : Int} {st fo : List Int} {sa fa : Option Addr} {sc fc : Nat} {fv : Value} {i k : Nat} (h : Lies W pb xb id hs st fo sa fa sc fc fv i k) (hk : Keep Z W W')
  (hz1 : Z pb) (hz2 : Z xb) (hz3 : st ≠ [] → ∀ p, sa = some p → Z p.block) (hz4 : fo ≠ [] → ∀ p, fa = some p → Z p.block) : Lies W' pb xb id hs st fo sa fa sc fc fv i k :=
 ⟨hk.box hz1 h.p, hk.box hz2 h.x, hk.rdI hz3 h.s, hk.rdI hz4 h.f⟩
theorem Lies.below {W W' : World} {pb xb : Nat} {id hs : Int} {st fo : List Int} {sa fa : Option Addr} {sc fc : Nat} {fv : Value} {i k : Nat} (h : Lies W pb xb id hs st fo sa fa sc fc fv i k) (hk : Below W.heap.size W W') : Lies W' pb xb id hs st fo sa fa sc fc fv i k :=
 h.keep (Z := fun _ => True) (Keep.of_below hk (fun _ h _ => h)) trivial trivial (fun _ _ _ => trivial) (fun _ _ _ => trivial)
theorem step1_len (st fo : List Int) (i k : Nat) : (step1 st fo i k).length ≤ 1 := by unfold step1; split <;> simp
theorem step2_len (st : List Int) (i k : Nat) : (step2 st i k).length ≤ 1 := by unfold step2; split <;> simp
def AllCome (st fo : List Int) (i k : Nat) (ys : List (StAt st fo i k)) : Prop := ys.map (·.1) = stepsL st fo i k
def PartCome (st fo : List Int) (i k : Nat) (ys : List (StAt st fo i k)) : Prop := ys.map (·.1) <+: stepsL st fo i k
def MidS (l pb xb : Nat) (id hs : Int) (st fo : List Int) (sa fa : Option Addr) (sc fc : Nat) (fv : Value) (i k : Nat) (J : List (StAt st fo i k) → World → Prop) (L : List St) (a : Act) (w' : World) : Prop :=
 ∃ f : Nat → Value, a = ⟨((List.range 94).map f).toArray, []⟩ ∧ f 0 = .func (.yield l) #[] #[] ∧ f 1 = .pointer (some ⟨pb, 0, none⟩) ∧ f 2 = .pointer (some ⟨xb, 0, none⟩) ∧ f 4 = .bool (decide (i < st.length)) ∧ f 5 = .bool (decide (k < fo.length)) ∧ Lies w' pb xb id hs st fo sa fa sc fc fv i k ∧ ∃ pre, pre.map (·.1) = L ∧ J pre w'
theorem steps1_in (n : Nat) (l pb xb : Nat) (id hs : Int) (st fo : List Int) (sa fa : Option Addr) (sc fc : Nat) (fv : Value) (i k : Nat) (hi : i ≤ st.length) (hk : k ≤ fo.length) (hl : st.length ≤ 4000) (hl2 : fo.length ≤ 4000)
  (Z : Nat → Prop) (hz1 : Z pb) (hz2 : Z xb) (hz3 : st ≠ [] → ∀ p, sa = some p → Z p.block) (hz4 : fo ≠ [] → ∀ p, fa = some p → Z p.block) (B : Nat) (J Jx : List (StAt st fo i k) → World → Prop) (hJ : AbidesFrom B J)
  (hY : ∀ pre (x : StAt st fo i k) W, J pre W → pre.length < 3 → YieldAt Fence.wide (n - 1) Tryd.prog l #[x.1.val] W fun e W' =>
   (e = .returned (.bool true) ∧ J (pre ++ [x]) W' ∧ Keep Z W W') ∨ (e = .returned (.bool false) ∧ Jx (pre ++ [x]) W'))
  (W : World) (hL : Lies W pb xb id hs st fo sa fa sc fc fv i k) (h0 : J [] W) :
  CallsIn Fence.wide n Tryd.prog 125 #[.func (.yield l) #[] #[], .pointer (some ⟨pb, 0, none⟩), .pointer (some ⟨xb, 0, none⟩)] W fun e W' => (∃ v, e = .returned v) ∧
   ((∃ ys, AllCome st fo i k ys ∧ J ys W') ∨ (∃ pre, PartCome st fo i k pre ∧ Jx pre W')) := by
 have hm := mixedS
 have HY := hid hY; clear hY
 have HL := hid hL
 refine callsIn_of_wp Tryd.func125 rfl trivial ?_ rfl
 simp only [Tryd.ntmps125, List.size_toArray, List.length_cons, List.length_nil, Nat.reduceAdd, Nat.reduceSub, Array.replicate_succ, Array.replicate_zero, List.push_toArray, List.append_toArray, List.nil_append, List.cons_append]
 refine wpIn_cut (fun a w => ∃ f : Nat → Value, a = ⟨((List.range 94).map f).toArray, []⟩ ∧ f 0 = .func (.yield l) #[] #[] ∧ f 1 = .pointer (some ⟨pb, 0, none⟩) ∧ f 2 = .pointer (some ⟨xb, 0, none⟩) ∧ f 4 = .bool (decide (i < st.length)) ∧ f 5 = .bool (decide (k < fo.length)) ∧ Below W.heap.size W w) ?_ ?_
 ·have p0 : W.cell? ⟨pb, 0, none⟩ = some (.int .i64 i) := hL.p.cell 0
  have p1 : W.cell? ⟨pb, 1, none⟩ = some (.int .i64 k) := hL.p.cell 1
  have x2 : W.cell? ⟨xb, 2, none⟩ = some (.slice sa st.length sc) := hL.x.cell 2
  have x3 : W.cell? ⟨xb, 3, none⟩ = some (.slice fa fo.length fc) := hL.x.cell 3
  gi_big_quiet_th (fail)
  refine acts_of rfl ?_
  exact ⟨rfl, rfl, rfl, (by first | rfl | (simp [*]; done) | (simp [*]; omega) | (simp_all; done) | (simp_all; omega)), (by first | rfl | (simp [*]; done) | (simp [*]; omega) | (simp_all; done) | (simp_all; omega)), goBl⟩
 rintro a w ⟨f, rfl, f0, f1, f2, f4, f5, hb⟩
 rw [show (List.range 94).map f = [f 0, f 1, f 2, f 3, f 4, f 5, f 6, f 7, f 8, f 9, f 10, f 11, f 12, f 13, f 14, f 15, f 16, f 17, f 18, f 19, f 20, f 21, f 22, f 23, f 24, f 25, f 26, f 27, f 28, f 29, f 30, f 31, f 32, f 33, f 34, f 35, f 36, f 37, f 38, f 39, f 40, f 41, f 42, f 43, f 44, f 45, f 46, f 47, f 48, f 49, f 50, f 51, f 52, f 53, f 54, f 55, f 56, f 57, f 58, f 59, f 60, f 61, f 62, f 63, f 64, f 65, f 66, f 67, f 68, f 69, f 70, f 71, f 72, f 73, f 74, f 75, f 76, f 77, f 78, f 79, f 80, f 81, f 82, f 83, f 84, f 85, f 86, f 87, f 88, f 89, f 90, f 91, f 92, f 93] from rfl, f0, f1, f2, f4, f5]
 clear f0 f1 f2 f4 f5
 have hLw := hL.below hb
 have hJw := hJ [] W w none h0 (grown_of_below hb) (by simp)
 clear h0 hb
 -- the step by which a notch stays, or is turned
 refine wpIn_cut (MidS l pb xb id hs st fo sa fa sc fc fv i k J (step1 st fo i k)) ?_ ?_
 ·have pre0 : ¬ (i < st.length ∧ k < fo.length) → ∃ pre : List (StAt st fo i k), pre.map (·.1) = step1 st fo i k ∧ J pre w := fun h => ⟨[], by rw [step1_no h]; rfl, hJw⟩
  have PRE := hid pre0; clear pre0
  have hz3' := hid hz3; have hz4' := hid hz4; clear hz3 hz4
  by_cases hi' : i < st.length
  ·by_cases hk' : k < fo.length
   ·have HLw := hid hLw
    obtain ⟨ab, ao, rfl, ca⟩ := hLw.s i hi'
    obtain ⟨bb, bo, rfl, cb⟩ := hLw.f k hk'
    have la := cell_lt ca; have lb := cell_lt cb; have l1 := hLw.p.lt; have l2 := hLw.x.lt
    have p0 : w.cell? ⟨pb, 0, none⟩ = some (.int .i64 i) := hLw.p.cell 0
    have p1 : w.cell? ⟨pb, 1, none⟩ = some (.int .i64 k) := hLw.p.cell 1
    have x2 : w.cell? ⟨xb, 2, none⟩ = some (.slice (some ⟨ab, ao, none⟩) st.length sc) := hLw.x.cell 2
    have x3 : w.cell? ⟨xb, 3, none⟩ = some (.slice (some ⟨bb, bo, none⟩) fo.length fc) := hLw.x.cell 3
    clear hLw hL HL
    gi_wp2
    refine wpIn_region_G [1, 4, 9, 11, 13, 16, 18, 20] (fun w' => w'.cell? ⟨pb, 0, none⟩ = some (.int .i64 i) ∧ w'.cell? ⟨pb, 1, none⟩ = some (.int .i64 k) ∧ w'.cell? ⟨xb, 2, none⟩ = some (.slice (some ⟨ab, ao, none⟩) st.length sc) ∧ w'.cell? ⟨xb, 3, none⟩ = some (.slice (some ⟨bb, bo, none⟩) fo.length fc) ∧ w'.cell? ⟨ab, ao + i, none⟩ = some (.int .i64 st[i]) ∧ w'.cell? ⟨bb, bo + k, none⟩ = some (.int .i64 fo[k])) hm ⟨by go_simp, by go_simp, by go_simp, by go_simp, by go_simp, by go_simp⟩ ?_
    intro hS0; have hS := hid hS0; clear hS0
    (apply wpAnyG_pure wide_wide (i := 0) rfl (by kernel_rfl) (fun _ _ _ h => h); · first | exact .inr ⟨rfl, rfl⟩ | exact .inl ⟨rfl, fun w' => by go_simp; rfl⟩); simp only [Act.put, List.setIfInBounds_toArray, List.set_cons_succ, List.set_cons_zero, List.getElem_toArray, List.getElem_cons_succ, List.getElem_cons_zero]
    (apply wpAnyG_held wide_wide (i := 1) rfl (by kernel_rfl) (fun _ _ _ h => h) hS.out; · first | exact .inr ⟨rfl, rfl⟩ | exact .inl ⟨rfl, fun w' hS' => by (obtain ⟨s1, s2, s3, s4, s5, s6⟩ := hS'; go_simp; rfl)⟩); simp only [Act.put, List.setIfInBounds_toArray, List.set_cons_succ, List.set_cons_zero, List.getElem_toArray, List.getElem_cons_succ, List.getElem_cons_zero]
    (apply wpAnyG_pure wide_wide (i := 2) rfl (by kernel_rfl) (fun _ _ _ h => h); · first | exact .inr ⟨rfl, rfl⟩ | exact .inl ⟨rfl, fun w' => by go_simp; rfl⟩); simp only [Act.put, List.setIfInBounds_toArray, List.set_cons_succ, List.set_cons_zero, List.getElem_toArray, List.getElem_cons_succ, List.getElem_cons_zero]
    (apply wpAnyG_pure wide_wide (i := 3) rfl (by kernel_rfl) (fun _ _ _ h => h); · first | exact .inr ⟨rfl, rfl⟩ | exact .inl ⟨rfl, fun w' => by go_simp; rfl⟩); simp only [Act.put, List.setIfInBounds_toArray, List.set_cons_succ, List.set_cons_zero, List.getElem_toArray, List.getElem_cons_succ, List.getElem_cons_zero]
    (apply wpAnyG_held wide_wide (i := 4) rfl (by kernel_rfl) (fun _ _ _ h => h) hS.out; · first | exact .inr ⟨rfl, rfl⟩ | exact .inl ⟨rfl, fun w' hS' => by (obtain ⟨s1, s2, s3, s4, s5, s6⟩ := hS'; go_simp; rfl)⟩); simp only [Act.put, List.setIfInBounds_toArray, List.set_cons_succ, List.set_cons_zero, List.getElem_toArray, List.getElem_cons_succ, List.getElem_cons_zero]
    (apply wpAnyG_pure wide_wide (i := 5) rfl (by kernel_rfl) (fun _ _ _ h => h); · first | exact .inr ⟨rfl, rfl⟩ | exact .inl ⟨rfl, fun w' => by go_simp; rfl⟩); simp only [Act.put, List.setIfInBounds_toArray, List.set_cons_succ, List.set_cons_zero, List.getElem_toArray, List.getElem_cons_succ, List.getElem_cons_zero]
    (apply wpAnyG_pure wide_wide (i := 6) rfl (by kernel_rfl) (fun _ _ _ h => h); · first | exact .inr ⟨rfl, rfl⟩ | exact .inl ⟨rfl, fun w' => by go_simp; rfl⟩); simp only [Act.put, List.setIfInBounds_toArray, List.set_cons_succ, List.set_cons_zero, List.getElem_toArray, List.getElem_cons_succ, List.getElem_cons_zero]
    (apply wpAnyG_pure wide_wide (i := 7) rfl (by kernel_rfl) (fun _ _ _ h => h); · first | exact .inr ⟨rfl, rfl⟩ | exact .inl ⟨rfl, fun w' => by go_simp; rfl⟩); simp only [Act.put, List.setIfInBounds_toArray, List.set_cons_succ, List.set_cons_zero, List.getElem_toArray, List.getElem_cons_succ, List.getElem_cons_zero]
    (apply wpAnyG_pure wide_wide (i := 8) rfl (by kernel_rfl) (fun _ _ _ h => h); · first | exact .inr ⟨rfl, rfl⟩ | exact .inl ⟨rfl, fun w' => by go_simp; rfl⟩); simp only [Act.put, List.setIfInBounds_toArray, List.set_cons_succ, List.set_cons_zero, List.getElem_toArray, List.getElem_cons_succ, List.getElem_cons_zero]
    (apply wpAnyG_held wide_wide (i := 9) rfl (by kernel_rfl) (fun _ _ _ h => h) hS.out; · first | exact .inr ⟨rfl, rfl⟩ | exact .inl ⟨rfl, fun w' hS' => by (obtain ⟨s1, s2, s3, s4, s5, s6⟩ := hS'; go_simp; rfl)⟩); simp only [Act.put, List.setIfInBounds_toArray, List.set_cons_succ, List.set_cons_zero, List.getElem_toArray, List.getElem_cons_succ, List.getElem_cons_zero]
    (apply wpAnyG_pure wide_wide (i := 10) rfl (by kernel_rfl) (fun _ _ _ h => h); · first | exact .inr ⟨rfl, rfl⟩ | exact .inl ⟨rfl, fun w' => by go_simp; rfl⟩); simp only [Act.put, List.setIfInBounds_toArray, List.set_cons_succ, List.set_cons_zero, List.getElem_toArray, List.getElem_cons_succ, List.getElem_cons_zero]
    (apply wpAnyG_held wide_wide (i := 11) rfl (by kernel_rfl) (fun _ _ _ h => h) hS.out; · first | exact .inr ⟨rfl, rfl⟩ | exact .inl ⟨rfl, fun w' hS' => by (obtain ⟨s1, s2, s3, s4, s5, s6⟩ := hS'; go_simp; rfl)⟩); simp only [Act.put, List.setIfInBounds_toArray, List.set_cons_succ, List.set_cons_zero, List.getElem_toArray, List.getElem_cons_succ, List.getElem_cons_zero]
    (apply wpAnyG_pure wide_wide (i := 12) rfl (by kernel_rfl) (fun _ _ _ h => h); · first | exact .inr ⟨rfl, rfl⟩ | exact .inl ⟨rfl, fun w' => by go_simp; rfl⟩); simp only [Act.put, List.setIfInBounds_toArray, List.set_cons_succ, List.set_cons_zero, List.getElem_toArray, List.getElem_cons_succ, List.getElem_cons_zero]
    (apply wpAnyG_held wide_wide (i := 13) rfl (by kernel_rfl) (fun _ _ _ h => h) hS.out; · first | exact .inr ⟨rfl, rfl⟩ | exact .inl ⟨rfl, fun w' hS' => by (obtain ⟨s1, s2, s3, s4, s5, s6⟩ := hS'; go_simp; rfl)⟩); simp only [Act.put, List.setIfInBounds_toArray, List.set_cons_succ, List.set_cons_zero, List.getElem_toArray, List.getElem_cons_succ, List.getElem_cons_zero]
    (apply wpAnyG_pure wide_wide (i := 14) rfl (by kernel_rfl) (fun _ _ _ h => h); · first | exact .inr ⟨rfl, rfl⟩ | exact .inl ⟨rfl, fun w' => by go_simp; rfl⟩); simp only [Act.put, List.setIfInBounds_toArray, List.set_cons_succ, List.set_cons_zero, List.getElem_toArray, List.getElem_cons_succ, List.getElem_cons_zero]
    (apply wpAnyG_pure wide_wide (i := 15) rfl (by kernel_rfl) (fun _ _ _ h => h); · first | exact .inr ⟨rfl, rfl⟩ | exact .inl ⟨rfl, fun w' => by go_simp; rfl⟩); simp only [Act.put, List.setIfInBounds_toArray, List.set_cons_succ, List.set_cons_zero, List.getElem_toArray, List.getElem_cons_succ, List.getElem_cons_zero]
    (apply wpAnyG_held wide_wide (i := 16) rfl (by kernel_rfl) (fun _ _ _ h => h) hS.out; · first | exact .inr ⟨rfl, rfl⟩ | exact .inl ⟨rfl, fun w' hS' => by (obtain ⟨s1, s2, s3, s4, s5, s6⟩ := hS'; go_simp; rfl)⟩); simp only [Act.put, List.setIfInBounds_toArray, List.set_cons_succ, List.set_cons_zero, List.getElem_toArray, List.getElem_cons_succ, List.getElem_cons_zero]
    (apply wpAnyG_pure wide_wide (i := 17) rfl (by kernel_rfl) (fun _ _ _ h => h); · first | exact .inr ⟨rfl, rfl⟩ | exact .inl ⟨rfl, fun w' => by go_simp; rfl⟩); simp only [Act.put, List.setIfInBounds_toArray, List.set_cons_succ, List.set_cons_zero, List.getElem_toArray, List.getElem_cons_succ, List.getElem_cons_zero]
    (apply wpAnyG_held wide_wide (i := 18) rfl (by kernel_rfl) (fun _ _ _ h => h) hS.out; · first | exact .inr ⟨rfl, rfl⟩ | exact .inl ⟨rfl, fun w' hS' => by (obtain ⟨s1, s2, s3, s4, s5, s6⟩ := hS'; go_simp; rfl)⟩); simp only [Act.put, List.setIfInBounds_toArray, List.set_cons_succ, List.set_cons_zero, List.getElem_toArray, List.getElem_cons_succ, List.getElem_cons_zero]
    (apply wpAnyG_pure wide_wide (i := 19) rfl (by kernel_rfl) (fun _ _ _ h => h); · first | exact .inr ⟨rfl, rfl⟩ | exact .inl ⟨rfl, fun w' => by go_simp; rfl⟩); simp only [Act.put, List.setIfInBounds_toArray, List.set_cons_succ, List.set_cons_zero, List.getElem_toArray, List.getElem_cons_succ, List.getElem_cons_zero]
    (apply wpAnyG_held wide_wide (i := 20) rfl (by kernel_rfl) (fun _ _ _ h => h) hS.out; · first | exact .inr ⟨rfl, rfl⟩ | exact .inl ⟨rfl, fun w' hS' => by (obtain ⟨s1, s2, s3, s4, s5, s6⟩ := hS'; go_simp; rfl)⟩); simp only [Act.put, List.setIfInBounds_toArray, List.set_cons_succ, List.set_cons_zero, List.getElem_toArray, List.getElem_cons_succ, List.getElem_cons_zero]
    (apply wpAnyG_pure wide_wide (i := 21) rfl (by kernel_rfl) (fun _ _ _ h => h); · first | exact .inr ⟨rfl, rfl⟩ | exact .inl ⟨rfl, fun w' => by go_simp; rfl⟩); simp only [Act.put, List.setIfInBounds_toArray, List.set_cons_succ, List.set_cons_zero, List.getElem_toArray, List.getElem_cons_succ, List.getElem_cons_zero]
    refine wpAnyG_one (i := 22) rfl ⟨by kernel_rfl, by kernel_rfl⟩ ?_
    intro K hK
    go_simp
    refine shutSG hK ((fun h : Below w.heap.size w _ => ⟨(h.cell (p := ⟨pb, 0, none⟩) l1).trans p0, (h.cell (p := ⟨pb, 1, none⟩) l1).trans p1, (h.cell (p := ⟨xb, 2, none⟩) l2).trans x2, (h.cell (p := ⟨xb, 3, none⟩) l2).trans x3, (h.cell (p := ⟨ab, ao + i, none⟩) la).trans ca, (h.cell (p := ⟨bb, bo + k, none⟩) lb).trans cb⟩) goBl) (fun hS => ?_)
    clear hK K
    refine wpAnyG_one (i := 23) rfl ⟨by kernel_rfl, by kernel_rfl⟩ ?_
    intro K hK
    go_simp
    refine shutNG hK (by kernel_rfl) ?_
    clear hK K
    refine wpAnyG_done (by kernel_rfl) ?_ _
    clear hS
    refine forget (fun w2 => Box w2 w.heap.size #[.int .i64 (i + 1 : Nat), .int .i64 (k + 1 : Nat), .int .i64 st[i], .int .i64 fo[k], .int .i64 0] 142 ∧ w2.heap.size = w.heap.size + 1 ∧ Below w.heap.size w w2) ⟨?_, by simp, ?_⟩ ?_
    ·rw [wrap_succ (by omega), wrap_succ (by omega)]
     exact (Box.new _ _ _).drew
    ·exact goBl
    rintro w2 ⟨b2, z2, hb2⟩
    have g0 := b2.cell 0; have g1 := b2.cell 1; have g2 := b2.cell 2; have g3 := b2.cell 3; have g4 := b2.cell 4
    have k4 := b2.frozen 4
    have hbl := b2.lt
    simp at g0 g1 g2 g3 g4
    by_cases he : st[i] = fo[k]
    ·have hJ2 := hJ [] w w2 none hJw (grown_of_below hb2) (by simp)
     obtain ⟨fn, tmps, assign, body, hy, hR⟩ := HY.out [] ⟨_, mem_step1 hi' hk'⟩ w2 hJ2 (by simp)
     simp [St.val, he] at hy
     gi_wp2
     refine ⟨fun h => (by cases h), hR.mono ?_⟩
     rintro e w4 (⟨rfl, hJ4, hk4⟩ | ⟨rfl, hJx⟩)
     ·gi_wp2
      unfold MidS; refine acts_of rfl ?_
      exact ⟨rfl, rfl, rfl, (by first | rfl | (simp [*]; done) | (simp [*]; omega) | (simp_all; done) | (simp_all; omega)), (by first | rfl | (simp [*]; done) | (simp [*]; omega) | (simp_all; done) | (simp_all; omega)), (HLw.out.below hb2).keep hk4 hz1 hz2 hz3'.out hz4'.out, [⟨_, mem_step1 hi' hk'⟩], (step1_yes hi' hk').symm, hJ4⟩
     ·gi_wp2
      refine bodyPost_ret (results_none rfl _ _ _) rfl ?_
      exact ⟨⟨_, rfl⟩, .inr ⟨[⟨_, mem_step1 hi' hk'⟩], pre_step1 hi' hk', hJx⟩⟩
    ·have hb3 : Below w.heap.size w (w2.setCell ⟨w.heap.size, 4, none⟩ (.int .i64 1)) := hb2.setCell (p := ⟨w.heap.size, 4, none⟩) (Nat.le_refl _) _
     have hJ2 := hJ [] w _ none hJw (grown_of_below hb3) (by simp)
     obtain ⟨fn, tmps, assign, body, hy, hR⟩ := HY.out [] ⟨_, mem_step1 hi' hk'⟩ _ hJ2 (by simp)
     simp [St.val, he] at hy
     gi_wp2
     refine ⟨fun h => (by cases h), hR.mono ?_⟩
     rintro e w4 (⟨rfl, hJ4, hk4⟩ | ⟨rfl, hJx⟩)
     ·gi_wp2
      unfold MidS; refine acts_of rfl ?_
      exact ⟨rfl, rfl, rfl, (by first | rfl | (simp [*]; done) | (simp [*]; omega) | (simp_all; done) | (simp_all; omega)), (by first | rfl | (simp [*]; done) | (simp [*]; omega) | (simp_all; done) | (simp_all; omega)), (HLw.out.below hb3).keep hk4 hz1 hz2 hz3'.out hz4'.out, [⟨_, mem_step1 hi' hk'⟩], (step1_yes hi' hk').symm, hJ4⟩
     ·gi_wp2
      refine bodyPost_ret (results_none rfl _ _ _) rfl ?_
      exact ⟨⟨_, rfl⟩, .inr ⟨[⟨_, mem_step1 hi' hk'⟩], pre_step1 hi' hk', hJx⟩⟩
   ·obtain ⟨pre, hp, hj⟩ := PRE.out (fun h => hk' h.2)
    gi_wp2
    unfold MidS; refine acts_of rfl ?_
    exact ⟨rfl, rfl, rfl, (by first | rfl | (simp [*]; done) | (simp [*]; omega) | (simp_all; done) | (simp_all; omega)), (by first | rfl | (simp [*]; done) | (simp [*]; omega) | (simp_all; done) | (simp_all; omega)), hLw, pre, hp, hj⟩
  ·obtain ⟨pre, hp, hj⟩ := PRE.out (fun h => hi' h.1)
   gi_wp2
   unfold MidS; refine acts_of rfl ?_
   exact ⟨rfl, rfl, rfl, (by first | rfl | (simp [*]; done) | (simp [*]; omega) | (simp_all; done) | (simp_all; omega)), (by first | rfl | (simp [*]; done) | (simp [*]; omega) | (simp_all; done) | (simp_all; omega)), hLw, pre, hp, hj⟩
 clear hLw hJw
 rintro a w1 ⟨f, rfl, f0, f1, f2, f4, f5, hL1, pre1, hp1, hJ1⟩
 rw [show (List.range 94).map f = [f 0, f 1, f 2, f 3, f 4, f 5, f 6, f 7, f 8, f 9, f 10, f 11, f 12, f 13, f 14, f 15, f 16, f 17, f 18, f 19, f 20, f 21, f 22, f 23, f 24, f 25, f 26, f 27, f 28, f 29, f 30, f 31, f 32, f 33, f 34, f 35, f 36, f 37, f 38, f 39, f 40, f 41, f 42, f 43, f 44, f 45, f 46, f 47, f 48, f 49, f 50, f 51, f 52, f 53, f 54, f 55, f 56, f 57, f 58, f 59, f 60, f 61, f 62, f 63, f 64, f 65, f 66, f 67, f 68, f 69, f 70, f 71, f 72, f 73, f 74, f 75, f 76, f 77, f 78, f 79, f 80, f 81, f 82, f 83, f 84, f 85, f 86, f 87, f 88, f 89, f 90, f 91, f 92, f 93] from rfl, f0, f1, f2, f4, f5]
 clear f0 f1 f2 f4 f5
 have hq1 : pre1.length < 3 := by
  have := congrArg List.length hp1
  rw [List.length_map] at this
  have := step1_len st fo i k; omega
 -- the step by which one is cut off
 refine wpIn_cut (MidS l pb xb id hs st fo sa fa sc fc fv i k J (step1 st fo i k ++ step2 st i k)) ?_ ?_
 ·have hz3' := hid hz3; have hz4' := hid hz4; clear hz3 hz4
  have HP1 := hid hp1; clear hp1
  have HLw := hid hL1
  by_cases hi' : i < st.length
  ·obtain ⟨ab, ao, rfl, ca⟩ := hL1.s i hi'
   have la := cell_lt ca; have l1 := hL1.p.lt; have l2 := hL1.x.lt
   have p0 : w1.cell? ⟨pb, 0, none⟩ = some (.int .i64 i) := hL1.p.cell 0
   have p1 : w1.cell? ⟨pb, 1, none⟩ = some (.int .i64 k) := hL1.p.cell 1
   have x2 : w1.cell? ⟨xb, 2, none⟩ = some (.slice (some ⟨ab, ao, none⟩) st.length sc) := hL1.x.cell 2
   clear hL1
   gi_wp2
   refine wpIn_region_G [4, 7, 11, 13, 15] (fun w' => w'.cell? ⟨pb, 0, none⟩ = some (.int .i64 i) ∧ w'.cell? ⟨pb, 1, none⟩ = some (.int .i64 k) ∧ w'.cell? ⟨xb, 2, none⟩ = some (.slice (some ⟨ab, ao, none⟩) st.length sc) ∧ w'.cell? ⟨ab, ao + i, none⟩ = some (.int .i64 st[i])) hm ⟨by go_simp, by go_simp, by go_simp, by go_simp⟩ ?_
   intro hS0; have hS := hid hS0; clear hS0
   (apply wpAnyG_pure wide_wide (i := 0) rfl (by kernel_rfl) (fun _ _ _ h => h); · first | exact .inr ⟨rfl, rfl⟩ | exact .inl ⟨rfl, fun w' => by go_simp; rfl⟩); simp only [Act.put, List.setIfInBounds_toArray, List.set_cons_succ, List.set_cons_zero, List.getElem_toArray, List.getElem_cons_succ, List.getElem_cons_zero]
   (apply wpAnyG_pure wide_wide (i := 1) rfl (by kernel_rfl) (fun _ _ _ h => h); · first | exact .inr ⟨rfl, rfl⟩ | exact .inl ⟨rfl, fun w' => by go_simp; rfl⟩); simp only [Act.put, List.setIfInBounds_toArray, List.set_cons_succ, List.set_cons_zero, List.getElem_toArray, List.getElem_cons_succ, List.getElem_cons_zero]
   (apply wpAnyG_pure wide_wide (i := 2) rfl (by kernel_rfl) (fun _ _ _ h => h); · first | exact .inr ⟨rfl, rfl⟩ | exact .inl ⟨rfl, fun w' => by go_simp; rfl⟩); simp only [Act.put, List.setIfInBounds_toArray, List.set_cons_succ, List.set_cons_zero, List.getElem_toArray, List.getElem_cons_succ, List.getElem_cons_zero]
   (apply wpAnyG_pure wide_wide (i := 3) rfl (by kernel_rfl) (fun _ _ _ h => h); · first | exact .inr ⟨rfl, rfl⟩ | exact .inl ⟨rfl, fun w' => by go_simp; rfl⟩); simp only [Act.put, List.setIfInBounds_toArray, List.set_cons_succ, List.set_cons_zero, List.getElem_toArray, List.getElem_cons_succ, List.getElem_cons_zero]
   (apply wpAnyG_held wide_wide (i := 4) rfl (by kernel_rfl) (fun _ _ _ h => h) hS.out; · first | exact .inr ⟨rfl, rfl⟩ | exact .inl ⟨rfl, fun w' hS' => by (obtain ⟨s1, s2, s3, s4⟩ := hS'; go_simp; rfl)⟩); simp only [Act.put, List.setIfInBounds_toArray, List.set_cons_succ, List.set_cons_zero, List.getElem_toArray, List.getElem_cons_succ, List.getElem_cons_zero]
   (apply wpAnyG_pure wide_wide (i := 5) rfl (by kernel_rfl) (fun _ _ _ h => h); · first | exact .inr ⟨rfl, rfl⟩ | exact .inl ⟨rfl, fun w' => by go_simp; rfl⟩); simp only [Act.put, List.setIfInBounds_toArray, List.set_cons_succ, List.set_cons_zero, List.getElem_toArray, List.getElem_cons_succ, List.getElem_cons_zero]
   (apply wpAnyG_pure wide_wide (i := 6) rfl (by kernel_rfl) (fun _ _ _ h => h); · first | exact .inr ⟨rfl, rfl⟩ | exact .inl ⟨rfl, fun w' => by go_simp; rfl⟩); simp only [Act.put, List.setIfInBounds_toArray, List.set_cons_succ, List.set_cons_zero, List.getElem_toArray, List.getElem_cons_succ, List.getElem_cons_zero]
   (apply wpAnyG_held wide_wide (i := 7) rfl (by kernel_rfl) (fun _ _ _ h => h) hS.out; · first | exact .inr ⟨rfl, rfl⟩ | exact .inl ⟨rfl, fun w' hS' => by (obtain ⟨s1, s2, s3, s4⟩ := hS'; go_simp; rfl)⟩); simp only [Act.put, List.setIfInBounds_toArray, List.set_cons_succ, List.set_cons_zero, List.getElem_toArray, List.getElem_cons_succ, List.getElem_cons_zero]
   (apply wpAnyG_pure wide_wide (i := 8) rfl (by kernel_rfl) (fun _ _ _ h => h); · first | exact .inr ⟨rfl, rfl⟩ | exact .inl ⟨rfl, fun w' => by go_simp; rfl⟩); simp only [Act.put, List.setIfInBounds_toArray, List.set_cons_succ, List.set_cons_zero, List.getElem_toArray, List.getElem_cons_succ, List.getElem_cons_zero]
   (apply wpAnyG_pure wide_wide (i := 9) rfl (by kernel_rfl) (fun _ _ _ h => h); · first | exact .inr ⟨rfl, rfl⟩ | exact .inl ⟨rfl, fun w' => by go_simp; rfl⟩); simp only [Act.put, List.setIfInBounds_toArray, List.set_cons_succ, List.set_cons_zero, List.getElem_toArray, List.getElem_cons_succ, List.getElem_cons_zero]
   (apply wpAnyG_pure wide_wide (i := 10) rfl (by kernel_rfl) (fun _ _ _ h => h); · first | exact .inr ⟨rfl, rfl⟩ | exact .inl ⟨rfl, fun w' => by go_simp; rfl⟩); simp only [Act.put, List.setIfInBounds_toArray, List.set_cons_succ, List.set_cons_zero, List.getElem_toArray, List.getElem_cons_succ, List.getElem_cons_zero]
   (apply wpAnyG_held wide_wide (i := 11) rfl (by kernel_rfl) (fun _ _ _ h => h) hS.out; · first | exact .inr ⟨rfl, rfl⟩ | exact .inl ⟨rfl, fun w' hS' => by (obtain ⟨s1, s2, s3, s4⟩ := hS'; go_simp; rfl)⟩); simp only [Act.put, List.setIfInBounds_toArray, List.set_cons_succ, List.set_cons_zero, List.getElem_toArray, List.getElem_cons_succ, List.getElem_cons_zero]
   (apply wpAnyG_pure wide_wide (i := 12) rfl (by kernel_rfl) (fun _ _ _ h => h); · first | exact .inr ⟨rfl, rfl⟩ | exact .inl ⟨rfl, fun w' => by go_simp; rfl⟩); simp only [Act.put, List.setIfInBounds_toArray, List.set_cons_succ, List.set_cons_zero, List.getElem_toArray, List.getElem_cons_succ, List.getElem_cons_zero]
   (apply wpAnyG_held wide_wide (i := 13) rfl (by kernel_rfl) (fun _ _ _ h => h) hS.out; · first | exact .inr ⟨rfl, rfl⟩ | exact .inl ⟨rfl, fun w' hS' => by (obtain ⟨s1, s2, s3, s4⟩ := hS'; go_simp; rfl)⟩); simp only [Act.put, List.setIfInBounds_toArray, List.set_cons_succ, List.set_cons_zero, List.getElem_toArray, List.getElem_cons_succ, List.getElem_cons_zero]
   (apply wpAnyG_pure wide_wide (i := 14) rfl (by kernel_rfl) (fun _ _ _ h => h); · first | exact .inr ⟨rfl, rfl⟩ | exact .inl ⟨rfl, fun w' => by go_simp; rfl⟩); simp only [Act.put, List.setIfInBounds_toArray, List.set_cons_succ, List.set_cons_zero, List.getElem_toArray, List.getElem_cons_succ, List.getElem_cons_zero]
   (apply wpAnyG_held wide_wide (i := 15) rfl (by kernel_rfl) (fun _ _ _ h => h) hS.out; · first | exact .inr ⟨rfl, rfl⟩ | exact .inl ⟨rfl, fun w' hS' => by (obtain ⟨s1, s2, s3, s4⟩ := hS'; go_simp; rfl)⟩); simp only [Act.put, List.setIfInBounds_toArray, List.set_cons_succ, List.set_cons_zero, List.getElem_toArray, List.getElem_cons_succ, List.getElem_cons_zero]
   (apply wpAnyG_pure wide_wide (i := 16) rfl (by kernel_rfl) (fun _ _ _ h => h); · first | exact .inr ⟨rfl, rfl⟩ | exact .inl ⟨rfl, fun w' => by go_simp; rfl⟩); simp only [Act.put, List.setIfInBounds_toArray, List.set_cons_succ, List.set_cons_zero, List.getElem_toArray, List.getElem_cons_succ, List.getElem_cons_zero]
   refine wpAnyG_one (i := 17) rfl ⟨by kernel_rfl, by kernel_rfl⟩ ?_
   intro K hK
   have hJ2 := hJ pre1 w1 w1.drew none hJ1 (grown_of_below (Below.drew (Below.refl _ _))) (by simp)
   obtain ⟨fn, tmps, assign, body, hy, hR⟩ := HY.out pre1 ⟨_, mem_step2 fo k hi'⟩ _ hJ2 hq1
   simp [St.val] at hy
   have hw := wrap_succ (i := i) (by omega)
   simp only [Int.natCast_add, Int.cast_ofNat_Int] at hw
   go_simp
   refine ⟨fun h => (by cases h), hR.mono ?_⟩
   intro e w4 hd
   obtain ⟨b, rfl, ht, hf⟩ := yield_bool hd
   clear hd
   refine shutNG hK (by kernel_rfl) ?_
   clear hK K
   (apply wpAnyG_pure wide_wide (i := 18) rfl (by kernel_rfl) (fun _ _ _ h => h); · first | exact .inr ⟨rfl, rfl⟩ | exact .inl ⟨rfl, fun w' => by go_simp; rfl⟩); simp only [Act.put, List.setIfInBounds_toArray, List.set_cons_succ, List.set_cons_zero, List.getElem_toArray, List.getElem_cons_succ, List.getElem_cons_zero]
   (apply wpAnyG_pure wide_wide (i := 19) rfl (by kernel_rfl) (fun _ _ _ h => h); · first | exact .inr ⟨rfl, rfl⟩ | exact .inl ⟨rfl, fun w' => by go_simp; rfl⟩); simp only [Act.put, List.setIfInBounds_toArray, List.set_cons_succ, List.set_cons_zero, List.getElem_toArray, List.getElem_cons_succ, List.getElem_cons_zero]
   refine wpAnyG_done (by kernel_rfl) ?_ _
   cases b with
   | true =>
    obtain ⟨hJ4, hk4⟩ := ht rfl
    gi_wp2
    unfold MidS; refine acts_of rfl ?_
    exact ⟨rfl, rfl, rfl, (by first | rfl | (simp [*]; done) | (simp [*]; omega) | (simp_all; done) | (simp_all; omega)), (by first | rfl | (simp [*]; done) | (simp [*]; omega) | (simp_all; done) | (simp_all; omega)), (HLw.out.below (Below.drew (Below.refl _ _))).keep hk4 hz1 hz2 hz3'.out hz4'.out, pre1 ++ [⟨_, mem_step2 fo k hi'⟩], by rw [List.map_append, HP1.out, step2_yes k hi']; rfl, hJ4⟩
   | false =>
    have hJx := hf rfl
    gi_wp2
    refine bodyPost_ret (results_none rfl _ _ _) rfl ?_
    exact ⟨⟨_, rfl⟩, .inr ⟨pre1 ++ [⟨_, mem_step2 fo k hi'⟩], by unfold PartCome; rw [List.map_append, HP1.out]; exact pre_step2 fo k hi', hJx⟩⟩
  ·gi_wp2
   refine wpIn_region_G [4, 7, 11, 13, 15] (fun _ => True) hm trivial ?_
   intro hS0; have hS := hid hS0; clear hS0
   (apply wpAnyG_pure wide_wide (i := 0) rfl (by kernel_rfl) (fun _ _ _ h => h); · first | exact .inr ⟨rfl, rfl⟩ | exact .inl ⟨rfl, fun w' => by go_simp; rfl⟩); simp only [Act.put, List.setIfInBounds_toArray, List.set_cons_succ, List.set_cons_zero, List.getElem_toArray, List.getElem_cons_succ, List.getElem_cons_zero]
   (apply wpAnyG_pure wide_wide (i := 1) rfl (by kernel_rfl) (fun _ _ _ h => h); · first | exact .inr ⟨rfl, rfl⟩ | exact .inl ⟨rfl, fun w' => by go_simp; rfl⟩); simp only [Act.put, List.setIfInBounds_toArray, List.set_cons_succ, List.set_cons_zero, List.getElem_toArray, List.getElem_cons_succ, List.getElem_cons_zero]
   (apply wpAnyG_pure wide_wide (i := 2) rfl (by kernel_rfl) (fun _ _ _ h => h); · first | exact .inr ⟨rfl, rfl⟩ | exact .inl ⟨rfl, fun w' => by go_simp; rfl⟩); simp only [Act.put, List.setIfInBounds_toArray, List.set_cons_succ, List.set_cons_zero, List.getElem_toArray, List.getElem_cons_succ, List.getElem_cons_zero]
   (apply wpAnyG_pure wide_wide (i := 3) rfl (by kernel_rfl) (fun _ _ _ h => h); · first | exact .inr ⟨rfl, rfl⟩ | exact .inl ⟨rfl, fun w' => by go_simp; rfl⟩); simp only [Act.put, List.setIfInBounds_toArray, List.set_cons_succ, List.set_cons_zero, List.getElem_toArray, List.getElem_cons_succ, List.getElem_cons_zero]
   (apply wpAnyG_held wide_wide (i := 4) rfl (by kernel_rfl) (fun _ _ _ h => h) hS.out; · first | exact .inr ⟨rfl, rfl⟩ | exact .inl ⟨rfl, fun w' hS' => by (obtain s1 := hS'; go_simp; rfl)⟩); simp only [Act.put, List.setIfInBounds_toArray, List.set_cons_succ, List.set_cons_zero, List.getElem_toArray, List.getElem_cons_succ, List.getElem_cons_zero]
   (apply wpAnyG_pure wide_wide (i := 5) rfl (by kernel_rfl) (fun _ _ _ h => h); · first | exact .inr ⟨rfl, rfl⟩ | exact .inl ⟨rfl, fun w' => by go_simp; rfl⟩); simp only [Act.put, List.setIfInBounds_toArray, List.set_cons_succ, List.set_cons_zero, List.getElem_toArray, List.getElem_cons_succ, List.getElem_cons_zero]
   (apply wpAnyG_pure wide_wide (i := 6) rfl (by kernel_rfl) (fun _ _ _ h => h); · first | exact .inr ⟨rfl, rfl⟩ | exact .inl ⟨rfl, fun w' => by go_simp; rfl⟩); simp only [Act.put, List.setIfInBounds_toArray, List.set_cons_succ, List.set_cons_zero, List.getElem_toArray, List.getElem_cons_succ, List.getElem_cons_zero]
   (apply wpAnyG_held wide_wide (i := 7) rfl (by kernel_rfl) (fun _ _ _ h => h) hS.out; · first | exact .inr ⟨rfl, rfl⟩ | exact .inl ⟨rfl, fun w' hS' => by (obtain s1 := hS'; go_simp; rfl)⟩); simp only [Act.put, List.setIfInBounds_toArray, List.set_cons_succ, List.set_cons_zero, List.getElem_toArray, List.getElem_cons_succ, List.getElem_cons_zero]
   (apply wpAnyG_pure wide_wide (i := 8) rfl (by kernel_rfl) (fun _ _ _ h => h); · first | exact .inr ⟨rfl, rfl⟩ | exact .inl ⟨rfl, fun w' => by go_simp; rfl⟩); simp only [Act.put, List.setIfInBounds_toArray, List.set_cons_succ, List.set_cons_zero, List.getElem_toArray, List.getElem_cons_succ, List.getElem_cons_zero]
   (apply wpAnyG_pure wide_wide (i := 9) rfl (by kernel_rfl) (fun _ _ _ h => h); · first | exact .inr ⟨rfl, rfl⟩ | exact .inl ⟨rfl, fun w' => by go_simp; rfl⟩); simp only [Act.put, List.setIfInBounds_toArray, List.set_cons_succ, List.set_cons_zero, List.getElem_toArray, List.getElem_cons_succ, List.getElem_cons_zero]
   (apply wpAnyG_pure wide_wide (i := 10) rfl (by kernel_rfl) (fun _ _ _ h => h); · first | exact .inr ⟨rfl, rfl⟩ | exact .inl ⟨rfl, fun w' => by go_simp; rfl⟩); simp only [Act.put, List.setIfInBounds_toArray, List.set_cons_succ, List.set_cons_zero, List.getElem_toArray, List.getElem_cons_succ, List.getElem_cons_zero]
   (apply wpAnyG_held wide_wide (i := 11) rfl (by kernel_rfl) (fun _ _ _ h => h) hS.out; · first | exact .inr ⟨rfl, rfl⟩ | exact .inl ⟨rfl, fun w' hS' => by (obtain s1 := hS'; go_simp; rfl)⟩); simp only [Act.put, List.setIfInBounds_toArray, List.set_cons_succ, List.set_cons_zero, List.getElem_toArray, List.getElem_cons_succ, List.getElem_cons_zero]
   (apply wpAnyG_pure wide_wide (i := 12) rfl (by kernel_rfl) (fun _ _ _ h => h); · first | exact .inr ⟨rfl, rfl⟩ | exact .inl ⟨rfl, fun w' => by go_simp; rfl⟩); simp only [Act.put, List.setIfInBounds_toArray, List.set_cons_succ, List.set_cons_zero, List.getElem_toArray, List.getElem_cons_succ, List.getElem_cons_zero]
   (apply wpAnyG_held wide_wide (i := 13) rfl (by kernel_rfl) (fun _ _ _ h => h) hS.out; · first | exact .inr ⟨rfl, rfl⟩ | exact .inl ⟨rfl, fun w' hS' => by (obtain s1 := hS'; go_simp; rfl)⟩); simp only [Act.put, List.setIfInBounds_toArray, List.set_cons_succ, List.set_cons_zero, List.getElem_toArray, List.getElem_cons_succ, List.getElem_cons_zero]
   (apply wpAnyG_pure wide_wide (i := 14) rfl (by kernel_rfl) (fun _ _ _ h => h); · first | exact .inr ⟨rfl, rfl⟩ | exact .inl ⟨rfl, fun w' => by go_simp; rfl⟩); simp only [Act.put, List.setIfInBounds_toArray, List.set_cons_succ, List.set_cons_zero, List.getElem_toArray, List.getElem_cons_succ, List.getElem_cons_zero]
   (apply wpAnyG_held wide_wide (i := 15) rfl (by kernel_rfl) (fun _ _ _ h => h) hS.out; · first | exact .inr ⟨rfl, rfl⟩ | exact .inl ⟨rfl, fun w' hS' => by (obtain s1 := hS'; go_simp; rfl)⟩); simp only [Act.put, List.setIfInBounds_toArray, List.set_cons_succ, List.set_cons_zero, List.getElem_toArray, List.getElem_cons_succ, List.getElem_cons_zero]
   (apply wpAnyG_pure wide_wide (i := 16) rfl (by kernel_rfl) (fun _ _ _ h => h); · first | exact .inr ⟨rfl, rfl⟩ | exact .inl ⟨rfl, fun w' => by go_simp; rfl⟩); simp only [Act.put, List.setIfInBounds_toArray, List.set_cons_succ, List.set_cons_zero, List.getElem_toArray, List.getElem_cons_succ, List.getElem_cons_zero]
   refine wpAnyG_one (i := 17) rfl ⟨by kernel_rfl, by kernel_rfl⟩ ?_
   intro K hK
   go_simp
   refine ⟨fun _ _ => trivial, ?_⟩
   refine shutNG hK (by kernel_rfl) ?_
   clear hK K
   (apply wpAnyG_pure wide_wide (i := 18) rfl (by kernel_rfl) (fun _ _ _ h => h); · first | exact .inr ⟨rfl, rfl⟩ | exact .inl ⟨rfl, fun w' => by go_simp; rfl⟩); simp only [Act.put, List.setIfInBounds_toArray, List.set_cons_succ, List.set_cons_zero, List.getElem_toArray, List.getElem_cons_succ, List.getElem_cons_zero]
   (apply wpAnyG_pure wide_wide (i := 19) rfl (by kernel_rfl) (fun _ _ _ h => h); · first | exact .inr ⟨rfl, rfl⟩ | exact .inl ⟨rfl, fun w' => by go_simp; rfl⟩); simp only [Act.put, List.setIfInBounds_toArray, List.set_cons_succ, List.set_cons_zero, List.getElem_toArray, List.getElem_cons_succ, List.getElem_cons_zero]
   refine wpAnyG_done (by kernel_rfl) ?_ _
   gi_wp2
   unfold MidS; refine acts_of rfl ?_
   exact ⟨rfl, rfl, rfl, (by first | rfl | (simp [*]; done) | (simp [*]; omega) | (simp_all; done) | (simp_all; omega)), (by first | rfl | (simp [*]; done) | (simp [*]; omega) | (simp_all; done) | (simp_all; omega)), HLw.out.below goBl, pre1, by rw [HP1.out, step2_no k hi', List.append_nil], hJ pre1 w1 _ none hJ1 (grown_of_below goBl) (by simp)⟩
 clear hL1 hJ1 hp1 hq1 pre1
 rintro a w2 ⟨f, rfl, f0, f1, f2, f4, f5, hL2, pre2, hp2, hJ2⟩
 rw [show (List.range 94).map f = [f 0, f 1, f 2, f 3, f 4, f 5, f 6, f 7, f 8, f 9, f 10, f 11, f 12, f 13, f 14, f 15, f 16, f 17, f 18, f 19, f 20, f 21, f 22, f 23, f 24, f 25, f 26, f 27, f 28, f 29, f 30, f 31, f 32, f 33, f 34, f 35, f 36, f 37, f 38, f 39, f 40, f 41, f 42, f 43, f 44, f 45, f 46, f 47, f 48, f 49, f 50, f 51, f 52, f 53, f 54, f 55, f 56, f 57, f 58, f 59, f 60, f 61, f 62, f 63, f 64, f 65, f 66, f 67, f 68, f 69, f 70, f 71, f 72, f 73, f 74, f 75, f 76, f 77, f 78, f 79, f 80, f 81, f 82, f 83, f 84, f 85, f 86, f 87, f 88, f 89, f 90, f 91, f 92, f 93] from rfl, f0, f1, f2, f4, f5]
 clear f0 f1 f2 f4 f5
 have hq2 : pre2.length < 3 := by
  have := congrArg List.length hp2
  rw [List.length_map, List.length_append] at this
  have := step1_len st fo i k; have := step2_len st i k; omega
 -- the step by which one is added
 have hz3' := hid hz3; have hz4' := hid hz4; clear hz3 hz4
 have HP2 := hid hp2; clear hp2
 by_cases hk' : k < fo.length
 ·obtain ⟨bb, bo, rfl, cb⟩ := hL2.f k hk'
  have lb := cell_lt cb; have l1 := hL2.p.lt; have l2 := hL2.x.lt
  have p0 : w2.cell? ⟨pb, 0, none⟩ = some (.int .i64 i) := hL2.p.cell 0
  have p1 : w2.cell? ⟨pb, 1, none⟩ = some (.int .i64 k) := hL2.p.cell 1
  have x3 : w2.cell? ⟨xb, 3, none⟩ = some (.slice (some ⟨bb, bo, none⟩) fo.length fc) := hL2.x.cell 3
  clear hL2
  gi_wp2
  refine wpIn_region_G [2, 4, 9, 11, 13] (fun w' => w'.cell? ⟨pb, 0, none⟩ = some (.int .i64 i) ∧ w'.cell? ⟨pb, 1, none⟩ = some (.int .i64 k) ∧ w'.cell? ⟨xb, 3, none⟩ = some (.slice (some ⟨bb, bo, none⟩) fo.length fc) ∧ w'.cell? ⟨bb, bo + k, none⟩ = some (.int .i64 fo[k])) hm ⟨by go_simp, by go_simp, by go_simp, by go_simp⟩ ?_
  intro hS0; have hS := hid hS0; clear hS0
  (apply wpAnyG_pure wide_wide (i := 0) rfl (by kernel_rfl) (fun _ _ _ h => h); · first | exact .inr ⟨rfl, rfl⟩ | exact .inl ⟨rfl, fun w' => by go_simp; rfl⟩); simp only [Act.put, List.setIfInBounds_toArray, List.set_cons_succ, List.set_cons_zero, List.getElem_toArray, List.getElem_cons_succ, List.getElem_cons_zero]
  (apply wpAnyG_pure wide_wide (i := 1) rfl (by kernel_rfl) (fun _ _ _ h => h); · first | exact .inr ⟨rfl, rfl⟩ | exact .inl ⟨rfl, fun w' => by go_simp; rfl⟩); simp only [Act.put, List.setIfInBounds_toArray, List.set_cons_succ, List.set_cons_zero, List.getElem_toArray, List.getElem_cons_succ, List.getElem_cons_zero]
  (apply wpAnyG_held wide_wide (i := 2) rfl (by kernel_rfl) (fun _ _ _ h => h) hS.out; · first | exact .inr ⟨rfl, rfl⟩ | exact .inl ⟨rfl, fun w' hS' => by (obtain ⟨s1, s2, s3, s4⟩ := hS'; go_simp; rfl)⟩); simp only [Act.put, List.setIfInBounds_toArray, List.set_cons_succ, List.set_cons_zero, List.getElem_toArray, List.getElem_cons_succ, List.getElem_cons_zero]
  (apply wpAnyG_pure wide_wide (i := 3) rfl (by kernel_rfl) (fun _ _ _ h => h); · first | exact .inr ⟨rfl, rfl⟩ | exact .inl ⟨rfl, fun w' => by go_simp; rfl⟩); simp only [Act.put, List.setIfInBounds_toArray, List.set_cons_succ, List.set_cons_zero, List.getElem_toArray, List.getElem_cons_succ, List.getElem_cons_zero]
  (apply wpAnyG_held wide_wide (i := 4) rfl (by kernel_rfl) (fun _ _ _ h => h) hS.out; · first | exact .inr ⟨rfl, rfl⟩ | exact .inl ⟨rfl, fun w' hS' => by (obtain ⟨s1, s2, s3, s4⟩ := hS'; go_simp; rfl)⟩); simp only [Act.put, List.setIfInBounds_toArray, List.set_cons_succ, List.set_cons_zero, List.getElem_toArray, List.getElem_cons_succ, List.getElem_cons_zero]
  (apply wpAnyG_pure wide_wide (i := 5) rfl (by kernel_rfl) (fun _ _ _ h => h); · first | exact .inr ⟨rfl, rfl⟩ | exact .inl ⟨rfl, fun w' => by go_simp; rfl⟩); simp only [Act.put, List.setIfInBounds_toArray, List.set_cons_succ, List.set_cons_zero, List.getElem_toArray, List.getElem_cons_succ, List.getElem_cons_zero]
  (apply wpAnyG_pure wide_wide (i := 6) rfl (by kernel_rfl) (fun _ _ _ h => h); · first | exact .inr ⟨rfl, rfl⟩ | exact .inl ⟨rfl, fun w' => by go_simp; rfl⟩); simp only [Act.put, List.setIfInBounds_toArray, List.set_cons_succ, List.set_cons_zero, List.getElem_toArray, List.getElem_cons_succ, List.getElem_cons_zero]
  (apply wpAnyG_pure wide_wide (i := 7) rfl (by kernel_rfl) (fun _ _ _ h => h); · first | exact .inr ⟨rfl, rfl⟩ | exact .inl ⟨rfl, fun w' => by go_simp; rfl⟩); simp only [Act.put, List.setIfInBounds_toArray, List.set_cons_succ, List.set_cons_zero, List.getElem_toArray, List.getElem_cons_succ, List.getElem_cons_zero]
  (apply wpAnyG_pure wide_wide (i := 8) rfl (by kernel_rfl) (fun _ _ _ h => h); · first | exact .inr ⟨rfl, rfl⟩ | exact .inl ⟨rfl, fun w' => by go_simp; rfl⟩); simp only [Act.put, List.setIfInBounds_toArray, List.set_cons_succ, List.set_cons_zero, List.getElem_toArray, List.getElem_cons_succ, List.getElem_cons_zero]
  (apply wpAnyG_held wide_wide (i := 9) rfl (by kernel_rfl) (fun _ _ _ h => h) hS.out; · first | exact .inr ⟨rfl, rfl⟩ | exact .inl ⟨rfl, fun w' hS' => by (obtain ⟨s1, s2, s3, s4⟩ := hS'; go_simp; rfl)⟩); simp only [Act.put, List.setIfInBounds_toArray, List.set_cons_succ, List.set_cons_zero, List.getElem_toArray, List.getElem_cons_succ, List.getElem_cons_zero]
  (apply wpAnyG_pure wide_wide (i := 10) rfl (by kernel_rfl) (fun _ _ _ h => h); · first | exact .inr ⟨rfl, rfl⟩ | exact .inl ⟨rfl, fun w' => by go_simp; rfl⟩); simp only [Act.put, List.setIfInBounds_toArray, List.set_cons_succ, List.set_cons_zero, List.getElem_toArray, List.getElem_cons_succ, List.getElem_cons_zero]
  (apply wpAnyG_held wide_wide (i := 11) rfl (by kernel_rfl) (fun _ _ _ h => h) hS.out; · first | exact .inr ⟨rfl, rfl⟩ | exact .inl ⟨rfl, fun w' hS' => by (obtain ⟨s1, s2, s3, s4⟩ := hS'; go_simp; rfl)⟩); simp only [Act.put, List.setIfInBounds_toArray, List.set_cons_succ, List.set_cons_zero, List.getElem_toArray, List.getElem_cons_succ, List.getElem_cons_zero]
  (apply wpAnyG_pure wide_wide (i := 12) rfl (by kernel_rfl) (fun _ _ _ h => h); · first | exact .inr ⟨rfl, rfl⟩ | exact .inl ⟨rfl, fun w' => by go_simp; rfl⟩); simp only [Act.put, List.setIfInBounds_toArray, List.set_cons_succ, List.set_cons_zero, List.getElem_toArray, List.getElem_cons_succ, List.getElem_cons_zero]
  (apply wpAnyG_held wide_wide (i := 13) rfl (by kernel_rfl) (fun _ _ _ h => h) hS.out; · first | exact .inr ⟨rfl, rfl⟩ | exact .inl ⟨rfl, fun w' hS' => by (obtain ⟨s1, s2, s3, s4⟩ := hS'; go_simp; rfl)⟩); simp only [Act.put, List.setIfInBounds_toArray, List.set_cons_succ, List.set_cons_zero, List.getElem_toArray, List.getElem_cons_succ, List.getElem_cons_zero]
  (apply wpAnyG_pure wide_wide (i := 14) rfl (by kernel_rfl) (fun _ _ _ h => h); · first | exact .inr ⟨rfl, rfl⟩ | exact .inl ⟨rfl, fun w' => by go_simp; rfl⟩); simp only [Act.put, List.setIfInBounds_toArray, List.set_cons_succ, List.set_cons_zero, List.getElem_toArray, List.getElem_cons_succ, List.getElem_cons_zero]
  refine wpAnyG_one (i := 15) rfl ⟨by kernel_rfl, by kernel_rfl⟩ ?_
  intro K hK
  have hJ3 := hJ pre2 w2 w2.drew none hJ2 (grown_of_below (Below.drew (Below.refl _ _))) (by simp)
  obtain ⟨fn, tmps, assign, body, hy, hR⟩ := HY.out pre2 ⟨_, mem_step3 st i hk'⟩ _ hJ3 hq2
  simp [St.val] at hy
  have hw := wrap_succ (i := k) (by omega)
  simp only [Int.natCast_add, Int.cast_ofNat_Int] at hw
  go_simp
  refine ⟨fun h => (by cases h), hR.mono ?_⟩
  intro e w4 hd
  obtain ⟨b, rfl, ht, hf⟩ := yield_bool hd
  clear hd
  refine shutNG hK (by kernel_rfl) ?_
  clear hK K
  refine wpAnyG_done (by kernel_rfl) ?_ _
  refine bodyPost_end (results_none rfl _ _ _) rfl ?_
  cases b with
  | true => exact ⟨⟨_, rfl⟩, .inl ⟨pre2 ++ [⟨_, mem_step3 st i hk'⟩], by unfold AllCome; rw [List.map_append, HP2.out]; exact (steps_yes st i hk').symm, (ht rfl).1⟩⟩
  | false => exact ⟨⟨_, rfl⟩, .inr ⟨pre2 ++ [⟨_, mem_step3 st i hk'⟩], by unfold PartCome; rw [List.map_append, HP2.out]; exact ⟨[], by rw [List.append_nil]; exact (steps_yes st i hk').symm⟩, hf rfl⟩⟩
 ·gi_wp2
  go_end0
  exact ⟨⟨_, rfl⟩, .inl ⟨pre2, by unfold AllCome; rw [HP2.out]; exact (steps_no st i hk').symm, hJ2⟩⟩
theorem steps1_stops (n : Nat) (pb xb : Nat) (id hs : Int) (st fo : List Int) (sa fa : Option Addr) (sc fc : Nat) (fv : Value) (i k : Nat) (hi : i ≤ st.length) (hk : k ≤ fo.length) (hl : st.length ≤ 4000) (hl2 : fo.length ≤ 4000)
  (Z : Nat → Prop) (hz1 : Z pb) (hz2 : Z xb) (hz3 : st ≠ [] → ∀ p, sa = some p → Z p.block) (hz4 : fo ≠ [] → ∀ p, fa = some p → Z p.block) (w : World) (hL : Lies w pb xb id hs st fo sa fa sc fc fv i k) :
  SeqStopsK Fence.wide n Tryd.prog 125 #[.pointer (some ⟨pb, 0, none⟩), .pointer (some ⟨xb, 0, none⟩)] (fun x : StAt st fo i k => #[x.1.val]) (Keep Z) (AllCome st fo i k) (PartCome st fo i k) 3 w :=
 fun l J Jx W hW hJ _ hY h0 => steps1_in n l pb xb id hs st fo sa fa sc fc fv i k hi hk hl hl2 Z hz1 hz2 hz3 hz4 W.heap.size J Jx hJ hY W (hL.below hW) h0
attribute [local go_sem] Oper.semAt_some
def dd (st fo : List Int) (i k : Nat) : Nat := dist (st.drop i) (fo.drop k)
theorem dd_le (st fo : List Int) (i k : Nat) (hl : st.length ≤ 2000) (hl2 : fo.length ≤ 2000) : dd st fo i k ≤ 4000 := by
 have := dist_le (st.drop i) (fo.drop k)
 simp only [List.length_drop] at this
 unfold dd
 omega
def lst (d : Nat → Nat → Nat) (pre : List St) : Int := pre.foldl (fun m x => if m < 0 ∨ x.wr + d x.i x.k < m then x.wr + d x.i x.k else m) (-1)
theorem lst_snoc (d : Nat → Nat → Nat) (pre : List St) (x : St) : lst d (pre ++ [x]) = if lst d pre < 0 ∨ x.wr + d x.i x.k < lst d pre then x.wr + d x.i x.k else lst d pre := by
 unfold lst; rw [List.foldl_append]; rfl
theorem lst_steps {st fo : List Int} {i k : Nat} (hi : i ≤ st.length) (hk : k ≤ fo.length) (hne : ¬ (i = st.length ∧ k = fo.length)) : lst (dd st fo) (stepsL st fo i k) = (dd st fo i k : Int) := by
 by_cases h1 : i < st.length
 ·by_cases h2 : k < fo.length
  ·have e := dist_drop h1 h2
   rw [stepsL, step1_yes h1 h2, step2_yes k h1, step3_yes i h2]
   simp only [lst, List.foldl, List.cons_append, List.nil_append, dd]
   rw [e]
   by_cases he : st[i] = fo[k]
   ·simp only [he, if_true]
    split <;> split <;> split <;> omega
   ·simp only [he, if_false]
    split <;> split <;> split <;> omega
  ·have e1 : dd st fo i k = (st.length - i) + (fo.length - k) := dist_end (.inr (by omega))
   have e2 : dd st fo (i + 1) k = (st.length - (i + 1)) + (fo.length - k) := dist_end (.inr (by omega))
   rw [stepsL, step1_no (fun h => h2 h.2), step2_yes k h1, step3_no i h2]
   simp only [lst, List.foldl, List.append_nil, List.nil_append, e1, e2]
   rw [if_pos (by omega)]
   omega
 ·by_cases h2 : k < fo.length
  ·have e1 : dd st fo i k = (st.length - i) + (fo.length - k) := dist_end (.inl (by omega))
   have e2 : dd st fo i (k + 1) = (st.length - i) + (fo.length - (k + 1)) := dist_end (.inl (by omega))
   rw [stepsL, step1_no (fun h => h1 h.1), step2_no k h1, step3_yes i h2]
   simp only [lst, List.foldl, List.nil_append, e1, e2]
   rw [if_pos (by omega)]
   omega
  ·exact absurd ⟨by omega, by omega⟩ hne
def leftV (eb kb pb : Nat) : Value := .func (.func 106) #[] #[.pointer (some ⟨eb, 0, none⟩), .pointer (some ⟨kb, 0, none⟩), .pointer (some ⟨pb, 0, none⟩)]
def Known (st fo : List Int) (i k : Nat) (v : Value) : Prop := v = .int .i64 (dd st fo i k : Int)
def pairC (id hs : Int) (st fo : List Int) (sa fa : Option Addr) (sc fc : Nat) (fv : Value) : Array Value := #[.int .i64 id, .int .i64 hs, .slice sa st.length sc, .slice fa fo.length fc, fv]
structure Half (w : World) (pb eb kb M : Nat) (id hs : Int) (st fo : List Int) (sa fa : Option Addr) (sc fc : Nat) : Prop where
 pair : Box w pb (pairC id hs st fo sa fa sc fc (leftV eb kb pb)) 134
 fin : Box w eb #[.int .i64 st.length, .int .i64 fo.length] 137
 known : Box w kb #[.map (some M)] 170
 map : PMap w M st.length fo.length (Known st fo)
 s : RdI w sa st
 f : RdI w fa fo
theorem Half.keep {w w' : World} {pb eb kb M : Nat} {id hs : Int} {st fo : List Int} {sa fa : Option Addr} {sc fc : Nat} (h : Half w pb eb kb M id hs st fo sa fa sc fc) (hk : Keep (· ≠ M) w w') (hm : PMap w' M st.length fo.length (Known st fo)) :
  Half w' pb eb kb M id hs st fo sa fa sc fc :=
 ⟨hk.box (h.map.ne_box h.pair) h.pair, hk.box (h.map.ne_box h.fin) h.fin, hk.box (h.map.ne_box h.known) h.known, hm, hk.rdI (fun hx _ hp => h.map.ne_row h.s hx hp) h.s, hk.rdI (fun hx _ hp => h.map.ne_row h.f hx hp) h.f⟩
theorem eqPlace (a b c d : Int) (w : World) : (Op.equalIn 10000 137 (.agg #[.int .i64 a, .int .i64 b]) (.agg #[.int .i64 c, .int .i64 d])).run Tryd.prog w = .ok (a == c && b == d) w := by
 have u3 := Tryd.underlying3
 have a3 := Tryd.isAgg3
 have z3 := Tryd.sizeOf3
 rw [show (10000 : Nat) = 9999 + 1 from rfl, Op.equalIn]
 simp only [Sem.run_bind, run_underlying Tryd.underlying137, Result.andThen_ok]
 simp only [Std.Legacy.Range.forIn_eq_forIn_range', Std.Legacy.Range.size, Nat.sub_zero, Nat.add_sub_cancel, Nat.div_one, List.range'_succ, List.range'_zero, List.forIn_cons, List.forIn_nil]
 go_simp
 by_cases h1 : a = c <;> by_cases h2 : b = d <;> simp [h1, h2]
attribute [local go_sem] eqPlace
theorem row_lt {w : World} {a : Option Addr} {xs : List Int} (hr : RdI w a xs) (hx : xs ≠ []) {p : Addr} (hp : a = some p) : p.block < w.heap.size := by
 obtain ⟨b, o, ha, hc⟩ := hr 0 (List.length_pos_iff.2 hx)
 rw [hp] at ha
 cases ha
 exact cell_lt hc
theorem keepsFrom_of {M B : Nat} {W W' : World} (h : Keep (· ≠ M) W W') (hM : M < B) : KeepsFrom B W W' :=
 ⟨h.size, fun k o hB hk _ => (h.block k (Array.getElem?_eq_some_iff.1 hk).1 (show k ≠ M by omega)).trans hk⟩
theorem step_bound {st fo : List Int} {i k : Nat} {x : St} (h : x ∈ stepsL st fo i k) (hi : i ≤ st.length) (hk : k ≤ fo.length) :
  x.i ≤ st.length ∧ x.k ≤ fo.length ∧ (st.length - x.i) + (fo.length - x.k) < (st.length - i) + (fo.length - k) ∧ 0 ≤ x.wr ∧ x.wr ≤ 1 := by
 rw [stepsL, List.mem_append, List.mem_append] at h
 rcases h with h | h | h
 ·by_cases hh : i < st.length ∧ k < fo.length
  ·rw [step1_yes hh.1 hh.2, List.mem_singleton] at h
   subst h
   refine ⟨hh.1, hh.2, ?_, ?_, ?_⟩
   ·show (st.length - (i + 1)) + (fo.length - (k + 1)) < _; omega
   ·show (0 : Int) ≤ if _ then 0 else 1; split <;> omega
   ·show (if _ then 0 else 1 : Int) ≤ 1; split <;> omega
  ·rw [step1_no hh] at h; cases h
 ·by_cases hh : i < st.length
  ·rw [step2_yes k hh, List.mem_singleton] at h
   subst h
   exact ⟨hh, hk, (show (st.length - (i + 1)) + (fo.length - k) < _ by omega), (by show (0 : Int) ≤ 1; omega), (by show (1 : Int) ≤ 1; omega)⟩
  ·rw [step2_no k hh] at h; cases h
 ·by_cases hh : k < fo.length
  ·rw [step3_yes i hh, List.mem_singleton] at h
   subst h
   exact ⟨hi, hh, (show (st.length - i) + (fo.length - (k + 1)) < _ by omega), (by show (0 : Int) ≤ 1; omega), (by show (1 : Int) ≤ 1; omega)⟩
  ·rw [step3_no i hh] at h; cases h
theorem wrap_small {n : Int} (h0 : 0 ≤ n) (h1 : n ≤ 10000) : IntKind.i64.wrap n = n := by
 simp only [IntKind.wrap, IntKind.signed, IntKind.bits]
 simp
 omega
def leastA (st fo : List Int) (i k : Nat) (pre : List (StAt st fo i k)) : Int := lst (dd st fo) (pre.map (·.1))
theorem leastA_snoc (st fo : List Int) (i k : Nat) (pre : List (StAt st fo i k)) (x : StAt st fo i k) :
  leastA st fo i k (pre ++ [x]) = if leastA st fo i k pre < 0 ∨ x.1.wr + dd st fo x.1.i x.1.k < leastA st fo i k pre then x.1.wr + dd st fo x.1.i x.1.k else leastA st fo i k pre := by
 unfold leastA
 rw [List.map_append]
 exact lst_snoc _ _ _
theorem leastA_all {st fo : List Int} {i k : Nat} (hi : i ≤ st.length) (hk : k ≤ fo.length) (hne : ¬ (i = st.length ∧ k = fo.length)) {ys : List (StAt st fo i k)} (h : AllCome st fo i k ys) : leastA st fo i k ys = (dd st fo i k : Int) := by
 unfold leastA
 rw [show ys.map (·.1) = _ from h]
 exact lst_steps hi hk hne
def LeftP (M : Nat) (st fo : List Int) (i k : Nat) (w : World) (e : Ending) (w' : World) : Prop :=
 e = .returned (.int .i64 (dd st fo i k : Int)) ∧ Keep (· ≠ M) w w' ∧ PMap w' M st.length fo.length (Known st fo)
theorem yL {p : Prop} (h : p := by first | omega | (simp; done) | (simp; omega)) : p := h
theorem left_step (pb eb kb M : Nat) (id hs : Int) (st fo : List Int) (sa fa : Option Addr) (sc fc : Nat) (hl : st.length ≤ 2000) (hl2 : fo.length ≤ 2000) (i k : Nat) (hi : i ≤ st.length) (hk : k ≤ fo.length)
  (ih : ∀ i' k' w, i' ≤ st.length → k' ≤ fo.length → (st.length - i') + (fo.length - k') < (st.length - i) + (fo.length - k) → Half w pb eb kb M id hs st fo sa fa sc fc →
   Calls Tryd.prog 106 #[plc i' k', .pointer (some ⟨eb, 0, none⟩), .pointer (some ⟨kb, 0, none⟩), .pointer (some ⟨pb, 0, none⟩)] w (LeftP M st fo i' k' w))
  (w : World) (hH : Half w pb eb kb M id hs st fo sa fa sc fc) :
  Calls Tryd.prog 106 #[plc i k, .pointer (some ⟨eb, 0, none⟩), .pointer (some ⟨kb, 0, none⟩), .pointer (some ⟨pb, 0, none⟩)] w (LeftP M st fo i k w) := by
 have hm := mixedS
 have hl0 := hl
 have IH := hid ih; clear ih
 have HH := hid hH
 have l1 := hH.pair.lt; have l2 := hH.fin.lt; have l3 := hH.known.lt; have l4 := hH.map.lt
 have e0 : w.cell? ⟨eb, 0, none⟩ = some (.int .i64 st.length) := hH.fin.cell 0
 have e1 : w.cell? ⟨eb, 1, none⟩ = some (.int .i64 fo.length) := hH.fin.cell 1
 have k0 : w.cell? ⟨kb, 0, none⟩ = some (.map (some M)) := hH.known.cell 0
 have p0 : w.cell? ⟨pb, 0, none⟩ = some (.int .i64 id) := hH.pair.cell 0
 have p1 : w.cell? ⟨pb, 1, none⟩ = some (.int .i64 hs) := hH.pair.cell 1
 have p2 : w.cell? ⟨pb, 2, none⟩ = some (.slice sa st.length sc) := hH.pair.cell 2
 have p3 : w.cell? ⟨pb, 3, none⟩ = some (.slice fa fo.length fc) := hH.pair.cell 3
 have p4 : w.cell? ⟨pb, 4, none⟩ = some (.func (.func 106) #[] #[.pointer (some ⟨eb, 0, none⟩), .pointer (some ⟨kb, 0, none⟩), .pointer (some ⟨pb, 0, none⟩)]) := hH.pair.cell 4
 refine (callsIn_wide (n := 3)).1 (callsIn_of_wp_marks Tryd.func106 rfl trivial ?_ rfl)
 simp only [Tryd.ntmps106, List.size_toArray, List.length_cons, List.length_nil, Nat.reduceAdd, Nat.reduceSub, Array.replicate_succ, Array.replicate_zero, List.push_toArray, List.append_toArray, List.nil_append, List.cons_append]
 unfold plc
 by_cases hend : i = st.length ∧ k = fo.length
 ·obtain ⟨rfl, rfl⟩ := hend
  gi_wp2
  refine ⟨_, results_tmp rfl _ _ _, ?_⟩
  have h0 : dd st fo st.length fo.length = 0 := (dist_end (.inl (Nat.le_refl _))).trans (by omega)
  exact ⟨by rw [h0]; rfl, (Keep.refl _ _).alloc _, hH.map.kept (Below.heap_alloc _ _ _ l4)⟩
 ·have hq : ((i : Int) == (st.length : Int) && (k : Int) == (fo.length : Int)) = false := by
   rw [Bool.and_eq_false_iff]; simp only [beq_eq_false_iff_ne, ne_eq]; omega
  have hP := hH.map.kept (w' := w.alloc (.cells #[.int .i64 i, .int .i64 k] 137)) (Below.heap_alloc _ _ _ l4)
  have hlk := hP.look (t := 170) (e := 3) Tryd.underlying170 (z := .int .i64 0) (Tryd.zeroValue3 _) (i := i) (k := k) (by omega) (by omega)
  unfold plc at hlk
  rcases hlk with hrun | ⟨v, rfl, hrun⟩
  ·clear hH hP
   gi_wp2_with (refine ⟨trivial, ?_⟩; gi_at_call 107; refine (callsIn_wide.2 (steps_any _ i k _ rfl)).mono ?_; rintro e w' ⟨rfl, rfl⟩)
   refine wpIn_world (fun wL => Box wL w.heap.size #[.int .i64 i, .int .i64 k] 137 ∧ Box wL (w.heap.size + 1) #[.int .i64 (-1)] 3 ∧ Box wL (w.heap.size + 1 + 1) (pairC id hs st fo sa fa sc fc (leftV eb kb pb)) 134 ∧ Box wL (w.heap.size + 1 + 1 + 1) #[.int .i64 i, .int .i64 k] 137 ∧ w.heap.size + 4 ≤ wL.heap.size ∧ Below w.heap.size w wL) ⟨?_, ?_, ?_, ?_, by simp, ?_⟩ ?_
   ·exact (((Box.at _ _ yL).alloc _).alloc _).alloc _
   ·exact ((Box.at _ _ yL).alloc _).alloc _
   ·exact (Box.at _ _ yL).alloc _
   ·exact Box.at _ _ yL
   ·exact goBl
   rintro wL ⟨bA, bB, bC, bD, zL, hbL⟩
   clear hrun hq p0 p1 p2 p3 p4 e0 e1 k0
   have hHL := HH.out.keep (w' := wL) (Keep.of_below hbL (fun _ h _ => h)) (HH.out.map.kept (hbL.block _ l4))
   have HHL := hid hHL
   have ZL := hid zL
   refine wpIn_rangeFunc_ownH rfl (by omega) (gf := 125) (lb := #[.pointer (some ⟨w.heap.size + 1 + 1 + 1, 0, none⟩), .pointer (some ⟨w.heap.size + 1 + 1, 0, none⟩)]) rfl trivial (enters_of Tryd.func125 (by kernel_rfl) rfl)
    (steps1_stops 2 (w.heap.size + 1 + 1 + 1) (w.heap.size + 1 + 1) id hs st fo sa fa sc fc (leftV eb kb pb) i k hi hk (by omega) (by omega) (fun b => b ≠ M ∧ b ≠ w.heap.size + 1 ∧ b < wL.heap.size)
     ⟨by omega, by omega, by omega⟩ ⟨by omega, by omega, by omega⟩ ?z3 ?z4 wL ⟨bD, bC, hHL.s, hHL.f⟩)
    (fun h k => h.trans k) ?kb (Below.refl _ _) (fun _ => rfl)
    (fun pre W => Box W (w.heap.size + 1) #[.int .i64 (leastA st fo i k pre)] 3 ∧ Box W w.heap.size #[.int .i64 i, .int .i64 k] 137 ∧ Keep (· ≠ M) w W ∧ PMap W M st.length fo.length (Known st fo) ∧ wL.heap.size ≤ W.heap.size)
    (fun _ _ _ => False) ?hI ?hIx ⟨bB, bA, Keep.of_below hbL (fun _ h _ => h), hHL.map, Nat.le_refl _⟩
    (fun x a' W => ∃ Bx, wL.heap.size ≤ Bx ∧ Box W Bx #[.int .i64 x.1.i, .int .i64 x.1.k, .int .i64 x.1.s, .int .i64 x.1.f, .int .i64 x.1.wr] 142 ∧ ∃ f : Nat → Value, a' = ⟨((List.range 46).map f).toArray, []⟩ ∧ f 3 = .pointer (some ⟨pb, 0, none⟩) ∧ f 8 = .pointer (some ⟨w.heap.size + 1, 0, none⟩) ∧ f 9 = .pointer (some ⟨Bx, 0, none⟩)) ?hAx ?assign ?body ?done ?stop
   case z3 => exact fun hx p hp => ⟨HHL.out.map.ne_row HHL.out.s hx hp, by have := row_lt HH.out.s hx hp; omega, by have := row_lt HH.out.s hx hp; omega⟩
   case z4 => exact fun hx p hp => ⟨HHL.out.map.ne_row HHL.out.f hx hp, by have := row_lt HH.out.f hx hp; omega, by have := row_lt HH.out.f hx hp; omega⟩
   case kb => exact fun W l o o' hl _ _ _ => (Keep.refl _ _).putObj l o' (fun _ hz => by have := hz.2.2; omega)
   case hI =>
    rintro pre W W' row ⟨iB, iA, iK, iP, iz⟩ hg hr
    have hrow : ∀ r, r < wL.heap.size → row ≠ some r := fun r hlt e => by have := (hr r e).1; omega
    exact ⟨iB.grown hg (hrow _ (by omega)), iA.grown hg (hrow _ (by omega)), iK.grown hg (fun r e hlt => absurd e (hrow r (by omega))), iP.kept (hg.block M iP.lt (fun e => hrow M (by omega) e.symm)), Nat.le_trans iz hg.size⟩
   case hIx => exact fun _ _ _ _ _ hs _ _ => hs
   case hAx =>
    rintro x a' _ W W' row ⟨Bx, hB, hb, hf⟩ hg hr
    refine ⟨Bx, hB, hb.grown hg (fun e => ?_), hf⟩
    obtain ⟨o, ho, hc⟩ := (hr Bx e).2
    rw [show W.heap[Bx]? = _ from hb] at ho
    cases ho
    cases hc
   case assign =>
    rintro l pre ⟨x, hx⟩ W K ⟨iB, iA, iK, iP, iz⟩ hK
    simp only [St.val]
    gi_wp2
    refine hK _ _ ((KeepsOthers.alloc _ _).from _) ((Keep.refl _ _).alloc _) ⟨iB.alloc _, iA.alloc _, iK.alloc _, iP.kept (Below.heap_alloc _ _ _ iP.lt), by simp; omega⟩ ⟨W.heap.size, iz, Box.new _ _ _, ?_⟩
    refine acts_of rfl ?_
    exact ⟨rfl, rfl, rfl⟩
   case body =>
    rintro l pre ⟨x, hx⟩ a' W hl ⟨r, hr⟩ ⟨iB, iA, iK, iP, iz⟩ ⟨Bx, hBx, bX, f, rfl, f3, f8, f9⟩ hlt
    obtain ⟨b1, b2, b3, b4, b5⟩ := step_bound hx hi hk
    have d1 := dd_le st fo x.i x.k hl0 hl2
    rw [show (List.range 46).map f = [f 0, f 1, f 2, f 3, f 4, f 5, f 6, f 7, f 8, f 9, f 10, f 11, f 12, f 13, f 14, f 15, f 16, f 17, f 18, f 19, f 20, f 21, f 22, f 23, f 24, f 25, f 26, f 27, f 28, f 29, f 30, f 31, f 32, f 33, f 34, f 35, f 36, f 37, f 38, f 39, f 40, f 41, f 42, f 43, f 44, f 45] from rfl, f3, f8, f9]
    clear f3 f8 f9
    have HK := hid iK; have HP := hid iP; have HB := hid iB; have HA := hid iA; have HX := hid bX
    have hHW := HH.out.keep iK iP
    have HHW := hid hHW
    have p4 : W.cell? ⟨pb, 4, none⟩ = some (.func (.func 106) #[] #[.pointer (some ⟨eb, 0, none⟩), .pointer (some ⟨kb, 0, none⟩), .pointer (some ⟨pb, 0, none⟩)]) := hHW.pair.cell 4
    have x0 : W.cell? ⟨Bx, 0, none⟩ = some (.int .i64 x.i) := bX.cell 0
    have x1 : W.cell? ⟨Bx, 1, none⟩ = some (.int .i64 x.k) := bX.cell 1
    have x4 : W.cell? ⟨Bx, 4, none⟩ = some (.int .i64 x.wr) := bX.cell 4
    clear iB iA iK iP bX hHW
    gi_wp2
    refine wpIn_region_G [1, 3, 5] (fun w' => w'.cell? ⟨pb, 4, none⟩ = some (.func (.func 106) #[] #[.pointer (some ⟨eb, 0, none⟩), .pointer (some ⟨kb, 0, none⟩), .pointer (some ⟨pb, 0, none⟩)]) ∧ w'.cell? ⟨Bx, 0, none⟩ = some (.int .i64 x.i) ∧ w'.cell? ⟨Bx, 1, none⟩ = some (.int .i64 x.k) ∧ w'.cell? ⟨Bx, 4, none⟩ = some (.int .i64 x.wr)) hm ⟨by go_simp, by go_simp, by go_simp, by go_simp⟩ ?_
    intro hS0; have hS := hid hS0; clear hS0
    (apply wpAnyG_pure (wide_round _) (i := 0) rfl (by kernel_rfl) (fun _ _ _ h => h); · first | exact .inr ⟨rfl, rfl⟩ | exact .inl ⟨rfl, fun w' => by go_simp; rfl⟩); simp only [Act.put, List.setIfInBounds_toArray, List.set_cons_succ, List.set_cons_zero, List.getElem_toArray, List.getElem_cons_succ, List.getElem_cons_zero]
    (apply wpAnyG_held (wide_round _) (i := 1) rfl (by kernel_rfl) (fun _ _ _ h => h) hS.out; · first | exact .inr ⟨rfl, rfl⟩ | exact .inl ⟨rfl, fun w' hS' => by (obtain ⟨s1, s2, s3, s4⟩ := hS'; go_simp; rfl)⟩); simp only [Act.put, List.setIfInBounds_toArray, List.set_cons_succ, List.set_cons_zero, List.getElem_toArray, List.getElem_cons_succ, List.getElem_cons_zero]
    (apply wpAnyG_pure (wide_round _) (i := 2) rfl (by kernel_rfl) (fun _ _ _ h => h); · first | exact .inr ⟨rfl, rfl⟩ | exact .inl ⟨rfl, fun w' => by go_simp; rfl⟩); simp only [Act.put, List.setIfInBounds_toArray, List.set_cons_succ, List.set_cons_zero, List.getElem_toArray, List.getElem_cons_succ, List.getElem_cons_zero]
    (apply wpAnyG_held (wide_round _) (i := 3) rfl (by kernel_rfl) (fun _ _ _ h => h) hS.out; · first | exact .inr ⟨rfl, rfl⟩ | exact .inl ⟨rfl, fun w' hS' => by (obtain ⟨s1, s2, s3, s4⟩ := hS'; go_simp; rfl)⟩); simp only [Act.put, List.setIfInBounds_toArray, List.set_cons_succ, List.set_cons_zero, List.getElem_toArray, List.getElem_cons_succ, List.getElem_cons_zero]
    (apply wpAnyG_pure (wide_round _) (i := 4) rfl (by kernel_rfl) (fun _ _ _ h => h); · first | exact .inr ⟨rfl, rfl⟩ | exact .inl ⟨rfl, fun w' => by go_simp; rfl⟩); simp only [Act.put, List.setIfInBounds_toArray, List.set_cons_succ, List.set_cons_zero, List.getElem_toArray, List.getElem_cons_succ, List.getElem_cons_zero]
    (apply wpAnyG_held (wide_round _) (i := 5) rfl (by kernel_rfl) (fun _ _ _ h => h) hS.out; · first | exact .inr ⟨rfl, rfl⟩ | exact .inl ⟨rfl, fun w' hS' => by (obtain ⟨s1, s2, s3, s4⟩ := hS'; go_simp; rfl)⟩); simp only [Act.put, List.setIfInBounds_toArray, List.set_cons_succ, List.set_cons_zero, List.getElem_toArray, List.getElem_cons_succ, List.getElem_cons_zero]
    refine wpAnyG_one (i := 6) rfl ⟨by kernel_rfl, by kernel_rfl⟩ ?_
    intro K hK
    go_simp
    refine ⟨trivial, ?_⟩
    refine (CallsIn.inRound l (callsIn_wide.2 (IH.out x.i x.k _ b1 b2 b3 (HHW.out.keep (Keep.drew (Keep.refl _ _)) (HHW.out.map.kept rfl))))).mono ?_
    rintro e w6 ⟨rfl, hk6, hp6⟩
    have KW : Keep (· ≠ M) W w6 := (Keep.drew (Keep.refl _ W)).trans hk6
    refine shutSG hK ⟨KW.cell (HHW.out.map.ne_box HHW.out.pair) p4, KW.cell (show Bx ≠ M by omega) x0, KW.cell (show Bx ≠ M by omega) x1, KW.cell (show Bx ≠ M by omega) x4⟩ (fun hS => ?_)
    clear hK K
    (apply wpAnyG_pure (wide_round _) (i := 7) rfl (by kernel_rfl) (fun _ _ _ h => h); · first | exact .inr ⟨rfl, rfl⟩ | exact .inl ⟨rfl, fun w' => by go_simp; rfl⟩); simp only [Act.put, List.setIfInBounds_toArray, List.set_cons_succ, List.set_cons_zero, List.getElem_toArray, List.getElem_cons_succ, List.getElem_cons_zero]
    (apply wpAnyG_pure (wide_round _) (i := 8) rfl (by kernel_rfl) (fun _ _ _ h => h); · first | exact .inr ⟨rfl, rfl⟩ | exact .inl ⟨rfl, fun w' => by go_simp; rfl⟩); simp only [Act.put, List.setIfInBounds_toArray, List.set_cons_succ, List.set_cons_zero, List.getElem_toArray, List.getElem_cons_succ, List.getElem_cons_zero]
    refine wpAnyG_done (by kernel_rfl) ?_ _
    clear hS x0 x1 x4 p4
    have B6 := KW.box (show w.heap.size + 1 ≠ M by omega) HB.out
    have A6 := KW.box (show w.heap.size ≠ M by omega) HA.out
    have c8 : w6.cell? ⟨w.heap.size + 1, 0, none⟩ = some (.int .i64 (leastA st fo i k pre)) := B6.cell 0
    have k8 := B6.frozen 0
    have hl6 := B6.lt
    have hw := wrap_small (n := x.wr + (dd st fo x.i x.k : Int)) (by omega) (by omega)
    simp only [hw]
    have hsn := leastA_snoc st fo i k pre ⟨x, hx⟩
    have HSN := hid hsn; clear hsn
    have KF := keepsFrom_of KW (B := wL.heap.size) (by omega)
    have KZ : Keep (fun b => b ≠ M ∧ b ≠ w.heap.size + 1 ∧ b < wL.heap.size) W w6 := KW.mono (fun b _ hz => hz.1)
    have K1 := HK.out.trans KW
    have hz6 := KW.size
    have hM1 : M ≠ w.heap.size + 1 := by omega
    by_cases h1 : leastA st fo i k pre < 0
    ·have H1 := hid h1
     gi_wp2
     refine ⟨KF.trans ((KeepsOthers.setCell _ _ _).from _), KZ.setCell ⟨w.heap.size + 1, 0, none⟩ _ (fun _ hz => hz.2.1 rfl), ?_, A6.other _ _ _ (by omega), K1.setCell _ _ (fun h => by have : w.heap.size + 1 < w.heap.size := h; omega), hp6.kept (Below.heap_setCell _ _ _ _ hM1), by rw [World.size_setCell]; omega⟩
     rw [HSN.out, if_pos (.inl H1.out)]
     exact B6.set 0 _
    ·by_cases h2 : x.wr + (dd st fo x.i x.k : Int) < leastA st fo i k pre
     ·have H2 := hid h2
      gi_wp2
      refine ⟨KF.trans ((KeepsOthers.setCell _ _ _).from _), KZ.setCell ⟨w.heap.size + 1, 0, none⟩ _ (fun _ hz => hz.2.1 rfl), ?_, A6.other _ _ _ (by omega), K1.setCell _ _ (fun h => by have : w.heap.size + 1 < w.heap.size := h; omega), hp6.kept (Below.heap_setCell _ _ _ _ hM1), by rw [World.size_setCell]; omega⟩
      rw [HSN.out, if_pos (.inr H2.out)]
      exact B6.set 0 _
     ·have H1 := hid h1; have H2 := hid h2
      gi_wp2
      refine ⟨KF, KZ, ?_, A6, K1, hp6, by omega⟩
      rw [HSN.out, if_neg (fun h => by have g1 := H1.out; have g2 := H2.out; omega)]
      exact B6
   case done =>
    rintro D ys W hD hall ⟨iB, iA, iK, iP, iz⟩ hKD
    have hfin := leastA_all hi hk hend hall
    rw [hfin] at iB
    clear hall hfin
    have hHW := HH.out.keep iK iP
    have k0 : W.cell? ⟨kb, 0, none⟩ = some (.map (some M)) := hHW.known.cell 0
    have c8 : W.cell? ⟨w.heap.size + 1, 0, none⟩ = some (.int .i64 (dd st fo i k : Int)) := iB.cell 0
    have a0 : W.cell? ⟨w.heap.size, 0, none⟩ = some (.int .i64 i) := iA.cell 0
    have a1 : W.cell? ⟨w.heap.size, 1, none⟩ = some (.int .i64 k) := iA.cell 1
    obtain ⟨w5, hrun5, hp5, hg5, hz5⟩ := iP.store (t := 170) (e := 3) Tryd.underlying170 (by omega) (by omega) hi hk (v := .int .i64 (dd st fo i k : Int)) rfl
    unfold plc at hrun5
    have B5 := iB.grown hg5 (show some M ≠ some (w.heap.size + 1) from fun e => by cases e; omega)
    have c85 : w5.cell? ⟨w.heap.size + 1, 0, none⟩ = some (.int .i64 (dd st fo i k : Int)) := B5.cell 0
    have hKD5 : w5.heap[D]? = some (.deferred (some [])) := (hg5.block D (Array.getElem?_eq_some_iff.1 hKD).1 (fun e => by cases e; omega)).trans hKD
    have hDM : M ≠ D := by omega
    have K5 := iK.grown hg5 (fun r e _ hz => by cases e; exact hz rfl)
    have hDw : ¬ D < w.heap.size := by omega
    clear iB iA iK iP hHW hKD B5 hg5 hz5
    gi_wp2
    refine ⟨by simp, .inl ⟨_, _, rfl, run_takeDeferred hKD5, ?_⟩⟩
    exact ⟨_, results_tmp rfl _ _ _, rfl, K5.putObj _ _ (fun h => absurd h hDw), hp5.kept (World.putObj_heap_other hDM)⟩
   case stop =>
    rintro D c pre W _ _ h _
    exact h.elim
  ·clear hH
   gi_wp2
   refine ⟨_, results_tmp rfl _ _ _, ?_⟩
   exact ⟨rfl, (Keep.refl _ _).alloc _, hP⟩
theorem field_left (c0 c1 c2 c3 v : Value) (w : World) : (Instr.field 134 (.agg #[c0, c1, c2, c3, v]) 1).run Tryd.prog w = .ok v w := by kernel_rfl
theorem left_any (pb eb kb M : Nat) (id hs : Int) (st fo : List Int) (sa fa : Option Addr) (sc fc : Nat) (hl : st.length ≤ 2000) (hl2 : fo.length ≤ 2000) (i k : Nat) (w : World) (hi : i ≤ st.length) (hk : k ≤ fo.length) (hH : Half w pb eb kb M id hs st fo sa fa sc fc) :
  Calls Tryd.prog 106 #[plc i k, .pointer (some ⟨eb, 0, none⟩), .pointer (some ⟨kb, 0, none⟩), .pointer (some ⟨pb, 0, none⟩)] w (LeftP M st fo i k w) := by
 have h : ∀ m i k w, (st.length - i) + (fo.length - k) < m → i ≤ st.length → k ≤ fo.length → Half w pb eb kb M id hs st fo sa fa sc fc →
   Calls Tryd.prog 106 #[plc i k, .pointer (some ⟨eb, 0, none⟩), .pointer (some ⟨kb, 0, none⟩), .pointer (some ⟨pb, 0, none⟩)] w (LeftP M st fo i k w) := by
  intro m
  induction m with
  | zero => intro i k w h; omega
  | succ m ih =>
   intro i k w hm hi hk hH
   exact left_step pb eb kb M id hs st fo sa fa sc fc hl hl2 i k hi hk (fun i' k' w' hi' hk' hlt hH' => ih i' k' w' (by omega) hi' hk' hH') w hH
 exact h _ i k w (Nat.lt_succ_self _) hi hk hH
theorem PMap.at {w : World} {n : Nat} (A B : Nat) (V : Nat → Nat → Value → Prop) (hn : n = w.heap.size) : PMap (w.alloc (.map #[] 0)) n A B V := hn ▸ PMap.made w A B V
theorem PMap.alloc {w : World} {b A B : Nat} {V : Nat → Nat → Value → Prop} (h : PMap w b A B V) (o : Obj) : PMap (w.alloc o) b A B V := h.kept (Below.heap_alloc _ _ _ h.lt)
theorem halves_any (id hs : Int) (st fo : List Int) (sa fa : Option Addr) (sc fc : Nat) (w : World) (hl : st.length ≤ 2000) (hl2 : fo.length ≤ 2000) (h1 : RdI w sa st) (h2 : RdI w fa fo) :
  Calls Tryd.prog 83 #[.agg #[.int .i64 id, .int .i64 hs, .slice sa st.length sc, .slice fa fo.length fc]] w fun e w' => ∃ pb eb kb M, e = .returned (.agg (pairC id hs st fo sa fa sc fc (leftV eb kb pb))) ∧ Below w.heap.size w w' ∧ w.heap.size ≤ M ∧ Half w' pb eb kb M id hs st fo sa fa sc fc := by
 have hmm := @run_makeMap Tryd.prog
 have H1 := hid h1; have H2 := hid h2; clear h1 h2
 go_enter Tryd.func83, Tryd.ntmps83
 go_wp2_with fail
 refine bodyPost_ret (v := .agg (pairC id hs st fo sa fa sc fc (leftV (w.heap.size + 3) (w.heap.size + 5) (w.heap.size + 2)))) (by simp [results, Tryd.results83, go_sem, pairC, leftV]) rfl ?_
 refine ⟨w.heap.size + 2, w.heap.size + 3, w.heap.size + 5, w.heap.size + 4, rfl, goBl, by omega, ⟨(show Box _ (w.heap.size + 2) #[.int .i64 id, .int .i64 hs, .slice sa st.length sc, .slice fa fo.length fc, .func (.func 106) #[] #[.pointer (some ⟨w.heap.size + 3, 0, none⟩), .pointer (some ⟨w.heap.size + 5, 0, none⟩), .pointer (some ⟨w.heap.size + 2, 0, none⟩)]] 134 from (by repeat (first | (with_reducible assumption) | (with_reducible refine Box.at _ _ yL) | (with_reducible refine Box.drew ?_) | (with_reducible refine Box.alloc ?_ _) | (with_reducible refine Box.other ?_ _ _ _ yL) | (refine Box.below ?_ hb2 yL) | (refine Box.below ?_ hb3 yL)))), (by repeat (first | (with_reducible assumption) | (with_reducible refine Box.at _ _ yL) | (with_reducible refine Box.drew ?_) | (with_reducible refine Box.alloc ?_ _) | (with_reducible refine Box.other ?_ _ _ _ yL) | (refine Box.below ?_ hb2 yL) | (refine Box.below ?_ hb3 yL))), (by repeat (first | (with_reducible assumption) | (with_reducible refine Box.at _ _ yL) | (with_reducible refine Box.drew ?_) | (with_reducible refine Box.alloc ?_ _) | (with_reducible refine Box.other ?_ _ _ _ yL) | (refine Box.below ?_ hb2 yL) | (refine Box.below ?_ hb3 yL))), (PMap.at _ _ _ yL).alloc _, ?_, ?_⟩⟩
 ·exact H1.out.below goBl
 ·exact H2.out.below goBl
theorem between_any (st fo : List Int) (sa fa : Option Addr) (sc fc : Nat) (w : World) (hl : st.length ≤ 2000) (hl2 : fo.length ≤ 2000) (h1 : RdI w sa st) (h2 : RdI w fa fo) :
  Calls Tryd.prog 84 #[.slice sa st.length sc, .slice fa fo.length fc] w fun e w' => e = .returned (.int .i64 (dist st fo : Int)) ∧ Below w.heap.size w w' := by
 have H1 := hid h1; have H2 := hid h2; clear h1 h2
 go_enter Tryd.func84, Tryd.ntmps84
 go_wp2_with fail
 refine (halves_any 0 0 st fo sa fa sc fc w hl hl2 H1.out H2.out).mono ?_
 rintro e w1 ⟨pb, eb, kb, M, rfl, hb1, hM, hH⟩
 have HH := hid hH; clear hH
 unfold pairC leftV
 have hfd := field_left
 go_wp2_with fail
 refine (left_any pb eb kb M 0 0 st fo sa fa sc fc hl hl2 0 0 w1 (Nat.zero_le _) (Nat.zero_le _) HH.out).mono ?_
 rintro e w2 ⟨rfl, hk2, _⟩
 go_wp2_with fail
 go_ret
 exact ⟨(congrArg (fun b => Ending.returned (Value.int .i64 b)) rfl), hb1.trans (hk2.below (B := w.heap.size) (fun k hk => show k ≠ M by omega) hb1.size)⟩
structure Ed where
 kd : Int
 at' : Int
 nt : Int
def Ed.cells (e : Ed) : List Value := [.int .i64 e.kd, .int .i64 e.at', .int .i64 e.nt]
def RdE (w : World) (a : Option Addr) (es : List Ed) : Prop := ∀ i (h : i < es.length), ∃ b o, a = some ⟨b, o, none⟩ ∧
 w.cell? ⟨b, o + i * 3, none⟩ = some (.int .i64 es[i].kd) ∧ w.cell? ⟨b, o + i * 3 + 1, none⟩ = some (.int .i64 es[i].at') ∧ w.cell? ⟨b, o + i * 3 + 2, none⟩ = some (.int .i64 es[i].nt)
theorem RdE.nil (w : World) (a : Option Addr) : RdE w a [] := fun i hi => absurd hi (Nat.not_lt_zero _)
theorem RdE.below {w w' : World} {a : Option Addr} {es : List Ed} (h : RdE w a es) (hb : Below w.heap.size w w') : RdE w' a es := fun i hi => by
 obtain ⟨b, o, ha, h0, h1, h2⟩ := h i hi
 exact ⟨b, o, ha, (hb.cell (cell_lt h0)).trans h0, (hb.cell (cell_lt h1)).trans h1, (hb.cell (cell_lt h2)).trans h2⟩
attribute [local go_sem] Oper.semAt_some
theorem box_own {W W' : World} {row : Option Nat} {b : Nat} {cs : Array Value} {t : TypeId} (h : Box W b cs t) (hg : W.grownBy W' row) (hr : ∀ r, row = some r → ∃ o : Obj, W.heap[r]? = some o ∧ o.isCells = false) : Box W' b cs t :=
 h.grown hg (fun e => by
  obtain ⟨o, ho, hc⟩ := hr b e
  rw [show W.heap[b]? = _ from h] at ho
  cases ho
  cases hc)
theorem rd_own {W W' : World} {row : Option Nat} {a : Option Addr} {xs : List Int} (h : RdI W a xs) (hg : W.grownBy W' row) (hr : ∀ r, row = some r → ∃ o : Obj, W.heap[r]? = some o ∧ o.isCells = false) : RdI W' a xs := fun i hi => by
 obtain ⟨b, o, ha, hc⟩ := h i hi
 refine ⟨b, o, ha, (World.cell?_of_block (a := ⟨b, o + i, none⟩) (hg.block b (cell_lt hc) (fun e => ?_))).trans hc⟩
 obtain ⟨q, hq, hn⟩ := hr b e.symm
 unfold World.cell? at hc
 cases q <;> simp_all [Obj.isCells]
theorem Half.own {W W' : World} {row : Option Nat} {pb eb kb M : Nat} {id hs : Int} {st fo : List Int} {sa fa : Option Addr} {sc fc : Nat} (h : Half W pb eb kb M id hs st fo sa fa sc fc) (hg : W.grownBy W' row) (hr : ∀ r, row = some r → ∃ o : Obj, W.heap[r]? = some o ∧ o.isCells = false) (hM : row ≠ some M) :
  Half W' pb eb kb M id hs st fo sa fa sc fc :=
 ⟨box_own h.pair hg hr, box_own h.fin hg hr, box_own h.known hg hr, h.map.kept (hg.block M h.map.lt (fun e => hM e.symm)), rd_own h.s hg hr, rd_own h.f hg hr⟩
structure KpB (R : Nat → Prop) (M : Nat) (st fo : List Int) (W W' : World) : Prop where
 os : W'.os = W.os
 tape : W'.tape = W.tape
 output : W'.output = W.output
 size : W.heap.size ≤ W'.heap.size
 box : ∀ b cs t, Box W b cs t → (t = 134 ∨ t = 137 ∨ t = 170 ∨ t = 172) → Box W' b cs t
 row : ∀ k, k < W.heap.size → R k → W'.heap[k]? = W.heap[k]?
 map : PMap W M st.length fo.length (Known st fo) → PMap W' M st.length fo.length (Known st fo)
theorem KpB.refl (R : Nat → Prop) (M : Nat) (st fo : List Int) (W : World) : KpB R M st fo W W := ⟨rfl, rfl, rfl, Nat.le_refl _, fun _ _ _ h _ => h, fun _ _ _ => rfl, fun h => h⟩
theorem KpB.trans {R : Nat → Prop} {M : Nat} {st fo : List Int} {A B C : World} (h : KpB R M st fo A B) (k : KpB R M st fo B C) : KpB R M st fo A C :=
 ⟨k.os.trans h.os, k.tape.trans h.tape, k.output.trans h.output, Nat.le_trans h.size k.size, fun b cs t hb ht => k.box b cs t (h.box b cs t hb ht) ht, fun i hi hr => (k.row i (Nat.lt_of_lt_of_le hi h.size) hr).trans (h.row i hi hr), fun hm => k.map (h.map hm)⟩
theorem KpB.rd {R : Nat → Prop} {M : Nat} {st fo : List Int} {W W' : World} (h : KpB R M st fo W W') {a : Option Addr} {xs : List Int} (hr : RdI W a xs) (hR : xs ≠ [] → ∀ p, a = some p → R p.block) : RdI W' a xs := fun i hi => by
 obtain ⟨b, o, ha, hc⟩ := hr i hi
 exact ⟨b, o, ha, (World.cell?_of_block (a := ⟨b, o + i, none⟩) (h.row b (cell_lt hc) (hR (List.ne_nil_of_length_pos (Nat.lt_of_le_of_lt (Nat.zero_le _) hi)) _ ha))).trans hc⟩
theorem KpB.half {R : Nat → Prop} {M : Nat} {st fo : List Int} {W W' : World} (h : KpB R M st fo W W') {pb eb kb : Nat} {id hs : Int} {sa fa : Option Addr} {sc fc : Nat} (hH : Half W pb eb kb M id hs st fo sa fa sc fc)
  (hR3 : st ≠ [] → ∀ p, sa = some p → R p.block) (hR4 : fo ≠ [] → ∀ p, fa = some p → R p.block) : Half W' pb eb kb M id hs st fo sa fa sc fc :=
 ⟨h.box _ _ _ hH.pair (.inl rfl), h.box _ _ _ hH.fin (.inr (.inl rfl)), h.box _ _ _ hH.known (.inr (.inr (.inl rfl))), h.map hH.map, h.rd hH.s hR3, h.rd hH.f hR4⟩
structure Nx where
 i : Nat
 k : Nat
 es : List Ed
def preL (n : Int) (l : List Int) : List Int := if 0 < n then n :: l else l
def sumW (W : Int → Int) (l : List Int) : Int := (l.map W).sum
theorem sumW_pre {W : Int → Int} (h0 : W 0 = 0) {n : Int} (hn : 0 ≤ n) (l : List Int) : sumW W (preL n l) = W n + sumW W l := by
 unfold preL sumW
 split
 ·simp
 ·have : n = 0 := by omega
  subst this; rw [h0]; simp
structure IsSpan (W : Int → Int) (P : List Int → Prop) (x y : Int) : Prop where
 lo : ∃ l, P l ∧ sumW W l = x
 hi : ∃ l, P l ∧ sumW W l = y
 all : ∀ l, P l → x ≤ sumW W l ∧ sumW W l ≤ y
theorem IsSpan.nil {W : Int → Int} : IsSpan W (fun l => l = []) 0 0 := ⟨⟨[], rfl, rfl⟩, ⟨[], rfl, rfl⟩, fun l h => by subst h; simp [sumW]⟩
theorem IsSpan.pre {W : Int → Int} (h0 : W 0 = 0) {P : List Int → Prop} {a b n : Int} (hn : 0 ≤ n) (h : IsSpan W P a b) : IsSpan W (fun l => ∃ r, P r ∧ l = preL n r) (W n + a) (W n + b) := by
 obtain ⟨l1, p1, e1⟩ := h.lo
 obtain ⟨l2, p2, e2⟩ := h.hi
 refine ⟨⟨preL n l1, ⟨l1, p1, rfl⟩, by rw [sumW_pre h0 hn, e1]⟩, ⟨preL n l2, ⟨l2, p2, rfl⟩, by rw [sumW_pre h0 hn, e2]⟩, ?_⟩
 rintro l ⟨r, p, rfl⟩
 have := h.all r p
 rw [sumW_pre h0 hn]; omega
theorem IsSpan.or {W : Int → Int} {P Q : List Int → Prop} {a b c d : Int} (h : IsSpan W P a b) (k : IsSpan W Q c d) : IsSpan W (fun l => P l ∨ Q l) (min a c) (max b d) := by
 obtain ⟨l1, p1, e1⟩ := h.lo
 obtain ⟨l2, p2, e2⟩ := h.hi
 obtain ⟨l3, p3, e3⟩ := k.lo
 obtain ⟨l4, p4, e4⟩ := k.hi
 refine ⟨?_, ?_, ?_⟩
 ·by_cases e : a ≤ c
  ·exact ⟨l1, .inl p1, by omega⟩
  ·exact ⟨l3, .inr p3, by omega⟩
 ·by_cases e : d ≤ b
  ·exact ⟨l2, .inl p2, by omega⟩
  ·exact ⟨l4, .inr p4, by omega⟩
 ·rintro l (p | p)
  ·have := h.all l p; omega
  ·have := k.all l p; omega
def endF (s x : Int × Int) : Int × Int := (min s.1 x.1, max s.2 x.2)
def endsL (ss : List (Int × Int)) : Int × Int := ss.foldl endF (ss.headD (0, 0))
def SpanAcc (W : Int → Int) (P : List Int → Prop) (ss : List (Int × Int)) : Prop := (ss = [] ∧ ∀ l, ¬ P l) ∨ (ss ≠ [] ∧ IsSpan W P (endsL ss).1 (endsL ss).2)
theorem SpanAcc.nil {W : Int → Int} {P : List Int → Prop} (h : ∀ l, ¬ P l) : SpanAcc W P [] := .inl ⟨rfl, h⟩
attribute [local go_sem] Oper.semAt_some
def Worth (S : World → Prop) (fv : Value) (W : Int → Int) : Prop := ∃ k first caps, fv = .func (.func k) first caps ∧ (∀ args w, (callFunc k args).run Tryd.prog w = .ok (.enter k args) w) ∧
 ∀ (n : Int) (w : World), 0 ≤ n → n ≤ 4 → S w → Calls Tryd.prog k (first ++ #[.int .i64 n] ++ caps) w fun e w' => e = .returned (.int .i64 (W n)) ∧ Below w.heap.size w w'
def KnownS (W : Int → Int) (st fo : List Int) (i k : Nat) (v : Value) : Prop := ∃ lo hi, v = .agg #[.int .i64 lo, .int .i64 hi] ∧ IsSpan W (TrueL (st.drop i) (fo.drop k)) lo hi
def tellV (kb xb tb vb : Nat) : Value := .func (.func 109) #[] #[.pointer (some ⟨kb, 0, none⟩), .pointer (some ⟨xb, 0, none⟩), .pointer (some ⟨tb, 0, none⟩), .pointer (some ⟨vb, 0, none⟩)]
structure CB where
 kb : Nat
 xb : Nat
 tb : Nat
 vb : Nat
 pb : Nat
 eb : Nat
 qb : Nat
 M : Nat
 K : Nat
structure Tell (w : World) (c : CB) (a : Tl) (sa fa : Option Addr) (sc fc : Nat) (fv : Value) (W : Int → Int) (S : World → Prop) : Prop where
 known : Box w c.kb #[.map (some c.K)] 173
 x : Box w c.xb (pairC a.id a.hs a.st a.fo sa fa sc fc (leftV c.eb c.qb c.pb)) 134
 tell : Box w c.tb #[tellV c.kb c.xb c.tb c.vb] 174
 worth : Box w c.vb #[fv] 148
 half : Half w c.pb c.eb c.qb c.M a.id a.hs a.st a.fo sa fa sc fc
 map : PMap w c.K a.st.length a.fo.length (KnownS W a.st a.fo)
 s : S w
structure TellC (c : CB) (a : Tl) (fv : Value) (W : Int → Int) (S : World → Prop) (n0 : Nat) : Prop where
 ne : c.M ≠ c.K
 l1 : a.st.length ≤ 1000
 l2 : a.fo.length ≤ 1000
 o1 : okN a.st = true
 o2 : okN a.fo = true
 wf : Worth S fv W
 w0 : W 0 = 0
 wb : ∀ n, -1000 ≤ W n ∧ W n ≤ 1000
 sk : ∀ w w', S w → Keep (fun b => b < n0 ∧ b ≠ c.M ∧ b ≠ c.K) w w' → S w'
theorem Tell.keepZ {w w' : World} {c : CB} {a : Tl} {sa fa : Option Addr} {sc fc : Nat} {fv : Value} {W : Int → Int} {S : World → Prop} {Z : Nat → Prop} (h : Tell w c a sa fa sc fc fv W S) (kp : Keep Z w w') (hz : ∀ b, CellAt w b → Z b) (hM : PMap w' c.M a.st.length a.fo.length (Known a.st a.fo)) (hK : PMap w' c.K a.st.length a.fo.length (KnownS W a.st a.fo)) (hS : S w') :
  Tell w' c a sa fa sc fc fv W S :=
 ⟨kp.box (hz _ h.known.at_) h.known, kp.box (hz _ h.x.at_) h.x, kp.box (hz _ h.tell.at_) h.tell, kp.box (hz _ h.worth.at_) h.worth,
  ⟨kp.box (hz _ h.half.pair.at_) h.half.pair, kp.box (hz _ h.half.fin.at_) h.half.fin, kp.box (hz _ h.half.known.at_) h.half.known, hM, kp.rdI (fun hx _ hp => hz _ (rd_at h.half.s hx hp)) h.half.s, kp.rdI (fun hx _ hp => hz _ (rd_at h.half.f hx hp)) h.half.f⟩, hK, hS⟩
theorem Tell.below {w w' : World} {c : CB} {a : Tl} {sa fa : Option Addr} {sc fc : Nat} {fv : Value} {W : Int → Int} {S : World → Prop} {n0 : Nat} (hc : TellC c a fv W S n0) (h : Tell w c a sa fa sc fc fv W S) (hb : Below w.heap.size w w') : Tell w' c a sa fa sc fc fv W S :=
 h.keepZ (Keep.of_below (Z := fun b => b < w.heap.size) hb (fun _ _ h => h)) (fun b ⟨_, ho, _⟩ => (Array.getElem?_eq_some_iff.1 ho).1) (h.half.map.kept (hb.block _ h.half.map.lt)) (h.map.kept (hb.block _ h.map.lt))
  (hc.sk _ _ h.s (Keep.of_below hb (fun k hk _ => hk)))
structure ComI (c : CB) (a : Tl) (sa fa : Option Addr) (sc fc : Nat) (fv : Value) (W : Int → Int) (S : World → Prop) (i k N : Nat) (w : World) (P : List Int → Prop) (m : Nat) (Q : Nat → Prop) (W' : World) : Prop where
 p5 : Box W' N #[.int .i64 i, .int .i64 k] 137
 p6 : Box W' (N + 1) #[.int .i64 0, .int .i64 0] 68
 l9 : ∃ ss la lc, Box W' (N + 4) #[.slice la ss.length lc] 176 ∧ W'.ownsRow (N + 3) 68 2 (.slice la ss.length lc) ss.length (rowC spC ss) ∧ SpanAcc W P ss ∧ ss.length ≤ m ∧ ∀ g, (Value.slice la ss.length lc).ownBlock = some g → ¬ Q g
 tell : Tell W' c a sa fa sc fc fv W S
 kp : Keep (fun b => b < N ∧ b ≠ c.M ∧ b ≠ c.K) w W'
theorem ComI.keepZ {c : CB} {a : Tl} {sa fa : Option Addr} {sc fc : Nat} {fv : Value} {W : Int → Int} {S : World → Prop} {n0 i k N m : Nat} {w W1 W2 : World} {P : List Int → Prop} {Q Z : Nat → Prop} (hc : TellC c a fv W S n0) (hn : n0 ≤ N) (h : ComI c a sa fa sc fc fv W S i k N w P m Q W1) (kp : Keep Z W1 W2) (hz : ∀ b, CellAt W1 b → Z b) (h0 : ∀ b, b < N → b ≠ c.M → b ≠ c.K → Z b)
  (hM : PMap W2 c.M a.st.length a.fo.length (Known a.st a.fo)) (hK : PMap W2 c.K a.st.length a.fo.length (KnownS W a.st a.fo)) : ComI c a sa fa sc fc fv W S i k N w P m Q W2 := by
 obtain ⟨ss, la, lc, g1, g2, g3, g4⟩ := h.l9
 exact ⟨kp.box (hz _ h.p5.at_) h.p5, kp.box (hz _ h.p6.at_) h.p6, ⟨ss, la, lc, kp.box (hz _ g1.at_) g1, own_kp' g2 kp (fun g hg => hz _ (own_at g2 g hg)), g3, g4⟩,
  h.tell.keepZ kp hz hM hK (hc.sk _ _ h.tell.s (kp.mono (fun b _ hb => h0 b (by have := hb.1; omega) hb.2.1 hb.2.2))), h.kp.trans (kp.mono (fun b _ hb => h0 b hb.1 hb.2.1 hb.2.2))⟩
theorem ComI.below {c : CB} {a : Tl} {sa fa : Option Addr} {sc fc : Nat} {fv : Value} {W : Int → Int} {S : World → Prop} {n0 i k N m : Nat} {w W1 W2 : World} {P : List Int → Prop} {Q : Nat → Prop} (hc : TellC c a fv W S n0) (hn : n0 ≤ N) (h : ComI c a sa fa sc fc fv W S i k N w P m Q W1) (hN : N ≤ W1.heap.size) (hb : Below W1.heap.size W1 W2) : ComI c a sa fa sc fc fv W S i k N w P m Q W2 :=
 h.keepZ hc hn (Keep.of_below (Z := fun b => b < W1.heap.size) hb (fun _ _ h => h)) (fun b ⟨_, ho, _⟩ => (Array.getElem?_eq_some_iff.1 ho).1) (fun b hb _ _ => show b < W1.heap.size by omega) (h.tell.half.map.kept (hb.block _ h.tell.half.map.lt)) (h.tell.map.kept (hb.block _ h.tell.map.lt))
theorem KpB.of_keepZ {R : Nat → Prop} {M : Nat} {st fo : List Int} {W W' : World} {Z : Nat → Prop} (kp : Keep Z W W') (hz : ∀ b, CellAt W b → Z b) (hR : ∀ b, R b → Z b) (hm : PMap W M st.length fo.length (Known st fo) → PMap W' M st.length fo.length (Known st fo)) : KpB R M st fo W W' :=
 ⟨kp.os, kp.tape, kp.output, kp.size, fun b cs t hb _ => kp.box (hz _ hb.at_) hb, fun k hk hr => kp.block k hk (hR k hr), hm⟩
structure ComB (c : CB) (a : Tl) (sa fa : Option Addr) (sc fc : Nat) (fv : Value) (W : Int → Int) (S : World → Prop) (i k N : Nat) (w : World) (P : List Int → Prop) (m : Nat) (Q : Nat → Prop) (L : Nat) (W1 : World) (p11 : Nat) (lo hi : Int) (na : Option Addr) (ns : List Int) (ss : List (Int × Int)) (la : Option Addr) (lc : Nat) (W' : World) : Prop where
 com : ComI c a sa fa sc fc fv W S i k N w P m Q W'
 b11 : Box W' p11 #[.int .i64 lo, .int .i64 hi] 68
 rn : RdI W' na ns
 kb : KpB (fun b => b < N ∧ b ≠ c.M ∧ b ≠ c.K) c.M a.st a.fo W1 W'
 kf : KeepsFrom L W1 W'
 z : W1.heap.size ≤ W'.heap.size
 g1 : Box W' (N + 4) #[.slice la ss.length lc] 176
 g2 : W'.ownsRow (N + 3) 68 2 (.slice la ss.length lc) ss.length (rowC spC ss)
 g3 : ∀ g, (Value.slice la ss.length lc).ownBlock = some g → ¬ Q g
theorem ComB.below {c : CB} {a : Tl} {sa fa : Option Addr} {sc fc : Nat} {fv : Value} {W : Int → Int} {S : World → Prop} {n0 i k N m L p11 : Nat} {w W1 W2 W3 : World} {P : List Int → Prop} {Q : Nat → Prop} {lo hi : Int} {na : Option Addr} {ns : List Int} {ss : List (Int × Int)} {la : Option Addr} {lc : Nat} (hc : TellC c a fv W S n0) (hn : n0 ≤ N) (h : ComB c a sa fa sc fc fv W S i k N w P m Q L W1 p11 lo hi na ns ss la lc W2) (hN : N ≤ W2.heap.size) (hb : Below W2.heap.size W2 W3) : ComB c a sa fa sc fc fv W S i k N w P m Q L W1 p11 lo hi na ns ss la lc W3 :=
 ⟨h.com.below hc hn hN hb, h.b11.below hb h.b11.lt, h.rn.below hb, h.kb.trans (KpB.of_keepZ (Keep.of_below (Z := fun b => b < W2.heap.size) hb (fun _ _ h => h)) (fun b ⟨_, ho, _⟩ => (Array.getElem?_eq_some_iff.1 ho).1) (fun b hb => by have := hb.1; show b < W2.heap.size; omega) (fun h => h.kept (hb.block _ h.lt))), h.kf.trans (kf_below hb), Nat.le_trans h.z hb.size, h.g1.below hb h.g1.lt, own_below h.g2 hb (Nat.le_refl _), h.g3⟩
structure TellLt (c : CB) (N : Nat) : Prop where
 kb : c.kb < N
 xb : c.xb < N
 tb : c.tb < N
 vb : c.vb < N
 pb : c.pb < N
 eb : c.eb < N
 qb : c.qb < N
 M : c.M < N
 K : c.K < N
theorem Tell.low {w w' : World} {c : CB} {a : Tl} {sa fa : Option Addr} {sc fc : Nat} {fv : Value} {W : Int → Int} {S : World → Prop} {n0 N : Nat} (hc : TellC c a fv W S n0) (hn : n0 ≤ N) (h : Tell w c a sa fa sc fc fv W S) (hlt : TellLt c N) (r3 : a.st ≠ [] → ∀ {p : Addr}, sa = some p → p.block < N) (r4 : a.fo ≠ [] → ∀ {p : Addr}, fa = some p → p.block < N) (kp : Keep (· < N) w w') : Tell w' c a sa fa sc fc fv W S :=
 ⟨kp.box hlt.kb h.known, kp.box hlt.xb h.x, kp.box hlt.tb h.tell, kp.box hlt.vb h.worth,
  ⟨kp.box hlt.pb h.half.pair, kp.box hlt.eb h.half.fin, kp.box hlt.qb h.half.known, kp.pmap hlt.M h.half.map, kp.rdI (fun hx p hp => r3 hx hp) h.half.s, kp.rdI (fun hx p hp => r4 hx hp) h.half.f⟩, kp.pmap hlt.K h.map, hc.sk _ _ h.s (kp.mono (fun b _ hb => by have := hb.1; show b < N; omega))⟩
def errAll (ts : List Tl) : Int := if 6 < ts.length then 2 else if ts.all Tl.ok then 0 else 70
theorem all_any (a : Option Addr) (c : Nat) (ts : List Tl) (w : World) (hl : ts.length ≤ 4000) (ht : Tab w) (hs : ∀ t ∈ ts, t.small) (h : RdT w a ts) :
  Calls Tryd.prog 79 #[.slice a ts.length c] w fun e w' => e = .returned (.int .i64 (errAll ts)) ∧ Below w.heap.size w w' := by
 have H := hid h; clear h
 have HT := hid ht; clear ht
 have HS := hid hs; clear hs
 by_cases h6 : (6 : Int) < (ts.length : Int)
 ·go_enter Tryd.func79, Tryd.ntmps79
  go_wp2_with fail
  go_ret
  exact ⟨(congrArg (fun b => Ending.returned (Value.int .i64 b)) (by unfold errAll; rw [if_pos (by omega)])), Below.refl _ _⟩
 ·have E : Hid (¬ 6 < ts.length) := by show ¬ 6 < ts.length; omega
  go_enter Tryd.func79, Tryd.ntmps79
  go_wp2_with fail
  go_loopw [11] (fun i wr => ∃ k : Nat, k ≤ ts.length ∧ i = .int .i64 k ∧ (ts.take k).all Tl.ok = true ∧ Below w.heap.size w wr) (fun i _ => (ts.length - (intOf i).toNat))
  case atStart => exact ⟨0, by omega, rfl, by simp, Below.refl _ _⟩
  case round =>
   obtain ⟨k, hk, rfl, hno, hb⟩ := hrel
   have Hno := hid hno; clear hno
   by_cases hlt : k < ts.length
   ·obtain ⟨b, o, sa, sc, fa, fc, rfl, g0, g1, g2, g3, g4, g5⟩ := H.out.below hb k hlt
    have hbl := cell_lt g0
    have hsz := hb.size
    have HG4 := hid g4; have HG5 := hid g5; clear g4 g5
    go_wp2_with fail
    refine (check_any _ _ _ _ _ _ _ _ _ (HT.out.below goBl) (HS.out _ (List.getElem_mem hlt)).1 (HS.out _ (List.getElem_mem hlt)).2 (HG4.out.below goBl) (HG5.out.below goBl)).mono ?_
    rintro e w1 ⟨rfl, hb1⟩
    have hz1 := hb1.size; (try simp only [World.size_alloc] at hz1)
    by_cases hok : okT ts[k].id ts[k].hs ts[k].st ts[k].fo = true
    ·have t1 : (errT (okT ts[k].id ts[k].hs ts[k].st ts[k].fo) != 0) = false := by rw [hok]; rfl
     have HK := hid hok; clear hok
     go_wp2_with fail
     go_roundw
     case rel =>
      refine ⟨k + 1, by omega, by go_num, ?_, goBl⟩
      rw [List.take_succ_eq_append_getElem hlt, List.all_append, Hno.out]
      simpa [Tl.ok] using HK.out
     case measure => simp [intOf]; omega
    ·have hok' : okT ts[k].id ts[k].hs ts[k].st ts[k].fo = false := by simpa using hok
     have t1 : (errT (okT ts[k].id ts[k].hs ts[k].st ts[k].fo) != 0) = true := by rw [hok']; rfl
     have HK := hid hok'; clear hok hok'
     go_wp2_with fail
     go_ret
     refine ⟨(congrArg (fun b => Ending.returned (Value.int .i64 b)) ?_), goBl⟩
     have h2 : ts.all Tl.ok = false := List.all_eq_false.2 ⟨_, List.getElem_mem hlt, by simp [Tl.ok, HK.out]⟩
     rw [HK.out]; unfold errAll; rw [if_neg E.out, h2]; rfl
   ·go_wp2_with fail
    go_ret
    refine ⟨(congrArg (fun b => Ending.returned (Value.int .i64 b)) ?_), hb⟩
    have : k = ts.length := by omega
    subst this
    have h2 := Hno.out
    rw [List.take_of_length_le (Nat.le_refl _)] at h2
    unfold errAll; rw [if_neg E.out, h2]; rfl
theorem checked_any (a : Option Addr) (c : Nat) (ts : List Tl) (w : World) (hl : ts.length ≤ 4000) (hs : ∀ t ∈ ts, t.small) (h : RdT w a ts) :
  Calls Tryd.prog 97 #[.slice a ts.length c] w fun e w' => e = .returned (.int .i64 (errAll ts)) ∧ Below w.heap.size w w' := by
 have H := hid h; clear h
 have HS := hid hs; clear hs
 by_cases h6 : (6 : Int) < (ts.length : Int)
 ·go_enter Tryd.func97, Tryd.ntmps97
  go_wp2_with fail
  go_ret
  exact ⟨(congrArg (fun b => Ending.returned (Value.int .i64 b)) (by unfold errAll; rw [if_pos (by omega)])), Below.refl _ _⟩
 ·have E : Hid (¬ 6 < ts.length) := by show ¬ 6 < ts.length; omega
  go_enter Tryd.func97, Tryd.ntmps97
  go_wp2_with fail
  go_loopw [10] (fun i wr => ∃ k : Nat, k ≤ ts.length ∧ i = .int .i64 k ∧ (ts.take k).all Tl.ok = true ∧ Below w.heap.size w wr) (fun i _ => (ts.length - (intOf i).toNat))
  case atStart => exact ⟨0, by omega, rfl, by simp, Below.refl _ _⟩
  case round =>
   obtain ⟨k, hk, rfl, hno, hb⟩ := hrel
   have Hno := hid hno; clear hno
   by_cases hlt : k < ts.length
   ·obtain ⟨b, o, sa, sc, fa, fc, rfl, g0, g1, g2, g3, g4, g5⟩ := H.out.below hb k hlt
    have hbl := cell_lt g0
    have hsz := hb.size
    have HG4 := hid g4; have HG5 := hid g5; clear g4 g5
    go_wp2_with fail
    refine (tally_any _ _ _ _ _ _ _ _ _ (HS.out _ (List.getElem_mem hlt)).1 (HS.out _ (List.getElem_mem hlt)).2 (HG4.out.below goBl) (HG5.out.below goBl)).mono ?_
    rintro e w1 ⟨rfl, hb1⟩
    have hz1 := hb1.size; (try simp only [World.size_alloc] at hz1)
    by_cases hok : okT ts[k].id ts[k].hs ts[k].st ts[k].fo = true
    ·have HK := hid hok
     go_wp2_with fail
     go_roundw
     case rel =>
      refine ⟨k + 1, by omega, by go_num, ?_, goBl⟩
      rw [List.take_succ_eq_append_getElem hlt, List.all_append, Hno.out]
      simpa [Tl.ok] using HK.out
     case measure => simp [intOf]; omega
    ·have hok' : okT ts[k].id ts[k].hs ts[k].st ts[k].fo = false := by simpa using hok
     have HK := hid hok'; clear hok
     go_wp2_with fail
     go_ret
     refine ⟨(congrArg (fun b => Ending.returned (Value.int .i64 b)) ?_), goBl⟩
     have h2 : ts.all Tl.ok = false := List.all_eq_false.2 ⟨_, List.getElem_mem hlt, by simp [Tl.ok, HK.out]⟩
     unfold errAll; rw [if_neg E.out, h2]; rfl
   ·go_wp2_with fail
    go_ret
    refine ⟨(congrArg (fun b => Ending.returned (Value.int .i64 b)) ?_), hb⟩
    have : k = ts.length := by omega
    subst this
    have h2 := Hno.out
    rw [List.take_of_length_le (Nat.le_refl _)] at h2
    unfold errAll; rw [if_neg E.out, h2]; rfl
structure Rt where
 skin : Int
 half : Int
 barrel : Int
 paid : Int
def Rt.val (r : Rt) : Value := .agg #[.int .i64 r.skin, .int .i64 r.half, .int .i64 r.barrel, .int .i64 r.paid]
def Rt.ok (r : Rt) : Bool := (decide (0 ≤ r.skin) && decide (r.skin ≤ 1000)) && ((decide (0 ≤ r.half) && decide (r.half ≤ 1000)) && ((decide (0 ≤ r.barrel) && decide (r.barrel ≤ 1000)) && (decide (0 ≤ r.paid) && decide (r.paid ≤ 1000))))
theorem infoInt : (Tryd.prog.info? 3).map (fun i => (i.zero, i.size, i.bytes)) = some (some (.int .i64 0), 1, 8) := by kernel_rfl
theorem clone_any (a : Option Addr) (c : Nat) (xs : List Int) (w : World) (hl : xs.length ≤ 4000) (h : RdI w a xs) :
  Calls Tryd.prog 102 #[.slice a xs.length c] w fun e w' => ∃ a' c', e = .returned (.slice a' xs.length c') ∧ Below w.heap.size w w' ∧ w'.ownsRow w.heap.size 3 1 (.slice a' xs.length c') xs.length (xs.map (Value.int .i64)) := by
 have qT : ∀ (w : World) (a : Option Addr) (n c n' c' : Nat), (binOp .eql 22 (.slice a n c) (.slice none n' c')).run Tryd.prog w = .ok (.bool a.isNone) w := fun w a n c n' c' => Lib.run_eql_slice_nil w _ _ a n c n' c' Tryd.underlying22
 have H := hid h; clear h
 cases a with
 | none =>
  have hx : xs = [] := List.length_eq_zero_iff.1 (RdI.none H.out rfl)
  subst hx
  go_enter Tryd.func102, Tryd.ntmps102
  go_wp2_with fail
  go_ret
  exact ⟨none, 0, rfl, Below.refl _ _, World.ownsRow_nil _ _ _ _⟩
 | some ad =>
  obtain ⟨i0, hi, iz0, iz1, iz2⟩ := info_parts infoInt
  go_enter Tryd.func102, Tryd.ntmps102
  go_wp2_with (at_builtin; refine wpList_append_any _ rfl _ _ _ rfl w.heap.size 3 i0 _ 1 8 Tryd.underlying22 hi iz0 iz1 iz2 rfl (by decide) (.slice (some ⟨_, 0, none⟩) 0 0) 0 [] rfl (by repeat (first | (with_reducible assumption) | (with_reducible refine World.ownsRow.drew ?_) | ((with_reducible refine own_lit ?_ ?_ ?_ ?_ ?_) <;> first | rfl | omega | (simp; omega)) | (with_reducible refine World.ownsRow.alloc ?_ _) | (with_reducible refine own_other ?_ yL) | (refine World.ownsRow.kept ?_ (by with_reducible assumption) (.inr (by first | (simp [Value.ownBlock]; done) | (simp [Value.ownBlock]; omega)))))) (some ad) xs.length c (xs.map (Value.int .i64)) rfl (by simp) (RdI.none (H.out.below goBl)) (RdI.news (H.out.below goBl)) (ints_one _) (by omega) (by omega) yL ?_; intro a' c' w1 own1 gr1 pl1)
  go_ret
  exact ⟨a', c', by simp, Below.grown (a := w) goBl gr1 yL (by intro k hk; simp [Value.ownBlock] at hk; omega), by simpa using own1⟩
def RowAt (W : World) (cs : Array Value) (a b : List Int) (O X : Nat) (r : Nat) : Prop := ∃ R rs, cs[r]? = some (.slice (some ⟨R, 0, none⟩) (b.length + 1) (b.length + 1)) ∧ R < X ∧ R ≠ O ∧ Box W R rs 3 ∧ rs.size = b.length + 1 ∧ ∀ k, k ≤ b.length → rs[k]? = some (.int .i64 (dd a b r k : Int))
theorem RowAt.keep {W W' : World} {cs cs' : Array Value} {a b : List Int} {O X X' r : Nat} (h : RowAt W cs a b O X r) (hc : cs'[r]? = cs[r]?) (hX : X ≤ X') (hk : ∀ k, k < X → k ≠ O → W'.heap[k]? = W.heap[k]?) : RowAt W' cs' a b O X' r := by
 obtain ⟨R, rs, h1, h2, h3, h4, h5, h6⟩ := h
 exact ⟨R, rs, hc.trans h1, by omega, h3, (hk R h2 h3).trans h4, h5, h6⟩
def Same (a b : World) : Prop := b.heap = a.heap ∧ b.os = a.os ∧ b.tape = a.tape ∧ b.output = a.output
theorem Same.box {a b : World} (h : Same a b) {k : Nat} {cs : Array Value} {t : TypeId} (hb : Box a k cs t) : Box b k cs t := by unfold Box at *; rw [h.1]; exact hb
theorem Same.below {w a b : World} {B : Nat} (h : Same a b) (hb : Below B w a) : Below B w b := ⟨h.2.1.trans hb.os, h.2.2.1.trans hb.tape, h.2.2.2.trans hb.output, by rw [h.1]; exact hb.size, fun k hk => by rw [h.1]; exact hb.block k hk⟩
def Tbl (w : World) (O : Nat) (a b : List Int) : Prop := ∀ i, i ≤ a.length → ∃ R, w.cell? ⟨O, i, none⟩ = some (.slice (some ⟨R, 0, none⟩) (b.length + 1) (b.length + 1)) ∧ ∀ k, k ≤ b.length → w.cell? ⟨R, k, none⟩ = some (.int .i64 (dd a b i k : Int))
theorem infoRow : (Tryd.prog.info? 22).map (fun i => (i.zero, i.size, i.bytes)) = some (some (.slice none 0 0), 1, 24) := by kernel_rfl
theorem table_any (a b : List Int) (aa ba : Option Addr) (ca cb : Nat) (w : World) (hl : a.length ≤ 1000) (hl2 : b.length ≤ 1000) (h1 : RdI w aa a) (h2 : RdI w ba b) :
  Calls Tryd.prog 89 #[.slice aa a.length ca, .slice ba b.length cb] w fun e w' => ∃ O, e = .returned (.slice (some ⟨O, 0, none⟩) (a.length + 1) (a.length + 1)) ∧ Below w.heap.size w w' ∧ Tbl w' O a b := by
 have hm := mixedS
 have H1 := hid h1; have H2 := hid h2; clear h1 h2
 obtain ⟨i0, hi0, iz0, iz1, iz2⟩ := info_parts infoInt
 obtain ⟨i1, hi1, jz0, jz1, jz2⟩ := info_parts infoRow
 have mk1 : ∀ W : World, (Instr.makeSlice 93 (.int .i64 ((a.length : Int) + 1)) (.int .i64 ((a.length : Int) + 1))).run Tryd.prog W = .ok (.slice (some ⟨W.heap.size, 0, none⟩) (a.length + 1) (a.length + 1)) (W.alloc (.cells (madeCells (Value.slice none 0 0).cells ((a.length + 1) * i1.size)) 22)) := fun W => by
  have := run_make (P := Tryd.prog) W 93 22 i1 _ Tryd.underlying93 hi1 jz0 .i64 .i64 ((a.length : Int) + 1) ((a.length : Int) + 1) (by omega) (by omega) (by rw [jz2]; omega) (by omega)
  rw [this]
  have e : ((a.length : Int) + 1).toNat = a.length + 1 := by omega
  rw [e]
 have mk2 : ∀ W : World, (Instr.makeSlice 22 (.int .i64 ((b.length : Int) + 1)) (.int .i64 ((b.length : Int) + 1))).run Tryd.prog W = .ok (.slice (some ⟨W.heap.size, 0, none⟩) (b.length + 1) (b.length + 1)) (W.alloc (.cells (madeCells (Value.int .i64 0).cells ((b.length + 1) * i0.size)) 3)) := fun W => by
  have := run_make (P := Tryd.prog) W 22 3 i0 _ Tryd.underlying22 hi0 iz0 .i64 .i64 ((b.length : Int) + 1) ((b.length : Int) + 1) (by omega) (by omega) (by rw [iz2]; omega) (by omega)
  rw [this]
  have e : ((b.length : Int) + 1).toNat = b.length + 1 := by omega
  rw [e]
 go_enter Tryd.func89, Tryd.ntmps89
 go_wp2_with fail
 refine wp_world (fun W => (∃ cs, Box W w.heap.size cs 22 ∧ cs.size = a.length + 1) ∧ Below w.heap.size w W) ⟨⟨madeCells #[.slice none 0 0] (a.length + 1), Box.at _ _ rfl, size_madeCells _ _⟩, goBl⟩ ?_
 rintro W0 ⟨⟨cs0, hb0, hz0⟩, hB0⟩
 go_loopw [6] (fun p W => ∃ j, j ≤ a.length + 1 ∧ p = .int .i64 ((j : Int) - 1) ∧ (∃ cs, Box W w.heap.size cs 22 ∧ cs.size = a.length + 1 ∧ ∀ r, j ≤ r → r ≤ a.length → RowAt W cs a b w.heap.size W.heap.size r) ∧ Below w.heap.size w W) (fun p _ => (intOf p + 1).toNat)
 case atStart => exact ⟨a.length + 1, by omega, by simp, ⟨cs0, hb0, hz0, fun r h1 h2 => by omega⟩, hB0⟩
 case round =>
  obtain ⟨j, hj, rfl, ⟨cs, hO, hcs, hrows⟩, hB⟩ := hrel
  have HR := hid hrows; clear hrows
  cases j with
  | zero =>
   go_wp2_with fail
   go_ret
   refine ⟨w.heap.size, rfl, hB, fun r hr => ?_⟩
   obtain ⟨R, rs, g1, g2, _, g3, g4, g5⟩ := HR.out r (Nat.zero_le _) hr
   exact ⟨R, (hO.cell r).trans g1, fun k hk => (g3.cell k).trans (g5 k hk)⟩
  | succ i =>
   have ei : (((i + 1 : Nat) : Int) - 1) = (i : Int) := by omega
   rw [ei]
   have hO0 := hid hO
   have hlO := hO.lt
   obtain ⟨v0, hv0⟩ : ∃ v, wr.cell? ⟨w.heap.size, i, none⟩ = some v := ⟨cs[i], (hO.cell i).trans (Array.getElem?_eq_getElem (by omega))⟩
   have hf0 := hO.frozen i
   have hi : i ≤ a.length := by omega
   clear hO
   go_wp2_with fail
   refine wp_world (fun W => (∃ cs, Box W w.heap.size cs 22 ∧ cs.size = a.length + 1 ∧ cs[i]? = some (.slice (some ⟨wr.heap.size, 0, none⟩) (b.length + 1) (b.length + 1)) ∧ ∀ r, i + 1 ≤ r → r ≤ a.length → RowAt W cs a b w.heap.size wr.heap.size r) ∧ Below w.heap.size w W ∧ W.heap.size = wr.heap.size + 1 ∧ ∃ rs, Box W wr.heap.size rs 3 ∧ rs.size = b.length + 1) ⟨⟨cs.setIfInBounds i (.slice (some ⟨wr.heap.size, 0, none⟩) (b.length + 1) (b.length + 1)), (hO0.out.set i _).alloc _, by simpa using hcs, by rw [Array.getElem?_setIfInBounds]; simp; omega, ?_⟩, ?_, by simp, madeCells #[.int .i64 0] (b.length + 1), Box.at _ _ (by simp), size_madeCells _ _⟩ ?_
   ·intro r h1 h2
    refine (HR.out r h1 h2).keep ?_ (Nat.le_refl _) (fun k hk hne => ?_)
    ·rw [Array.getElem?_setIfInBounds, if_neg (by omega)]
    ·exact (Below.heap_alloc _ _ k (by simpa using hk)).trans (Below.heap_setCell _ _ _ k hne)
   ·exact goBl
   rintro W0 ⟨⟨cs1, hO1, hcs1, hci1, hrow1⟩, hB1, hz1, rs1, hR1, hrs1⟩
   have HRW1 := hid hrow1; clear hrow1
   clear hv0 hf0 hO0 hcs HR hB hB0
   obtain ⟨X, hX⟩ : ∃ X, X = wr.heap.size := ⟨_, rfl⟩
   rw [← hX] at hci1 hz1 hR1 HRW1 hlO
   clear hX
   go_loopw [7] (fun p W => ∃ l, l ≤ b.length + 1 ∧ p = .int .i64 ((l : Int) - 1) ∧ Box W w.heap.size cs1 22 ∧ (∀ r, i + 1 ≤ r → r ≤ a.length → RowAt W cs1 a b w.heap.size X r) ∧ Below w.heap.size w W ∧ W.heap.size = X + 1 ∧ ∃ rs, Box W X rs 3 ∧ rs.size = b.length + 1 ∧ ∀ k, l ≤ k → k ≤ b.length → rs[k]? = some (.int .i64 (dd a b i k : Int))) (fun p _ => (intOf p + 1).toNat)
   case atStart => exact ⟨b.length + 1, by omega, by simp, hO1, HRW1.out, hB1, hz1, rs1, hR1, hrs1, fun k h1 h2 => by omega⟩
   case round =>
    obtain ⟨l, hlb, rfl, hO2, hrow2, hB2, hz2, rs2, hR2, hrs2, hd2⟩ := hrel
    have HRW2 := hid hrow2; clear hrow2
    have HD2 := hid hd2; clear hd2
    cases l with
    | zero =>
     go_wp2_with fail
     refine ⟨⟨i, by omega, rfl, ⟨cs1, hO2, hcs1, fun r h1 h2 => ?_⟩, hB2⟩, by simp [intOf]⟩
     by_cases hr : r = i
     ·subst hr
      exact ⟨X, rs2, hci1, by omega, by omega, hR2, hrs2, fun k hk => HD2.out k (Nat.zero_le _) hk⟩
     ·exact (HRW2.out r (by omega) h2).keep rfl (by omega) (fun _ _ _ => rfl)
    | succ k =>
     have ek : (((k + 1 : Nat) : Int) - 1) = (k : Int) := by omega
     rw [ek]
     have hk : k ≤ b.length := by omega
     have c0 : wr.cell? ⟨w.heap.size, i, none⟩ = some (.slice (some ⟨X, 0, none⟩) (b.length + 1) (b.length + 1)) := (hO2.cell i).trans hci1
     obtain ⟨v0, hv0⟩ : ∃ v, wr.cell? ⟨X, k, none⟩ = some v := ⟨rs2[k], (hR2.cell k).trans (Array.getElem?_eq_getElem (by omega))⟩
     have hf0 := hR2.frozen k
     have lX := hR2.lt
     have HO2 := hid hO2; have HR2 := hid hR2
     have rel : ∀ (W : World) (n : Int), Same (wr.setCell ⟨X, k, none⟩ (.int .i64 n)) W → n = (dd a b i k : Int) →
       ∃ l, l ≤ b.length + 1 ∧ Value.int .i64 ((k : Int) - 1) = .int .i64 ((l : Int) - 1) ∧ Box W w.heap.size cs1 22 ∧ (∀ r, i + 1 ≤ r → r ≤ a.length → RowAt W cs1 a b w.heap.size X r) ∧ Below w.heap.size w W ∧ W.heap.size = X + 1 ∧ ∃ rs, Box W X rs 3 ∧ rs.size = b.length + 1 ∧ ∀ k, l ≤ k → k ≤ b.length → rs[k]? = some (.int .i64 (dd a b i k : Int)) := by
      rintro W n hs rfl
      refine ⟨k, by omega, rfl, hs.box (hO2.other _ _ _ (by omega)), fun r h1 h2 => (HRW2.out r h1 h2).keep rfl (Nat.le_refl _) (fun j hj _ => by rw [hs.1]; exact Below.heap_setCell _ _ _ j (show j ≠ X by omega)), hs.below (hB2.setCell (p := ⟨X, k, none⟩) (show w.heap.size ≤ X by omega) _), by rw [hs.1, World.size_setCell]; exact hz2, _, hs.box (hR2.set k _), by simpa using hrs2, fun j h1 h2 => ?_⟩
      rw [Array.getElem?_setIfInBounds]
      by_cases hj : k = j
      ·subst hj; rw [if_pos rfl, if_pos (by omega)]
      ·rw [if_neg hj]; exact HD2.out j (by omega) h2
     have REL := hid rel; clear rel
     clear hO2 hR2
     have ei' : i + 1 ≤ a.length ∨ i = a.length := by omega
     by_cases hin : i = a.length
     ·have hend : (a.length - i) + (b.length - k) = dd a b i k := (dist_end (.inl (by omega))).symm
      have HE := hid hend; clear hend
      have hq : ((i : Int) == (a.length : Int)) = true := by rw [hin]; exact beq_self_eq_true _
      clear hin ei'
      go_wp2_with fail
      exact ⟨REL.out _ _ ⟨rfl, rfl, rfl, rfl⟩ (by have := HE.out; omega), by simp [intOf]⟩
     ·have hq : ((i : Int) == (a.length : Int)) = false := by rw [beq_eq_false_iff_ne]; omega
      have hil : i < a.length := by omega
      clear hin ei'
      by_cases hkn : k = b.length
      ·have hend : (a.length - i) + (b.length - k) = dd a b i k := (dist_end (.inr (by omega))).symm
       have HE := hid hend; clear hend
       have hq2 : ((k : Int) == (b.length : Int)) = true := by rw [hkn]; exact beq_self_eq_true _
       clear hkn
       go_wp2_with fail
       exact ⟨REL.out _ _ ⟨rfl, rfl, rfl, rfl⟩ (by have := HE.out; omega), by simp [intOf]⟩
      ·have hq2 : ((k : Int) == (b.length : Int)) = false := by rw [beq_eq_false_iff_ne]; omega
       have hkl : k < b.length := by omega
       clear hkn
       obtain ⟨R1, rs1, g1, g2, g3, g4, g5, g6⟩ := HRW2.out (i + 1) (Nat.le_refl _) (by omega)
       have G4 := hid g4; have G6 := hid g6
       have c1 : wr.cell? ⟨w.heap.size, i + 1, none⟩ = some (.slice (some ⟨R1, 0, none⟩) (b.length + 1) (b.length + 1)) := (HO2.out.cell (i + 1)).trans g1
       have d11 : wr.cell? ⟨R1, k + 1, none⟩ = some (.int .i64 (dd a b (i + 1) (k + 1) : Int)) := (g4.cell (k + 1)).trans (g6 (k + 1) (by omega))
       have d10 : wr.cell? ⟨R1, k, none⟩ = some (.int .i64 (dd a b (i + 1) k : Int)) := (g4.cell k).trans (g6 k (by omega))
       have d01 : wr.cell? ⟨X, k + 1, none⟩ = some (.int .i64 (dd a b i (k + 1) : Int)) := (HR2.out.cell (k + 1)).trans (HD2.out (k + 1) (by omega) (by omega))
       clear g1 g2 g3 g4 g5 g6
       obtain ⟨ab, ao, rfl, ca'⟩ := (H1.out.below hB2) i hil
       obtain ⟨bb, bo, rfl, cb'⟩ := (H2.out.below hB2) k hkl
       have dd0 : dd a b i k = min (dd a b (i + 1) (k + 1) + (if a[i] = b[k] then 0 else 1)) (min (dd a b (i + 1) k + 1) (dd a b i (k + 1) + 1)) := dist_drop hil hkl
       have DD := hid dd0; clear dd0
       have e1 := dd_le a b (i + 1) (k + 1) (by omega) (by omega)
       have e2 := dd_le a b (i + 1) k (by omega) (by omega)
       have e3 := dd_le a b i (k + 1) (by omega) (by omega)
       have t1 : (i : Int) < (a.length : Int) + 1 := by omega
       have t2 : (k : Int) < (b.length : Int) + 1 := by omega
       have w1 := wrap_small (n := (i : Int) + 1) (by omega) (by omega)
       have w2 := wrap_small (n := (k : Int) + 1) (by omega) (by omega)
       have w3 := wrap_small (n := (dd a b (i + 1) k : Int) + 1) (by omega) (by omega)
       have w4 := wrap_small (n := (dd a b i (k + 1) : Int) + 1) (by omega) (by omega)
       by_cases he : a[i] = b[k]
       ·have hne : (a[i] != b[k]) = false := by simp [he]
        have HEQ := hid he; clear he
        go_wp2_with fail
        go_big_quiet (fail)
        go_wp2_with fail
        refine wp_region_F [3, 10, 13, 18, 22] (fun w' => w'.cell? ⟨w.heap.size, i, none⟩ = some (.slice (some ⟨X, 0, none⟩) (b.length + 1) (b.length + 1)) ∧ w'.cell? ⟨w.heap.size, i + 1, none⟩ = some (.slice (some ⟨R1, 0, none⟩) (b.length + 1) (b.length + 1)) ∧ w'.cell? ⟨R1, k, none⟩ = some (.int .i64 (dd a b (i + 1) k : Int)) ∧ w'.cell? ⟨X, k + 1, none⟩ = some (.int .i64 (dd a b i (k + 1) : Int))) hm ⟨by go_simp, by go_simp, by go_simp, by go_simp⟩ ?_
        intro hS0; have hS := hid hS0; clear hS0
        (apply wpAnyF_pure (i := 0) rfl (by kernel_rfl) (fun _ _ _ h => h); · first | exact .inr ⟨rfl, rfl⟩ | exact .inl ⟨rfl, fun w' => by go_simp; rfl⟩); simp only [Act.put, List.setIfInBounds_toArray, List.set_cons_succ, List.set_cons_zero, List.getElem_toArray, List.getElem_cons_succ, List.getElem_cons_zero]
        (apply wpAnyF_pure (i := 1) rfl (by kernel_rfl) (fun _ _ _ h => h); · first | exact .inr ⟨rfl, rfl⟩ | exact .inl ⟨rfl, fun w' => by go_simp; rfl⟩); simp only [Act.put, List.setIfInBounds_toArray, List.set_cons_succ, List.set_cons_zero, List.getElem_toArray, List.getElem_cons_succ, List.getElem_cons_zero]
        (apply wpAnyF_pure (i := 2) rfl (by kernel_rfl) (fun _ _ _ h => h); · first | exact .inr ⟨rfl, rfl⟩ | exact .inl ⟨rfl, fun w' => by go_simp; rfl⟩); simp only [Act.put, List.setIfInBounds_toArray, List.set_cons_succ, List.set_cons_zero, List.getElem_toArray, List.getElem_cons_succ, List.getElem_cons_zero]
        (apply wpAnyF_held (i := 3) rfl (by kernel_rfl) (fun _ _ _ h => h) hS.out; · first | exact .inr ⟨rfl, rfl⟩ | exact .inl ⟨rfl, fun w' hS' => by (obtain ⟨s1, s2, s3, s4⟩ := hS'; go_simp; rfl)⟩); simp only [Act.put, List.setIfInBounds_toArray, List.set_cons_succ, List.set_cons_zero, List.getElem_toArray, List.getElem_cons_succ, List.getElem_cons_zero]
        (apply wpAnyF_pure (i := 4) rfl (by kernel_rfl) (fun _ _ _ h => h); · first | exact .inr ⟨rfl, rfl⟩ | exact .inl ⟨rfl, fun w' => by go_simp; rfl⟩); simp only [Act.put, List.setIfInBounds_toArray, List.set_cons_succ, List.set_cons_zero, List.getElem_toArray, List.getElem_cons_succ, List.getElem_cons_zero]
        (apply wpAnyF_pure (i := 5) rfl (by kernel_rfl) (fun _ _ _ h => h); · first | exact .inr ⟨rfl, rfl⟩ | exact .inl ⟨rfl, fun w' => by go_simp; rfl⟩); simp only [Act.put, List.setIfInBounds_toArray, List.set_cons_succ, List.set_cons_zero, List.getElem_toArray, List.getElem_cons_succ, List.getElem_cons_zero]
        (apply wpAnyF_pure (i := 6) rfl (by kernel_rfl) (fun _ _ _ h => h); · first | exact .inr ⟨rfl, rfl⟩ | exact .inl ⟨rfl, fun w' => by go_simp; rfl⟩); simp only [Act.put, List.setIfInBounds_toArray, List.set_cons_succ, List.set_cons_zero, List.getElem_toArray, List.getElem_cons_succ, List.getElem_cons_zero]
        (apply wpAnyF_pure (i := 7) rfl (by kernel_rfl) (fun _ _ _ h => h); · first | exact .inr ⟨rfl, rfl⟩ | exact .inl ⟨rfl, fun w' => by go_simp; rfl⟩); simp only [Act.put, List.setIfInBounds_toArray, List.set_cons_succ, List.set_cons_zero, List.getElem_toArray, List.getElem_cons_succ, List.getElem_cons_zero]
        (apply wpAnyF_pure (i := 8) rfl (by kernel_rfl) (fun _ _ _ h => h); · first | exact .inr ⟨rfl, rfl⟩ | exact .inl ⟨rfl, fun w' => by go_simp; rfl⟩); simp only [Act.put, List.setIfInBounds_toArray, List.set_cons_succ, List.set_cons_zero, List.getElem_toArray, List.getElem_cons_succ, List.getElem_cons_zero]
        (apply wpAnyF_pure (i := 9) rfl (by kernel_rfl) (fun _ _ _ h => h); · first | exact .inr ⟨rfl, rfl⟩ | exact .inl ⟨rfl, fun w' => by go_simp; rfl⟩); simp only [Act.put, List.setIfInBounds_toArray, List.set_cons_succ, List.set_cons_zero, List.getElem_toArray, List.getElem_cons_succ, List.getElem_cons_zero]
        (apply wpAnyF_held (i := 10) rfl (by kernel_rfl) (fun _ _ _ h => h) hS.out; · first | exact .inr ⟨rfl, rfl⟩ | exact .inl ⟨rfl, fun w' hS' => by (obtain ⟨s1, s2, s3, s4⟩ := hS'; go_simp; rfl)⟩); simp only [Act.put, List.setIfInBounds_toArray, List.set_cons_succ, List.set_cons_zero, List.getElem_toArray, List.getElem_cons_succ, List.getElem_cons_zero]
        (apply wpAnyF_pure (i := 11) rfl (by kernel_rfl) (fun _ _ _ h => h); · first | exact .inr ⟨rfl, rfl⟩ | exact .inl ⟨rfl, fun w' => by go_simp; rfl⟩); simp only [Act.put, List.setIfInBounds_toArray, List.set_cons_succ, List.set_cons_zero, List.getElem_toArray, List.getElem_cons_succ, List.getElem_cons_zero]
        (apply wpAnyF_pure (i := 12) rfl (by kernel_rfl) (fun _ _ _ h => h); · first | exact .inr ⟨rfl, rfl⟩ | exact .inl ⟨rfl, fun w' => by go_simp; rfl⟩); simp only [Act.put, List.setIfInBounds_toArray, List.set_cons_succ, List.set_cons_zero, List.getElem_toArray, List.getElem_cons_succ, List.getElem_cons_zero]
        (apply wpAnyF_held (i := 13) rfl (by kernel_rfl) (fun _ _ _ h => h) hS.out; · first | exact .inr ⟨rfl, rfl⟩ | exact .inl ⟨rfl, fun w' hS' => by (obtain ⟨s1, s2, s3, s4⟩ := hS'; go_simp; rfl)⟩); simp only [Act.put, List.setIfInBounds_toArray, List.set_cons_succ, List.set_cons_zero, List.getElem_toArray, List.getElem_cons_succ, List.getElem_cons_zero]
        (apply wpAnyF_pure (i := 14) rfl (by kernel_rfl) (fun _ _ _ h => h); · first | exact .inr ⟨rfl, rfl⟩ | exact .inl ⟨rfl, fun w' => by go_simp; rfl⟩); simp only [Act.put, List.setIfInBounds_toArray, List.set_cons_succ, List.set_cons_zero, List.getElem_toArray, List.getElem_cons_succ, List.getElem_cons_zero]
        (apply wpAnyF_pure (i := 15) rfl (by kernel_rfl) (fun _ _ _ h => h); · first | exact .inr ⟨rfl, rfl⟩ | exact .inl ⟨rfl, fun w' => by go_simp; rfl⟩); simp only [Act.put, List.setIfInBounds_toArray, List.set_cons_succ, List.set_cons_zero, List.getElem_toArray, List.getElem_cons_succ, List.getElem_cons_zero]
        (apply wpAnyF_pure (i := 16) rfl (by kernel_rfl) (fun _ _ _ h => h); · first | exact .inr ⟨rfl, rfl⟩ | exact .inl ⟨rfl, fun w' => by go_simp; rfl⟩); simp only [Act.put, List.setIfInBounds_toArray, List.set_cons_succ, List.set_cons_zero, List.getElem_toArray, List.getElem_cons_succ, List.getElem_cons_zero]
        (apply wpAnyF_pure (i := 17) rfl (by kernel_rfl) (fun _ _ _ h => h); · first | exact .inr ⟨rfl, rfl⟩ | exact .inl ⟨rfl, fun w' => by go_simp; rfl⟩); simp only [Act.put, List.setIfInBounds_toArray, List.set_cons_succ, List.set_cons_zero, List.getElem_toArray, List.getElem_cons_succ, List.getElem_cons_zero]
        (apply wpAnyF_held (i := 18) rfl (by kernel_rfl) (fun _ _ _ h => h) hS.out; · first | exact .inr ⟨rfl, rfl⟩ | exact .inl ⟨rfl, fun w' hS' => by (obtain ⟨s1, s2, s3, s4⟩ := hS'; go_simp; rfl)⟩); simp only [Act.put, List.setIfInBounds_toArray, List.set_cons_succ, List.set_cons_zero, List.getElem_toArray, List.getElem_cons_succ, List.getElem_cons_zero]
        (apply wpAnyF_pure (i := 19) rfl (by kernel_rfl) (fun _ _ _ h => h); · first | exact .inr ⟨rfl, rfl⟩ | exact .inl ⟨rfl, fun w' => by go_simp; rfl⟩); simp only [Act.put, List.setIfInBounds_toArray, List.set_cons_succ, List.set_cons_zero, List.getElem_toArray, List.getElem_cons_succ, List.getElem_cons_zero]
        (apply wpAnyF_pure (i := 20) rfl (by kernel_rfl) (fun _ _ _ h => h); · first | exact .inr ⟨rfl, rfl⟩ | exact .inl ⟨rfl, fun w' => by go_simp; rfl⟩); simp only [Act.put, List.setIfInBounds_toArray, List.set_cons_succ, List.set_cons_zero, List.getElem_toArray, List.getElem_cons_succ, List.getElem_cons_zero]
        (apply wpAnyF_pure (i := 21) rfl (by kernel_rfl) (fun _ _ _ h => h); · first | exact .inr ⟨rfl, rfl⟩ | exact .inl ⟨rfl, fun w' => by go_simp; rfl⟩); simp only [Act.put, List.setIfInBounds_toArray, List.set_cons_succ, List.set_cons_zero, List.getElem_toArray, List.getElem_cons_succ, List.getElem_cons_zero]
        (apply wpAnyF_held (i := 22) rfl (by kernel_rfl) (fun _ _ _ h => h) hS.out; · first | exact .inr ⟨rfl, rfl⟩ | exact .inl ⟨rfl, fun w' hS' => by (obtain ⟨s1, s2, s3, s4⟩ := hS'; go_simp; rfl)⟩); simp only [Act.put, List.setIfInBounds_toArray, List.set_cons_succ, List.set_cons_zero, List.getElem_toArray, List.getElem_cons_succ, List.getElem_cons_zero]
        (apply wpAnyF_pure (i := 23) rfl (by kernel_rfl) (fun _ _ _ h => h); · first | exact .inr ⟨rfl, rfl⟩ | exact .inl ⟨rfl, fun w' => by go_simp; rfl⟩); simp only [Act.put, List.setIfInBounds_toArray, List.set_cons_succ, List.set_cons_zero, List.getElem_toArray, List.getElem_cons_succ, List.getElem_cons_zero]
        (apply wpAnyF_pure (i := 24) rfl (by kernel_rfl) (fun _ _ _ h => h); · first | exact .inr ⟨rfl, rfl⟩ | exact .inl ⟨rfl, fun w' => by go_simp; rfl⟩); simp only [Act.put, List.setIfInBounds_toArray, List.set_cons_succ, List.set_cons_zero, List.getElem_toArray, List.getElem_cons_succ, List.getElem_cons_zero]
        (apply wpAnyF_pure (i := 25) rfl (by kernel_rfl) (fun _ _ _ h => h); · first | exact .inr ⟨rfl, rfl⟩ | exact .inl ⟨rfl, fun w' => by go_simp; rfl⟩); simp only [Act.put, List.setIfInBounds_toArray, List.set_cons_succ, List.set_cons_zero, List.getElem_toArray, List.getElem_cons_succ, List.getElem_cons_zero]
        refine wpAnyF_one (i := 26) rfl ⟨by kernel_rfl, by kernel_rfl⟩ ?_
        intro K hK
        go_simp
        refine shutN hK (by kernel_rfl) ?_
        refine wpAnyF_done (by kernel_rfl) ?_ _
        clear hS
        go_wp2_with fail
        refine ⟨REL.out _ _ ⟨rfl, rfl, rfl, rfl⟩ ?_, by simp [intOf]⟩
        have h0 := DD.out
        rw [if_pos HEQ.out] at h0
        split <;> split <;> omega
       ·have hne : (a[i] != b[k]) = true := by simp [he]
        have HEQ := hid he; clear he
        go_wp2_with fail
        go_big_quiet (fail)
        go_wp2_with fail
        refine wp_region_F [3, 10, 13, 18, 22] (fun w' => w'.cell? ⟨w.heap.size, i, none⟩ = some (.slice (some ⟨X, 0, none⟩) (b.length + 1) (b.length + 1)) ∧ w'.cell? ⟨w.heap.size, i + 1, none⟩ = some (.slice (some ⟨R1, 0, none⟩) (b.length + 1) (b.length + 1)) ∧ w'.cell? ⟨R1, k, none⟩ = some (.int .i64 (dd a b (i + 1) k : Int)) ∧ w'.cell? ⟨X, k + 1, none⟩ = some (.int .i64 (dd a b i (k + 1) : Int))) hm ⟨by go_simp, by go_simp, by go_simp, by go_simp⟩ ?_
        intro hS0; have hS := hid hS0; clear hS0
        (apply wpAnyF_pure (i := 0) rfl (by kernel_rfl) (fun _ _ _ h => h); · first | exact .inr ⟨rfl, rfl⟩ | exact .inl ⟨rfl, fun w' => by go_simp; rfl⟩); simp only [Act.put, List.setIfInBounds_toArray, List.set_cons_succ, List.set_cons_zero, List.getElem_toArray, List.getElem_cons_succ, List.getElem_cons_zero]
        (apply wpAnyF_pure (i := 1) rfl (by kernel_rfl) (fun _ _ _ h => h); · first | exact .inr ⟨rfl, rfl⟩ | exact .inl ⟨rfl, fun w' => by go_simp; rfl⟩); simp only [Act.put, List.setIfInBounds_toArray, List.set_cons_succ, List.set_cons_zero, List.getElem_toArray, List.getElem_cons_succ, List.getElem_cons_zero]
        (apply wpAnyF_pure (i := 2) rfl (by kernel_rfl) (fun _ _ _ h => h); · first | exact .inr ⟨rfl, rfl⟩ | exact .inl ⟨rfl, fun w' => by go_simp; rfl⟩); simp only [Act.put, List.setIfInBounds_toArray, List.set_cons_succ, List.set_cons_zero, List.getElem_toArray, List.getElem_cons_succ, List.getElem_cons_zero]
        (apply wpAnyF_held (i := 3) rfl (by kernel_rfl) (fun _ _ _ h => h) hS.out; · first | exact .inr ⟨rfl, rfl⟩ | exact .inl ⟨rfl, fun w' hS' => by (obtain ⟨s1, s2, s3, s4⟩ := hS'; go_simp; rfl)⟩); simp only [Act.put, List.setIfInBounds_toArray, List.set_cons_succ, List.set_cons_zero, List.getElem_toArray, List.getElem_cons_succ, List.getElem_cons_zero]
        (apply wpAnyF_pure (i := 4) rfl (by kernel_rfl) (fun _ _ _ h => h); · first | exact .inr ⟨rfl, rfl⟩ | exact .inl ⟨rfl, fun w' => by go_simp; rfl⟩); simp only [Act.put, List.setIfInBounds_toArray, List.set_cons_succ, List.set_cons_zero, List.getElem_toArray, List.getElem_cons_succ, List.getElem_cons_zero]
        (apply wpAnyF_pure (i := 5) rfl (by kernel_rfl) (fun _ _ _ h => h); · first | exact .inr ⟨rfl, rfl⟩ | exact .inl ⟨rfl, fun w' => by go_simp; rfl⟩); simp only [Act.put, List.setIfInBounds_toArray, List.set_cons_succ, List.set_cons_zero, List.getElem_toArray, List.getElem_cons_succ, List.getElem_cons_zero]
        (apply wpAnyF_pure (i := 6) rfl (by kernel_rfl) (fun _ _ _ h => h); · first | exact .inr ⟨rfl, rfl⟩ | exact .inl ⟨rfl, fun w' => by go_simp; rfl⟩); simp only [Act.put, List.setIfInBounds_toArray, List.set_cons_succ, List.set_cons_zero, List.getElem_toArray, List.getElem_cons_succ, List.getElem_cons_zero]
        (apply wpAnyF_pure (i := 7) rfl (by kernel_rfl) (fun _ _ _ h => h); · first | exact .inr ⟨rfl, rfl⟩ | exact .inl ⟨rfl, fun w' => by go_simp; rfl⟩); simp only [Act.put, List.setIfInBounds_toArray, List.set_cons_succ, List.set_cons_zero, List.getElem_toArray, List.getElem_cons_succ, List.getElem_cons_zero]
        (apply wpAnyF_pure (i := 8) rfl (by kernel_rfl) (fun _ _ _ h => h); · first | exact .inr ⟨rfl, rfl⟩ | exact .inl ⟨rfl, fun w' => by go_simp; rfl⟩); simp only [Act.put, List.setIfInBounds_toArray, List.set_cons_succ, List.set_cons_zero, List.getElem_toArray, List.getElem_cons_succ, List.getElem_cons_zero]
        (apply wpAnyF_pure (i := 9) rfl (by kernel_rfl) (fun _ _ _ h => h); · first | exact .inr ⟨rfl, rfl⟩ | exact .inl ⟨rfl, fun w' => by go_simp; rfl⟩); simp only [Act.put, List.setIfInBounds_toArray, List.set_cons_succ, List.set_cons_zero, List.getElem_toArray, List.getElem_cons_succ, List.getElem_cons_zero]
        (apply wpAnyF_held (i := 10) rfl (by kernel_rfl) (fun _ _ _ h => h) hS.out; · first | exact .inr ⟨rfl, rfl⟩ | exact .inl ⟨rfl, fun w' hS' => by (obtain ⟨s1, s2, s3, s4⟩ := hS'; go_simp; rfl)⟩); simp only [Act.put, List.setIfInBounds_toArray, List.set_cons_succ, List.set_cons_zero, List.getElem_toArray, List.getElem_cons_succ, List.getElem_cons_zero]
        (apply wpAnyF_pure (i := 11) rfl (by kernel_rfl) (fun _ _ _ h => h); · first | exact .inr ⟨rfl, rfl⟩ | exact .inl ⟨rfl, fun w' => by go_simp; rfl⟩); simp only [Act.put, List.setIfInBounds_toArray, List.set_cons_succ, List.set_cons_zero, List.getElem_toArray, List.getElem_cons_succ, List.getElem_cons_zero]
        (apply wpAnyF_pure (i := 12) rfl (by kernel_rfl) (fun _ _ _ h => h); · first | exact .inr ⟨rfl, rfl⟩ | exact .inl ⟨rfl, fun w' => by go_simp; rfl⟩); simp only [Act.put, List.setIfInBounds_toArray, List.set_cons_succ, List.set_cons_zero, List.getElem_toArray, List.getElem_cons_succ, List.getElem_cons_zero]
        (apply wpAnyF_held (i := 13) rfl (by kernel_rfl) (fun _ _ _ h => h) hS.out; · first | exact .inr ⟨rfl, rfl⟩ | exact .inl ⟨rfl, fun w' hS' => by (obtain ⟨s1, s2, s3, s4⟩ := hS'; go_simp; rfl)⟩); simp only [Act.put, List.setIfInBounds_toArray, List.set_cons_succ, List.set_cons_zero, List.getElem_toArray, List.getElem_cons_succ, List.getElem_cons_zero]
        (apply wpAnyF_pure (i := 14) rfl (by kernel_rfl) (fun _ _ _ h => h); · first | exact .inr ⟨rfl, rfl⟩ | exact .inl ⟨rfl, fun w' => by go_simp; rfl⟩); simp only [Act.put, List.setIfInBounds_toArray, List.set_cons_succ, List.set_cons_zero, List.getElem_toArray, List.getElem_cons_succ, List.getElem_cons_zero]
        (apply wpAnyF_pure (i := 15) rfl (by kernel_rfl) (fun _ _ _ h => h); · first | exact .inr ⟨rfl, rfl⟩ | exact .inl ⟨rfl, fun w' => by go_simp; rfl⟩); simp only [Act.put, List.setIfInBounds_toArray, List.set_cons_succ, List.set_cons_zero, List.getElem_toArray, List.getElem_cons_succ, List.getElem_cons_zero]
        (apply wpAnyF_pure (i := 16) rfl (by kernel_rfl) (fun _ _ _ h => h); · first | exact .inr ⟨rfl, rfl⟩ | exact .inl ⟨rfl, fun w' => by go_simp; rfl⟩); simp only [Act.put, List.setIfInBounds_toArray, List.set_cons_succ, List.set_cons_zero, List.getElem_toArray, List.getElem_cons_succ, List.getElem_cons_zero]
        (apply wpAnyF_pure (i := 17) rfl (by kernel_rfl) (fun _ _ _ h => h); · first | exact .inr ⟨rfl, rfl⟩ | exact .inl ⟨rfl, fun w' => by go_simp; rfl⟩); simp only [Act.put, List.setIfInBounds_toArray, List.set_cons_succ, List.set_cons_zero, List.getElem_toArray, List.getElem_cons_succ, List.getElem_cons_zero]
        (apply wpAnyF_held (i := 18) rfl (by kernel_rfl) (fun _ _ _ h => h) hS.out; · first | exact .inr ⟨rfl, rfl⟩ | exact .inl ⟨rfl, fun w' hS' => by (obtain ⟨s1, s2, s3, s4⟩ := hS'; go_simp; rfl)⟩); simp only [Act.put, List.setIfInBounds_toArray, List.set_cons_succ, List.set_cons_zero, List.getElem_toArray, List.getElem_cons_succ, List.getElem_cons_zero]
        (apply wpAnyF_pure (i := 19) rfl (by kernel_rfl) (fun _ _ _ h => h); · first | exact .inr ⟨rfl, rfl⟩ | exact .inl ⟨rfl, fun w' => by go_simp; rfl⟩); simp only [Act.put, List.setIfInBounds_toArray, List.set_cons_succ, List.set_cons_zero, List.getElem_toArray, List.getElem_cons_succ, List.getElem_cons_zero]
        (apply wpAnyF_pure (i := 20) rfl (by kernel_rfl) (fun _ _ _ h => h); · first | exact .inr ⟨rfl, rfl⟩ | exact .inl ⟨rfl, fun w' => by go_simp; rfl⟩); simp only [Act.put, List.setIfInBounds_toArray, List.set_cons_succ, List.set_cons_zero, List.getElem_toArray, List.getElem_cons_succ, List.getElem_cons_zero]
        (apply wpAnyF_pure (i := 21) rfl (by kernel_rfl) (fun _ _ _ h => h); · first | exact .inr ⟨rfl, rfl⟩ | exact .inl ⟨rfl, fun w' => by go_simp; rfl⟩); simp only [Act.put, List.setIfInBounds_toArray, List.set_cons_succ, List.set_cons_zero, List.getElem_toArray, List.getElem_cons_succ, List.getElem_cons_zero]
        (apply wpAnyF_held (i := 22) rfl (by kernel_rfl) (fun _ _ _ h => h) hS.out; · first | exact .inr ⟨rfl, rfl⟩ | exact .inl ⟨rfl, fun w' hS' => by (obtain ⟨s1, s2, s3, s4⟩ := hS'; go_simp; rfl)⟩); simp only [Act.put, List.setIfInBounds_toArray, List.set_cons_succ, List.set_cons_zero, List.getElem_toArray, List.getElem_cons_succ, List.getElem_cons_zero]
        (apply wpAnyF_pure (i := 23) rfl (by kernel_rfl) (fun _ _ _ h => h); · first | exact .inr ⟨rfl, rfl⟩ | exact .inl ⟨rfl, fun w' => by go_simp; rfl⟩); simp only [Act.put, List.setIfInBounds_toArray, List.set_cons_succ, List.set_cons_zero, List.getElem_toArray, List.getElem_cons_succ, List.getElem_cons_zero]
        (apply wpAnyF_pure (i := 24) rfl (by kernel_rfl) (fun _ _ _ h => h); · first | exact .inr ⟨rfl, rfl⟩ | exact .inl ⟨rfl, fun w' => by go_simp; rfl⟩); simp only [Act.put, List.setIfInBounds_toArray, List.set_cons_succ, List.set_cons_zero, List.getElem_toArray, List.getElem_cons_succ, List.getElem_cons_zero]
        (apply wpAnyF_pure (i := 25) rfl (by kernel_rfl) (fun _ _ _ h => h); · first | exact .inr ⟨rfl, rfl⟩ | exact .inl ⟨rfl, fun w' => by go_simp; rfl⟩); simp only [Act.put, List.setIfInBounds_toArray, List.set_cons_succ, List.set_cons_zero, List.getElem_toArray, List.getElem_cons_succ, List.getElem_cons_zero]
        refine wpAnyF_one (i := 26) rfl ⟨by kernel_rfl, by kernel_rfl⟩ ?_
        intro K hK
        go_simp
        refine shutN hK (by kernel_rfl) ?_
        refine wpAnyF_done (by kernel_rfl) ?_ _
        clear hS
        go_wp2_with fail
        refine ⟨REL.out _ _ ⟨rfl, rfl, rfl, rfl⟩ ?_, by simp [intOf]⟩
        have h0 := DD.out
        rw [if_neg HEQ.out] at h0
        split <;> split <;> omega
theorem refBetween_any (a b : List Int) (aa ba : Option Addr) (ca cb : Nat) (w : World) (hl : a.length ≤ 1000) (hl2 : b.length ≤ 1000) (h1 : RdI w aa a) (h2 : RdI w ba b) :
  Calls Tryd.prog 85 #[.slice aa a.length ca, .slice ba b.length cb] w fun e w' => e = .returned (.int .i64 (dist a b : Int)) ∧ Below w.heap.size w w' := by
 have H1 := hid h1; have H2 := hid h2; clear h1 h2
 go_enter Tryd.func85, Tryd.ntmps85
 go_wp2_with fail
 refine (table_any a b aa ba ca cb w hl hl2 H1.out H2.out).mono ?_
 rintro e w1 ⟨O, rfl, hb1, hT⟩
 obtain ⟨R, hr, hc⟩ := hT 0 (Nat.zero_le _)
 have hc0 : w1.cell? ⟨R, 0, none⟩ = some (.int .i64 (dist a b : Int)) := hc 0 (Nat.zero_le _)
 clear hT hc
 have t1 : (0 : Int) < (a.length : Int) + 1 := by omega
 have t2 : (0 : Int) < (b.length : Int) + 1 := by omega
 go_wp2_with fail
 go_ret
 exact ⟨rfl, hb1⟩
def SRow (sp : Nat → Nat → Int × Int) (W : World) (cs : Array Value) (m O X : Nat) (r : Nat) : Prop := ∃ R rs, cs[r]? = some (.slice (some ⟨R, 0, none⟩) (m + 1) (m + 1)) ∧ R < X ∧ R ≠ O ∧ Box W R rs 68 ∧ rs.size = 2 * (m + 1) ∧ ∀ k, k ≤ m → rs[k * 2]? = some (.int .i64 (sp r k).1) ∧ rs[k * 2 + 1]? = some (.int .i64 (sp r k).2)
theorem SRow.keep {sp : Nat → Nat → Int × Int} {W W' : World} {cs cs' : Array Value} {m O X X' r : Nat} (h : SRow sp W cs m O X r) (hc : cs'[r]? = cs[r]?) (hX : X ≤ X') (hk : ∀ k, k < X → k ≠ O → k < W.heap.size → W'.heap[k]? = W.heap[k]?) : SRow sp W' cs' m O X' r := by
 obtain ⟨R, rs, h1, h2, h3, h4, h5, h6⟩ := h
 exact ⟨R, rs, hc.trans h1, by omega, h3, (hk R h2 h3 h4.lt).trans h4, h5, h6⟩
structure RcI (sp : Nat → Nat → Int × Int) (w1 : World) (n m O X i : Nat) (cs : Array Value) (rs : Array Value) (l : Nat) (V : World) : Prop where
 o : Box V O cs 176
 rows : ∀ r, i + 1 ≤ r → r ≤ n → SRow sp V cs m O X r
 bel : Below w1.heap.size w1 V
 x : Box V X rs 68
 sz : rs.size = 2 * (m + 1)
 got : ∀ k, l ≤ k → k ≤ m → rs[k * 2]? = some (.int .i64 (sp i k).1) ∧ rs[k * 2 + 1]? = some (.int .i64 (sp i k).2)
theorem RcI.keep {sp : Nat → Nat → Int × Int} {w1 V V' : World} {n m O X i l Y : Nat} {cs rs : Array Value} (h : RcI sp w1 n m O X i cs rs l V) (hO : O < Y) (hX : X < Y) (h1 : w1.heap.size ≤ Y) (kp : Keep (· < Y) V V') : RcI sp w1 n m O X i cs rs l V' :=
 ⟨kp.box hO h.o, fun r g1 g2 => (h.rows r g1 g2).keep rfl (Nat.le_refl _) (fun k hk _ hv => kp.block k hv (show k < Y by omega)), h.bel.trans (kp.below (fun b hb => show b < Y by omega) h.bel.size), kp.box hX h.x, h.sz, h.got⟩
theorem RcI.same {sp : Nat → Nat → Int × Int} {w1 V V' : World} {n m O X i l : Nat} {cs rs : Array Value} (h : RcI sp w1 n m O X i cs rs l V) (k : Keep (fun _ => True) V V') : RcI sp w1 n m O X i cs rs l V' :=
 ⟨k.box trivial h.o, fun r g1 g2 => (h.rows r g1 g2).keep rfl (Nat.le_refl _) (fun k' _ _ hv => k.block k' hv trivial), h.bel.trans (k.below (fun b hb => trivial) h.bel.size), k.box trivial h.x, h.sz, h.got⟩
theorem take_succ_eq {α : Type} [DecidableEq α] {xs ys : List α} {k : Nat} (h : xs.take k = ys.take k) (hx : k < xs.length) (hy : k < ys.length) (e : xs[k] = ys[k]) : xs.take (k + 1) = ys.take (k + 1) := by
 rw [List.take_succ_eq_append_getElem hx, List.take_succ_eq_append_getElem hy, h, e]
theorem sameInts_any (a b : Option Addr) (c d : Nat) (xs ys : List Int) (w : World) (hl : xs.length ≤ 4000) (hx : RdI w a xs) (hy : RdI w b ys) :
  Calls Tryd.prog 81 #[.slice a xs.length c, .slice b ys.length d] w fun e w' => e = .returned (.bool (decide (xs = ys))) ∧ Below w.heap.size w w' := by
 by_cases hlen : xs.length = ys.length
 ·have hlb : ((xs.length : Int) != (ys.length : Int)) = false := by simp [hlen]
  have HX := hid hx; clear hx
  have HY := hid hy; clear hy
  have HL := hid hlen; clear hlen
  go_enter Tryd.func81, Tryd.ntmps81
  go_wp2_with fail
  clear hlb
  go_loopw [5] (fun i wr => ∃ k : Nat, k ≤ xs.length ∧ i = .int .i64 k ∧ xs.take k = ys.take k ∧ Below w.heap.size w wr) (fun i _ => (xs.length - (intOf i).toNat))
  case atStart => exact ⟨0, by omega, rfl, by simp, Below.refl _ _⟩
  case round =>
   obtain ⟨k, hk, rfl, hno, hb⟩ := hrel
   have Hno := hid hno; clear hno
   by_cases hlt : k < xs.length
   ·have hlt2 : k < ys.length := by have := HL.out; omega
    obtain ⟨b1, o1, rfl, hc1⟩ := HX.out.below hb k hlt
    obtain ⟨b2, o2, rfl, hc2⟩ := HY.out.below hb k hlt2
    have hi : (k : Int) < (xs.length : Int) := by omega
    have hi2 : (k : Int) < (ys.length : Int) := by omega
    go_wp2_with fail
    go_quiet (fail)
    go_wp2_with fail
    ·rename_i hne
     go_ret
     refine ⟨(congrArg (fun b => Ending.returned (Value.bool b)) ?_), goBl⟩
     have hxy : xs ≠ ys := by
      rintro rfl
      simp at hne
     simp [hxy]
    ·rename_i heq
     go_roundw
     case rel => exact ⟨k + 1, by omega, by go_num, take_succ_eq Hno.out hlt hlt2 (by simpa using heq), goBl⟩
     case measure => simp [intOf]; omega
   ·go_wp2_with fail
    go_ret
    refine ⟨(congrArg (fun b => Ending.returned (Value.bool b)) ?_), hb⟩
    have h1 : k = xs.length := by omega
    subst h1
    have h2 := Hno.out
    rw [List.take_of_length_le (Nat.le_refl _), List.take_of_length_le (by rw [HL.out]; exact Nat.le_refl _)] at h2
    simp [h2]
 ·have hlb : ((xs.length : Int) != (ys.length : Int)) = true := by simp; omega
  go_enter Tryd.func81, Tryd.ntmps81
  go_wp2_with fail
  go_ret
  refine ⟨(congrArg (fun b => Ending.returned (Value.bool b)) ?_), Below.refl _ _⟩
  have hxy : xs ≠ ys := by rintro rfl; exact hlen rfl
  simp [hxy]
def sameT (id hs id' hs' : Int) (st fo st' fo' : List Int) : Bool := id == id' && hs == hs' && decide (st = st') && decide (fo = fo')
theorem same_any (id hs id' hs' : Int) (st fo st' fo' : List Int) (sa fa sa' fa' : Option Addr) (sc fc sc' fc' : Nat) (w : World)
  (hl : st.length ≤ 4000) (hl2 : fo.length ≤ 4000) (h1 : RdI w sa st) (h2 : RdI w fa fo) (h3 : RdI w sa' st') (h4 : RdI w fa' fo') :
  Calls Tryd.prog 24 #[.agg #[.int .i64 id, .int .i64 hs, .slice sa st.length sc, .slice fa fo.length fc], .agg #[.int .i64 id', .int .i64 hs', .slice sa' st'.length sc', .slice fa' fo'.length fc']] w fun e w' => e = .returned (.bool (sameT id hs id' hs' st fo st' fo')) ∧ Below w.heap.size w w' := by
 have HX := hid h1; clear h1
 have HY := hid h2; clear h2
 have HZ := hid h3; clear h3
 have HU := hid h4; clear h4
 have H1 := hid hl; have H2 := hid hl2; clear hl hl2
 by_cases e1 : id = id'
 ·by_cases e2 : hs = hs'
  ·have E : Hid (id = id' ∧ hs = hs') := ⟨e1, e2⟩
   have t1 : (id == id') = true := by simp [e1]
   have t2 : (hs == hs') = true := by simp [e2]
   clear e1 e2
   go_enter Tryd.func24, Tryd.ntmps24
   go_wp2_with fail
   clear t1 t2
   refine (sameInts_any _ _ _ _ _ _ _ H1.out (HX.out.below goBl) (HZ.out.below goBl)).mono ?_
   rintro e w1 ⟨rfl, hb1⟩
   have hz1 := (hb1).size; (try simp only [World.size_alloc, World.size_setCell, World.size_drew, World.heap_drewN] at hz1); obtain ⟨hc1, hf1⟩ := bcell hb1
   by_cases e3 : st = st'
   ·have E3 := hid e3
    have t3 : decide (st = st') = true := by simp [e3]
    clear e3
    go_wp2_with fail
    refine (sameInts_any _ _ _ _ _ _ _ H2.out (HY.out.below goBl) (HU.out.below goBl)).mono ?_
    rintro e w2 ⟨rfl, hb2⟩
    have hz2 := (hb2).size; (try simp only [World.size_alloc, World.size_setCell, World.size_drew, World.heap_drewN] at hz2); obtain ⟨hc2, hf2⟩ := bcell hb2
    go_wp2_with fail
    go_ret
    exact ⟨(congrArg (fun b => Ending.returned (Value.bool b)) (by simp [sameT, E.out.1, E.out.2, E3.out])), goBl⟩
   ·have t3 : decide (st = st') = false := by simp [e3]
    have E3 := hid e3
    clear e3
    go_wp2_with fail
    go_ret
    exact ⟨(congrArg (fun b => Ending.returned (Value.bool b)) (by simp [sameT, E3.out])), goBl⟩
  ·have t1 : (id == id') = true := by simp [e1]
   have t2 : (hs == hs') = false := by simp [e2]
   clear e1
   go_enter Tryd.func24, Tryd.ntmps24
   go_wp2_with fail
   go_ret
   exact ⟨(congrArg (fun b => Ending.returned (Value.bool b)) (by simp [sameT, e2])), goBl⟩
 ·have t1 : (id == id') = false := by simp [e1]
  go_enter Tryd.func24, Tryd.ntmps24
  go_wp2_with fail
  go_ret
  exact ⟨(congrArg (fun b => Ending.returned (Value.bool b)) (by simp [sameT, e1])), goBl⟩
end Go.Proofs.YthddoikmgpgakaaDoor
namespace Go.Proofs.YthddoikmgpgakaaDoor.Sw
open Go.RowKit Go
def tC (t : Tl) : List AV := [.val (.int .i64 t.id), .val (.int .i64 t.hs), .sl 1 iC t.st, .sl 1 iC t.fo]
instance {t : Tl} : OneL (tC t) := inferInstanceAs (OneL [_, _, _, _])
instance : OneF tC := ⟨fun _ => inferInstance⟩
instance : LenF tC 4 := ⟨fun _ => rfl⟩
theorem rdI_of {G : Nat → Option Obj} {w : World} (hG : Gin G w) {a : Option Addr} {xs : List Int} (h : SlP G 1 iC a xs) : RdI w a xs := fun i hi => by
 obtain ⟨b, o, e, h1⟩ := h i hi
 obtain ⟨u, h2, h3⟩ := h1 0 _ rfl
 refine ⟨b, o, e, ?_⟩
 have h3' : u = .int .i64 xs[i] := h3
 have := cellG.cell hG h2
 rw [h3'] at this
 simpa using this
theorem fits_tl {G : Nat → Option Obj} {w : World} (hG : Gin G w) {t : Tl} {v : Value} (h : (AV.agg (tC t)).P G v) : ∃ sa sc fa fc, v = .agg #[.int .i64 t.id, .int .i64 t.hs, .slice sa t.st.length sc, .slice fa t.fo.length fc] ∧ RdI w sa t.st ∧ RdI w fa t.fo := by
 obtain ⟨us, e, hu⟩ := h
 match us, hu with
 | [v0, v1, v2, v3], ⟨h0, h1, ⟨a1, c1, h2, _, h4⟩, ⟨a2, c2, h3, _, h5⟩, _⟩ =>
  have h0' : v0 = _ := h0
  have h1' : v1 = _ := h1
  subst e h0' h1' h2 h3
  exact ⟨a1, c1, a2, c2, rfl, rdI_of hG h4, rdI_of hG h5⟩
theorem fits_tls {G : Nat → Option Obj} {w : World} (hG : Gin G w) {ts : List Tl} {v : Value} (h : (AV.sl 4 tC ts).P G v) : ∃ la lc, v = .slice la ts.length lc ∧ RdT w la ts := by
 obtain ⟨a, c, e, _, hs⟩ := h
 refine ⟨a, c, e, fun i hi => ?_⟩
 obtain ⟨b, o, ea, h1⟩ := hs i hi
 obtain ⟨u0, g0, k0⟩ := h1 0 _ rfl
 obtain ⟨u1, g1, k1⟩ := h1 1 _ rfl
 obtain ⟨u2, g2, ⟨a2, c2, k2, _, q2⟩⟩ := h1 2 _ rfl
 obtain ⟨u3, g3, ⟨a3, c3, k3, _, q3⟩⟩ := h1 3 _ rfl
 have k0' : u0 = _ := k0
 have k1' : u1 = _ := k1
 subst k0' k1' k2 k3
 exact ⟨b, o, a2, c2, a3, c3, ea, by simpa using cellG.cell hG g0, cellG.cell hG g1, cellG.cell hG g2, cellG.cell hG g3, rdI_of hG q2, rdI_of hG q3⟩
def TabG (G : Nat → Option Obj) : Prop := cellG G 0 0 = some (.func (.func 164) #[] #[]) ∧ cellG G 0 1 = some (.func (.func 165) #[] #[]) ∧ cellG G 0 2 = some (.func (.func 166) #[] #[])
def HA.tab : HA := ⟨fun G F _ => F = [] ∧ TabG G, fun h k => ⟨k.1, cellG.le h k.2.1, cellG.le h k.2.2.1, cellG.le h k.2.2.2⟩, fun _ k => k⟩
theorem con_tab {P : Program} {k : FuncId} {args : List AV} {av : AV} (he : ∀ args w, (callFunc k args).run P w = .ok (.enter k args) w)
  (h : ∀ (G : Nat → Option Obj) (vs : List Value) (w : World), Fits G args vs → Gin G w → Tab w → Calls P k vs.toArray w fun e w' => ∃ v, e = .returned v ∧ av.P G v ∧ Below w.heap.size w w') : Con P k args [HA.tab] (Is av [HA.tab]) :=
 ⟨he, fun G Fp vs w hf hi => by
  obtain ⟨F1, F2, ep, ⟨hF1, hT⟩, hF2⟩ := hi.hs
  have hF2' : F2 = [] := hF2
  subst hF1 hF2'
  obtain rfl : Fp = [] := List.Perm.eq_nil (by simpa using ep)
  refine (h G vs w hf hi.gin ⟨cellG.cell hi.gin hT.1, cellG.cell hi.gin hT.2.1, cellG.cell hi.gin hT.2.2⟩).mono fun e w' ⟨v, h1, h2, h3⟩ => ?_
  exact ⟨v, av, [HA.tab], G, [], h1, ⟨rfl, rfl⟩, ⟨h3.os, h3.tape, h3.output, h3.size, fun b hb _ => h3.block b hb, fun _ h => .inl h, Gle.refl _, fun _ _ h => .inl h⟩, ⟨fun b o e => (h3.block b (hi.gin.lt e)).trans (hi.gin b o e), by simp, fun b hb => (by cases hb), [], [], .refl _, ⟨rfl, hT⟩, rfl⟩, h2⟩⟩
theorem great_con (t : Tl) : Con Tryd.prog 18 [.agg (tC t)] [] (Is (.val (.bool (decide ((30 : Int) < t.st.length) || decide ((30 : Int) < t.fo.length)))) []) := by
 refine con_same (enters_of Tryd.func18 (by kernel_rfl) rfl) fun G vs w hf hG => ?_
 match vs, hf with
 | [v], ⟨h, _⟩ =>
  obtain ⟨sa, sc, fa, fc, rfl, h1, h2⟩ := fits_tl hG h
  exact (great_any t.id t.hs sa t.st.length sc fa t.fo.length fc w).mono fun e w' ⟨h, hb⟩ => ⟨_, h, rfl, hb⟩
def sameTl (t u : Tl) : Bool := sameT t.id t.hs u.id u.hs t.st t.fo u.st u.fo
theorem sameTl_self (t : Tl) : sameTl t t = true := by simp [sameTl, sameT]
theorem same_con (t u : Tl) (h1 : t.st.length ≤ 1000) (h2 : t.fo.length ≤ 1000) : Con Tryd.prog 24 [.agg (tC t), .agg (tC u)] [] (Is (.val (.bool (sameTl t u))) []) := by
 refine con_same (enters_of Tryd.func24 (by kernel_rfl) rfl) fun G vs w hf hG => ?_
 match vs, hf with
 | [v, v'], ⟨h, h', _⟩ =>
  obtain ⟨sa, sc, fa, fc, rfl, g1, g2⟩ := fits_tl hG h
  obtain ⟨sa', sc', fa', fc', rfl, g3, g4⟩ := fits_tl hG h'
  exact (same_any _ _ _ _ _ _ _ _ _ _ _ _ _ _ _ _ w (by omega) (by omega) g1 g2 g3 g4).mono fun e w' ⟨h, hb⟩ => ⟨_, h, rfl, hb⟩
end Go.Proofs.YthddoikmgpgakaaDoor.Sw
namespace Go.Proofs.YthddoikmgpgakaaDoor.Sw
open Go Go.RowKit Go.ChangeShapes Go.WideShapes Go.ChangeAt
def gh (w : World) : Nat → Option Obj := fun b => w.heap[b]?
theorem cellG_gh {w : World} {b i : Nat} {v : Value} (h : w.cell? ⟨b, i, none⟩ = some v) : cellG (gh w) b i = some v := by
 unfold World.cell? at h
 unfold cellG gh
 cases hb : w.heap[b]? with
 | none => rw [hb] at h; cases h
 | some o => rw [hb] at h; cases o <;> first | exact h | cases h
theorem law_of {P : Program} {k : FuncId} {args : List AV} {pre : List HA} (hc : Con P k args pre (Is (.val (.bool true)) [])) {vs : List Value} {w : World} (hp : hsP pre (gh w) [] w) (hf : Fits (gh w) args vs) :
  Calls P k vs.toArray w fun e w' => e = .returned (.bool true) ∧ Below w.heap.size w w' := by
 refine (hc.calls (gh w) [] vs w hf ⟨fun b o h => h, List.nodup_nil, fun b hb => absurd hb (by simp), hp⟩).mono fun e w' ⟨v, av, prod, G', F', h1, h2, h3, _, h5⟩ => ?_
 obtain ⟨rfl, rfl⟩ := h2
 have h5' : v = _ := h5
 subst h5'
 exact ⟨h1, { os := h3.os, tape := h3.tape, output := h3.output, size := h3.size, block := fun b hb => h3.same b hb (by simp) }⟩
theorem tab_hs {w : World} (h : Tab w) : hsP [HA.tab] (gh w) [] w := ⟨[], [], .refl _, ⟨rfl, cellG_gh h.1, cellG_gh h.2.1, cellG_gh h.2.2⟩, rfl⟩
def Reads (t : TypeId) {α : Type} (f : α → List AV) : Prop := ∀ {H : Type} {enc : TypeId × Value → H} {W : World} {n : Nat} {cs : List Value} {y : DataW H × List MemPlace}, DataW.trod enc Tryd.prog W 0 (fun _ => true) true n t cs = some y → ∃ x, Fits (gh W) (f x) cs
theorem reads_int {t : TypeId} {k : IntKind} (ht : Tryd.prog.underlying t = some (.int k)) : Reads t fun i : Int => [AV.val (.int k i)] := fun h => by
 obtain ⟨n, rfl, _, _⟩ := DataW.trod_int ht h
 exact ⟨n, rfl, trivial⟩
theorem reads_sl {t e : TypeId} {α : Type} {f : α → List AV} {n : Nat} (ht : Tryd.prog.underlying t = some (.slice e)) (hn : Tryd.prog.cellsOf e = n) (h0 : 0 < n) (hf : ∀ x, (f x).length = n) (he : Reads e f) : Reads t fun xs : List α => [AV.sl n f xs] := fun {H enc W m cs y} h => by
 rcases Go.Deep.open_slice ht h with ⟨rfl, _⟩ | ⟨a, len, cap, m', n', D, Pl, rfl, hb, hl, hm, hmm, _, hx⟩
 ·exact ⟨[], ⟨none, 0, rfl, Nat.le_refl _, fun i hi => (by cases hi)⟩, trivial⟩
 ·simp only [if_true] at hmm
  have key : ∀ i, i < len → ∃ x, Fits (gh W) (f x) ((W.cells? 0 (a.add (i * n)) n).getD []) ∧ (W.cells? 0 (a.add (i * n)) n).isSome = true := fun i hi => by
   obtain ⟨cs', h1, h2⟩ := hx i (by omega)
   rw [hn] at h1
   obtain ⟨x, hxx⟩ := he h2
   exact ⟨x, by rw [h1]; exact hxx, by rw [h1]; rfl⟩
  let F : Fin len → α := fun i => (key i.1 i.2).choose
  have hF : ∀ i (hi : i < len), Fits (gh W) (f (F ⟨i, hi⟩)) ((W.cells? 0 (a.add (i * n)) n).getD []) ∧ (W.cells? 0 (a.add (i * n)) n).isSome = true := fun i hi => (key i hi).choose_spec
  refine ⟨List.ofFn F, ⟨some a, cap, by rw [List.length_ofFn], by rw [List.length_ofFn]; exact hl, fun i hi => ?_⟩, trivial⟩
  rw [List.length_ofFn] at hi
  obtain ⟨g1, g2⟩ := hF i hi
  obtain ⟨cs', hcs⟩ := Option.isSome_iff_exists.1 g2
  rw [hcs] at g1
  simp only [Option.getD_some] at g1
  obtain ⟨_, hlen, hcell⟩ := World.cells?_some hcs
  obtain ⟨b, o, spot⟩ := a
  have hspot : spot = none := by
   obtain ⟨k1, k2⟩ := hF 0 (by omega)
   obtain ⟨cs0, hc0⟩ := Option.isSome_iff_exists.1 k2
   obtain ⟨_, hl0, hcell0⟩ := World.cells?_some hc0
   have h1 := hcell0 0 h0
   rw [List.getElem?_eq_getElem (by omega), Go.Deep.add_add] at h1
   simpa [Addr.add] using World.cell?_spot h1
  subst hspot
  refine ⟨b, o, rfl, fun j av hj => ?_⟩
  rw [List.getElem_ofFn] at hj
  obtain ⟨u, h1, h2⟩ := g1.get hj
  have hjn : j < n := by have := (List.getElem?_eq_some_iff.1 hj).1; rw [hf] at this; exact this
  have h3 := hcell j hjn
  rw [h1, Go.Deep.add_add] at h3
  have ea : (⟨b, o, none⟩ : Addr).add (i * n + j) = ⟨b, o + i * n + j, none⟩ := by unfold Addr.add; split <;> simp <;> omega
  rw [ea] at h3
  exact ⟨u, cellG_gh h3, h2⟩
set_option maxRecDepth 100000 in
theorem arg_one {H : Type} {enc : TypeId × Value → H} {W : World} {t : TypeId} {α : Type} {g : α → AV} (hr : Reads t fun x => [g x]) {v : Value} {d : DataW H} {p : List MemPlace} (hc : v.cells.toList = [v]) (h : DataW.Trod enc Tryd.prog W 0 (fun _ => true) true t v d p) : ∃ x, (g x).P (gh W) v := by
 obtain ⟨m, hm⟩ := h
 rw [hc] at hm
 obtain ⟨x, h1, _⟩ := hr hm
 exact ⟨x, h1⟩
set_option maxRecDepth 100000 in
theorem arg_sl {H : Type} {enc : TypeId × Value → H} {W : World} {t e : TypeId} {α : Type} {g : α → AV} (hr : Reads t fun x => [g x]) {v : Value} {d : DataW H} {p : List MemPlace} {base : Nat} (ht : Tryd.prog.underlying t = some (.slice e)) (hv : Value.okWide Tryd.prog W .any base t v) (h : DataW.Trod enc Tryd.prog W 0 (fun _ => true) true t v d p) : ∃ x, (g x).P (gh W) v := by
 obtain ⟨a, n, c, rfl⟩ := okWide_slice ht hv
 exact arg_one hr rfl h
set_option maxRecDepth 100000
theorem reads_i : Reads 3 iC := reads_int Tryd.underlying3
theorem reads_is : Reads 22 fun xs : List Int => [AV.sl 1 iC xs] := reads_sl Tryd.underlying22 (n := 1) (by kernel_rfl) Nat.one_pos (fun _ => rfl) reads_i
theorem reads_4 {t : TypeId} {f0 f1 f2 f3 : Field} {α β γ δ : Type} {g0 : α → AV} {g1 : β → AV} {g2 : γ → AV} {g3 : δ → AV} (ht : Tryd.prog.underlying t = some (.struct #[f0, f1, f2, f3])) (hone : Go.Deep.oneCellFields Tryd.prog #[f0, f1, f2, f3] = true) (hC : Tryd.prog.cellsOf t = 4)
  (h0 : Reads f0.type fun x => [g0 x]) (h1 : Reads f1.type fun x => [g1 x]) (h2 : Reads f2.type fun x => [g2 x]) (h3 : Reads f3.type fun x => [g3 x]) : Reads t fun x : α × β × γ × δ => [g0 x.1, g1 x.2.1, g2 x.2.2.1, g3 x.2.2.2] := fun {H enc W n cs y} h => by
 obtain ⟨y0, y1, y2, y3, n, _, hl, k0, k1, k2, k3⟩ := Go.Joins.trod_struct4 ht h
 rw [hC] at hl
 obtain ⟨o0, c0⟩ := Go.Deep.hone_of hone 0 f0 rfl
 obtain ⟨o1, c1⟩ := Go.Deep.hone_of hone 1 f1 rfl
 obtain ⟨o2, c2⟩ := Go.Deep.hone_of hone 2 f2 rfl
 obtain ⟨o3, c3⟩ := Go.Deep.hone_of hone 3 f3 rfl
 match cs, hl with
 | [v0, v1, v2, v3], _ =>
  obtain ⟨x0, e0, _⟩ := h0 (by simpa [o0, c0] using k0)
  obtain ⟨x1, e1, _⟩ := h1 (by simpa [o1, c1] using k1)
  obtain ⟨x2, e2, _⟩ := h2 (by simpa [o2, c2] using k2)
  obtain ⟨x3, e3, _⟩ := h3 (by simpa [o3, c3] using k3)
  exact ⟨⟨x0, x1, x2, x3⟩, e0, e1, e2, e3, trivial⟩
theorem reads_t : Reads 24 tC := fun {H enc W n cs y} h =>
 let ⟨x, hx⟩ := reads_4 Tryd.underlying24 (by kernel_rfl) (by kernel_rfl) reads_i reads_i reads_is reads_is h
 ⟨⟨x.1, x.2.1, x.2.2.1, x.2.2.2⟩, hx⟩
theorem reads_ts : Reads 62 fun xs : List Tl => [AV.sl 4 tC xs] := reads_sl Tryd.underlying62 (n := 4) (by kernel_rfl) (by decide) (fun _ => rfl) reads_t
end Go.Proofs.YthddoikmgpgakaaDoor.Sw
namespace Go.Proofs.YthddoikmgpgakaaDoor.Sw
open Go.RowKit Go
def greatT (t : Tl) : Bool := decide ((30 : Int) < t.st.length) || decide ((30 : Int) < t.fo.length)
theorem greatAll_con (ts : List Tl) : Con Tryd.prog 40 [.sl 4 tC ts] [] (Is (.val (.bool (decide ((12 : Int) < ts.length) || ts.any greatT))) []) := by
 refine con_of Tryd.func40 rfl (enters_of Tryd.func40 (by kernel_rfl) rfl) rfl ?_; intro n w0 F0 G0
 refine zS ?_;repeat(refine yA ?_;intro p hp;refine zS ?_)
 refine w_cond rfl (fun h => ?_) (fun h => ?_)
 ·refine zS ?_;repeat(refine yA ?_;intro p hp;refine zS ?_)
  (apply res1; exact rfl; exact rfl; exact ⟨(congrArg (fun b => AV.val (Value.bool b)) (by simp [h])), rfl⟩)
 ·have hl : ts.length ≤ 4000 := by simp at h; omega
  refine zS ?_;repeat(refine yA ?_;intro p hp;refine zS ?_)
  refine W_loopJ (fun (k : Nat) => ⟨[(8, .sl 4 tC ts), (9, .val (.int .i64 ts.length)), (10, .val (.int .i64 k))], []⟩) (fun k => k ≤ ts.length ∧ (ts.take k).any greatT = false) (fun k => ts.length - k) 0 (fun _ _ st => st_sub2 st zR zP) ?hj0 ?round
  case hj0 => simp
  case round =>
   rintro k ⟨hk, hno⟩
   refine zS ?_;repeat(refine yA ?_;intro p hp;refine zS ?_)
   refine w_cond rfl (fun hlt => ?_) (fun hge => ?_)
   ·have hlt' : k < ts.length := by simpa using hlt
    refine zS ?_;repeat(refine yA ?_;intro p hp;refine zS ?_)
    (first | (apply wl_call (great_con _); exact rfl; exact rfl) | (apply wl_callR (great_con _); exact rfl; exact zM; exact rfl))
    refine zS ?_;repeat(refine yA ?_;intro p hp;refine zS ?_)
    have htk : ts.take (k + 1) = ts.take k ++ [ts[k]] := List.take_succ_eq_append_getElem hlt'
    refine w_cond rfl (fun hg => ?_) (fun hg => ?_)
    ·refine zS ?_;repeat(refine yA ?_;intro p hp;refine zS ?_)
     have : ts.any greatT = true := List.any_eq_true.2 ⟨_, List.getElem_mem hlt', hg⟩
     (apply res1; exact rfl; exact rfl; exact ⟨(congrArg (fun b => AV.val (Value.bool b)) (by simp [this])), rfl⟩)
    ·refine zS ?_;repeat(refine yA ?_;intro p hp;refine zS ?_)
     (refine ⟨k + 1, fun _ _ st => st_sub2 st ?_ ?_, ?_, ?_⟩; exact zR; exact zP)
     ·exact ⟨by omega, by rw [htk, List.any_append, hno]; simp [greatT, hg]⟩
     ·omega
   ·refine zS ?_;repeat(refine yA ?_;intro p hp;refine zS ?_)
    have hkk : k = ts.length := by simp at hge; omega
    subst hkk
    rw [List.take_length] at hno
    (apply res1; exact rfl; exact rfl; exact ⟨(congrArg (fun b => AV.val (Value.bool b)) (by simp [h, hno])), rfl⟩)
theorem zE {p : Prop} (h : p := by (repeat (first | exact Elems.nil | (apply Elems.cons; exact rfl; exact inferInstance; exact rfl)))) : p := h
theorem twin_con (t : Tl) (h1 : t.st.length ≤ 1000) (h2 : t.fo.length ≤ 1000) : Con Tryd.prog 19 [.agg (tC t)] [] (Is (.agg (tC t)) []) := by
 refine con_of Tryd.func19 rfl (enters_of Tryd.func19 (by kernel_rfl) rfl) rfl ?_; intro n w0 F0 G0
 refine zS ?_;repeat(refine yA ?_;intro p hp;refine zS ?_)
 refine W_run 9 [3, 4, 5, 6, 7, 8, 9, 10, 11] [1, 2, 3, 5, 6, 7, 8] Cut.nil rfl goFlt mixedS (by kernel_rfl) rfl ?_
 refine Run.tok [] [] rfl (fun vs => by apply ltr_pk; exact goPk; (refine ltr ?_; apply lt_lit (f := iC); exact zE; exact rfl; (first | exact (of_decide_eq_true rfl) | decide | (simp; done) | (simp; omega)))) goApp ?_
 refine rpv [] [] ?_
 refine rpv [1] [] ?_
 refine Run.tok [0, 2] [0] rfl (fun vs => by apply ltr_pk; exact goPk; (refine ltr ?_; apply lt_append; exact rfl; exact rfl; (first | omega | (simp; omega)))) goApp ?_
 refine Run.tok [] [] rfl (fun vs => by apply ltr_pk; exact goPk; (refine ltr ?_; apply lt_lit (f := iC); exact zE; exact rfl; (first | exact (of_decide_eq_true rfl) | decide | (simp; done) | (simp; omega)))) goApp ?_
 refine rpv [] [] ?_
 refine rpv [5] [] ?_
 refine Run.tok [4, 6] [4] rfl (fun vs => by apply ltr_pk; exact goPk; (refine ltr ?_; apply lt_append; exact rfl; exact rfl; (first | omega | (simp; omega)))) goApp ?_
 refine rpv [] [] ?_
 refine ⟨⟨by kernel_rfl, by kernel_rfl⟩, fun vs => ?_⟩
 apply WL_auto [3, 7, 8]
 ·exact goPk
 ·exact goNrm
 ·kernel_rfl
 ·kernel_rfl
 (apply WL_frz 6; exact rfl; exact zN)
 (apply WL_frz 10; exact rfl; exact zN)
 refine zS ?_
 (apply resN; exact rfl; exact rfl; exact zM; exact inferInstance; exact rfl; exact ⟨rfl, rfl⟩)
theorem twinAll_con (ts : List Tl) (hl : ts.length ≤ 4000) (hs : ∀ t ∈ ts, t.st.length ≤ 1000 ∧ t.fo.length ≤ 1000) : Con Tryd.prog 41 [.sl 4 tC ts] [] (Is (.sl 4 tC ts) []) := by
 refine con_of Tryd.func41 rfl (enters_of Tryd.func41 (by kernel_rfl) rfl) rfl ?_; intro n w0 F0 G0
 refine zS ?_;repeat(refine yA ?_;intro p hp;refine zS ?_)
 refine W_loopJ (fun (b : Nat × Value) => ⟨[(6, .sl 4 tC ts), (7, .val (.int .i64 ts.length)), (8, .val (.int .i64 b.1)), (3, .val b.2)], [.row b.2 24 4 tC (ts.take b.1)]⟩) (fun b => b.1 ≤ ts.length) (fun b => ts.length - b.1) (0, .slice none 0 0) (fun _ _ st => st_sub2 (st_nil 24 4 tC st) (by exact zR) (by exact zP)) (Nat.zero_le _) ?_
 rintro ⟨k, v⟩ hk
 dsimp only at hk ⊢
 refine zS ?_;repeat(refine yA ?_;intro p hp;refine zS ?_)
 refine w_cond rfl (fun hlt => ?_) (fun hge => ?_)
 ·have hlt' : k < ts.length := by simpa using hlt
  have hm := hs _ (List.getElem_mem hlt')
  have htk : ts.take (k + 1) = ts.take k ++ [ts[k]] := List.take_succ_eq_append_getElem hlt'
  refine zS ?_;repeat(refine yA ?_;intro p hp;refine zS ?_)
  (first | (apply wl_call (twin_con _ hm.1 hm.2); exact rfl; exact rfl) | (apply wl_callR (twin_con _ hm.1 hm.2); exact rfl; exact zM; exact rfl))
  refine zS ?_;repeat(refine yA ?_;intro p hp;refine zS ?_)
  (apply wl_litF tC; exact inferInstance; exact inferInstance; exact inferInstance; exact zE; exact rfl; (first | exact (of_decide_eq_true rfl) | decide | (simp; done) | (simp; omega)); exact rfl)
  (first | (apply wl_append; exact rfl; exact rfl; exact zN; exact inferInstance; exact inferInstance; (first | omega | (simp; omega)); exact rfl) | (apply wl_appendN; exact rfl; exact rfl; exact inferInstance; exact inferInstance; (first | omega | (simp; omega)); exact rfl))
  intro v'
  rw [← htk]
  refine zS ?_;repeat(refine yA ?_;intro p hp;refine zS ?_)
  (refine ⟨(k + 1, v'), fun _ _ st => st_sub2 st ?_ ?_, ?_, ?_⟩; exact zR; exact zP)
  ·dsimp only; omega
  ·dsimp only; omega
 ·have hkk : k = ts.length := by simp at hge; omega
  subst hkk
  rw [List.take_length]
  (apply W_frz 3; exact rfl; exact zN)
  refine zS ?_;repeat(refine yA ?_;intro p hp;refine zS ?_)
  (apply res1; exact rfl; exact rfl; exact ⟨rfl, rfl⟩)
def sameL (ts us : List Tl) : Bool := decide (ts.length = us.length) && (ts.zip us).all fun p => sameTl p.1 p.2
theorem sameL_self (ts : List Tl) : sameL ts ts = true := by
 unfold sameL
 simp only [decide_true, Bool.true_and, List.all_eq_true]
 intro p hp
 obtain ⟨i, hi, rfl⟩ := List.getElem_of_mem hp
 rw [List.getElem_zip]; exact sameTl_self _
theorem sameAll_con (ts us : List Tl) (hl : ts.length ≤ 4000) (hl2 : us.length ≤ 4000) (hs : ∀ t ∈ ts, t.st.length ≤ 1000 ∧ t.fo.length ≤ 1000) : Con Tryd.prog 48 [.sl 4 tC ts, .sl 4 tC us] [] (Is (.val (.bool (sameL ts us))) []) := by
 refine con_of Tryd.func48 rfl (enters_of Tryd.func48 (by kernel_rfl) rfl) rfl ?_; intro n w0 F0 G0
 refine zS ?_
 refine w_cond rfl (fun hne => ?_) (fun heq => ?_)
 ·refine zS ?_
  (apply res1; exact rfl; exact rfl; exact ⟨(congrArg (fun b => AV.val (Value.bool b)) (by unfold sameL; simp at hne; simp; intro h; omega)), rfl⟩)
 ·have hlen : ts.length = us.length := by simp at heq; omega
  refine zS ?_
  refine W_loopJ (fun (k : Nat) => ⟨[(0, .sl 4 tC ts), (1, .sl 4 tC us), (5, .val (.int .i64 k))], []⟩) (fun k => k ≤ ts.length ∧ ((ts.zip us).take k).all (fun p => sameTl p.1 p.2) = true) (fun k => ts.length - k) 0 (fun _ _ st => st_sub2 st zR zP) ?hj0 ?round
  case hj0 => simp
  case round =>
   rintro k ⟨hk, hall⟩
   have hzl : (ts.zip us).length = ts.length := by rw [List.length_zip]; omega
   refine zS ?_
   refine w_cond rfl (fun hlt => ?_) (fun hge => ?_)
   ·have hlt' : k < ts.length := by simpa using hlt
    have hlt2 : k < us.length := by omega
    have hm := hs _ (List.getElem_mem hlt')
    have hq1 : ts[k]? = some ts[k] := List.getElem?_eq_getElem hlt'
    have hq2 : us[k]? = some us[k] := List.getElem?_eq_getElem hlt2
    refine zS ?_
    refine W_run 8 [17, 18, 19, 20, 21, 22, 23, 24] [0, 1, 2, 3, 4, 5, 6, 7] Cut.nil rfl goFlt mixedS (by kernel_rfl) rfl ?_
    refine rpv [] [] ?_
    refine rpv [] [] ?_
    refine rpv [0, 1] [] ?_
    refine rpv [2] [] ?_
    refine rpv [] [] ?_
    refine rpv [] [] ?_
    refine rpv [4, 5] [] ?_
    refine rpv [6] [] ?_
    refine ⟨⟨by kernel_rfl, by kernel_rfl⟩, fun vs => ?_⟩
    apply WL_auto [3, 7]
    ·exact goPk
    ·exact goNrm
    ·kernel_rfl
    ·kernel_rfl
    (first | (apply wl_call (same_con _ _ hm.1 hm.2); exact rfl; exact rfl) | (apply wl_callR (same_con _ _ hm.1 hm.2); exact rfl; exact zM; exact rfl))
    refine zS ?_
    refine w_cond rfl (fun hg => ?_) (fun hg => ?_)
    ·refine zS ?_
     have hf : sameL ts us = false := by
      unfold sameL
      rw [Bool.and_eq_false_iff]
      right
      rw [List.all_eq_false]
      refine ⟨(ts[k], us[k]), ?_, by simpa using hg⟩
      rw [← List.getElem_zip (h := by omega)]
      exact List.getElem_mem _
     (apply res1; exact rfl; exact rfl; exact ⟨(congrArg (fun b => AV.val (Value.bool b)) hf.symm), rfl⟩)
    ·refine zS ?_
     (refine ⟨k + 1, fun _ _ st => st_sub2 st ?_ ?_, ?_, ?_⟩; exact zR; exact zP)
     ·refine ⟨by omega, ?_⟩
      rw [List.take_succ_eq_append_getElem (by omega), List.all_append, hall, List.getElem_zip]
      simpa using hg
     ·omega
   ·refine zS ?_
    have hkk : k = ts.length := by simp at hge; omega
    have ht : sameL ts us = true := by
     unfold sameL
     rw [List.take_of_length_le (by omega)] at hall
     simp [hlen, hall]
    (apply res1; exact rfl; exact rfl; exact ⟨(congrArg (fun b => AV.val (Value.bool b)) ht.symm), rfl⟩)
end Go.Proofs.YthddoikmgpgakaaDoor.Sw
