/- Proofs for the seat's cards: Base, Reg, RegIn, Sw, SwOps, Fst. No condition of its own. -/
import Derived.WalkKit
import Derived.Handy
import Derived.Deep.AppendSrc
import Derived.OrdersHeld
import Derived.Deep.RegionHeld
import Derived.OrdersIn
import Derived.RangeFuncCalls
import Derived.RangeFuncNested
import Derived.RangeFuncLeaves
import Derived.IntWalk
import Derived.WalkSpells
set_option linter.unusedVariables false
set_option linter.unusedSimpArgs false
set_option maxRecDepth 40000
set_option maxHeartbeats 32000000
namespace Go.Proofs.YthddoikmgpgakaaDoor
open Go.RowKit Go
theorem hid {p : Prop} (h : p) : Hid p := h
theorem cell_lt {w : World} {p : Addr} {v : Value} (h : w.cell? p = some v) : p.block < w.heap.size := by
 unfold World.cell? at h
 split at h
 ·rename_i c e f hb
  exact (Array.getElem?_eq_some_iff.1 hb).1
 ·cases h
def RdI (w : World) (a : Option Addr) (xs : List Int) : Prop := ∀ i (h : i < xs.length), ∃ b o, a = some ⟨b, o, none⟩ ∧ w.cell? ⟨b, o + i, none⟩ = some (.int .i64 xs[i])
theorem RdI.nil (w : World) (a : Option Addr) : RdI w a [] := fun i h => absurd h (Nat.not_lt_zero i)
theorem RdI.below {w w' : World} {a : Option Addr} {xs : List Int} (h : RdI w a xs) (hb : Below w.heap.size w w') : RdI w' a xs := fun i hi => by
 obtain ⟨b, o, ha, hc⟩ := h i hi
 exact ⟨b, o, ha, (hb.cell (cell_lt hc)).trans hc⟩
theorem RdI.alloc {w : World} {a : Option Addr} {xs : List Int} (h : RdI w a xs) (o : Obj) : RdI (w.alloc o) a xs :=
 h.below ((Below.refl _ _).alloc (Nat.le_refl _) _)
theorem RdI.drew {w : World} {a : Option Addr} {xs : List Int} (h : RdI w a xs) : RdI w.drew a xs := h
theorem bcell {W w1 : World} (hb : Below W.heap.size W w1) : (∀ b o, b < W.heap.size → w1.cell? ⟨b, o, none⟩ = W.cell? ⟨b, o, none⟩) ∧ (∀ b o, b < W.heap.size → w1.frozen? ⟨b, o, none⟩ = W.frozen? ⟨b, o, none⟩) :=
 ⟨fun b o h => hb.cell (p := ⟨b, o, none⟩) h, fun b o h => hb.frozen (p := ⟨b, o, none⟩) h⟩
theorem box_cell {w wr : World} {cs : Array Value} {t : TypeId} (h : Below (w.heap.size + 1) (w.alloc (.cells cs t)) wr) (j : Nat) : wr.cell? ⟨w.heap.size, j, none⟩ = cs[j]? := by
 rw [h.cell (p := ⟨w.heap.size, j, none⟩) (Nat.lt_succ_self _)]
 exact cell_of_row _ _ _ _ _ _ (heap_alloc_new w _)
def Box (w : World) (b : Nat) (cs : Array Value) (t : TypeId) : Prop := w.heap[b]? = some (.cells cs t (0, 0))
theorem Box.lt {w : World} {b : Nat} {cs : Array Value} {t : TypeId} (h : Box w b cs t) : b < w.heap.size := (Array.getElem?_eq_some_iff.1 h).1
theorem Box.cell {w : World} {b : Nat} {cs : Array Value} {t : TypeId} (h : Box w b cs t) (j : Nat) : w.cell? ⟨b, j, none⟩ = cs[j]? := cell_of_row _ _ _ _ _ _ h
theorem Box.frozen {w : World} {b : Nat} {cs : Array Value} {t : TypeId} (h : Box w b cs t) (j : Nat) : w.frozen? ⟨b, j, none⟩ = false := frozen_of_row _ _ _ _ _ h
theorem Box.new (w : World) (cs : Array Value) (t : TypeId) : Box (w.alloc (.cells cs t)) w.heap.size cs t := heap_alloc_new w _
theorem Box.at {w : World} {n : Nat} (cs : Array Value) (t : TypeId) (hn : n = w.heap.size) : Box (w.alloc (.cells cs t)) n cs t := hn ▸ heap_alloc_new w _
theorem Box.alloc {w : World} {b : Nat} {cs : Array Value} {t : TypeId} (h : Box w b cs t) (o : Obj) : Box (w.alloc o) b cs t := (Below.heap_alloc w o b h.lt).trans h
theorem Box.drew {w : World} {b : Nat} {cs : Array Value} {t : TypeId} (h : Box w b cs t) : Box w.drew b cs t := h
theorem Box.below {w w' : World} {B b : Nat} {cs : Array Value} {t : TypeId} (h : Box w b cs t) (hb : Below B w w') (hlt : b < B) : Box w' b cs t := (hb.block b hlt).trans h
theorem Box.grown {w w' : World} {row : Option Nat} {b : Nat} {cs : Array Value} {t : TypeId} (h : Box w b cs t) (hg : w.grownBy w' row) (hne : row ≠ some b) : Box w' b cs t := (hg.block b h.lt (fun e => hne e.symm)).trans h
theorem Box.set {w : World} {b : Nat} {cs : Array Value} {t : TypeId} (h : Box w b cs t) (j : Nat) (v : Value) : Box (w.setCell ⟨b, j, none⟩ v) b (cs.setIfInBounds j v) t := by
 unfold Box at *
 simp only [World.setCell, Array.getElem?_modify, if_true, h]
 simp
theorem Box.other {w : World} {b : Nat} {cs : Array Value} {t : TypeId} (h : Box w b cs t) (b' j : Nat) (v : Value) (hne : b ≠ b') : Box (w.setCell ⟨b', j, none⟩ v) b cs t := (heap_setCell_other _ _ _ _ hne).trans h
section
variable {P : Program} {ops : Array Oper} {Q : Exit → Act → World → Prop} {S : World → Prop} {held : List Nat}
def waits (ops : Array Oper) (j i : Nat) : Bool := match ops[j]? with | some o => o.after.any fun e => Region.binds .any e && e.on == i | none => false
def anc (ops : Array Oper) : Nat → Nat → Nat → Bool
 | 0, _, _ => false
 | f + 1, j, i => waits ops j i || match ops[j]? with | some o => o.after.toList.any fun e => Region.binds .any e && anc ops f e.on i | none => false
def needS (ops : Array Oper) (held : List Nat) (j : Nat) : Bool := held.any fun i => !anc ops 3 j i
def Closed (ops : Array Oper) (listed : Array Bool) : Prop := ∀ j o, ops[j]? = some o → listed.getD j false = true → ∀ e ∈ o.after, Region.binds .any e = true → listed.getD e.on false = true
def closedB (ops : Array Oper) (listed : Array Bool) : Bool := (List.range ops.size).all fun j => !listed.getD j false || match ops[j]? with | some o => o.after.toList.all fun e => !Region.binds .any e || listed.getD e.on false | none => true
theorem closed_of_B {listed : Array Bool} (h : closedB ops listed = true) : Closed ops listed := fun j o ho hj e he hb => by
 unfold closedB at h
 rw [List.all_eq_true] at h
 have h1 := h j (List.mem_range.2 (Array.getElem?_eq_some_iff.1 ho).1)
 simp only [hj, Bool.not_true, Bool.false_or, ho, List.all_eq_true] at h1
 have h2 := h1 e (Array.mem_toList_iff.2 he)
 simpa [hb] using h2
theorem getD_ft {listed : Array Bool} {i : Nat} (h : listed.getD i true = false) : listed.getD i false = false := by
 rcases Nat.lt_or_ge i listed.size with h' | h'
 ·simpa [Array.getD, h'] using h
 ·simp [Array.getD, Nat.not_lt.2 h'] at h
theorem anc_listed {listed : Array Bool} (hc : Closed ops listed) {i : Nat} : ∀ (f j : Nat) (o : Oper), ops[j]? = some o → (∀ e ∈ o.after, Region.binds .any e = true → listed.getD e.on false = true) → anc ops f j i = true → listed.getD i false = true
 | 0, _, _, _, _, h => by cases h
 | f + 1, j, o, ho, hp, h => by
  unfold anc waits at h
  simp only [ho, Bool.or_eq_true] at h
  rcases h with h | h
  ·obtain ⟨e, he, h2⟩ := Array.any_eq_true'.1 h
   simp only [Bool.and_eq_true, beq_iff_eq] at h2
   rw [← h2.2]; exact hp e he h2.1
  ·rw [List.any_eq_true] at h
   obtain ⟨e, he, h2⟩ := h
   simp only [Bool.and_eq_true] at h2
   have hl := hp e (Array.mem_toList_iff.1 he) h2.1
   cases hk : ops[e.on]? with
   | none => cases f <;> simp [anc, waits, hk] at h2
   | some o' => exact anc_listed hc f e.on o' hk (fun e' he' hb' => hc e.on o' hk hl e' he' hb') h2.2
def pureKind (o : Oper) : Bool := match o.op with
 | .move _ | .assign _ | .pick .. | .nilCheck _ | .binOp .. | .unOp .. | .convert .. | .fieldAddr .. | .field .. | .indexAddr .. | .index .. | .extract .. | .slice .. | .build .. | .makeFunc .. | .makeInterface .. => true
 | .call { callee := .builtin .len, .. } | .call { callee := .builtin .cap, .. } | .call { callee := .builtin .min, .. } | .call { callee := .builtin .max, .. } => true
 | _ => false
def still (ops : Array Oper) (held : List Nat) (i : Nat) : Bool := held.contains i || match ops[i]? with | some o => pureKind o | none => false
def Req (ops : Array Oper) (held : List Nat) (S : World → Prop) (i : Nat) (w w' : World) : Prop := if still ops held i = true then w' = w else (needS ops held i = true → S w')
def wpAnyF (P : Program) (ops : Array Oper) (Q : Exit → Act → World → Prop) (held : List Nat) (S : World → Prop) : Nat → Array Bool → Act → World → Prop
 | 0, listed, a, w => Region.ready .any ops listed = [] ∧ Q .normal a w
 | fuel + 1, listed, a, w =>
  (Region.ready .any ops listed = [] → Q .normal a w) ∧
  ∀ i ∈ Region.ready .any ops listed, wpOp P ops Q i (fun a' w' => Req ops held S i w w' ∧ wpAnyF P ops Q held S fuel (listed.setIfInBounds i true) a' w') a w
theorem wpAny_of_F : ∀ (fuel : Nat) (listed : Array Bool) (a : Act) (w : World), wpAnyF P ops Q held S fuel listed a w → wpAny P .any ops Q fuel listed a w
 | 0, _, _, _, h => h
 | fuel + 1, _, _, _, h => ⟨h.1, fun i hi => wpOp_mono (fun a' w' h' => wpAny_of_F fuel _ a' w' h'.2) (h.2 i hi)⟩
theorem wpAnyF_first {i : Nat} {oi : Oper} {v : Value} {S' : World → Prop} (hi : ops[i]? = some oi) (hsel : ∀ (j : Nat) (o : Oper) cs b, ops[j]? = some o → o.op ≠ .select cs b)
  (hQ : ∀ c a w, Q (.panic c) (a.put oi.dst v) w → Q (.panic c) a w)
  (hSS : ∀ j w w', j ≠ i → anc ops 3 j i = false → Req ops held S j w w' → S' w → S' w') (hst : still ops held i = true) :
  ∀ (fuel : Nat) (listed : Array Bool) (a : Act) (w : World), Closed ops listed →
   (∀ j oj, ops[j]? = some oj → j ≠ i → listed.getD j true = false → (∀ e ∈ oj.after, Region.binds .any e = true → e.on ≠ i) → oi.apart ops oj = true) →
   i ∈ Region.ready .any ops listed → YieldsIf P ops S' oi v a → S' w →
   wpAnyF P ops Q held S fuel (listed.setIfInBounds i true) (a.put oi.dst v) w → wpAnyF P ops Q held S (fuel + 1) listed a w := by
 intro fuel
 induction fuel with
 | zero =>
  intro listed a w _ _ hr hy hS H
  refine ⟨fun h => (by rw [h] at hr; cases hr), fun j hj => ?_⟩
  by_cases hji : j = i
  ·subst hji; exact hy.wpOp hi hS ⟨by unfold Req; rw [if_pos hst], H⟩
  ·have := ready_mono hj hji
   rw [H.1] at this
   cases this
 | succ fuel ih =>
  intro listed a w hcl hfree hr hy hS H
  refine ⟨fun h => (by rw [h] at hr; cases hr), fun j hj => ?_⟩
  by_cases hji : j = i
  ·subst hji; exact hy.wpOp hi hS ⟨by unfold Req; rw [if_pos hst], H⟩
  ·have h1 := H.2 j (ready_mono hj hji)
   obtain ⟨hjun, oj, hoj, hall⟩ := mem_ready.1 hj
   have hnot : ∀ e ∈ oj.after, Region.binds .any e = true → e.on ≠ i := fun e he hb heq => by
    have h1 := hall e he hb
    have h0 := (mem_ready.1 hr).1
    rw [heq] at h1
    rcases Nat.lt_or_ge i listed.size with h' | h'
    ·simp [h'] at h0 h1; rw [h0] at h1; cases h1
    ·simp [Array.getElem?_eq_none h'] at h1
   have hprs : ∀ e ∈ oj.after, Region.binds .any e = true → listed.getD e.on false = true := fun e he hb => hall e he hb
   have hw : anc ops 3 j i = false := by
    cases ha : anc ops 3 j i with
    | false => rfl
    | true =>
     have h1 := anc_listed hcl 3 j oj hoj hprs ha
     rw [getD_ft (mem_ready.1 hr).1] at h1
     cases h1
   have hcl' : Closed ops (listed.setIfInBounds j true) := fun k ok hok hk e he hb => by
    have hmono : ∀ x, listed.getD x false = true → (listed.setIfInBounds j true).getD x false = true := fun x hx => getD_set_true hx
    by_cases hkj : j = k
    ·subst hkj
     rw [hoj] at hok; obtain rfl := Option.some.inj hok
     exact hmono _ (hprs e he hb)
    ·rw [getD_set_ne false hkj] at hk
     exact hmono _ (hcl k ok hok hk e he hb)
   have h2 := wpOp_putIf hoj (hfree j oj hoj hji hjun hnot) (fun cs b => hsel i oi cs b hi) (fun cs b => hsel j oj cs b hoj) hQ hy h1
   have hfree' : ∀ k ok, ops[k]? = some ok → k ≠ i → (listed.setIfInBounds j true).getD k true = false →
     (∀ e ∈ ok.after, Region.binds .any e = true → e.on ≠ i) → oi.apart ops ok = true := fun k ok hk hki hun hno => by
    refine hfree k ok hk hki ?_ hno
    by_cases hjk : j = k
    ·subst hjk; exact hjun
    ·rw [getD_set_ne true hjk] at hun; exact hun
   refine wpOp_mono (fun a' w' h3 => ?_) h2
   have hS2 : S' w' := hSS j w w' hji hw h3.2.1 hS
   refine ⟨h3.2.1, ih (listed.setIfInBounds j true) a' w' hcl' hfree' (ready_mono hr (Ne.symm hji)) h3.1 hS2 ?_⟩
   rw [Array.setIfInBounds_comm _ _ hji]
   exact h3.2.2
def takeOk (ops : Array Oper) (listed : Array Bool) (i : Nat) : Bool := closedB ops listed && Region.noSelect ops && Region.free .any ops listed i && (Region.ready .any ops listed).contains i
theorem wpAnyF_held {i : Nat} {oi : Oper} {v : Value} {fuel : Nat} {listed : Array Bool} {a : Act} {w : World} (hi : ops[i]? = some oi)
  (hk : (takeOk ops listed i && held.contains i) = true) (hQ : ∀ c a w, Q (.panic c) (a.put oi.dst v) w → Q (.panic c) a w) (hS : S w) (hy : YieldsIf P ops S oi v a)
  (h : wpAnyF P ops Q held S fuel (listed.setIfInBounds i true) (a.put oi.dst v) w) : wpAnyF P ops Q held S (fuel + 1) listed a w := by
 simp only [takeOk, Bool.and_eq_true] at hk
 obtain ⟨⟨⟨⟨hc, hs⟩, hf⟩, hr⟩, hh⟩ := hk
 refine wpAnyF_first (S' := S) hi (Region.noSelect_spec hs) hQ (fun j w w' hji hw hn hS' => ?_) (by unfold still; rw [hh]; rfl) fuel listed a w (closed_of_B hc) (Region.free_spec hi hf) (by simpa using hr) hy hS h
 unfold Req at hn
 split at hn
 ·rw [hn]; exact hS'
 ·refine hn ?_
  unfold needS
  rw [List.any_eq_true]
  exact ⟨i, by simpa using hh, by simp [hw]⟩
theorem wpAnyF_pure {i : Nat} {oi : Oper} {v : Value} {fuel : Nat} {listed : Array Bool} {a : Act} {w : World} (hi : ops[i]? = some oi)
  (hk : (takeOk ops listed i && still ops held i) = true) (hQ : ∀ c a w, Q (.panic c) (a.put oi.dst v) w → Q (.panic c) a w) (hy : Yields P ops oi v a)
  (h : wpAnyF P ops Q held S fuel (listed.setIfInBounds i true) (a.put oi.dst v) w) : wpAnyF P ops Q held S (fuel + 1) listed a w := by
 simp only [takeOk, Bool.and_eq_true] at hk
 obtain ⟨⟨⟨⟨hc, hs⟩, hf⟩, hr⟩, hh⟩ := hk
 exact wpAnyF_first (S' := fun _ => True) hi (Region.noSelect_spec hs) hQ (fun _ _ _ _ _ _ _ => trivial) hh fuel listed a w (closed_of_B hc) (Region.free_spec hi hf) (by simpa using hr) (hy.imp (fun ⟨hw, hv⟩ => ⟨hw, fun w _ => hv w⟩) id) trivial h
theorem req_of {i : Nat} {w w' : World} (n : still ops held i = false) (h : needS ops held i = true → S w') : Req ops held S i w w' := by
 unfold Req; rw [if_neg (by rw [n]; intro h0; cases h0)]; exact h
theorem wpAnyF_one {i : Nat} {oi : Oper} {fuel : Nat} {listed : Array Bool} {a : Act} {w : World} (hi : ops[i]? = some oi) (hr : Region.ready .any ops listed = [i] ∧ still ops held i = false)
  (h : ∀ K : Act → World → Prop, Shut (∀ a w, (needS ops held i = true → S w) → wpAnyF P ops Q held S fuel (listed.setIfInBounds i true) a w → K a w) → if Region.wanted oi (yielded ops a.tmps) = true then Oper.wp P oi a w K Q else K (a.put oi.dst undef) w) :
  wpAnyF P ops Q held S (fuel + 1) listed a w := by
 obtain ⟨hr, n1⟩ := hr
 refine ⟨fun h0 => (by rw [h0] at hr; cases hr), fun j hj => ?_⟩
 rw [hr, List.mem_singleton] at hj
 subst hj
 exact wpOp_step hi (fun K' hK => h K' (fun a w hS hW => hK a w ⟨req_of n1 hS, hW⟩))
theorem wpAnyF_two {i j : Nat} {oi oj : Oper} {fuel : Nat} {listed : Array Bool} {a : Act} {w : World} (hi : ops[i]? = some oi) (hj : ops[j]? = some oj) (hr : Region.ready .any ops listed = [i, j] ∧ still ops held i = false ∧ still ops held j = false)
  (h : ∀ K : Act → World → Prop, Shut (∀ a w, (needS ops held i = true → S w) → wpAnyF P ops Q held S fuel (listed.setIfInBounds i true) a w → K a w) → if Region.wanted oi (yielded ops a.tmps) = true then Oper.wp P oi a w K Q else K (a.put oi.dst undef) w)
  (h2 : ∀ K : Act → World → Prop, Shut (∀ a w, (needS ops held j = true → S w) → wpAnyF P ops Q held S fuel (listed.setIfInBounds j true) a w → K a w) → if Region.wanted oj (yielded ops a.tmps) = true then Oper.wp P oj a w K Q else K (a.put oj.dst undef) w) :
  wpAnyF P ops Q held S (fuel + 1) listed a w := by
 obtain ⟨hr, n1, n2⟩ := hr
 refine ⟨fun h0 => (by rw [h0] at hr; cases hr), fun k hk => ?_⟩
 rw [hr] at hk
 rcases List.mem_cons.1 hk with rfl | hk
 ·exact wpOp_step hi (fun K' hK => h K' (fun a w hS hW => hK a w ⟨req_of n1 hS, hW⟩))
 ·rw [List.mem_singleton] at hk
  subst hk
  exact wpOp_step hj (fun K' hK => h2 K' (fun a w hS hW => hK a w ⟨req_of n2 hS, hW⟩))
theorem wpAnyF_done {listed : Array Bool} {a : Act} {w : World} (hr : Region.ready .any ops listed = []) (h : Q .normal a w) :
  ∀ fuel, wpAnyF P ops Q held S fuel listed a w
 | 0 => ⟨hr, h⟩
 | _ + 1 => ⟨fun _ => h, by rw [hr]; simp⟩
theorem shutS {i fuel : Nat} {listed : Array Bool} {K : Act → World → Prop} (hK : Shut (∀ a w, (needS ops held i = true → S w) → wpAnyF P ops Q held S fuel (listed.setIfInBounds i true) a w → K a w)) {a : Act} {w : World} (hS : S w)
  (h : Hid (S w) → wpAnyF P ops Q held S fuel (listed.setIfInBounds i true) a w) : K a w := hK.out _ _ (fun _ => hS) (h hS)
theorem shutN {i fuel : Nat} {listed : Array Bool} {K : Act → World → Prop} (hK : Shut (∀ a w, (needS ops held i = true → S w) → wpAnyF P ops Q held S fuel (listed.setIfInBounds i true) a w → K a w)) {a : Act} {w : World} (hn : needS ops held i = false)
  (h : wpAnyF P ops Q held S fuel (listed.setIfInBounds i true) a w) : K a w := hK.out _ _ (fun h0 => by rw [hn] at h0; cases h0) h
def NormP (R : Act → World → Prop) : Exit → Act → World → Prop
 | .normal, a, w => R a w
 | _, _, _ => False
theorem wp_world {c : Code} {a : Act} {w : World} (T : World → Prop) (hT : T w) (h : ∀ w', T w' → c.wp P Q a w') : c.wp P Q a w := h w hT
theorem wp_post {c : Code} {a : Act} {w : World} (R : Act → World → Prop) (h : c.wp P (NormP R) a w) (h2 : ∀ a w, R a w → Q .normal a w) : c.wp P Q a w :=
 Code.wp_mono (fun e a w h => by cases e <;> first | exact h2 _ _ h | exact (h : False).elim) h
theorem wp_region_F {id : Nat} {a : Act} {w : World} (held : List Nat) (S : World → Prop) (hm : P.follows .mixedOrders = true) (hS : S w.drew)
  (h : S w.drew → wpAnyF P ops Q held S ops.size (Array.replicate ops.size false) a w.drew) : (Code.region id ops true).wp P Q a w :=
 wp_region_any hm (wpAny_of_F _ _ _ _ (h hS))
end
section
variable {F : Fence} {n : Nat} {P : Program} {ops : Array Oper} {Q : Exit → Act → World → Prop} {S : World → Prop} {held : List Nat}
def Wide (F : Fence) : Prop := ∀ f, F.fn f
theorem wide_wide : Wide Fence.wide := fun _ => trivial
theorem wide_round (l : Nat) : Wide (Fence.wide.inRound l) := fun _ => trivial
def ancP (ops : Array Oper) : Nat → Nat → Nat → Bool
 | 0, _, _ => false
 | f + 1, j, i => waits ops j i || match ops[j]? with | some o => o.after.toList.any fun e => decide (i < e.on) && (Region.binds .any e && ancP ops f e.on i) | none => false
theorem ancP_listed {listed : Array Bool} (hc : Closed ops listed) {i : Nat} : ∀ (f j : Nat) (o : Oper), ops[j]? = some o → (∀ e ∈ o.after, Region.binds .any e = true → listed.getD e.on false = true) → ancP ops f j i = true → listed.getD i false = true
 | 0, _, _, _, _, h => by cases h
 | f + 1, j, o, ho, hp, h => by
  unfold ancP waits at h
  simp only [ho, Bool.or_eq_true] at h
  rcases h with h | h
  ·obtain ⟨e, he, h2⟩ := Array.any_eq_true'.1 h
   simp only [Bool.and_eq_true, beq_iff_eq] at h2
   rw [← h2.2]; exact hp e he h2.1
  ·rw [List.any_eq_true] at h
   obtain ⟨e, he, h2⟩ := h
   simp only [Bool.and_eq_true] at h2
   have hl := hp e (Array.mem_toList_iff.1 he) h2.2.1
   cases hk : ops[e.on]? with
   | none => cases f <;> simp [ancP, waits, hk] at h2
   | some o' => exact ancP_listed hc f e.on o' hk (fun e' he' hb' => hc e.on o' hk hl e' he' hb') h2.2.2
def needG (ops : Array Oper) (held : List Nat) (j : Nat) : Bool := held.any fun i => !ancP ops 8 j i
def ReqG (ops : Array Oper) (held : List Nat) (S : World → Prop) (i : Nat) (w w' : World) : Prop := if still ops held i = true then w' = w else (needG ops held i = true → S w')
def noDefer (ops : Array Oper) : Bool := ops.toList.all fun o => match o.op with | .defer _ => false | _ => true
theorem noDefer_at {i : Nat} {o : Oper} (h : noDefer ops = true) (hi : ops[i]? = some o) : ∀ c, o.op ≠ .defer c := fun c e => by
 unfold noDefer at h
 rw [List.all_eq_true] at h
 have h1 := h o (by rw [Array.mem_toList_iff]; exact Array.mem_of_getElem? hi)
 rw [e] at h1
 cases h1
theorem wpOpIn_yields {i : Nat} {o : Oper} {v : Value} {a : Act} {K : Act → World → Prop} {w : World} {S' : World → Prop} (hF : Wide F) (hn : noDefer ops = true) (hi : ops[i]? = some o) (hy : YieldsIf P ops S' o v a)
  (hS : S' w) (h : K (a.put o.dst v) w) : wpOpIn F n P ops Q i K a w := by
 unfold Go.wpOpIn
 simp only [hi]
 rcases hy with ⟨hw, hv⟩ | ⟨hw, rfl⟩
 ·simp only [hw, if_true, Oper.wpIn, Oper.semAt_eq F.round a.eval o (noDefer_at hn hi), hv w hS, Oper.uponIn]; exact ⟨fun f _ => hF f, h⟩
 ·simp only [hw, Bool.false_eq_true, if_false]; exact ⟨fun f _ => hF f, h⟩
theorem wpOpIn_putIf {j : Nat} {oi oj : Oper} {v : Value} {S' : World → Prop} (hF : Wide F) (hn : noDefer ops = true) (hj : ops[j]? = some oj) (hap : oi.apart ops oj = true)
  (hsi : ∀ cs b, oi.op ≠ .select cs b) (hsj : ∀ cs b, oj.op ≠ .select cs b)
  (hQ : ∀ c a w, Q (.panic c) (a.put oi.dst v) w → Q (.panic c) a w) {K : Act → World → Prop} {a : Act} {w : World}
  (hy : YieldsIf P ops S' oi v a) (h : wpOpIn F n P ops Q j K (a.put oi.dst v) w) :
  wpOpIn F n P ops Q j (fun a' w' => YieldsIf P ops S' oi v a' ∧ K (a'.put oi.dst v) w') a w := by
 obtain ⟨h1, h2, h3⟩ := Oper.apart_spec hap
 have keep : ∀ (a : Act), YieldsIf P ops S' oi v a → ∀ u, YieldsIf P ops S' oi v (a.put oj.dst u) := fun a hy u =>
  hy.of_same (execOp_put oi hsi a oj.dst u h3) (wanted_put oi a oj.dst u h3)
 have keepD : ∀ d, YieldsIf P ops S' oi v { a with defers := d :: a.defers } := fun d => hy.of_same rfl rfl
 have hd := noDefer_at hn hj
 unfold wpOpIn at *
 simp only [hj] at *
 rw [wanted_put oj a oi.dst v h1] at h
 split
 ·rename_i hw
  simp only [hw, if_true] at h
  unfold Oper.wpIn at *
  refine ⟨fun f _ => hF f, ?_⟩
  have h := h.2
  rw [Oper.semAt_eq F.round _ oj hd, execOp_put oj hsj a oi.dst v h1] at h
  rw [Oper.semAt_eq F.round _ oj hd]
  generalize (execOp a.eval oj).run P w = r at *
  cases r with
  | ok x w' =>
   cases x <;> simp only [Oper.uponIn] at h ⊢
   case value u => exact ⟨keep a hy u, by rw [← Act.put_comm a v u h2]; exact h⟩
   case skip => exact ⟨keep a hy _, by rw [← Act.put_comm a v undef h2]; exact h⟩
   case defer d =>
    refine ⟨keep _ (keepD d) _, ?_⟩
    rw [← Act.put_comm _ v undef h2, ← Act.put_defers]
    exact h
   case enter f args =>
    refine ⟨h.1, CallsIn.mono h.2 fun e w'' he => ?_⟩
    cases e with
    | returned u => exact ⟨keep a hy u, by rw [← Act.put_comm a v u h2]; exact he⟩
    | panicked c => exact hQ _ _ _ he
    | outgrown => exact he
   case row row args => exact ⟨h.1, RowsIn.mono h.2 fun u w'' he => ⟨keep a hy u, by rw [← Act.put_comm a v u h2]; exact he⟩⟩
   case round l f tmps assign body =>
    refine ⟨h.1, RoundIn.mono h.2 fun e w'' he => ?_⟩
    cases e with
    | returned u => exact ⟨keep a hy u, by rw [← Act.put_comm a v u h2]; exact he⟩
    | panicked c => exact hQ _ _ _ he
    | outgrown => exact he
  | halt x w' =>
   cases x <;> simp only [Oper.uponIn] at h ⊢
   case panic u => exact hQ _ _ _ h
 ·rename_i hw
  simp only [hw] at h
  exact ⟨fun f _ => hF f, keep a hy _, by rw [← Act.put_comm a v undef h2]; exact h.2⟩
def wpAnyG (F : Fence) (n : Nat) (P : Program) (ops : Array Oper) (Q : Exit → Act → World → Prop) (held : List Nat) (S : World → Prop) : Nat → Array Bool → Act → World → Prop
 | 0, listed, a, w => Region.ready .any ops listed = [] ∧ Q .normal a w
 | fuel + 1, listed, a, w =>
  (Region.ready .any ops listed = [] → Q .normal a w) ∧
  ∀ i ∈ Region.ready .any ops listed, wpOpIn F n P ops Q i (fun a' w' => ReqG ops held S i w w' ∧ wpAnyG F n P ops Q held S fuel (listed.setIfInBounds i true) a' w') a w
theorem wpAnyIn_of_G : ∀ (fuel : Nat) (listed : Array Bool) (a : Act) (w : World), wpAnyG F n P ops Q held S fuel listed a w → wpAnyIn F n P .any ops Q fuel listed a w
 | 0, _, _, _, h => h
 | fuel + 1, _, _, _, h => ⟨h.1, fun i hi => wpOpIn_mono (fun a' w' h' => wpAnyIn_of_G fuel _ a' w' h'.2) (h.2 i hi)⟩
theorem wpAnyG_first {i : Nat} {oi : Oper} {v : Value} {S' : World → Prop} (hF : Wide F) (hn : noDefer ops = true) (hi : ops[i]? = some oi) (hsel : ∀ (j : Nat) (o : Oper) cs b, ops[j]? = some o → o.op ≠ .select cs b)
  (hQ : ∀ c a w, Q (.panic c) (a.put oi.dst v) w → Q (.panic c) a w)
  (hSS : ∀ j w w', j ≠ i → ancP ops 8 j i = false → ReqG ops held S j w w' → S' w → S' w') (hst : still ops held i = true) :
  ∀ (fuel : Nat) (listed : Array Bool) (a : Act) (w : World), Closed ops listed →
   (∀ j oj, ops[j]? = some oj → j ≠ i → listed.getD j true = false → (∀ e ∈ oj.after, Region.binds .any e = true → e.on ≠ i) → oi.apart ops oj = true) →
   i ∈ Region.ready .any ops listed → YieldsIf P ops S' oi v a → S' w →
   wpAnyG F n P ops Q held S fuel (listed.setIfInBounds i true) (a.put oi.dst v) w → wpAnyG F n P ops Q held S (fuel + 1) listed a w := by
 intro fuel
 induction fuel with
 | zero =>
  intro listed a w _ _ hr hy hS H
  refine ⟨fun h => (by rw [h] at hr; cases hr), fun j hj => ?_⟩
  by_cases hji : j = i
  ·subst hji; exact wpOpIn_yields hF hn hi hy hS ⟨by unfold ReqG; rw [if_pos hst], H⟩
  ·have := ready_mono hj hji
   rw [H.1] at this
   cases this
 | succ fuel ih =>
  intro listed a w hcl hfree hr hy hS H
  refine ⟨fun h => (by rw [h] at hr; cases hr), fun j hj => ?_⟩
  by_cases hji : j = i
  ·subst hji; exact wpOpIn_yields hF hn hi hy hS ⟨by unfold ReqG; rw [if_pos hst], H⟩
  ·have h1 := H.2 j (ready_mono hj hji)
   obtain ⟨hjun, oj, hoj, hall⟩ := mem_ready.1 hj
   have hnot : ∀ e ∈ oj.after, Region.binds .any e = true → e.on ≠ i := fun e he hb heq => by
    have h1 := hall e he hb
    have h0 := (mem_ready.1 hr).1
    rw [heq] at h1
    rcases Nat.lt_or_ge i listed.size with h' | h'
    ·simp [h'] at h0 h1; rw [h0] at h1; cases h1
    ·simp [Array.getElem?_eq_none h'] at h1
   have hprs : ∀ e ∈ oj.after, Region.binds .any e = true → listed.getD e.on false = true := fun e he hb => hall e he hb
   have hw : ancP ops 8 j i = false := by
    cases ha : ancP ops 8 j i with
    | false => rfl
    | true =>
     have h1 := ancP_listed hcl 8 j oj hoj hprs ha
     rw [getD_ft (mem_ready.1 hr).1] at h1
     cases h1
   have hcl' : Closed ops (listed.setIfInBounds j true) := fun k ok hok hk e he hb => by
    have hmono : ∀ x, listed.getD x false = true → (listed.setIfInBounds j true).getD x false = true := fun x hx => getD_set_true hx
    by_cases hkj : j = k
    ·subst hkj
     rw [hoj] at hok; obtain rfl := Option.some.inj hok
     exact hmono _ (hprs e he hb)
    ·rw [getD_set_ne false hkj] at hk
     exact hmono _ (hcl k ok hok hk e he hb)
   have h2 := wpOpIn_putIf hF hn hoj (hfree j oj hoj hji hjun hnot) (fun cs b => hsel i oi cs b hi) (fun cs b => hsel j oj cs b hoj) hQ hy h1
   have hfree' : ∀ k ok, ops[k]? = some ok → k ≠ i → (listed.setIfInBounds j true).getD k true = false →
     (∀ e ∈ ok.after, Region.binds .any e = true → e.on ≠ i) → oi.apart ops ok = true := fun k ok hk hki hun hno => by
    refine hfree k ok hk hki ?_ hno
    by_cases hjk : j = k
    ·subst hjk; exact hjun
    ·rw [getD_set_ne true hjk] at hun; exact hun
   refine wpOpIn_mono (fun a' w' h3 => ?_) h2
   have hS2 : S' w' := hSS j w w' hji hw h3.2.1 hS
   refine ⟨h3.2.1, ih (listed.setIfInBounds j true) a' w' hcl' hfree' (ready_mono hr (Ne.symm hji)) h3.1 hS2 ?_⟩
   rw [Array.setIfInBounds_comm _ _ hji]
   exact h3.2.2
def takeG (ops : Array Oper) (listed : Array Bool) (i : Nat) : Bool := noDefer ops && takeOk ops listed i
theorem wpAnyG_held {i : Nat} {oi : Oper} {v : Value} {fuel : Nat} {listed : Array Bool} {a : Act} {w : World} (hF : Wide F) (hi : ops[i]? = some oi)
  (hk : (takeG ops listed i && held.contains i) = true) (hQ : ∀ c a w, Q (.panic c) (a.put oi.dst v) w → Q (.panic c) a w) (hS : S w) (hy : YieldsIf P ops S oi v a)
  (h : wpAnyG F n P ops Q held S fuel (listed.setIfInBounds i true) (a.put oi.dst v) w) : wpAnyG F n P ops Q held S (fuel + 1) listed a w := by
 simp only [takeG, takeOk, Bool.and_eq_true] at hk
 obtain ⟨⟨hn, ⟨⟨hc, hs⟩, hf⟩, hr⟩, hh⟩ := hk
 refine wpAnyG_first (S' := S) hF hn hi (Region.noSelect_spec hs) hQ (fun j w w' hji hw hn hS' => ?_) (by unfold still; rw [hh]; rfl) fuel listed a w (closed_of_B hc) (Region.free_spec hi hf) (by simpa using hr) hy hS h
 unfold ReqG at hn
 split at hn
 ·rw [hn]; exact hS'
 ·refine hn ?_
  unfold needG
  rw [List.any_eq_true]
  exact ⟨i, by simpa using hh, by simp [hw]⟩
theorem wpAnyG_pure {i : Nat} {oi : Oper} {v : Value} {fuel : Nat} {listed : Array Bool} {a : Act} {w : World} (hF : Wide F) (hi : ops[i]? = some oi)
  (hk : (takeG ops listed i && still ops held i) = true) (hQ : ∀ c a w, Q (.panic c) (a.put oi.dst v) w → Q (.panic c) a w) (hy : Yields P ops oi v a)
  (h : wpAnyG F n P ops Q held S fuel (listed.setIfInBounds i true) (a.put oi.dst v) w) : wpAnyG F n P ops Q held S (fuel + 1) listed a w := by
 simp only [takeG, takeOk, Bool.and_eq_true] at hk
 obtain ⟨⟨hn, ⟨⟨hc, hs⟩, hf⟩, hr⟩, hh⟩ := hk
 exact wpAnyG_first (S' := fun _ => True) hF hn hi (Region.noSelect_spec hs) hQ (fun _ _ _ _ _ _ _ => trivial) hh fuel listed a w (closed_of_B hc) (Region.free_spec hi hf) (by simpa using hr) (hy.imp (fun ⟨hw, hv⟩ => ⟨hw, fun w _ => hv w⟩) id) trivial h
theorem reqG_of {i : Nat} {w w' : World} (n : still ops held i = false) (h : needG ops held i = true → S w') : ReqG ops held S i w w' := by
 unfold ReqG; rw [if_neg (by rw [n]; intro h0; cases h0)]; exact h
theorem wpAnyG_one {i : Nat} {oi : Oper} {fuel : Nat} {listed : Array Bool} {a : Act} {w : World} (hi : ops[i]? = some oi) (hr : Region.ready .any ops listed = [i] ∧ still ops held i = false)
  (h : ∀ K : Act → World → Prop, Shut (∀ a w, (needG ops held i = true → S w) → wpAnyG F n P ops Q held S fuel (listed.setIfInBounds i true) a w → K a w) → if Region.wanted oi (yielded ops a.tmps) = true then Oper.wpIn F n P oi a w K Q else (∀ f, oi.about P w a.eval = some f → F.fn f) ∧ K (a.put oi.dst undef) w) :
  wpAnyG F n P ops Q held S (fuel + 1) listed a w := by
 obtain ⟨hr, n1⟩ := hr
 refine ⟨fun h0 => (by rw [h0] at hr; cases hr), fun j hj => ?_⟩
 rw [hr, List.mem_singleton] at hj
 subst hj
 exact wpOpIn_step hi (fun K' hK => h K' (fun a w hS hW => hK a w ⟨reqG_of n1 hS, hW⟩))
theorem wpAnyG_done {listed : Array Bool} {a : Act} {w : World} (hr : Region.ready .any ops listed = []) (h : Q .normal a w) :
  ∀ fuel, wpAnyG F n P ops Q held S fuel listed a w
 | 0 => ⟨hr, h⟩
 | _ + 1 => ⟨fun _ => h, by rw [hr]; simp⟩
theorem shutSG {i fuel : Nat} {listed : Array Bool} {K : Act → World → Prop} (hK : Shut (∀ a w, (needG ops held i = true → S w) → wpAnyG F n P ops Q held S fuel (listed.setIfInBounds i true) a w → K a w)) {a : Act} {w : World} (hS : S w)
  (h : Hid (S w) → wpAnyG F n P ops Q held S fuel (listed.setIfInBounds i true) a w) : K a w := hK.out _ _ (fun _ => hS) (h hS)
theorem shutNG {i fuel : Nat} {listed : Array Bool} {K : Act → World → Prop} (hK : Shut (∀ a w, (needG ops held i = true → S w) → wpAnyG F n P ops Q held S fuel (listed.setIfInBounds i true) a w → K a w)) {a : Act} {w : World} (hn : needG ops held i = false)
  (h : wpAnyG F n P ops Q held S fuel (listed.setIfInBounds i true) a w) : K a w := hK.out _ _ (fun h0 => by rw [hn] at h0; cases h0) h
theorem wpIn_region_G {id : Nat} {a : Act} {w : World} (held : List Nat) (S : World → Prop) (hm : P.follows .mixedOrders = true) (hS : S w.drew)
  (h : S w.drew → wpAnyG F n P ops Q held S ops.size (Array.replicate ops.size false) a w.drew) : (Code.region id ops true).wpIn F n P Q a w :=
 wpIn_region_any hm (wpAnyIn_of_G _ _ _ _ (h hS))
theorem wpIn_world {c : Code} {a : Act} {w : World} (T : World → Prop) (hT : T w) (h : ∀ w', T w' → c.wpIn F n P Q a w') : c.wpIn F n P Q a w := h w hT
theorem wpIn_post {c : Code} {a : Act} {w : World} (R : Act → World → Prop) (h : c.wpIn F n P (NormP R) a w) (h2 : ∀ a w, R a w → Q .normal a w) : c.wpIn F n P Q a w :=
 Go.wpIn_mono h (fun e a w h => by cases e <;> first | exact h2 _ _ h | exact (h : False).elim)
theorem wpIn_cut {x y : Code} {a : Act} {w : World} (R : Act → World → Prop) (h : x.wpIn F n P (Exit.then R Q) a w) (h2 : ∀ a w, R a w → y.wpIn F n P Q a w) : (Code.seq x y).wpIn F n P Q a w :=
 wpIn_seq (Go.wpIn_mono h (fun e a w hq => by cases e <;> first | exact h2 _ _ hq | exact hq))
end
theorem forget {K : Act → World → Prop} {a : Act} {w : World} (T : World → Prop) (hT : T w) (h : ∀ w', T w' → K a w') : K a w := h w hT
theorem acts_of {l : List Value} {n : Nat} {R : (Nat → Value) → Prop} (hl : l.length = n) (h : R (fun i => l.getD i (.bool false))) : ∃ f : Nat → Value, (⟨l.toArray, []⟩ : Act) = ⟨((List.range n).map f).toArray, []⟩ ∧ R f := by
 refine ⟨_, ?_, h⟩
 subst hl
 have e : l = (List.range l.length).map fun i => l.getD i (.bool false) := by
  refine List.ext_getElem (by simp) fun i h1 h2 => ?_
  simp [List.getD, List.getElem?_eq_getElem h1]
 rw [← e]
end Go.Proofs.YthddoikmgpgakaaDoor
namespace Go.Proofs.YthddoikmgpgakaaDoor.Sw
open Go.RowKit Go
theorem zM {p : Prop} (h : p := by ((repeat (first | exact At.here | apply At.there)); (first | done | fail))) : p := h
theorem zN {p : Prop} (h : p := by ((repeat (first | exact Rm.here | apply Rm.there)); (first | done | fail))) : p := h
theorem zR {p : Prop} (h : p := by ((repeat (first | exact trivial | refine ⟨rfl, ?_⟩)); (first | done | fail))) : p := h
theorem zP {p : Prop} (h : p := by ((repeat (first | exact SubP.nil | (apply SubP.cons; exact zN))); (first | done | fail))) : p := h
theorem yC {p : Prop} (h : p := by ((repeat (first | exact Cut.nil | (apply Cut.cons; exact zN))); (first | done | fail))) : p := h
theorem goPk {p : Prop} (h : p := by ((repeat (first | exact Pk.nil | (apply Pk.pv; exact rfl; exact rfl) | (apply Pk.tok; exact rfl; exact rfl) | (apply Pk.tk; exact rfl; exact rfl))); (first | done | fail))) : p := h
theorem goNrm {p : Prop} (h : p := by ((repeat (first | exact Nrm.nil | apply Nrm.cons)); (first | done | fail))) : p := h
theorem goApp {p : Prop} (h : p := by ((repeat (first | exact App.nil | apply App.cons)); (first | done | fail))) : p := h
theorem goFlt {p : Prop} (h : p := by ((repeat (first | exact Flt.nil | (apply Flt.keep; exact rfl) | (apply Flt.drop; exact rfl))); (first | done | fail))) : p := h
theorem goLtr {p : Prop} (h : p := by ((first | (refine ltr ?_; apply lt_move; exact rfl) | (refine ltr ?_; apply lt_assign; exact rfl) | (apply ltr_load1; (first | exact .inl rfl | exact .inr ⟨rfl, rfl⟩); exact zM; exact rfl) | (refine ltr ?_; apply lt_loadE1'; exact rfl; assumption; exact rfl) | (refine ltr ?_; apply lt_loadEN'; exact rfl; assumption; exact rfl) | (apply ltr_loadN; (first | exact .inl rfl | exact .inr ⟨rfl, rfl⟩); exact zM; exact rfl) | (refine ltr ?_; apply lt_fieldAt; exact rfl; exact rfl) | (apply ltr_field; exact rfl; exact zM) | (refine ltr ?_; apply lt_fieldEl; exact rfl; exact rfl) | (refine ltr ?_; apply lt_indexSl; exact rfl; exact rfl; exact rfl; (first | assumption | omega | (simp; omega))) | (refine ltr ?_; apply lt_lenSl; exact rfl) | (apply ltr_indexRow; exact rfl; exact zM; exact rfl; exact rfl; (first | assumption | omega | (simp; omega))) | (apply ltr_loadR1; exact rfl; exact zM; assumption; exact rfl) | (apply ltr_lenRow; exact rfl; exact zM) | (refine ltr ?_; apply lt_lss; exact rfl; exact rfl) | (refine ltr ?_; apply lt_leq; exact rfl; exact rfl) | (refine ltr ?_; apply lt_gtr; exact rfl; exact rfl) | (refine ltr ?_; apply lt_geq; exact rfl; exact rfl) | (refine ltr ?_; apply lt_eql; exact rfl; exact rfl) | (refine ltr ?_; apply lt_neq; exact rfl; exact rfl) | (refine ltr ?_; apply lt_not; exact rfl) | (refine ltr ?_; apply lt_pick_t; exact rfl; exact rfl) | (refine ltr ?_; apply lt_pick_f; exact rfl; exact rfl) | (refine ltr ?_; apply lt_extract; exact rfl; exact rfl) | (refine ltr ?_; apply lt_add; exact rfl; exact rfl; omega; omega) | (refine ltr ?_; apply lt_sub; exact rfl; exact rfl; omega; omega) | (refine ltr ?_; apply lt_mul; exact rfl; exact rfl; omega; omega) | (refine ltr ?_; apply lt_neg; exact rfl; omega; omega) | (refine ltr ?_; apply lt_min2; exact rfl; exact rfl) | (refine ltr ?_; apply lt_max2; exact rfl; exact rfl) | (refine ltr ?_; apply lt_makeFunc; exact rfl; exact rfl) | (refine ltr ?_; apply lt_build; (repeat (first | exact Parts.nil | (apply Parts.cons; exact rfl; exact rfl; exact inferInstance; exact rfl; exact (of_decide_eq_true rfl))))) | (refine ltr ?_; exact lt_allocT) | (apply ltr_nilCheck; exact rfl; exact zM) | (refine ltr ?_; apply lt_nilCheckE; exact rfl) | (refine ltr ?_; apply lt_eqlN; exact rfl; exact rfl; (repeat (first | exact Ints.nil | apply Ints.cons)); (repeat (first | exact Ints.nil | apply Ints.cons)); exact rfl; exact rfl) | (refine ltr ?_; apply lt_neqN; exact rfl; exact rfl; (repeat (first | exact Ints.nil | apply Ints.cons)); (repeat (first | exact Ints.nil | apply Ints.cons)); exact rfl; exact rfl) | (apply ltr_indexArr; exact rfl; exact zM; exact rfl; exact rfl; (first | assumption | omega | decide)) | (apply ltr_loadRN; exact rfl; exact zM; assumption) | (refine ltr ?_; apply lt_fieldRat; exact rfl; exact rfl)); (first | done | fail))) : p := h
structure Cont (q : Prop) : Prop where
 out : q
theorem zS {p q : Prop} (k : q) (h : Cont q → p := by intro k; (repeat (first | refine W_seq ?_ | refine W_block ?_ | refine W_region ?_ | (refine W_skip ?_; (repeat (first | refine th_norm ?_ | refine th_exit ?_ | refine th_ret ?_ | refine bl_norm ?_ | refine bl_eq ?_ | refine bl_ne rfl ?_ | refine bl_ret ?_ | refine rt_norm ?_ | refine rt_ret ?_))) | (refine W_exit ?_; (repeat (first | refine th_norm ?_ | refine th_exit ?_ | refine th_ret ?_ | refine bl_norm ?_ | refine bl_eq ?_ | refine bl_ne rfl ?_ | refine bl_ret ?_ | refine rt_norm ?_ | refine rt_ret ?_))) | (refine W_ret ?_; (repeat (first | refine th_norm ?_ | refine th_exit ?_ | refine th_ret ?_ | refine bl_norm ?_ | refine bl_eq ?_ | refine bl_ne rfl ?_ | refine bl_ret ?_ | refine rt_norm ?_ | refine rt_ret ?_))) | (refine WL_nil ?_; (repeat (first | refine th_norm ?_ | refine th_exit ?_ | refine th_ret ?_ | refine bl_norm ?_ | refine bl_eq ?_ | refine bl_ne rfl ?_ | refine bl_ret ?_ | refine rt_norm ?_ | refine rt_ret ?_))) | (apply w_true; exact rfl) | (apply w_false; exact rfl) | (apply wl_yes; exact rfl; exact rfl; exact rfl) | (apply wl_no; exact rfl; exact rfl; exact rfl; exact rfl; exact rfl) | (apply wl_noU; exact rfl; exact rfl; exact rfl) | (apply wl_move; exact rfl; exact rfl) | (apply wl_assign; exact rfl; exact rfl) | (apply wl_load1; (first | exact .inl rfl | exact .inr ⟨rfl, rfl⟩); exact zM; exact rfl; exact rfl) | (apply wl_loadN; (first | exact .inl rfl | exact .inr ⟨rfl, rfl⟩); exact zM; exact rfl; exact rfl) | (apply wl_loadE1; exact rfl; (case hk => first | assumption | omega | exact Nat.one_pos | (simp; omega)); exact rfl; exact rfl) | (apply wl_loadEN; exact rfl; (case hk => first | assumption | omega | exact Nat.one_pos | (simp; omega)); exact rfl; exact rfl) | (apply wl_loadR1; exact rfl; exact zM; (case hk => first | assumption | omega | exact Nat.one_pos | (simp; omega)); exact rfl; exact rfl) | (apply wl_fieldAt; exact rfl; exact rfl; exact rfl) | (apply wl_field; exact rfl; exact zM; exact rfl) | (apply wl_fieldEl; exact rfl; exact rfl; exact rfl) | (apply wl_indexSl; exact rfl; exact rfl; exact rfl; (first | assumption | omega | (simp; omega)); exact rfl) | (apply wl_indexArr; exact rfl; exact zM; exact rfl; exact rfl; (first | assumption | omega | decide); exact rfl) | (apply wl_indexRow; exact rfl; exact zM; exact rfl; exact rfl; (first | assumption | omega | (simp; omega)); exact rfl) | (apply wl_lenSl; exact rfl; exact rfl) | (apply wl_lenRow; exact rfl; exact zM; exact rfl) | (apply wl_lss; exact rfl; exact rfl; exact rfl) | (apply wl_leq; exact rfl; exact rfl; exact rfl) | (apply wl_gtr; exact rfl; exact rfl; exact rfl) | (apply wl_geq; exact rfl; exact rfl; exact rfl) | (apply wl_eql; exact rfl; exact rfl; exact rfl) | (apply wl_neq; exact rfl; exact rfl; exact rfl) | (apply wl_not; exact rfl; exact rfl) | (apply wl_pick_t; exact rfl; exact rfl; exact rfl) | (apply wl_pick_f; exact rfl; exact rfl; exact rfl) | (apply wl_extract; exact rfl; exact rfl; exact rfl) | (apply wl_store; (first | exact .inl rfl | exact .inr ⟨rfl, rfl⟩); exact zM; exact rfl; exact inferInstance; exact inferInstance; exact inferInstance; exact rfl; (first | exact (of_decide_eq_true rfl) | (simp; omega) | decide)) | (apply wl_add; exact rfl; exact rfl; omega; omega; exact rfl) | (apply wl_sub; exact rfl; exact rfl; omega; omega; exact rfl) | (apply wl_quo; exact rfl; exact rfl; omega; omega; omega; exact rfl) | (apply wl_mul; exact rfl; exact rfl; omega; omega; exact rfl) | (apply wl_neg; exact rfl; omega; omega; exact rfl) | (apply wl_min2; exact rfl; exact rfl; exact rfl) | (apply wl_max2; exact rfl; exact rfl; exact rfl) | (apply wl_makeClo; exact rfl; exact rfl) | (apply wl_makeFunc; exact rfl; exact rfl; exact rfl) | (apply wl_loadG; exact zM; exact rfl; exact rfl) | (apply wl_build; (repeat (first | exact Parts.nil | (apply Parts.cons; exact rfl; exact rfl; exact inferInstance; exact rfl; exact (of_decide_eq_true rfl)))); exact rfl) | (apply wl_storeR1; exact rfl; exact zM; exact rfl; exact inferInstance; (case hk => first | assumption | omega | exact Nat.one_pos | (simp; omega)); exact (of_decide_eq_true rfl); exact rfl) | (apply wl_eqlN; exact rfl; exact rfl; (repeat (first | exact Ints.nil | apply Ints.cons)); (repeat (first | exact Ints.nil | apply Ints.cons)); exact rfl; exact rfl; exact rfl) | (apply wl_neqN; exact rfl; exact rfl; (repeat (first | exact Ints.nil | apply Ints.cons)); (repeat (first | exact Ints.nil | apply Ints.cons)); exact rfl; exact rfl; exact rfl) | (apply wl_nilCheck; exact rfl; exact zM; exact rfl) | (apply wl_nilCheckE; exact rfl; exact rfl) | (apply wl_loadRN; exact rfl; exact zM; (case hk => first | assumption | omega | exact Nat.one_pos | (simp; omega)); exact rfl) | (apply wl_fieldRat; exact rfl; exact rfl; exact rfl) | (apply wl_lenV; exact rfl; exact rfl))); exact k.out; (first | done | fail)) : p := h ⟨k⟩
theorem yA {p q : Prop} (k : q) (h : Cont q → p := by (intro k; first | (apply wl_alloc; exact rfl; exact k.out) | (apply wl_boxv; exact rfl; exact inferInstance; exact rfl; exact k.out); (first | done | fail))) : p := h ⟨k⟩
def Gle (G G' : Nat → Option Obj) : Prop := ∀ b o, G b = some o → G' b = some o
theorem Gle.refl (G : Nat → Option Obj) : Gle G G := fun _ _ h => h
theorem Gle.trans {A B C : Nat → Option Obj} (h : Gle A B) (k : Gle B C) : Gle A C := fun b o e => k b o (h b o e)
def Gin (G : Nat → Option Obj) (w : World) : Prop := ∀ b o, G b = some o → w.heap[b]? = some o
def cellG (G : Nat → Option Obj) (b i : Nat) : Option Value := match G b with | some (.cells c _ _) => c[i]? | _ => none
theorem cellG.le {G G' : Nat → Option Obj} (h : Gle G G') {b i : Nat} {v : Value} (e : cellG G b i = some v) : cellG G' b i = some v := by
 unfold cellG at *
 cases hb : G b with
 | none => rw [hb] at e; cases e
 | some o => rw [h b o hb]; rw [hb] at e; exact e
theorem cellG.cell {G : Nat → Option Obj} {w : World} (h : Gin G w) {b i : Nat} {v : Value} (e : cellG G b i = some v) : w.cell? ⟨b, i, none⟩ = some v := by
 unfold cellG at e
 cases hb : G b with
 | none => rw [hb] at e; cases e
 | some o =>
  rw [hb] at e
  cases o <;> first | (unfold World.cell?; rw [h b _ hb]; exact e) | cases e
structure AV where
 P : (Nat → Option Obj) → Value → Prop
 mono : ∀ {G G' : Nat → Option Obj} {v : Value}, Gle G G' → P G v → P G' v
def Fits (G : Nat → Option Obj) : List AV → List Value → Prop
 | [], [] => True
 | c :: cs, v :: vs => c.P G v ∧ Fits G cs vs
 | _, _ => False
theorem Fits.mono {G G' : Nat → Option Obj} (h : Gle G G') : ∀ {cs : List AV} {vs : List Value}, Fits G cs vs → Fits G' cs vs
 | [], [], _ => trivial
 | c :: _, _ :: _, k => ⟨c.mono h k.1, Fits.mono h k.2⟩
 | [], _ :: _, k => k.elim
 | _ :: _, [], k => k.elim
theorem Fits.length {G : Nat → Option Obj} : ∀ {cs : List AV} {vs : List Value}, Fits G cs vs → vs.length = cs.length
 | [], [], _ => rfl
 | _ :: _, _ :: _, k => congrArg (· + 1) (Fits.length k.2)
 | [], _ :: _, k => k.elim
 | _ :: _, [], k => k.elim
theorem Fits.get {G : Nat → Option Obj} : ∀ {cs : List AV} {vs : List Value}, Fits G cs vs → ∀ {i : Nat} {av : AV}, cs[i]? = some av → ∃ v, vs[i]? = some v ∧ av.P G v
 | c :: _, v :: _, k, 0, av, h => ⟨v, rfl, by simp at h; exact h ▸ k.1⟩
 | _ :: cs, _ :: vs, k, i + 1, av, h => by simpa using Fits.get k.2 (i := i) (av := av) (by simpa using h)
 | [], [], _, _, _, h => by simp at h
 | [], _ :: _, k, _, _, _ => k.elim
 | _ :: _, [], k, _, _, _ => k.elim
theorem Fits.set {G : Nat → Option Obj} : ∀ {cs : List AV} {vs : List Value}, Fits G cs vs → ∀ (i : Nat) {av : AV} {v : Value}, av.P G v → Fits G (cs.set i av) (vs.set i v)
 | _ :: _, _ :: _, k, 0, _, _, h => ⟨h, k.2⟩
 | _ :: _, _ :: _, k, i + 1, _, _, h => ⟨k.1, Fits.set k.2 i h⟩
 | [], [], _, _, _, _, _ => trivial
 | [], _ :: _, k, _, _, _, _ => k.elim
 | _ :: _, [], k, _, _, _, _ => k.elim
theorem Fits.append {G : Nat → Option Obj} : ∀ {cs ds : List AV} {vs us : List Value}, Fits G cs vs → Fits G ds us → Fits G (cs ++ ds) (vs ++ us)
 | [], _, [], _, _, k => k
 | _ :: _, _, _ :: _, _, h, k => ⟨h.1, Fits.append h.2 k⟩
 | [], _, _ :: _, _, h, _ => h.elim
 | _ :: _, _, [], _, h, _ => h.elim
theorem Fits.take {G : Nat → Option Obj} : ∀ {cs : List AV} {vs : List Value}, Fits G cs vs → ∀ n, Fits G (cs.take n) (vs.take n)
 | [], [], _, n => by simp [Fits]
 | _ :: _, _ :: _, _, 0 => trivial
 | _ :: _, _ :: _, k, n + 1 => ⟨k.1, Fits.take k.2 n⟩
 | [], _ :: _, k, _ => k.elim
 | _ :: _, [], k, _ => k.elim
theorem Fits.drop {G : Nat → Option Obj} : ∀ {cs : List AV} {vs : List Value}, Fits G cs vs → ∀ n, Fits G (cs.drop n) (vs.drop n)
 | [], [], _, n => by simp [Fits]
 | _ :: _, _ :: _, k, 0 => k
 | _ :: _, _ :: _, k, n + 1 => by simpa using Fits.drop k.2 n
 | [], _ :: _, k, _ => k.elim
 | _ :: _, [], k, _ => k.elim
def AV.val (u : Value) : AV := ⟨fun _ v => v = u, fun _ h => h⟩
def AV.agg (cs : List AV) : AV := ⟨fun G v => ∃ vs : List Value, v = .agg vs.toArray ∧ Fits G cs vs, fun h ⟨vs, e, k⟩ => ⟨vs, e, k.mono h⟩⟩
def AV.tup (cs : List AV) : AV := ⟨fun G v => ∃ vs : List Value, v = .tuple vs.toArray ∧ Fits G cs vs, fun h ⟨vs, e, k⟩ => ⟨vs, e, k.mono h⟩⟩
def SlP {α : Type} (G : Nat → Option Obj) (n : Nat) (f : α → List AV) (a : Option Addr) (xs : List α) : Prop :=
 ∀ i (h : i < xs.length), ∃ b o, a = some ⟨b, o, none⟩ ∧ ∀ j av, (f xs[i])[j]? = some av → ∃ u, cellG G b (o + i * n + j) = some u ∧ av.P G u
theorem SlP.mono {α : Type} {G G' : Nat → Option Obj} (h : Gle G G') {n : Nat} {f : α → List AV} {a : Option Addr} {xs : List α} (k : SlP G n f a xs) : SlP G' n f a xs := fun i hi =>
 let ⟨b, o, e1, e2⟩ := k i hi; ⟨b, o, e1, fun j av e => let ⟨u, e3, e4⟩ := e2 j av e; ⟨u, cellG.le h e3, av.mono h e4⟩⟩
def AV.sl {α : Type} (n : Nat) (f : α → List AV) (xs : List α) : AV := ⟨fun G v => ∃ a c, v = .slice a xs.length c ∧ xs.length ≤ c ∧ SlP G n f a xs, fun h ⟨a, c, e, hc, k⟩ => ⟨a, c, e, hc, k.mono h⟩⟩
def AV.el {α : Type} (n : Nat) (f : α → List AV) (xs : List α) (k j : Nat) : AV := ⟨fun G v => ∃ b o, v = .pointer (some ⟨b, o + k * n + j, none⟩) ∧ SlP G n f (some ⟨b, o, none⟩) xs, fun h ⟨b, o, e, k⟩ => ⟨b, o, e, k.mono h⟩⟩
def iC (x : Int) : List AV := [.val (.int .i64 x)]
def AV.at (p : Value) (j : Nat) : AV := ⟨fun _ v => ∃ b, p = .pointer (some ⟨b, 0, none⟩) ∧ v = .pointer (some ⟨b, j, none⟩), fun _ h => h⟩
def AV.rat (v : Value) (n k j : Nat) : AV := ⟨fun _ u => ∃ b len cap, v = .slice (some ⟨b, 0, none⟩) len cap ∧ u = .pointer (some ⟨b, k * n + j, none⟩), fun _ h => h⟩
structure HA where
 P : (Nat → Option Obj) → List Nat → World → Prop
 mono : ∀ {G G' : Nat → Option Obj} {F : List Nat} {w : World}, Gle G G' → P G F w → P G' F w
 loc : ∀ {G : Nat → Option Obj} {F : List Nat} {w w' : World}, (∀ b ∈ F, w'.heap[b]? = w.heap[b]?) → P G F w → P G F w'
def HA.box (p : Value) (cs : List AV) (t : TypeId) : HA :=
 ⟨fun G F w => ∃ b vs, p = .pointer (some ⟨b, 0, none⟩) ∧ F = [b] ∧ Fits G cs vs ∧ w.heap[b]? = some (.cells vs.toArray t (0, 0)),
  fun h ⟨b, vs, e1, e2, e3, e4⟩ => ⟨b, vs, e1, e2, e3.mono h, e4⟩,
  fun h ⟨b, vs, e1, e2, e3, e4⟩ => ⟨b, vs, e1, e2, e3, (h b (by rw [e2]; simp)).trans e4⟩⟩
def HA.row {α : Type} (v : Value) (e : TypeId) (n : Nat) (f : α → List AV) (xs : List α) : HA :=
 ⟨fun G F w => ∃ vs : List Value, F = v.ownBlock.toList ∧ (∀ x ∈ xs, (f x).length = n) ∧ Fits G (xs.flatMap f) vs ∧ (∀ u ∈ vs, u.oneCell' = true) ∧ w.ownsRow 0 e n v xs.length vs,
  fun h ⟨vs, e1, e2, e3, e4⟩ => ⟨vs, e1, e2, e3.mono h, e4⟩,
  fun {_ _ w w'} h ⟨vs, e1, e2, e3, e5, e4⟩ => ⟨vs, e1, e2, e3, e5, e4.1, e4.2.imp id fun ⟨g, cap, cur, hv, hb, hg, r⟩ => ⟨g, cap, cur, hv, hb, (h g (by rw [e1, hv]; simp [Value.ownBlock])).trans hg, r⟩⟩⟩
def hsP : List HA → (Nat → Option Obj) → List Nat → World → Prop
 | [], _, F, _ => F = []
 | h :: t, G, F, w => ∃ F1 F2, F.Perm (F1 ++ F2) ∧ h.P G F1 w ∧ hsP t G F2 w
theorem hsP.mono {G G' : Nat → Option Obj} {w : World} (h : Gle G G') : ∀ {hs : List HA} {F : List Nat}, hsP hs G F w → hsP hs G' F w
 | [], _, k => k
 | x :: _, _, ⟨F1, F2, e, k1, k2⟩ => ⟨F1, F2, e, x.mono h k1, hsP.mono h k2⟩
theorem hsP.loc {G : Nat → Option Obj} {w w' : World} : ∀ {hs : List HA} {F : List Nat}, (∀ b ∈ F, w'.heap[b]? = w.heap[b]?) → hsP hs G F w → hsP hs G F w'
 | [], _, _, k => k
 | x :: _, _, h, ⟨F1, F2, e, k1, k2⟩ => ⟨F1, F2, e, x.loc (fun b hb => h b (e.mem_iff.2 (by simp [hb]))) k1, hsP.loc (fun b hb => h b (e.mem_iff.2 (by simp [hb]))) k2⟩
theorem hsP.perm {G : Nat → Option Obj} {w : World} : ∀ {hs : List HA} {F F' : List Nat}, F'.Perm F → hsP hs G F w → hsP hs G F' w
 | [], _, F', p, k => by have k' : _ = [] := k; subst k'; exact (show F' = [] from p.eq_nil)
 | _ :: _, _, _, p, ⟨F1, F2, e, k1, k2⟩ => ⟨F1, F2, p.trans e, k1, k2⟩
theorem hsP.append {G : Nat → Option Obj} {w : World} : ∀ {hs ks : List HA} {F1 F2 : List Nat}, hsP hs G F1 w → hsP ks G F2 w → hsP (hs ++ ks) G (F1 ++ F2) w
 | [], _, F1, _, h, k => by have h' : F1 = [] := h; subst h'; exact k
 | _ :: _, _, _, F2, ⟨A, B, e, h1, h2⟩, k => ⟨A, B ++ F2, (e.append_right F2).trans (by rw [List.append_assoc]), h1, hsP.append h2 k⟩
theorem hsP.split {G : Nat → Option Obj} {w : World} : ∀ {hs ks : List HA} {F : List Nat}, hsP (hs ++ ks) G F w → ∃ F1 F2, F.Perm (F1 ++ F2) ∧ hsP hs G F1 w ∧ hsP ks G F2 w
 | [], _, F, h => ⟨[], F, .refl _, rfl, h⟩
 | _ :: _, _, F, ⟨A, B, e, h1, h2⟩ => by
  obtain ⟨B1, B2, e2, k1, k2⟩ := hsP.split h2
  exact ⟨A ++ B1, B2, e.trans ((e2.append_left A).trans (by rw [List.append_assoc])), ⟨A, B1, .refl _, h1, k1⟩, k2⟩
structure Inv (G : Nat → Option Obj) (F : List Nat) (hs : List HA) (w : World) : Prop where
 gin : Gin G w
 nd : F.Nodup
 own : ∀ b ∈ F, b < w.heap.size ∧ G b = none
 hs : hsP hs G F w
structure Fr (w w' : World) (F F' : List Nat) (G G' : Nat → Option Obj) : Prop where
 os : w'.os = w.os
 tape : w'.tape = w.tape
 output : w'.output = w.output
 size : w.heap.size ≤ w'.heap.size
 same : ∀ b, b < w.heap.size → b ∉ F → w'.heap[b]? = w.heap[b]?
 newF : ∀ b ∈ F', b ∈ F ∨ w.heap.size ≤ b
 gle : Gle G G'
 newG : ∀ b o, G' b = some o → G b = some o ∨ b ∈ F ∨ w.heap.size ≤ b
theorem Fr.refl (w : World) (F : List Nat) (G : Nat → Option Obj) : Fr w w F F G G := ⟨rfl, rfl, rfl, Nat.le_refl _, fun _ _ _ => rfl, fun _ h => .inl h, Gle.refl _, fun _ _ h => .inl h⟩
theorem Fr.trans {w w' w'' : World} {F F' F'' : List Nat} {G G' G'' : Nat → Option Obj} (h : Fr w w' F F' G G') (k : Fr w' w'' F' F'' G' G'') : Fr w w'' F F'' G G'' where
 os := k.os.trans h.os
 tape := k.tape.trans h.tape
 output := k.output.trans h.output
 size := Nat.le_trans h.size k.size
 same b hb hn := (k.same b (Nat.lt_of_lt_of_le hb h.size) fun hm => by rcases h.newF b hm with h1 | h1; exact hn h1; omega).trans (h.same b hb hn)
 newF b hb := by
  rcases k.newF b hb with h1 | h1
  ·exact h.newF b h1
  ·exact .inr (Nat.le_trans h.size h1)
 gle := h.gle.trans k.gle
 newG b o hb := by
  rcases k.newG b o hb with h1 | h1 | h1
  ·exact h.newG b o h1
  ·exact .inr (h.newF b h1)
  ·exact .inr (.inr (Nat.le_trans h.size h1))
theorem Gin.lt {G : Nat → Option Obj} {w : World} (h : Gin G w) {b : Nat} {o : Obj} (e : G b = some o) : b < w.heap.size := (Array.getElem?_eq_some_iff.1 (h b o e)).1
theorem Inv.frame {G : Nat → Option Obj} {F : List Nat} {cons rest : List HA} {w : World} (h : Inv G F (cons ++ rest) w) :
  ∃ F1, Inv G F1 cons w ∧ ∀ {G' : Nat → Option Obj} {F1' : List Nat} {prod : List HA} {w' : World}, Fr w w' F1 F1' G G' → Inv G' F1' prod w' → ∃ F', Inv G' F' (prod ++ rest) w' ∧ Fr w w' F F' G G' := by
 obtain ⟨F1, F2, e, h1, h2⟩ := hsP.split h.hs
 have nd := (e.nodup_iff).1 h.nd
 have hd : ∀ b ∈ F1, b ∉ F2 := fun b hb hb2 => (List.nodup_append.1 nd).2.2 b hb b hb2 rfl
 refine ⟨F1, ⟨h.gin, (List.nodup_append.1 nd).1, fun b hb => h.own b (e.mem_iff.2 (by simp [hb])), h1⟩, fun {G' F1' prod w'} fr k => ?_⟩
 have hs2 : ∀ b ∈ F2, w'.heap[b]? = w.heap[b]? := fun b hb => fr.same b (h.own b (e.mem_iff.2 (by simp [hb]))).1 (fun hb1 => hd b hb1 hb)
 have hn : ∀ b ∈ F2, b ∉ F1' := fun b hb hb1 => by
  rcases fr.newF b hb1 with h1 | h1
  ·exact hd b h1 hb
  ·have := (h.own b (e.mem_iff.2 (by simp [hb]))).1; omega
 refine ⟨F1' ++ F2, ⟨k.gin, List.nodup_append.2 ⟨k.nd, (List.nodup_append.1 nd).2.1, fun a ha b hb e => by subst e; exact hn a hb ha⟩, fun b hb => ?_, hsP.append k.hs ((h2.loc hs2).mono fr.gle)⟩,
  ⟨fr.os, fr.tape, fr.output, fr.size, fun b hb hF => fr.same b hb (fun h1 => hF (e.mem_iff.2 (by simp [h1]))), fun b hb => ?_, fr.gle, fun b o hb => ?_⟩⟩
 ·rcases List.mem_append.1 hb with h1 | h1
  ·exact k.own b h1
  ·have ho := h.own b (e.mem_iff.2 (by simp [h1]))
   refine ⟨Nat.lt_of_lt_of_le ho.1 fr.size, ?_⟩
   cases hg : G' b with
   | none => rfl
   | some o =>
    rcases fr.newG b o hg with h3 | h3 | h3
    ·rw [ho.2] at h3; cases h3
    ·exact absurd h1 (hd b h3)
    ·omega
 ·rcases List.mem_append.1 hb with h1 | h1
  ·rcases fr.newF b h1 with h3 | h3
   ·exact .inl (e.mem_iff.2 (by simp [h3]))
   ·exact .inr h3
  ·exact .inl (e.mem_iff.2 (by simp [h1]))
 ·rcases fr.newG b o hb with h3 | h3 | h3
  ·exact .inl h3
  ·exact .inr (.inl (e.mem_iff.2 (by simp [h3])))
  ·exact .inr (.inr h3)
structure S where
 rs : List (Nat × AV)
 hs : List HA
def look : List (Nat × AV) → Nat → Option AV
 | [], _ => none
 | (j, av) :: t, i => bif Nat.beq j i then some av else look t i
def RegOK (rs : List (Nat × AV)) (G : Nat → Option Obj) (a : Act) : Prop := ∀ i av, look rs i = some av → av.P G (a.tmps.getD i undef)
theorem RegOK.mono {rs : List (Nat × AV)} {G G' : Nat → Option Obj} {a : Act} (h : RegOK rs G a) (k : Gle G G') : RegOK rs G' a := fun i av e => av.mono k (h i av e)
def Wd (F : Fence) : Prop := F = Fence.wide ∨ ∃ l, F = Fence.wide.inRound l
theorem Wd.fn {F : Fence} (h : Wd F) (f : FuncId) : F.fn f := by rcases h with rfl | ⟨l, rfl⟩ <;> exact trivial
theorem Wd.depth {F : Fence} (h : Wd F) : F.depth = none := by rcases h with rfl | ⟨l, rfl⟩ <;> rfl
theorem Wd.calls {F : Fence} (h : Wd F) {n : Nat} {P : Program} {f : FuncId} {args : Array Value} {w : World} {R : Ending → World → Prop} (k : Calls P f args w R) : CallsIn F n P f args w R := by
 rcases h with rfl | ⟨l, rfl⟩
 ·exact callsIn_wide.2 k
 ·exact CallsIn.inRound l (callsIn_wide.2 k)
structure Cx where
 F : Fence
 n : Nat
 P : Program
 w0 : World
 F0 : List Nat
 G0 : Nat → Option Obj
 nt : Nat
 wd : Wd F
def mark (D : Nat) : Deferred := { target := .collected D, args := #[] }
def Mk (c : Cx) (G : Nat → Option Obj) (F : List Nat) (w : World) (ds : List Deferred) : Prop := ∃ Ds : List Nat, ds = Ds.map mark ∧ Ds.Nodup ∧ (∀ D ∈ Ds, c.w0.heap.size ≤ D ∧ D ∉ F ∧ G D = none ∧ w.heap[D]? = some (.deferred (some []))) ∧ (c.F.round ≠ none → Ds = [])
theorem Mk.nil (c : Cx) (G : Nat → Option Obj) (F : List Nat) (w : World) : Mk c G F w [] := ⟨[], rfl, List.nodup_nil, fun _ h => (by cases h), fun _ => rfl⟩
theorem Mk.step {c : Cx} {G G' : Nat → Option Obj} {F F' : List Nat} {w w' : World} {ds : List Deferred} (h : Mk c G F w ds) (k : Fr w w' F F' G G') : Mk c G' F' w' ds := by
 obtain ⟨Ds, e, n, a, z⟩ := h
 refine ⟨Ds, e, n, fun D hD => ?_, z⟩
 obtain ⟨h1, h2, h3, h4⟩ := a D hD
 have hlt := (Array.getElem?_eq_some_iff.1 h4).1
 refine ⟨h1, fun hF => ?_, ?_, (k.same D hlt h2).trans h4⟩
 ·rcases k.newF D hF with h | h
  ·exact h2 h
  ·omega
 ·cases hg : G' D with
  | none => rfl
  | some o =>
   rcases k.newG D o hg with h | h | h
   ·rw [h3] at h; cases h
   ·exact absurd h h2
   ·omega
theorem Mk.sub {c : Cx} {G : Nat → Option Obj} {F F' : List Nat} {w : World} {ds : List Deferred} (h : Mk c G F w ds) (k : ∀ b ∈ F', b ∈ F) : Mk c G F' w ds := by
 obtain ⟨Ds, e, n, a, z⟩ := h
 exact ⟨Ds, e, n, fun D hD => ⟨(a D hD).1, fun hF => (a D hD).2.1 (k D hF), (a D hD).2.2⟩, z⟩
def St (c : Cx) (s : S) (a : Act) (w : World) : Prop := ∃ G F, Inv G F s.hs w ∧ Fr c.w0 w c.F0 F c.G0 G ∧ RegOK s.rs G a ∧ a.tmps.size = c.nt ∧ Mk c G F w a.defers
def Post (c : Cx) (Q : Exit → S → Prop) : Exit → Act → World → Prop := fun e a w => ∃ s, St c s a w ∧ Q e s
structure W (c : Cx) (k : Code) (s : S) (Q : Exit → S → Prop) : Prop where
 out : ∀ a w, St c s a w → k.wpIn c.F c.n c.P (Post c Q) a w
structure WL (c : Cx) (ops : Array Oper) (l : List Oper) (s : S) (Q : Exit → S → Prop) : Prop where
 out : ∀ a w, St c s a w → wpListIn c.F c.n c.P ops (Post c Q) l a w
def thenQ (N : S → Prop) (Q : Exit → S → Prop) : Exit → S → Prop
 | .normal, s => N s
 | e, s => Q e s
def blockQ (id : Nat) (Q : Exit → S → Prop) : Exit → S → Prop
 | .exit id', s => if id' = id then Q .normal s else Q (.exit id') s
 | e, s => Q e s
def retQ (R : S → Prop) : Exit → S → Prop
 | .normal, s => R s
 | .ret, s => R s
 | _, _ => False
section
variable {c : Cx} {s : S} {Q : Exit → S → Prop}
theorem W_skip (h : Q .normal s) : W c .skip s Q := ⟨fun _ _ st => wpIn_skip ⟨s, st, h⟩⟩
theorem W_ret (h : Q .ret s) : W c .ret s Q := ⟨fun _ _ st => wpIn_ret ⟨s, st, h⟩⟩
theorem W_exit {id : Nat} (h : Q (.exit id) s) : W c (.exit id) s Q := ⟨fun _ _ st => wpIn_exit ⟨s, st, h⟩⟩
theorem W_seq {x y : Code} (h : W c x s (thenQ (fun s' => W c y s' Q) Q)) : W c (.seq x y) s Q := ⟨fun a w st =>
 wpIn_seq (Go.wpIn_mono (h.out a w st) fun e a' w' ⟨s', st', q⟩ => by
  cases e with
  | normal => exact q.out a' w' st'
  | _ => exact ⟨s', st', q⟩)⟩
theorem W_block {id : Nat} {x : Code} (h : W c x s (blockQ id Q)) : W c (.block id x) s Q := ⟨fun a w st =>
 wpIn_block (Go.wpIn_mono (h.out a w st) fun e a' w' ⟨s', st', q⟩ => by
  cases e with
  | exit id' =>
   simp only [Exit.inBlock, blockQ] at q ⊢
   split
   ·rename_i hid; rw [if_pos hid] at q; exact ⟨s', st', q⟩
   ·rename_i hid; rw [if_neg hid] at q; exact ⟨s', st', q⟩
  | _ => exact ⟨s', st', q⟩)⟩
theorem W_mono {x : Code} {Q' : Exit → S → Prop} (h : W c x s Q') (hq : ∀ e s, Q' e s → Q e s) : W c x s Q := ⟨fun a w st =>
 Go.wpIn_mono (h.out a w st) fun _ _ _ ⟨s', st', q⟩ => ⟨s', st', hq _ _ q⟩⟩
theorem exists_min {p : Nat → Prop} : ∀ m, p m → ∃ m, p m ∧ ∀ k, p k → m ≤ k := fun m => by
 induction m using Nat.strongRecOn with
 | _ m ih =>
  intro h
  by_cases hk : ∃ k, k < m ∧ p k
  ·obtain ⟨k, h1, h2⟩ := hk; exact ih k h1 h2
  ·exact ⟨m, h, fun k hp => Nat.le_of_not_lt fun hlt => hk ⟨k, hlt, hp⟩⟩
theorem W_loop {β : Type} {x : Code} (I : β → S) (μ : β → Nat) (b0 : β) (h0 : ∀ a w, St c s a w → St c (I b0) a w)
  (h : ∀ b, W c x (I b) (thenQ (fun s' => ∃ b', (∀ a w, St c s' a w → St c (I b') a w) ∧ μ b' < μ b) Q)) : W c (.loop x) s Q := ⟨fun a w st => by
 let p : Act → World → Nat → Prop := fun a w m => ∃ b, μ b = m ∧ St c (I b) a w
 let ν : Act → World → Nat := fun a w => @Classical.epsilon Nat ⟨0⟩ (fun m => p a w m ∧ ∀ k, p a w k → m ≤ k)
 have hν : ∀ {a w m}, p a w m → p a w (ν a w) ∧ ∀ k, p a w k → ν a w ≤ k := fun {a w m} hp =>
  Classical.epsilon_spec_aux ⟨0⟩ _ (exists_min m hp)
 refine wpIn_loop (fun a w => ∃ m, p a w m) ν ⟨_, b0, rfl, h0 a w st⟩ fun a w ⟨m, hm⟩ => ?_
 obtain ⟨⟨b, hb, hs⟩, _⟩ := hν hm
 refine Go.wpIn_mono ((h b).out a w hs) fun e a' w' ⟨s', st', q⟩ => ?_
 cases e with
 | normal =>
  obtain ⟨b', hi, hlt⟩ := q
  have hp : p a' w' (μ b') := ⟨b', rfl, hi a' w' st'⟩
  exact ⟨⟨_, hp⟩, Nat.lt_of_le_of_lt ((hν hp).2 _ hp) (hb ▸ hlt)⟩
 | _ => exact ⟨s', st', q⟩⟩
theorem W_region {id : Nat} {l : List Oper} (h : WL c l.toArray l s Q) : W c (.region id l.toArray false) s Q := ⟨fun a w st => wpIn_region_lit (h.out a w st)⟩
theorem WL_nil {ops : Array Oper} (h : Q .normal s) : WL c ops [] s Q := ⟨fun _ _ st => wpListIn_nil ⟨s, st, h⟩⟩
theorem W_weak {x : Code} (s' : S) (h0 : ∀ a w, St c s a w → St c s' a w) (h : W c x s' Q) : W c x s Q := ⟨fun a w st => h.out a w (h0 a w st)⟩
theorem W_cond {x y : Code} {t : Operand} {i : Nat} {b : Bool} (ht : t = .tmp i) (hl : look s.rs i = some (.val (.bool b))) (h1 : b = true → W c x s Q) (h2 : b = false → W c y s Q) : W c (.cond t x y) s Q := ⟨fun a w st => by
 obtain ⟨G, F, hI, hF, hR, hn, hd⟩ := st
 have e : a.eval t = .bool b := by subst ht; exact hR _ _ hl
 cases b with
 | true => exact wpIn_cond e ((h1 rfl).out a w ⟨G, F, hI, hF, hR, hn, hd⟩)
 | false => exact wpIn_cond e ((h2 rfl).out a w ⟨G, F, hI, hF, hR, hn, hd⟩)⟩
end
def AV.clo (k : FuncId) (caps : List AV) : AV := ⟨fun G v => ∃ vs : List Value, v = .func (.func k) #[] vs.toArray ∧ Fits G caps vs, fun h ⟨vs, e, hf⟩ => ⟨vs, e, hf.mono h⟩⟩
def opv (rs : List (Nat × AV)) : Operand → Option AV
 | .tmp i => look rs i
 | .const v => some (.val v)
 | .func f => some (.clo f [])
 | .global g => some (.val (.pointer (some ⟨g, 0, none⟩)))
theorem opv_ok {rs : List (Nat × AV)} {G : Nat → Option Obj} {a : Act} (h : RegOK rs G a) {x : Operand} {av : AV} (e : opv rs x = some av) : av.P G (a.eval x) := by
 cases x <;> simp only [opv, Option.some.injEq] at e
 ·exact h _ _ e
 ·subst e; rfl
 ·subst e; rfl
 ·subst e; exact ⟨[], rfl, trivial⟩
def opvs (rs : List (Nat × AV)) : List Operand → Option (List AV)
 | [] => some []
 | x :: xs => match opv rs x, opvs rs xs with | some av, some avs => some (av :: avs) | _, _ => none
theorem opvs_ok {rs : List (Nat × AV)} {G : Nat → Option Obj} {a : Act} (h : RegOK rs G a) : ∀ {xs : List Operand} {avs : List AV}, opvs rs xs = some avs → Fits G avs (xs.map a.eval)
 | [], avs, e => by simp only [opvs, Option.some.injEq] at e; subst e; trivial
 | x :: xs, avs, e => by
  unfold opvs at e
  split at e
  ·rename_i av avs' h1 h2
   obtain rfl := Option.some.inj e
   exact ⟨opv_ok h h1, opvs_ok h h2⟩
  ·cases e
def putR : Option Nat → AV → List (Nat × AV) → List (Nat × AV)
 | none, _, rs => rs
 | some d, av, rs => (d, av) :: rs
def okD : Option Nat → Nat → Bool
 | none, _ => true
 | some d, n => Nat.blt d n
theorem RegOK.put {rs : List (Nat × AV)} {G : Nat → Option Obj} {a : Act} (h : RegOK rs G a) {d : Option Nat} {n : Nat} (hn : a.tmps.size = n) (hd : okD d n = true) {av : AV} {v : Value} (hv : av.P G v) : RegOK (putR d av rs) G (a.put d v) := by
 cases d with
 | none => exact h
 | some d =>
  intro i av' e
  have hlt : d < a.tmps.size := by rw [hn]; simp only [okD, Nat.blt, Nat.ble_eq] at hd; omega
  simp only [putR, look] at e
  cases hb : Nat.beq d i with
  | true =>
   rw [hb] at e
   obtain rfl := Nat.eq_of_beq_eq_true hb
   simp only [cond_true, Option.some.injEq] at e
   subst e
   simpa [Act.put, Array.getD, hlt] using hv
  | false =>
   rw [hb] at e
   have hne : d ≠ i := fun e => by subst e; rw [Nat.beq_refl] at hb; cases hb
   have := h i av' (by simpa using e)
   have hg : (a.put (some d) v).tmps.getD i undef = a.tmps.getD i undef := by
    simp only [Act.put, Array.getD_eq_getD_getElem?, Array.getElem?_setIfInBounds, if_neg hne]
   rw [hg]; exact this
theorem size_put (a : Act) (d : Option Nat) (v : Value) : (a.put d v).tmps.size = a.tmps.size ∧ (a.put d v).defers = a.defers := by
 cases d <;> simp [Act.put]
structure LT (P : Program) (o : Oper) (rs : List (Nat × AV)) (cons : List HA) (post : AV → List HA → Prop) : Prop where
 go : ∀ (F : Fence) (n : Nat), Wd F → ∀ (a : Act) (w : World) (G : Nat → Option Obj) (Fp : List Nat) (K : Act → World → Prop) (Q : Exit → Act → World → Prop), RegOK rs G a → Inv G Fp cons w →
  (∀ v av prod G' F' w', post av prod → Fr w w' Fp F' G G' → Inv G' F' prod w' → av.P G' v → K (a.put o.dst v) w') → o.wpIn F n P a w K Q
def Is (av : AV) (prod : List HA) : AV → List HA → Prop := fun x y => x = av ∧ y = prod
section
variable {c : Cx} {s : S} {Q : Exit → S → Prop} {ops : Array Oper} {tl : List Oper}
theorem WL_lt {o : Oper} {cons rest : List HA} {post : AV → List HA → Prop} (hd : okD o.dst c.nt = true) (hg : o.guard = none) (hsel : ∀ G F w, hsP s.hs G F w → hsP (cons ++ rest) G F w)
  (h : LT c.P o s.rs cons post) (k : ∀ av prod, post av prod → WL c ops tl ⟨putR o.dst av s.rs, prod ++ rest⟩ Q) : WL c ops (o :: tl) s Q := ⟨fun a w st => by
 obtain ⟨G, F, hI, hF, hR, hn, hd'⟩ := st
 refine wpListIn_plain hg fun K hK => ?_
 obtain ⟨F1, h1, h2⟩ := Inv.frame (cons := cons) (rest := rest) ⟨hI.gin, hI.nd, hI.own, hsel _ _ _ hI.hs⟩
 refine h.go c.F c.n c.wd a w G F1 K _ hR h1 fun v av prod G' F' w' hp hf hi hv => ?_
 obtain ⟨F'', h3, h4⟩ := h2 hf hi
 refine hK _ _ ((k av prod hp).out _ _ ⟨G', F'', h3, hF.trans h4, (hR.mono h4.gle).put hn hd hv, ?_, ?_⟩)
 ·rw [(size_put a _ v).1, hn]
 ·rw [(size_put a _ v).2]; exact hd'.step h4⟩
theorem WL_ex {o : Oper} {av : AV} (hd : okD o.dst c.nt = true) (hg : o.guard = none) (h : LT c.P o s.rs [] (Is av [])) (k : WL c ops tl ⟨putR o.dst av s.rs, s.hs⟩ Q) : WL c ops (o :: tl) s Q :=
 WL_lt (cons := []) (rest := s.hs) hd hg (fun _ _ _ h => h) h fun av' prod ⟨e1, e2⟩ => by subst e1; subst e2; exact k
theorem WL_new {o : Oper} {post : AV → List HA → Prop} (hd : okD o.dst c.nt = true) (hg : o.guard = none) (h : LT c.P o s.rs [] post) (k : ∀ av prod, post av prod → WL c ops tl ⟨putR o.dst av s.rs, prod ++ s.hs⟩ Q) : WL c ops (o :: tl) s Q :=
 WL_lt (cons := []) (rest := s.hs) hd hg (fun _ _ _ h => h) h k
end
inductive At : List HA → HA → (HA → List HA) → Prop
 | here {h : HA} {t : List HA} : At (h :: t) h (fun x => x :: t)
 | there {h y : HA} {t : List HA} {f : HA → List HA} (k : At t h f) : At (y :: t) h (fun x => y :: f x)
theorem At.sel {hs : List HA} {h : HA} {f : HA → List HA} (k : At hs h f) : ∃ rest, ∀ x G F w, hsP (f x) G F w ↔ hsP (x :: rest) G F w := by
 induction k with
 | @here h t => exact ⟨t, fun _ _ _ _ => Iff.rfl⟩
 | @there h y t f k ih =>
  obtain ⟨r, hr⟩ := ih
  refine ⟨y :: r, fun x G F w => ⟨fun ⟨F1, F2, e, h1, h2⟩ => ?_, fun ⟨F1, F2, e, h1, ⟨F3, F4, e2, h3, h4⟩⟩ => ?_⟩⟩
  ·obtain ⟨F3, F4, e2, h3, h4⟩ := (hr x G F2 w).1 h2
   exact ⟨F3, F1 ++ F4, e.trans ((e2.append_left F1).trans (by rw [← List.append_assoc, ← List.append_assoc]; exact List.perm_append_comm.append_right F4)), h3, F1, F4, .refl _, h1, h4⟩
  ·exact ⟨F3, F1 ++ F4, e.trans ((e2.append_left F1).trans (by rw [← List.append_assoc, ← List.append_assoc]; exact List.perm_append_comm.append_right F4)), h3, (hr x G _ w).2 ⟨F1, F4, .refl _, h1, h4⟩⟩
inductive Rm : List HA → HA → List HA → Prop
 | here {h : HA} {t : List HA} : Rm (h :: t) h t
 | there {h y : HA} {t r : List HA} (k : Rm t h r) : Rm (y :: t) h (y :: r)
theorem Rm.sel {hs : List HA} {h : HA} {rest : List HA} (k : Rm hs h rest) : ∀ {G F w}, hsP hs G F w → hsP (h :: rest) G F w := by
 induction k with
 | here => exact fun h => h
 | there k ih =>
  rintro G F w ⟨F1, F2, e, h1, h2⟩
  obtain ⟨F3, F4, e2, h3, h4⟩ := ih h2
  exact ⟨F3, F1 ++ F4, e.trans ((e2.append_left F1).trans (by rw [← List.append_assoc, ← List.append_assoc]; exact List.perm_append_comm.append_right F4)), h3, F1, F4, .refl _, h1, h4⟩
theorem At.self {hs : List HA} {h : HA} {f : HA → List HA} (k : At hs h f) : f h = hs := by
 induction k with
 | here => rfl
 | there k ih => exact congrArg _ ih
section
variable {c : Cx} {s : S} {Q : Exit → S → Prop} {ops : Array Oper} {tl : List Oper}
theorem WL_at {o : Oper} {av : AV} {h h' : HA} {f : HA → List HA} (hd : okD o.dst c.nt = true) (hg : o.guard = none) (hat : At s.hs h f) (hl : LT c.P o s.rs [h] (Is av [h'])) (k : WL c ops tl ⟨putR o.dst av s.rs, f h'⟩ Q) : WL c ops (o :: tl) s Q := by
 obtain ⟨rest, hr⟩ := hat.sel
 refine WL_lt (cons := [h]) (rest := rest) hd hg (fun G F w hh => (hr h G F w).1 (by rw [hat.self]; exact hh)) hl fun av' prod ⟨e1, e2⟩ => ?_
 subst e1; subst e2
 refine ⟨fun a w ⟨G, F, hI, r⟩ => ?_⟩
 exact k.out a w ⟨G, F, ⟨hI.gin, hI.nd, hI.own, (hr h' G F w).2 hI.hs⟩, r⟩
end
section
variable {P : Program} {rs : List (Nat × AV)} {d : Option Nat} {ty : TypeId} {pos : String} {af : Array Edge} {g : Option (Nat × Bool)}
theorem LT_val {o : Oper} {av : AV} (hdf : ∀ cl, o.op ≠ .defer cl) (h : ∀ a w G, RegOK rs G a → Gin G w → ∃ v, av.P G v ∧ (execOp a.eval o).run P w = .ok (.value v) w) : LT P o rs [] (Is av []) := by
 refine ⟨?_⟩
 intro F n hF a w G Fp K Q hR hI hk
 obtain ⟨v, hv, hr⟩ := h a w G hR hI.gin
 unfold Oper.wpIn
 refine ⟨fun f _ => hF.fn f, ?_⟩
 rw [Oper.semAt_eq _ _ _ hdf, hr]
 exact hk v av [] G Fp w ⟨rfl, rfl⟩ (Fr.refl _ _ _) hI hv
theorem LT_read {o : Oper} {av : AV} {h : HA} (hdf : ∀ cl, o.op ≠ .defer cl) (hh : ∀ a w G F, RegOK rs G a → Gin G w → h.P G F w → ∃ v, av.P G v ∧ (execOp a.eval o).run P w = .ok (.value v) w) : LT P o rs [h] (Is av [h]) := by
 refine ⟨?_⟩
 intro F n hF a w G Fp K Q hR hI hk
 obtain ⟨F1, F2, e, h1, h2⟩ := hI.hs
 obtain ⟨v, hv, hr⟩ := hh a w G F1 hR hI.gin h1
 unfold Oper.wpIn
 refine ⟨fun f _ => hF.fn f, ?_⟩
 rw [Oper.semAt_eq _ _ _ hdf, hr]
 exact hk v av [h] G Fp w ⟨rfl, rfl⟩ (Fr.refl _ _ _) hI hv
theorem lt_move {x : Operand} {av : AV} (h : opv rs x = some av) : LT P ⟨d, .move x, ty, pos, af, g⟩ rs [] (Is av []) :=
 LT_val (fun _ e => by cases e) fun a w G hR _ => ⟨a.eval x, opv_ok hR h, rfl⟩
theorem lt_assign {x : Operand} {av : AV} (h : opv rs x = some av) : LT P ⟨d, .assign x, ty, pos, af, g⟩ rs [] (Is av []) :=
 LT_val (fun _ e => by cases e) fun a w G hR _ => ⟨a.eval x, opv_ok hR h, rfl⟩
theorem lt_add {x y : Operand} {m n : Int} {t t' : TypeId} (hx : opv rs x = some (.val (.int .i64 m))) (hy : opv rs y = some (.val (.int .i64 n))) (h1 : -9223372036854775808 ≤ m + n) (h2 : m + n ≤ 9223372036854775807) :
  LT P ⟨d, .binOp .add t x y t', ty, pos, af, g⟩ rs [] (Is (.val (.int .i64 (m + n))) []) :=
 LT_val (fun _ e => by cases e) fun a w G hR _ => ⟨_, rfl, by
  have e1 : a.eval x = _ := opv_ok hR hx
  have e2 : a.eval y = _ := opv_ok hR hy
  simp only [execOp, e1, e2]
  simp [go_sem, IntWalk.i64_in (m + n) (by omega)]⟩
theorem lt_sub {x y : Operand} {m n : Int} {t t' : TypeId} (hx : opv rs x = some (.val (.int .i64 m))) (hy : opv rs y = some (.val (.int .i64 n))) (h1 : -9223372036854775808 ≤ m - n) (h2 : m - n ≤ 9223372036854775807) :
  LT P ⟨d, .binOp .sub t x y t', ty, pos, af, g⟩ rs [] (Is (.val (.int .i64 (m - n))) []) :=
 LT_val (fun _ e => by cases e) fun a w G hR _ => ⟨_, rfl, by
  have e1 : a.eval x = _ := opv_ok hR hx
  have e2 : a.eval y = _ := opv_ok hR hy
  simp only [execOp, e1, e2]
  simp [go_sem, IntWalk.i64_in (m - n) (by omega)]⟩
theorem lt_lss {x y : Operand} {m n : Int} {k : IntKind} {t t' : TypeId} (hx : opv rs x = some (.val (.int k m))) (hy : opv rs y = some (.val (.int k n))) :
  LT P ⟨d, .binOp .lss t x y t', ty, pos, af, g⟩ rs [] (Is (.val (.bool (decide (m < n)))) []) :=
 LT_val (fun _ e => by cases e) fun a w G hR _ => ⟨_, rfl, by
  have e1 : a.eval x = _ := opv_ok hR hx
  have e2 : a.eval y = _ := opv_ok hR hy
  simp only [execOp, e1, e2]
  first | (simp [go_sem]; done) | (simp [go_sem]; rfl)⟩
theorem lt_gtr {x y : Operand} {m n : Int} {k : IntKind} {t t' : TypeId} (hx : opv rs x = some (.val (.int k m))) (hy : opv rs y = some (.val (.int k n))) :
  LT P ⟨d, .binOp .gtr t x y t', ty, pos, af, g⟩ rs [] (Is (.val (.bool (decide (n < m)))) []) :=
 LT_val (fun _ e => by cases e) fun a w G hR _ => ⟨_, rfl, by
  have e1 : a.eval x = _ := opv_ok hR hx
  have e2 : a.eval y = _ := opv_ok hR hy
  simp only [execOp, e1, e2]
  first | (simp [go_sem]; done) | (simp [go_sem]; rfl)⟩
theorem lt_eql {x y : Operand} {m n : Int} {k : IntKind} {t t' : TypeId} (hx : opv rs x = some (.val (.int k m))) (hy : opv rs y = some (.val (.int k n))) :
  LT P ⟨d, .binOp .eql t x y t', ty, pos, af, g⟩ rs [] (Is (.val (.bool (decide (m = n)))) []) :=
 LT_val (fun _ e => by cases e) fun a w G hR _ => ⟨_, rfl, by
  have e1 : a.eval x = _ := opv_ok hR hx
  have e2 : a.eval y = _ := opv_ok hR hy
  simp only [execOp, e1, e2]
  first | (simp [go_sem]; done) | (simp [go_sem]; rfl)⟩
theorem lt_neq {x y : Operand} {m n : Int} {k : IntKind} {t t' : TypeId} (hx : opv rs x = some (.val (.int k m))) (hy : opv rs y = some (.val (.int k n))) :
  LT P ⟨d, .binOp .neq t x y t', ty, pos, af, g⟩ rs [] (Is (.val (.bool (!decide (m = n)))) []) :=
 LT_val (fun _ e => by cases e) fun a w G hR _ => ⟨_, rfl, by
  have e1 : a.eval x = _ := opv_ok hR hx
  have e2 : a.eval y = _ := opv_ok hR hy
  simp only [execOp, e1, e2]
  first | (simp [go_sem]; done) | (simp [go_sem]; rfl)⟩
theorem lt_not {x : Operand} {b : Bool} {t : TypeId} (hx : opv rs x = some (.val (.bool b))) : LT P ⟨d, .unOp .not t x, ty, pos, af, g⟩ rs [] (Is (.val (.bool (!b))) []) :=
 LT_val (fun _ e => by cases e) fun a w G hR _ => ⟨_, rfl, by
  have e1 : a.eval x = _ := opv_ok hR hx
  simp only [execOp, e1]
  simp [go_sem]⟩
theorem lt_pick_t {x y z : Operand} {av : AV} (hx : opv rs x = some (.val (.bool true))) (hy : opv rs y = some av) : LT P ⟨d, .pick x y z, ty, pos, af, g⟩ rs [] (Is av []) :=
 LT_val (fun _ e => by cases e) fun a w G hR _ => ⟨a.eval y, opv_ok hR hy, by
  have e1 : a.eval x = _ := opv_ok hR hx
  simp only [execOp, e1]
  simp [go_sem, asBool]⟩
theorem lt_pick_f {x y z : Operand} {av : AV} (hx : opv rs x = some (.val (.bool false))) (hy : opv rs z = some av) : LT P ⟨d, .pick x y z, ty, pos, af, g⟩ rs [] (Is av []) :=
 LT_val (fun _ e => by cases e) fun a w G hR _ => ⟨a.eval z, opv_ok hR hy, by
  have e1 : a.eval x = _ := opv_ok hR hx
  simp only [execOp, e1]
  simp [go_sem, asBool]⟩
theorem lt_extract {x : Operand} {cs : List AV} {i : Nat} {av : AV} (hx : opv rs x = some (.tup cs)) (hi : cs[i]? = some av) : LT P ⟨d, .extract x i, ty, pos, af, g⟩ rs [] (Is av []) :=
 LT_val (fun _ e => by cases e) fun a w G hR _ => by
  obtain ⟨vs, e1, hf⟩ : (AV.tup cs).P G (a.eval x) := opv_ok hR hx
  obtain ⟨v, hv, hp⟩ := hf.get hi
  refine ⟨v, hp, ?_⟩
  simp only [execOp, e1]
  simp [go_sem, Instr.extract, hv]
class Ty1 (P : Program) (t : TypeId) : Prop where
 agg : ∀ w, (isAgg t).run P w = .ok false w
 size : ∀ w, (sizeOf t).run P w = .ok 1 w
class TyN (P : Program) (t : TypeId) (n : outParam Nat) : Prop where
 agg : ∀ w, (isAgg t).run P w = .ok true w
 size : ∀ w, (sizeOf t).run P w = .ok n w
class TyS (P : Program) (t : TypeId) (e : outParam TypeId) (n : outParam Nat) : Prop where
 und : P.underlying t = some (.slice e)
 size : ∀ w, (sizeOf e).run P w = .ok n w
class TyF (P : Program) (t : TypeId) (f : Nat) (off : outParam Nat) : Prop where
 run : ∀ a w, (Instr.fieldAt t (.pointer (some a)) f).run P w = .ok (.pointer (some (a.add off))) w
class TyZ (P : Program) (t : TypeId) (zs : outParam (List Value)) : Prop where
 run : ∀ w, ∃ z, (zeroValue t).run P w = .ok z w ∧ z.cells = zs.toArray
class One (av : AV) : Prop where
 out : ∀ G v, av.P G v → v.oneCell' = true
instance {k : IntKind} {n : Int} : One (.val (.int k n)) := ⟨fun _ _ h => by subst h; rfl⟩
instance {a : Option Addr} {n c : Nat} : One (.val (.slice a n c)) := ⟨fun _ _ h => by subst h; rfl⟩
instance {a : Option Addr} : One (.val (.pointer a)) := ⟨fun _ _ h => by subst h; rfl⟩
instance : One (.val .nilFunc) := ⟨fun _ _ h => by subst h; rfl⟩
instance {α : Type} {n : Nat} {f : α → List AV} {xs : List α} : One (.sl n f xs) := ⟨fun _ _ ⟨_, _, h, _⟩ => by subst h; rfl⟩
theorem add_plain (b o k : Nat) : (⟨b, o, none⟩ : Addr).add k = ⟨b, o + k, none⟩ := by unfold Addr.add; split <;> simp_all
def Pt (rs : List (Nat × AV)) (x : Operand) (p : Value) (j : Nat) : Prop := opv rs x = some (.at p j) ∨ (opv rs x = some (.val p) ∧ j = 0)
theorem Pt.ok {rs : List (Nat × AV)} {x : Operand} {p : Value} {j b : Nat} (h : Pt rs x p j) {G : Nat → Option Obj} {a : Act} (hR : RegOK rs G a) (hp : p = .pointer (some ⟨b, 0, none⟩)) : a.eval x = .pointer (some ⟨b, j, none⟩) := by
 rcases h with h | ⟨h, rfl⟩
 ·obtain ⟨b', e1, e2⟩ : (AV.at p j).P G (a.eval x) := opv_ok hR h
  rw [e1] at hp
  simp only [Value.pointer.injEq, Option.some.injEq, Addr.mk.injEq, and_true] at hp
  subst hp; exact e2
 ·have e : a.eval x = p := opv_ok hR h
  rw [e, hp]
theorem run_loadCells {P : Program} {w : World} {b : Nat} : ∀ (vs : List Value) (j : Nat) (i : Nat) (acc : Array Value), (∀ k u, vs[k]? = some u → w.cell? ⟨b, j + (i + k), none⟩ = some u) → (loadCellsFrom ⟨b, j, none⟩ i vs.length acc).run P w = .ok (acc ++ vs.toArray) w
 | [], _, _, acc, _ => by simp [loadCellsFrom]
 | v :: vs, j, i, acc, h => by
  have h0 := h 0 v rfl
  have ih := run_loadCells (P := P) (w := w) (b := b) vs j (i + 1) (acc.push v) fun k u e => by
   have := h (k + 1) u (by simpa using e)
   rw [show j + (i + 1 + k) = j + (i + (k + 1)) by omega]; exact this
  simp only [Nat.add_zero] at h0
  simp only [List.length_cons, loadCellsFrom, add_plain, Sem.run_bind]
  rw [show (load ⟨b, j + i, none⟩).run P w = .ok v w by simp [load, Sem.run, h0]]
  simp only [Result.andThen_ok, ih]
  simp
theorem run_load1 {P : Program} {t : TypeId} [h : Ty1 P t] {w : World} {ad : Addr} {v : Value} (hc : w.cell? ad = some v) : (Instr.loadAt t (.pointer (some ad))).run P w = .ok v w := by
 simp only [Instr.loadAt, Instr.sureAddr, loadVar, Sem.run_bind, Sem.run_pure, Result.andThen_ok, h.agg w]
 simp [load, Sem.run, hc]
theorem run_loadN {P : Program} {t : TypeId} {n : Nat} [h : TyN P t n] {w : World} {b j : Nat} {vs : List Value} (hn : vs.length = n) (hc : ∀ k u, vs[k]? = some u → w.cell? ⟨b, j + k, none⟩ = some u) : (Instr.loadAt t (.pointer (some ⟨b, j, none⟩))).run P w = .ok (.agg vs.toArray) w := by
 have := run_loadCells (P := P) (w := w) (b := b) vs j 0 #[] (fun k u e => by rw [Nat.zero_add]; exact hc k u e)
 simp only [Instr.loadAt, Instr.sureAddr, loadVar, Sem.run_bind, Sem.run_pure, Result.andThen_ok, h.agg w, h.size w, if_true, loadCells]
 rw [← hn, this]
 simp
theorem lt_load1 {x : Operand} {t tb : TypeId} [Ty1 P t] {p : Value} {j : Nat} {cs : List AV} {av : AV} (hx : Pt rs x p j) (hc : cs[j]? = some av) : LT P ⟨d, .load t x, ty, pos, af, g⟩ rs [.box p cs tb] (Is av [.box p cs tb]) :=
 LT_read (fun _ e => by cases e) fun a w G F hR _ ⟨b, vs, hp, _, hf, hb⟩ => by
  obtain ⟨v, hv, hav⟩ := hf.get hc
  refine ⟨v, hav, ?_⟩
  simp only [execOp, hx.ok hR hp, Sem.run_bind]
  rw [run_load1 (v := v) (by rw [cell_of_row w b j _ _ _ hb]; simpa using hv)]
  rfl
theorem lt_loadN {x : Operand} {t tb : TypeId} {n : Nat} [TyN P t n] {p : Value} {cs : List AV} (hx : Pt rs x p 0) (hc : cs.length = n) : LT P ⟨d, .load t x, ty, pos, af, g⟩ rs [.box p cs tb] (Is (.agg cs) [.box p cs tb]) :=
 LT_read (fun _ e => by cases e) fun a w G F hR _ ⟨b, vs, hp, _, hf, hb⟩ => by
  refine ⟨.agg vs.toArray, ⟨vs, rfl, hf⟩, ?_⟩
  simp only [execOp, hx.ok hR hp, Sem.run_bind]
  rw [run_loadN (n := n) (vs := vs) (by rw [hf.length, hc]) (fun k u e => by rw [cell_of_row w b _ _ _ _ hb]; simpa using e)]
  rfl
theorem lt_loadE1 {α : Type} {x : Operand} {t : TypeId} [Ty1 P t] {n k j : Nat} {f : α → List AV} {xs : List α} {av : AV} (hx : opv rs x = some (.el n f xs k j)) (hk : k < xs.length) (hc : (f xs[k])[j]? = some av) : LT P ⟨d, .load t x, ty, pos, af, g⟩ rs [] (Is av []) :=
 LT_val (fun _ e => by cases e) fun a w G hR hG => by
  obtain ⟨b, o, e1, hs⟩ : (AV.el n f xs k j).P G (a.eval x) := opv_ok hR hx
  obtain ⟨b', o', e2, hs⟩ := hs k hk
  cases e2
  obtain ⟨u, hu, hp⟩ := hs j av hc
  refine ⟨u, hp, ?_⟩
  simp only [execOp, e1, Sem.run_bind]
  rw [run_load1 (cellG.cell hG hu)]
  rfl
theorem lt_loadEN {α : Type} {x : Operand} {t : TypeId} {n k : Nat} [TyN P t n] {f : α → List AV} {xs : List α} (hx : opv rs x = some (.el n f xs k 0)) (hk : k < xs.length) (hc : (f xs[k]).length = n) : LT P ⟨d, .load t x, ty, pos, af, g⟩ rs [] (Is (.agg (f xs[k])) []) :=
 LT_val (fun _ e => by cases e) fun a w G hR hG => by
  obtain ⟨b, o, e1, hs⟩ : (AV.el n f xs k 0).P G (a.eval x) := opv_ok hR hx
  obtain ⟨b', o', e2, hs⟩ := hs k hk
  cases e2
  obtain ⟨vs, hf, hv⟩ : ∃ vs : List Value, Fits G (f xs[k]) vs ∧ ∀ j u, vs[j]? = some u → cellG G b (o + k * n + j) = some u := by
   clear e1 hc
   revert hs
   generalize f xs[k] = cs
   generalize o + k * n = q
   intro hs
   induction cs generalizing q with
   | nil => exact ⟨[], trivial, fun j u e => by simp at e⟩
   | cons c cs ih =>
    obtain ⟨u, hu, hp⟩ := hs 0 c rfl
    obtain ⟨us, h1, h2⟩ := ih (q + 1) (fun j av e => by rw [show q + 1 + j = q + (j + 1) by omega]; exact hs (j + 1) av (by simpa using e))
    refine ⟨u :: us, ⟨hp, h1⟩, fun j v e => ?_⟩
    cases j with
    | zero => simp at e; subst e; exact hu
    | succ j => rw [show q + (j + 1) = q + 1 + j by omega]; exact h2 j v (by simpa using e)
  refine ⟨.agg vs.toArray, ⟨vs, rfl, hf⟩, ?_⟩
  simp only [execOp, e1, Nat.add_zero, Sem.run_bind]
  rw [run_loadN (n := n) (vs := vs) (by rw [hf.length, hc]) (fun j u e => cellG.cell hG (hv j u e))]
  rfl
theorem lt_loadE1' {α : Type} {x : Operand} {t : TypeId} [Ty1 P t] {n k j : Nat} {f : α → List AV} {xs : List α} {y : α} {av : AV} (hx : opv rs x = some (.el n f xs k j)) (hk : xs[k]? = some y) (hc : (f y)[j]? = some av) : LT P ⟨d, .load t x, ty, pos, af, g⟩ rs [] (Is av []) := by
 obtain ⟨h, e⟩ := List.getElem?_eq_some_iff.1 hk
 exact lt_loadE1 hx h (by rw [e]; exact hc)
theorem lt_loadEN' {α : Type} {x : Operand} {t : TypeId} {n k : Nat} [TyN P t n] {f : α → List AV} {xs : List α} {y : α} (hx : opv rs x = some (.el n f xs k 0)) (hk : xs[k]? = some y) (hc : (f y).length = n) : LT P ⟨d, .load t x, ty, pos, af, g⟩ rs [] (Is (.agg (f y)) []) := by
 obtain ⟨h, e⟩ := List.getElem?_eq_some_iff.1 hk
 have := lt_loadEN (P := P) (rs := rs) (d := d) (ty := ty) (pos := pos) (af := af) (g := g) (t := t) hx h (by rw [e]; exact hc)
 rwa [e] at this
theorem lt_fieldAt {x : Operand} {t : TypeId} {f off : Nat} [h : TyF P t f off] {p : Value} {j j' : Nat} (hx : opv rs x = some (.at p j)) (hj : j + off = j') : LT P ⟨d, .fieldAddr t x f, ty, pos, af, g⟩ rs [] (Is (.at p j') []) :=
 LT_val (fun _ e => by cases e) fun a w G hR hG => by
  obtain ⟨b, e1, e2⟩ : (AV.at p j).P G (a.eval x) := opv_ok hR hx
  refine ⟨.pointer (some ⟨b, j', none⟩), ⟨b, e1, rfl⟩, ?_⟩
  simp only [execOp, e2, Sem.run_bind]
  rw [h.run, add_plain, hj]
  rfl
theorem lt_fieldVal {x : Operand} {t : TypeId} {f off : Nat} [h : TyF P t f off] {p : Value} {cs : List AV} {tb : TypeId} (hx : opv rs x = some (.val p)) : LT P ⟨d, .fieldAddr t x f, ty, pos, af, g⟩ rs [.box p cs tb] (Is (.at p off) [.box p cs tb]) :=
 LT_read (fun _ e => by cases e) fun a w G F hR _ ⟨b, vs, hp, _, hf, hb⟩ => by
  have e : a.eval x = p := opv_ok hR hx
  refine ⟨.pointer (some ⟨b, off, none⟩), ⟨b, hp, rfl⟩, ?_⟩
  simp only [execOp, e, hp, Sem.run_bind]
  rw [h.run, add_plain, Nat.zero_add]
  rfl
theorem lt_fieldEl {α : Type} {x : Operand} {t : TypeId} {n k f' off : Nat} [h : TyF P t f' off] {f : α → List AV} {xs : List α} {j j' : Nat} (hx : opv rs x = some (.el n f xs k j)) (hj : j + off = j') : LT P ⟨d, .fieldAddr t x f', ty, pos, af, g⟩ rs [] (Is (.el n f xs k j') []) :=
 LT_val (fun _ e => by cases e) fun a w G hR hG => by
  obtain ⟨b, o, e1, hs⟩ : (AV.el n f xs k j).P G (a.eval x) := opv_ok hR hx
  refine ⟨.pointer (some ⟨b, o + k * n + j', none⟩), ⟨b, o, rfl, hs⟩, ?_⟩
  simp only [execOp, e1, Sem.run_bind]
  rw [h.run, add_plain, Nat.add_assoc, hj]
  rfl
theorem lt_indexSl {α : Type} {x y : Operand} {t e : TypeId} {n : Nat} [h : TyS P t e n] {f : α → List AV} {xs : List α} {i : Int} {k : Nat} {kd : IntKind} (hx : opv rs x = some (.sl n f xs)) (hy : opv rs y = some (.val (.int kd i))) (hi : i = (k : Int)) (hk : k < xs.length) :
  LT P ⟨d, .indexAddr t x y, ty, pos, af, g⟩ rs [] (Is (.el n f xs k 0) []) :=
 LT_val (fun _ e => by cases e) fun a w G hR hG => by
  obtain ⟨ad, c, e1, hc, hs⟩ : (AV.sl n f xs).P G (a.eval x) := opv_ok hR hx
  have e2 : a.eval y = _ := opv_ok hR hy
  obtain ⟨b, o, rfl, _⟩ := hs k hk
  refine ⟨.pointer (some ⟨b, o + k * n, none⟩), ⟨b, o, rfl, hs⟩, ?_⟩
  subst hi
  simp only [execOp, e1, e2, Sem.run_bind]
  have h2 : (Instr.indexAt t (.slice (some ⟨b, o, none⟩) xs.length c) (.int kd k)).run P w = .ok (.pointer (some ⟨b, o + k * n, none⟩)) w := by
   have hk' : (0 : Int) ≤ (k : Int) ∧ (k : Int) < (xs.length : Int) := by omega
   simp [Instr.indexAt, asIntOf, run_underlying h.und, hk', h.size w, add_plain]
   intro h'; omega
  rw [h2]
  rfl
theorem lt_lenSl {α : Type} {x : Operand} {t e : TypeId} {m n : Nat} [h : TyS P t e m] {f : α → List AV} {xs : List α} (hx : opv rs x = some (.sl n f xs)) :
  LT P ⟨d, .call { callee := .builtin .len, args := #[x], argTypes := #[t] }, ty, pos, af, g⟩ rs [] (Is (.val (.int .i64 xs.length)) []) :=
 LT_val (fun _ e => by cases e) fun a w G hR hG => by
  obtain ⟨ad, c, e1, hc, hs⟩ : (AV.sl n f xs).P G (a.eval x) := opv_ok hR hx
  refine ⟨_, rfl, ?_⟩
  simp [execOp, resolve, e1, invoke, builtin, Builtin.len_, run_underlying h.und, goInt]
theorem lt_min2 {x y : Operand} {m n : Int} {ts : Array TypeId} (hx : opv rs x = some (.val (.int .i64 m))) (hy : opv rs y = some (.val (.int .i64 n))) :
  LT P ⟨d, .call { callee := .builtin .min, args := #[x, y], argTypes := ts }, ty, pos, af, g⟩ rs [] (Is (.val (.int .i64 (min m n))) []) :=
 LT_val (fun _ e => by cases e) fun a w G hR hG => by
  have e1 : a.eval x = _ := opv_ok hR hx
  have e2 : a.eval y = _ := opv_ok hR hy
  refine ⟨_, rfl, ?_⟩
  have : (if n < m then n else m) = min m n := by split <;> omega
  simp [execOp, resolve, e1, e2, invoke, builtin, Builtin.min_, Builtin.min2, this]
theorem LT_eff {o : Oper} {cons : List HA} {post : AV → List HA → Prop} (hdf : ∀ cl, o.op ≠ .defer cl) (h : ∀ a w G F, RegOK rs G a → Inv G F cons w → ∃ x w' v av prod G' F', (execOp a.eval o).run P w = .ok x w' ∧ (x = .value v ∨ (x = .skip ∧ v = undef)) ∧ post av prod ∧ Fr w w' F F' G G' ∧ Inv G' F' prod w' ∧ av.P G' v) : LT P o rs cons post := by
 refine ⟨?_⟩
 intro F n hF a w G Fp K Q hR hI hk
 obtain ⟨x, w', v, av, prod, G', F', hr, hx, hp, hf, hi, hv⟩ := h a w G Fp hR hI
 unfold Oper.wpIn
 refine ⟨fun f _ => hF.fn f, ?_⟩
 rw [Oper.semAt_eq _ _ _ hdf, hr]
 rcases hx with rfl | ⟨rfl, rfl⟩
 ·exact hk v av prod G' F' w' hp hf hi hv
 ·exact hk undef av prod G' F' w' hp hf hi hv
theorem fr_alloc {w : World} (F : List Nat) (G : Nat → Option Obj) (o : Obj) : Fr w (w.alloc o) F (w.heap.size :: F) G G :=
 ⟨rfl, rfl, rfl, by simp, fun b hb _ => Below.heap_alloc _ _ _ hb, fun b hb => by rcases List.mem_cons.1 hb with rfl | h; exact .inr (Nat.le_refl _); exact .inl h, Gle.refl _, fun _ _ h => .inl h⟩
theorem gin_alloc {w : World} {G : Nat → Option Obj} (h : Gin G w) (o : Obj) : Gin G (w.alloc o) := fun b o' e => (Below.heap_alloc _ _ _ (h.lt e)).trans (h b o' e)
theorem inv_nil {G : Nat → Option Obj} {F : List Nat} {w : World} (h : Inv G F [] w) : F = [] := h.hs
theorem run_newVar {w : World} (t : TypeId) (v : Value) : (newVar t v).run P w = .ok ⟨w.heap.size, 0, none⟩ (w.alloc (.cells v.cells t)) := rfl
theorem new_box {w : World} {G : Nat → Option Obj} {F : List Nat} (h : Inv G F [] w) {cs : List AV} {vs : List Value} (hf : Fits G cs vs) (t : TypeId) :
  Inv G [w.heap.size] [.box (.pointer (some ⟨w.heap.size, 0, none⟩)) cs t] (w.alloc (.cells vs.toArray t)) := by
 refine ⟨gin_alloc h.gin _, by simp, fun b hb => ?_, [w.heap.size], [], by simp, ⟨w.heap.size, vs, rfl, rfl, hf, heap_alloc_new w _⟩, rfl⟩
 rw [List.mem_singleton] at hb
 subst hb
 refine ⟨by simp, ?_⟩
 cases hg : G w.heap.size with
 | none => rfl
 | some o => exact absurd (h.gin.lt hg) (Nat.lt_irrefl _)
def NewBox (cs : List AV) (t : TypeId) : AV → List HA → Prop := fun x y => ∃ p, One (.val p) ∧ x = .val p ∧ y = [.box p cs t]
theorem lt_alloc {t : TypeId} {zs : List Value} [h : TyZ P t zs] : LT P ⟨d, .alloc t, ty, pos, af, g⟩ rs [] (NewBox (zs.map AV.val) t) :=
 LT_eff (fun _ e => by cases e) fun a w G F hR hI => by
  obtain rfl := inv_nil hI
  obtain ⟨z, hz, hc⟩ := h.run w
  have hf : Fits G (zs.map AV.val) zs := by
   clear hz hc h
   induction zs with
   | nil => trivial
   | cons z zs ih => exact ⟨rfl, ih⟩
  refine ⟨_, w.alloc (.cells zs.toArray t), .pointer (some ⟨w.heap.size, 0, none⟩), _, _, G, _, ?_, .inl rfl, ⟨_, inferInstance, rfl, rfl⟩, fr_alloc _ _ _, new_box hI hf t, rfl⟩
  simp only [execOp, Instr.alloc, Sem.run_bind, hz, Result.andThen_ok, run_newVar, hc, Sem.run_pure]
class OneL (cs : List AV) : Prop where
 out : ∀ c ∈ cs, One c
instance : OneL [] := ⟨fun _ h => by cases h⟩
instance {c : AV} {cs : List AV} [h : One c] [k : OneL cs] : OneL (c :: cs) := ⟨fun x hx => by rcases List.mem_cons.1 hx with rfl | h'; exact h; exact k.out x h'⟩
instance {x : Int} : OneL (iC x) := inferInstanceAs (OneL [_])
theorem fits_one {G : Nat → Option Obj} : ∀ {cs : List AV} {vs : List Value}, OneL cs → Fits G cs vs → ∀ u ∈ vs, u.oneCell' = true
 | [], [], _, _, _, h => by cases h
 | c :: cs, v :: vs, ho, hf, u, h => by
  rcases List.mem_cons.1 h with rfl | h
  ·exact (ho.out c (by simp)).out _ _ hf.1
  ·exact fits_one ⟨fun x hx => ho.out x (by simp [hx])⟩ hf.2 u h
 | [], _ :: _, _, k, _, _ => k.elim
 | _ :: _, [], _, k, _, _ => k.elim
class CellsOf (av : AV) (cs : outParam (List AV)) : Prop where
 out : ∀ G v, av.P G v → ∃ vs : List Value, v.cells = vs.toArray ∧ Fits G cs vs
instance {cs : List AV} : CellsOf (.agg cs) cs := ⟨fun _ _ ⟨vs, e, h⟩ => ⟨vs, by subst e; rfl, h⟩⟩
class TySz (P : Program) (t : TypeId) (n : outParam Nat) : Prop where
 size : ∀ w, (sizeOf t).run P w = .ok n w
instance {P : Program} {t : TypeId} [h : Ty1 P t] : TySz P t 1 := ⟨h.size⟩
instance {P : Program} {t : TypeId} {n : Nat} [h : TyN P t n] : TySz P t n := ⟨h.size⟩
theorem cells_one {v : Value} (h : v.oneCell' = true) : v.cells = #[v] := by
 cases v <;> first | rfl | (simp [Value.oneCell'] at h)
instance (priority := low) {av : AV} [h : One av] : CellsOf av [av] := ⟨fun G v hv => ⟨[v], cells_one (h.out G v hv), hv, trivial⟩⟩
theorem lt_box {x : Operand} {t : TypeId} {av : AV} {cs : List AV} [h : CellsOf av cs] (hx : opv rs x = some av) : LT P ⟨d, .box t x, ty, pos, af, g⟩ rs [] (NewBox cs t) :=
 LT_eff (fun _ e => by cases e) fun a w G F hR hI => by
  obtain rfl := inv_nil hI
  obtain ⟨vs, hc, hf⟩ := h.out G _ (opv_ok hR hx)
  refine ⟨_, w.alloc (.cells vs.toArray t), .pointer (some ⟨w.heap.size, 0, none⟩), _, _, G, _, ?_, .inl rfl, ⟨_, inferInstance, rfl, rfl⟩, fr_alloc _ _ _, new_box hI hf t, rfl⟩
  simp only [execOp, Instr.box, Sem.run_bind, Result.andThen_ok, run_newVar, hc, Sem.run_pure]
def spl (cs : List AV) (j : Nat) (ds : List AV) : List AV := cs.take j ++ ds ++ cs.drop (j + ds.length)
instance {cs ds : List AV} {j : Nat} [h : OneL cs] [k : OneL ds] : OneL (spl cs j ds) := ⟨fun c hc => by
 unfold spl at hc
 rcases List.mem_append.1 hc with h1 | h1
 ·rcases List.mem_append.1 h1 with h2 | h2
  ·exact h.out c (List.mem_of_mem_take h2)
  ·exact k.out c h2
 ·exact h.out c (List.mem_of_mem_drop h1)⟩
instance : OneL (List.map AV.val []) := ⟨fun _ h => by simp at h⟩
instance {v : Value} {vs : List Value} [h : One (.val v)] [k : OneL (vs.map AV.val)] : OneL ((v :: vs).map AV.val) := ⟨fun c hc => by
 rw [List.map_cons] at hc
 rcases List.mem_cons.1 hc with rfl | h1
 ·exact h
 ·exact k.out c h1⟩
theorem fr_setRow {w : World} {G : Nat → Option Obj} {b : Nat} (hG : Gin G w) (hb : G b = none) (cs : Array Value) : Fr w (w.setRow b cs) [b] [b] G G ∧ Gin G (w.setRow b cs) := by
 have hne : ∀ k, k ≠ b → (w.setRow b cs).heap[k]? = w.heap[k]? := fun k hk => setRow_other w b k cs hk
 refine ⟨⟨rfl, rfl, rfl, by simp, fun k _ hk => hne k (fun e => hk (by simp [e])), fun _ h => .inl h, Gle.refl _, fun _ _ h => .inl h⟩, fun k o e => (hne k fun e' => ?_).trans (hG k o e)⟩
 subst e'; rw [hb] at e; cases e
theorem lt_store {x y : Operand} {t tb : TypeId} {n j : Nat} [hs : TySz P t n] {p : Value} {cs : List AV} {av : AV} {ds : List AV} [hc : CellsOf av ds] [ho : OneL ds] (hx : Pt rs x p j) (hy : opv rs y = some av) (hn : ds.length = n) (hj : j + n ≤ cs.length) :
  LT P ⟨d, .store t x y, ty, pos, af, g⟩ rs [.box p cs tb] (Is (.val undef) [.box p (spl cs j ds) tb]) :=
 LT_eff (fun _ e => by cases e) fun a w G F hR hI => by
  obtain ⟨F1, F2, e, ⟨b, vs, hp, hF1, hf, hb⟩, h2⟩ := hI.hs
  have h2' : F2 = [] := h2
  subst h2' hF1
  have hF : F = [b] := List.perm_singleton.1 (by simpa using e)
  subst hF
  obtain ⟨us, huc, huf⟩ := hc.out G _ (opv_ok hR hy)
  have hg := (hI.own b (by simp)).2
  obtain ⟨f1, f2⟩ := fr_setRow hI.gin hg (vs.take j ++ us ++ vs.drop (j + us.length)).toArray
  have hl := huf.length
  have hl2 := hf.length
  refine ⟨_, w.setRow b (vs.take j ++ us ++ vs.drop (j + us.length)).toArray, undef, _, _, G, [b], ?_, .inr ⟨rfl, rfl⟩, ⟨rfl, rfl⟩, f1, ⟨f2, by simp, fun k hk => ?_, [b], [], by simp, ⟨b, _, hp, rfl, ?_, setRow_heap w b _ _ tb _ hb⟩, rfl⟩, rfl⟩
  ·simp only [execOp, hx.ok hR hp, Instr.storeAt, Instr.sureAddr, storeVar, Sem.run_bind, Sem.run_pure, Result.andThen_ok, huc, hs.size w]
   have h1 : us.toArray.size = n := by simp [hl, hn]
   have h3 := run_storeCells_at P b j tb us 0 vs.toArray w hb (by simp; omega) (fits_one ho huf)
   simp only [Nat.add_zero] at h3
   simp [h1, h3]
  ·rw [List.mem_singleton] at hk; subst hk; simp only [setRow_size]; exact hI.own _ (by simp)
  ·unfold spl
   rw [← hl]
   exact ((hf.take j).append huf).append (hf.drop _)
end
structure Con (P : Program) (k : FuncId) (args : List AV) (pre : List HA) (post : AV → List HA → Prop) : Prop where
 enters : ∀ args w, (callFunc k args).run P w = .ok (.enter k args) w
 calls : ∀ (G : Nat → Option Obj) (Fp : List Nat) (vs : List Value) (w : World), Fits G args vs → Inv G Fp pre w →
  Calls P k vs.toArray w fun e w' => ∃ v av prod G' F', e = .returned v ∧ post av prod ∧ Fr w w' Fp F' G G' ∧ Inv G' F' prod w' ∧ av.P G' v
theorem lt_call {P : Program} {rs : List (Nat × AV)} {d : Option Nat} {ty : TypeId} {pos : String} {af : Array Edge} {g : Option (Nat × Bool)} {k : FuncId} {xs : List Operand} {ts : Array TypeId} {avs : List AV} {pre : List HA} {post : AV → List HA → Prop} (hx : opvs rs xs = some avs) (hc : Con P k avs pre post) :
  LT P ⟨d, .call { callee := .value (.func k), args := xs.toArray, argTypes := ts }, ty, pos, af, g⟩ rs pre post := by
 refine ⟨?_⟩
 intro F n hF a w G Fp K Q hR hI hk
 have hf := opvs_ok hR hx
 have hcalls := hc.calls G Fp _ w hf hI
 unfold Oper.wpIn
 refine ⟨fun f _ => hF.fn f, ?_⟩
 rw [Oper.semAt_eq _ _ _ (fun _ e => by cases e)]
 have hr : (execOp a.eval ⟨d, .call { callee := .value (.func k), args := xs.toArray, argTypes := ts }, ty, pos, af, g⟩).run P w = .ok (.enter k (xs.map a.eval).toArray) w := by
  simp [execOp, resolve, Act.eval, Deferred.ofValue, invoke, hc.enters]
 rw [hr]
 refine ⟨fun h => (by rw [hF.depth] at h; cases h), hF.calls (hcalls.mono ?_)⟩
 rintro e w' ⟨v, av, prod, G', F', rfl, hp, hfr, hi, hv⟩
 exact hk v av prod G' F' w' hp hfr hi hv
theorem con_same {P : Program} {k : FuncId} {args : List AV} {av : AV} (he : ∀ args w, (callFunc k args).run P w = .ok (.enter k args) w)
  (h : ∀ (G : Nat → Option Obj) (vs : List Value) (w : World), Fits G args vs → Gin G w → Calls P k vs.toArray w fun e w' => ∃ v, e = .returned v ∧ av.P G v ∧ Below w.heap.size w w') : Con P k args [] (Is av []) :=
 ⟨he, fun G Fp vs w hf hi => (h G vs w hf hi.gin).mono fun e w' ⟨v, h1, h2, h3⟩ => by
  obtain rfl := inv_nil hi
  refine ⟨v, av, [], G, [], h1, ⟨rfl, rfl⟩, ⟨h3.os, h3.tape, h3.output, h3.size, fun b hb _ => h3.block b hb, fun _ h => .inl h, Gle.refl _, fun _ _ h => .inl h⟩, ⟨fun b o e => (h3.block b (hi.gin.lt e)).trans (hi.gin b o e), by simp, fun b hb => (by cases hb), rfl⟩, h2⟩⟩
def enumR : Nat → List AV → List (Nat × AV)
 | _, [] => []
 | k, x :: xs => (k, x) :: enumR (k + 1) xs
def Res (P : Program) (fn : Func) (post : AV → List HA → Prop) (s : S) : Prop := ∃ av prod, post av prod ∧ ∀ (a : Act) (w : World) (G : Nat → Option Obj) (F : List Nat), RegOK s.rs G a → Inv G F s.hs w →
 ∃ v G' F', (results fn a.tmps).run P w = .ok v w ∧ Fr w w F F' G G' ∧ Inv G' F' prod w ∧ av.P G' v
theorem fits_enum {G : Nat → Option Obj} : ∀ {args : List AV} {vs : List Value} (k : Nat), Fits G args vs → ∀ i av, look (enumR k args) i = some av → k ≤ i ∧ ∃ v, vs[i - k]? = some v ∧ av.P G v
 | [], [], _, _, _, _, e => by simp [enumR, look] at e
 | x :: xs, v :: vs, k, hf, i, av, e => by
  simp only [enumR, look] at e
  cases hb : Nat.beq k i with
  | true =>
   rw [hb] at e
   obtain rfl := Nat.eq_of_beq_eq_true hb
   simp only [cond_true, Option.some.injEq] at e
   subst e
   exact ⟨Nat.le_refl _, v, by simp, hf.1⟩
  | false =>
   rw [hb] at e
   obtain ⟨h1, u, h2, h3⟩ := fits_enum (k + 1) hf.2 i av (by simpa using e)
   refine ⟨by omega, u, ?_, h3⟩
   rw [show i - k = (i - (k + 1)) + 1 by omega]
   simpa using h2
 | [], _ :: _, _, k, _, _, _ => k.elim
 | _ :: _, [], _, k, _, _, _ => k.elim
theorem leaves_mk {F : Fence} {n : Nat} {P : Program} {fn : Func} {tmps : Array Value} {R : Ending → World → Prop} : ∀ (Ds : List Nat) (w : World), Ds.Nodup → (∀ D ∈ Ds, w.heap[D]? = some (.deferred (some []))) →
  (∀ w', w'.os = w.os → w'.tape = w.tape → w'.output = w.output → w'.heap.size = w.heap.size → (∀ b, b ∉ Ds → w'.heap[b]? = w.heap[b]?) → LeavesIn F n P fn tmps R [] .returning w') → LeavesInM F n P fn tmps R (Ds.map mark) .returning w
 | [], w, _, _, h => h w rfl rfl rfl rfl fun _ _ => rfl
 | D :: Ds, w, nd, a, h => by
  have nd' := List.nodup_cons.1 nd
  refine ⟨fun h => (by cases h), .inl ⟨D, _, rfl, run_takeDeferred (a D (by simp)), leaves_mk Ds _ nd'.2 (fun D' hm => ?_) fun w' h1 h2 h3 h4 h5 => h w' h1 h2 h3 (h4.trans World.putObj_size) fun b hb => ?_⟩⟩
  ·exact (World.putObj_heap_other (fun (e : D' = D) => nd'.1 (by rw [← e]; exact hm))).trans (a D' (by simp [hm]))
  ·rw [List.mem_cons, not_or] at hb
   exact (h5 b hb.2).trans (World.putObj_heap_other hb.1)
theorem con_of {P : Program} {k : FuncId} {fn : Func} {body : Code} {args : List AV} {pre : List HA} {post : AV → List HA → Prop} (hf : P.funcs[k]? = some fn) (hb : fn.body = some body) (he : ∀ args w, (callFunc k args).run P w = .ok (.enter k args) w) (hn : Nat.ble args.length fn.ntmps = true)
  (h : ∀ (n : Nat) (w0 : World) (F0 : List Nat) (G0 : Nat → Option Obj), W (Cx.mk Fence.wide n P w0 F0 G0 fn.ntmps (.inl rfl)) body ⟨enumR 0 args, pre⟩ (retQ (Res P fn post))) : Con P k args pre post := by
 refine ⟨he, fun G Fp vs w hfit hi => (callsIn_wide (n := 0)).1 (callsIn_of_wp_marks hf hb trivial ?_ rfl)⟩
 have hl := hfit.length
 rw [Nat.ble_eq] at hn
 refine Go.wpIn_mono ((h 0 w Fp G).out _ w ⟨G, Fp, hi, Fr.refl _ _ _, fun i av e => ?_, by simp; omega, Mk.nil _ _ _ _⟩) ?_
 ·obtain ⟨_, v, h2, h3⟩ := fits_enum 0 hfit i av e
  have hlt := (List.getElem?_eq_some_iff.1 h2).1
  simp only [Nat.sub_zero] at hlt h2
  have : (vs.toArray ++ Array.replicate (fn.ntmps - vs.toArray.size) undef).getD i undef = v := by
   simp [Array.getD_eq_getD_getElem?, Array.getElem?_append, hlt]
   rw [List.getElem?_eq_getElem hlt] at h2
   exact Option.some.inj h2
  show av.P G (Array.getD _ i undef)
  rw [this]; exact h3
 ·rintro e a' w' ⟨s', ⟨G', F', hI, hF, hR, hsz, hd⟩, q⟩
  have fin : Res P fn post s' → LeavesInM Fence.wide 0 P fn a'.tmps (fun e w' => ∃ v av prod G' F', e = .returned v ∧ post av prod ∧ Fr w w' Fp F' G G' ∧ Inv G' F' prod w' ∧ av.P G' v) a'.defers .returning w' := by
   rintro ⟨av, prod, hp, hr⟩
   obtain ⟨Ds, e, nd, hD, _⟩ := hd
   rw [e]
   refine leaves_mk Ds w' nd (fun D h => (hD D h).2.2.2) fun w2 h1 h2 h3 h4 h5 => ?_
   have hin : ∀ b, (G' b ≠ none ∨ b ∈ F') → w2.heap[b]? = w'.heap[b]? := fun b hb => h5 b fun hm => by
    obtain ⟨_, k2, k3, _⟩ := hD b hm
    rcases hb with hb | hb
    ·exact hb k3
    ·exact k2 hb
   have hI2 : Inv G' F' s'.hs w2 := ⟨fun b o ho => (hin b (.inl (by rw [ho]; simp))).trans (hI.gin b o ho), hI.nd, fun b hb => by rw [h4]; exact hI.own b hb, hI.hs.loc fun b hb => hin b (.inr hb)⟩
   have hF2 : Fr w w2 Fp F' G G' := ⟨h1.trans hF.os, h2.trans hF.tape, h3.trans hF.output, by rw [h4]; exact hF.size, fun b hb hn => (h5 b fun hm => by have h9 : w.heap.size ≤ b := (hD b hm).1; omega).trans (hF.same b hb hn), hF.newF, hF.gle, hF.newG⟩
   obtain ⟨v, G'', F'', k1, k2, k3, k4⟩ := hr a' w2 G' F' hR hI2
   exact ⟨v, k1, v, av, prod, G'', F'', rfl, hp, hF2.trans k2, k3, k4⟩
  cases e with
  | normal => exact fin q
  | ret => exact fin q
  | _ => exact q.elim
theorem inv_drop {G : Nat → Option Obj} {F : List Nat} {hs : List HA} {w : World} (h : Inv G F hs w) : Inv G [] [] w ∧ Fr w w F [] G G :=
 ⟨⟨h.gin, by simp, fun _ hb => (by cases hb), rfl⟩, ⟨rfl, rfl, rfl, Nat.le_refl _, fun _ _ _ => rfl, fun _ hb => (by cases hb), Gle.refl _, fun _ _ h => .inl h⟩⟩
theorem res1 {P : Program} {fn : Func} {t : Tmp} {post : AV → List HA → Prop} {s : S} {av : AV} (hr : fn.results = #[.tmp t]) (hl : look s.rs t = some av) (hp : post av []) : Res P fn post s :=
 ⟨av, [], hp, fun a w G F hR hI => ⟨_, G, [], results_tmp hr _ _ _, (inv_drop hI).2, (inv_drop hI).1, hR _ _ hl⟩⟩
theorem resN {P : Program} {fn : Func} {x : Tmp} {t tb : TypeId} {n : Nat} {post : AV → List HA → Prop} {s : S} {p : Value} {cs : List AV} {f : HA → List HA} (hr : fn.results = #[.cell x t]) (hx : look s.rs x = some (.val p)) (hat : At s.hs (.box p cs tb) f) (hT : TyN P t n) (hn : cs.length = n) (hp : post (.agg cs) []) : Res P fn post s := by
 refine ⟨_, [], hp, fun a w G F hR hI => ?_⟩
 obtain ⟨rest, hs⟩ := hat.sel
 obtain ⟨F1, F2, e, ⟨b, vs, hpb, hF1, hf, hb⟩, h2⟩ := (hs _ _ _ _).1 (by rw [hat.self]; exact hI.hs)
 refine ⟨.agg vs.toArray, G, [], ?_, (inv_drop hI).2, (inv_drop hI).1, ⟨vs, rfl, hf⟩⟩
 have hxv : a.tmps.getD x undef = p := hR _ _ hx
 rw [Array.getD_eq_getD_getElem?] at hxv
 have h1 := run_loadN (P := P) (t := t) (n := n) (w := w) (b := b) (j := 0) (vs := vs) (by rw [hf.length, hn]) (fun k u e => by rw [cell_of_row w b _ _ _ _ hb]; simpa using e)
 simp only [Instr.loadAt, Instr.sureAddr, Sem.run_bind, Sem.run_pure, Result.andThen_ok] at h1
 simp [results, hr, hxv, hpb, asAddr, h1]
section
variable {c : Cx} {s : S} {Q : Exit → S → Prop} {ops : Array Oper} {tl : List Oper}
def gdst (ops : Array Oper) (j : Nat) : Option Nat := (ops[j]?).bind (·.dst)
theorem yielded_of {a : Act} {G : Nat → Option Obj} (hR : RegOK s.rs G a) {nt : Nat} (hn : a.tmps.size = nt) {j dj : Nat} {b : Bool} (hj : gdst ops j = some dj) (hd : okD (some dj) nt = true) (hl : look s.rs dj = some (.val (.bool b))) : yielded ops a.tmps j = some b := by
 have h1 : a.tmps.getD dj undef = .bool b := hR _ _ hl
 have hlt : dj < a.tmps.size := by rw [hn]; simp only [okD, Nat.blt, Nat.ble_eq] at hd; omega
 unfold gdst at hj
 have h2 : a.tmps[dj]? = some (.bool b) := by
  rw [Array.getD_eq_getD_getElem?, Array.getElem?_eq_getElem hlt] at h1
  rw [Array.getElem?_eq_getElem hlt]
  exact congrArg some h1
 simp [yielded, hj, h2]
theorem WL_yes {o : Oper} {j dj : Nat} {b : Bool} (hg : o.guard = some (j, b)) (hj : gdst ops j = some dj) (hd : okD (some dj) c.nt = true) (hl : look s.rs dj = some (.val (.bool b))) (h : WL c ops (⟨o.dst, o.op, o.type, o.pos, o.after, none⟩ :: tl) s Q) : WL c ops (o :: tl) s Q := ⟨fun a w st => by
 have st' := st
 obtain ⟨G, F, hI, hF, hR, hn, hd'⟩ := st'
 have hy := yielded_of hR hn hj hd hl
 have h1 := h.out a w st
 unfold wpListIn at h1 ⊢
 rw [if_pos (by simp [Region.wanted])] at h1
 rw [if_pos (by simp [Region.wanted, hg, hy])]
 exact h1⟩
theorem WL_no {o : Oper} {j dj : Nat} {b b' : Bool} (hd2 : okD o.dst c.nt = true) (hg : o.guard = some (j, b)) (hj : gdst ops j = some dj) (hd : okD (some dj) c.nt = true) (hl : look s.rs dj = some (.val (.bool b'))) (hb : (b' == b) = false) (h : WL c ops tl ⟨putR o.dst (.val undef) s.rs, s.hs⟩ Q) : WL c ops (o :: tl) s Q := ⟨fun a w st => by
 obtain ⟨G, F, hI, hF, hR, hn, hd'⟩ := st
 have hy := yielded_of hR hn hj hd hl
 have hbn : b' ≠ b := fun e => by subst e; simp at hb
 unfold wpListIn
 rw [if_neg (by simp [Region.wanted, hg, hy, hbn])]
 refine ⟨fun f _ => c.wd.fn f, h.out _ _ ⟨G, F, hI, hF, hR.put hn hd2 rfl, ?_, ?_⟩⟩
 ·rw [(size_put a _ _).1, hn]
 ·rw [(size_put a _ _).2]; exact hd'⟩
theorem WL_part {i : Nat} {b : Bool} {l : List Oper} (hl : look s.rs i = some (.val (.bool b))) (h1 : b = true → WL c ops l ⟨(i, .val (.bool true)) :: s.rs, s.hs⟩ Q) (h2 : b = false → WL c ops l ⟨(i, .val (.bool false)) :: s.rs, s.hs⟩ Q) : WL c ops l s Q := ⟨fun a w st => by
 have key : b = b → WL c ops l ⟨(i, .val (.bool b)) :: s.rs, s.hs⟩ Q := fun _ => by cases b; exact h2 rfl; exact h1 rfl
 obtain ⟨G, F, hI, hF, hR, hn, hd'⟩ := st
 refine (key rfl).out a w ⟨G, F, hI, hF, fun k av e => ?_, hn, hd'⟩
 simp only [look] at e
 cases hb : Nat.beq i k with
 | true =>
  rw [hb] at e
  obtain rfl := Nat.eq_of_beq_eq_true hb
  simp only [cond_true, Option.some.injEq] at e
  subst e
  exact hR _ _ hl
 | false => rw [hb] at e; exact hR k av (by simpa using e)⟩
end
section
variable {c : Cx} {rs : List (Nat × AV)} {hs : List HA} {Q : Exit → S → Prop} {ops : Array Oper} {tl : List Oper} {d : Nat} {op : Op} {ty : TypeId} {pos : String} {af : Array Edge}
theorem wl_ex {av : AV} (h : LT c.P ⟨some d, op, ty, pos, af, none⟩ rs [] (Is av [])) (hd : Nat.blt d c.nt = true) (k : WL c ops tl ⟨(d, av) :: rs, hs⟩ Q) : WL c ops (⟨some d, op, ty, pos, af, none⟩ :: tl) ⟨rs, hs⟩ Q := WL_ex hd rfl h k
theorem wl_rd {av : AV} {h : HA} {f : HA → List HA} (hl : LT c.P ⟨some d, op, ty, pos, af, none⟩ rs [h] (Is av [h])) (hat : At hs h f) (hd : Nat.blt d c.nt = true) (k : WL c ops tl ⟨(d, av) :: rs, hs⟩ Q) : WL c ops (⟨some d, op, ty, pos, af, none⟩ :: tl) ⟨rs, hs⟩ Q :=
 WL_at hd rfl hat hl (by rw [hat.self]; exact k)
theorem wl_at0 {av : AV} {h h' : HA} {f : HA → List HA} (hl : LT c.P ⟨none, op, ty, pos, af, none⟩ rs [h] (Is av [h'])) (hat : At hs h f) (k : WL c ops tl ⟨rs, f h'⟩ Q) : WL c ops (⟨none, op, ty, pos, af, none⟩ :: tl) ⟨rs, hs⟩ Q := WL_at rfl rfl hat hl k
theorem wl_new {post : AV → List HA → Prop} (h : LT c.P ⟨some d, op, ty, pos, af, none⟩ rs [] post) (hd : Nat.blt d c.nt = true) (k : ∀ av prod, post av prod → WL c ops tl ⟨(d, av) :: rs, prod ++ hs⟩ Q) : WL c ops (⟨some d, op, ty, pos, af, none⟩ :: tl) ⟨rs, hs⟩ Q := WL_new hd rfl h k
theorem wl_box {cs : List AV} {t : TypeId} (h : LT c.P ⟨some d, op, ty, pos, af, none⟩ rs [] (NewBox cs t)) (hd : Nat.blt d c.nt = true) (k : ∀ p, One (.val p) → WL c ops tl ⟨(d, .val p) :: rs, .box p cs t :: hs⟩ Q) : WL c ops (⟨some d, op, ty, pos, af, none⟩ :: tl) ⟨rs, hs⟩ Q :=
 WL_new hd rfl h fun av prod ⟨p, h1, e1, e2⟩ => by subst e1; subst e2; exact k p h1
theorem wl_yes {j dj : Nat} {b : Bool} (hj : gdst ops j = some dj) (hl : look rs dj = some (.val (.bool b))) (hd : Nat.blt dj c.nt = true) {dd : Option Nat} (h : WL c ops (⟨dd, op, ty, pos, af, none⟩ :: tl) ⟨rs, hs⟩ Q) : WL c ops (⟨dd, op, ty, pos, af, some (j, b)⟩ :: tl) ⟨rs, hs⟩ Q := WL_yes rfl hj hd hl h
theorem wl_no {j dj : Nat} {b b' : Bool} (hj : gdst ops j = some dj) (hl : look rs dj = some (.val (.bool b'))) (hb : (b' == b) = false) (hd : Nat.blt dj c.nt = true) (hd2 : Nat.blt d c.nt = true) (h : WL c ops tl ⟨(d, .val undef) :: rs, hs⟩ Q) : WL c ops (⟨some d, op, ty, pos, af, some (j, b)⟩ :: tl) ⟨rs, hs⟩ Q := WL_no hd2 rfl hj hd hl hb h
theorem wl_part {j dj : Nat} {b g : Bool} {dd : Option Nat} (hj : gdst ops j = some dj) (hl : look rs dj = some (.val (.bool b))) (h1 : b = true → WL c ops (⟨dd, op, ty, pos, af, some (j, g)⟩ :: tl) ⟨(dj, .val (.bool true)) :: rs, hs⟩ Q) (h2 : b = false → WL c ops (⟨dd, op, ty, pos, af, some (j, g)⟩ :: tl) ⟨(dj, .val (.bool false)) :: rs, hs⟩ Q) : WL c ops (⟨dd, op, ty, pos, af, some (j, g)⟩ :: tl) ⟨rs, hs⟩ Q := WL_part hl h1 h2
theorem th_norm {N : S → Prop} {s : S} (h : N s) : thenQ N Q .normal s := h
theorem th_exit {N : S → Prop} {s : S} {i : Nat} (h : Q (.exit i) s) : thenQ N Q (.exit i) s := h
theorem th_ret {N : S → Prop} {s : S} (h : Q .ret s) : thenQ N Q .ret s := h
theorem bl_norm {s : S} {i : Nat} (h : Q .normal s) : blockQ i Q .normal s := h
theorem bl_ret {s : S} {i : Nat} (h : Q .ret s) : blockQ i Q .ret s := h
theorem bl_eq {s : S} {i : Nat} (h : Q .normal s) : blockQ i Q (.exit i) s := by show (if i = i then Q .normal s else Q (.exit i) s); rw [if_pos rfl]; exact h
theorem bl_ne {s : S} {i j : Nat} (hne : Nat.beq j i = false) (h : Q (.exit j) s) : blockQ i Q (.exit j) s := by
 show (if j = i then Q .normal s else Q (.exit j) s)
 rw [if_neg (fun e => by subst e; rw [Nat.beq_refl] at hne; cases hne)]; exact h
theorem rt_norm {R : S → Prop} {s : S} (h : R s) : retQ R .normal s := h
theorem rt_ret {R : S → Prop} {s : S} (h : R s) : retQ R .ret s := h
end
def SubR : List (Nat × AV) → List (Nat × AV) → Prop
 | [], _ => True
 | (i, av) :: t, rs => look rs i = some av ∧ SubR t rs
theorem SubR.ok {rs : List (Nat × AV)} : ∀ {rs' : List (Nat × AV)}, SubR rs' rs → ∀ i av, look rs' i = some av → look rs i = some av
 | [], _, _, _, e => by simp [look] at e
 | (j, x) :: t, h, i, av, e => by
  simp only [look] at e
  cases hb : Nat.beq j i with
  | true =>
   rw [hb] at e
   obtain rfl := Nat.eq_of_beq_eq_true hb
   simp only [cond_true, Option.some.injEq] at e
   subst e; exact h.1
  | false => rw [hb] at e; exact SubR.ok h.2 i av (by simpa using e)
theorem W_loopJ {c : Cx} {rs : List (Nat × AV)} {hs : List HA} {Q : Exit → S → Prop} {β : Type} {x : Code} (I : β → S) (J : β → Prop) (μ : β → Nat) (b0 : β) (h0 : ∀ a w, St c ⟨rs, hs⟩ a w → St c (I b0) a w) (hj : J b0)
  (h : ∀ b, J b → W c x (I b) (thenQ (fun s' => ∃ b', (∀ a w, St c s' a w → St c (I b') a w) ∧ J b' ∧ μ b' < μ b) Q)) : W c (.loop x) ⟨rs, hs⟩ Q :=
 W_loop (β := {b // J b}) (fun b => I b.1) (fun b => μ b.1) ⟨b0, hj⟩ h0 fun b => W_mono (h b.1 b.2) fun e s q => by
  cases e with
  | normal => obtain ⟨b', h1, h2, h3⟩ := q; exact ⟨⟨b', h2⟩, h1, h3⟩
  | _ => exact q
section
variable {c : Cx} {rs : List (Nat × AV)} {hs : List HA} {Q : Exit → S → Prop} {ops : Array Oper} {tl : List Oper} {d : Nat} {ty : TypeId} {pos : String} {af : Array Edge} {x y : Operand} {t tb : TypeId} {p : Value} {j : Nat} {cs : List AV} {f : HA → List HA}
theorem wl_load1 {av : AV} (hx : Pt rs x p j) (hat : At hs (.box p cs tb) f) (hc : cs[j]? = some av) [Ty1 c.P t] (hd : Nat.blt d c.nt = true) (k : WL c ops tl ⟨(d, av) :: rs, hs⟩ Q) : WL c ops (⟨some d, .load t x, ty, pos, af, none⟩ :: tl) ⟨rs, hs⟩ Q := wl_rd (lt_load1 hx hc) hat hd k
theorem wl_loadN {n : Nat} (hx : Pt rs x p 0) (hat : At hs (.box p cs tb) f) [TyN c.P t n] (hc : cs.length = n) (hd : Nat.blt d c.nt = true) (k : WL c ops tl ⟨(d, .agg cs) :: rs, hs⟩ Q) : WL c ops (⟨some d, .load t x, ty, pos, af, none⟩ :: tl) ⟨rs, hs⟩ Q := wl_rd (lt_loadN hx hc) hat hd k
theorem wl_field {fd off : Nat} (hx : opv rs x = some (.val p)) (hat : At hs (.box p cs tb) f) [TyF c.P t fd off] (hd : Nat.blt d c.nt = true) (k : WL c ops tl ⟨(d, .at p off) :: rs, hs⟩ Q) : WL c ops (⟨some d, .fieldAddr t x fd, ty, pos, af, none⟩ :: tl) ⟨rs, hs⟩ Q := wl_rd (lt_fieldVal hx) hat hd k
theorem wl_store {n : Nat} {av : AV} {ds : List AV} (hx : Pt rs x p j) (hat : At hs (.box p cs tb) f) (hy : opv rs y = some av) (h1 : TySz c.P t n) (h2 : CellsOf av ds) (h3 : OneL ds) (hn : ds.length = n) (hj : j + n ≤ cs.length) (k : WL c ops tl ⟨rs, f (.box p (spl cs j ds) tb)⟩ Q) : WL c ops (⟨none, .store t x y, ty, pos, af, none⟩ :: tl) ⟨rs, hs⟩ Q := wl_at0 (lt_store hx hy hn hj) hat k
end
inductive SubP : List HA → List HA → Prop
 | nil {hs : List HA} : SubP [] hs
 | cons {h : HA} {t hs r : List HA} (k : Rm hs h r) (m : SubP t r) : SubP (h :: t) hs
theorem SubP.ok {hs' hs : List HA} (k : SubP hs' hs) : ∀ {G F w}, hsP hs G F w → ∃ F1 F2, F.Perm (F1 ++ F2) ∧ hsP hs' G F1 w := by
 induction k with
 | nil => exact fun {G F w} _ => ⟨[], F, .refl _, rfl⟩
 | cons k m ih =>
  intro G F w h
  obtain ⟨F1, F2, e, h1, h2⟩ := k.sel h
  obtain ⟨F3, F4, e2, h3⟩ := ih h2
  exact ⟨F1 ++ F3, F4, e.trans ((e2.append_left F1).trans (by rw [List.append_assoc])), F1, F3, .refl _, h1, h3⟩
theorem st_sub2 {c : Cx} {rs rs' : List (Nat × AV)} {hs hs' : List HA} {a : Act} {w : World} (st : St c ⟨rs, hs⟩ a w) (h : SubR rs' rs) (k : SubP hs' hs) : St c ⟨rs', hs'⟩ a w := by
 obtain ⟨G, F, hI, hF, hR, r⟩ := st
 obtain ⟨F1, F2, e, h1⟩ := k.ok hI.hs
 exact ⟨G, F1, ⟨hI.gin, (List.nodup_append.1 (e.nodup_iff.1 hI.nd)).1, fun b hb => hI.own b (e.mem_iff.2 (by simp [hb])), h1⟩,
  ⟨hF.os, hF.tape, hF.output, hF.size, hF.same, fun b hb => hF.newF b (e.mem_iff.2 (by simp [hb])), hF.gle, hF.newG⟩, fun i av e => hR i av (h.ok i av e), r.1, r.2.sub fun b hb => e.mem_iff.2 (by simp [hb])⟩
end Go.Proofs.YthddoikmgpgakaaDoor.Sw
namespace Go.Proofs.YthddoikmgpgakaaDoor
def ltL : List Int → List Int → Bool
 | [], [] => false
 | [], _ :: _ => true
 | _ :: _, [] => false
 | a :: s, b :: t => if a = b then ltL s t else decide (a < b)
theorem ltL_cons (a b : Int) (s t : List Int) : ltL (a :: s) (b :: t) = if a = b then ltL s t else decide (a < b) := rfl
theorem ltL_same (a : Int) (s t : List Int) : ltL (a :: s) (a :: t) = ltL s t := by rw [ltL_cons, if_pos rfl]
theorem ltL_irrefl : ∀ a : List Int, ltL a a = false
 | [] => rfl
 | a :: s => by rw [ltL_same]; exact ltL_irrefl s
theorem ltL_trans : ∀ {a b c : List Int}, ltL a b = true → ltL b c = true → ltL a c = true
 | [], [], _, h, _ => by cases h
 | [], _ :: _, [], _, h => by cases h
 | [], _ :: _, _ :: _, _, _ => rfl
 | _ :: _, [], _, h, _ => by cases h
 | _ :: _, _ :: _, [], _, h => by cases h
 | a :: s, b :: t, c :: u, h, k => by
  rw [ltL_cons] at *
  split at h
  ·rename_i e; subst e
   split at k
   ·rename_i e; subst e; rw [if_pos rfl]; exact ltL_trans h k
   ·rename_i e; rw [if_neg e]; exact k
  ·rename_i e
   split at k
   ·rename_i e'; subst e'; rw [if_neg e]; exact h
   ·simp only [decide_eq_true_eq] at h k
    rw [if_neg (by omega)]; simp; omega
theorem ltL_tri : ∀ (a b : List Int), ltL a b = true ∨ a = b ∨ ltL b a = true
 | [], [] => .inr (.inl rfl)
 | [], _ :: _ => .inl rfl
 | _ :: _, [] => .inr (.inr rfl)
 | a :: s, b :: t => by
  rw [ltL_cons, ltL_cons]
  by_cases e : a = b
  ·subst e
   rw [if_pos rfl, if_pos rfl]
   rcases ltL_tri s t with h | h | h
   ·exact .inl h
   ·exact .inr (.inl (by rw [h]))
   ·exact .inr (.inr h)
  ·rw [if_neg e, if_neg (fun h => e h.symm)]
   simp only [decide_eq_true_eq]
   omega
theorem ltL_ne {a b : List Int} (h : ltL a b = true) : a ≠ b := fun e => by rw [e, ltL_irrefl] at h; cases h
def SrtL (L : List (List Int)) : Prop := L.Pairwise (fun a b => ltL a b = true)
theorem SrtL.nodup {L : List (List Int)} (h : SrtL L) : L.Nodup := List.Pairwise.imp (fun h => ltL_ne h) h
theorem sub_len {α : Type} {es ks : List α} (hn : es.Nodup) (hs : ∀ x ∈ es, x ∈ ks) : es.length ≤ ks.length := by
 induction es generalizing ks with
 | nil => simp
 | cons x r ih =>
  have hx : x ∈ ks := hs x (by simp)
  obtain ⟨s, t, rfl⟩ := List.append_of_mem hx
  have hn' := List.nodup_cons.1 hn
  have := ih hn'.2 (ks := s ++ t) (fun y hy => by
   have h1 := hs y (by simp [hy])
   rcases List.mem_append.1 h1 with h | h
   ·exact List.mem_append.2 (.inl h)
   ·rcases List.mem_cons.1 h with rfl | h
    ·exact absurd hy hn'.1
    ·exact List.mem_append.2 (.inr h))
  simp at this ⊢
  omega
theorem SrtL.ext : ∀ {L M : List (List Int)}, SrtL L → SrtL M → (∀ x, x ∈ L ↔ x ∈ M) → L = M
 | [], [], _, _, _ => rfl
 | [], m :: M, _, _, h => by have := (h m).2 (by simp); cases this
 | l :: L, [], _, _, h => by have := (h l).1 (by simp); cases this
 | l :: L, m :: M, hL, hM, h => by
  have hl := List.pairwise_cons.1 hL
  have hm := List.pairwise_cons.1 hM
  have e : l = m := by
   rcases List.mem_cons.1 ((h l).1 (by simp)) with e | h1
   ·exact e
   ·rcases List.mem_cons.1 ((h m).2 (by simp)) with e | h2
    ·exact e.symm
    ·have := ltL_trans (hl.1 m h2) (hm.1 l h1)
     rw [ltL_irrefl] at this; cases this
  subst e
  rw [SrtL.ext hl.2 hm.2 (fun x => ⟨fun hx => by
   rcases List.mem_cons.1 ((h x).1 (by simp [hx])) with e | h1
   ·subst e; have := hl.1 _ hx; rw [ltL_irrefl] at this; cases this
   ·exact h1, fun hx => by
   rcases List.mem_cons.1 ((h x).2 (by simp [hx])) with e | h1
   ·subst e; have := hm.1 _ hx; rw [ltL_irrefl] at this; cases this
   ·exact h1⟩)]
structure Fst (n : Nat) (P : List Int → Prop) (L : List (List Int)) : Prop where
 srt : SrtL L
 sub : ∀ x ∈ L, P x
 len : L.length ≤ n
 all : ∀ x, P x → x ∈ L ∨ (L.length = n ∧ ∀ y ∈ L, ltL y x = true)
theorem Fst.mem {n : Nat} {P : List Int → Prop} {L M : List (List Int)} (h : Fst n P L) (k : Fst n P M) : ∀ x ∈ L, x ∈ M := fun x hx => by
 rcases k.all x (h.sub x hx) with h1 | ⟨h1, h2⟩
 ·exact h1
 ·exfalso
  have hx' : x ∉ M := fun hm => by have := h2 x hm; rw [ltL_irrefl] at this; cases this
  have hs : ∀ y ∈ x :: M, y ∈ L := fun y hy => by
   rcases List.mem_cons.1 hy with rfl | hy
   ·exact hx
   ·rcases h.all y (k.sub y hy) with g | ⟨_, g⟩
    ·exact g
    ·have := ltL_trans (g x hx) (h2 y hy)
     rw [ltL_irrefl] at this; cases this
  have h3 := sub_len (List.nodup_cons.2 ⟨hx', k.srt.nodup⟩) hs
  have := h.len
  simp only [List.length_cons] at h3
  omega
theorem Fst.unique {n : Nat} {P : List Int → Prop} {L M : List (List Int)} (h : Fst n P L) (k : Fst n P M) : L = M :=
 SrtL.ext h.srt k.srt fun x => ⟨h.mem k x, k.mem h x⟩
theorem Fst.comb {n : Nat} {P C : List Int → Prop} {L : List (List Int)} (h : Fst n C L) (hs : ∀ x, C x → P x)
  (ha : ∀ x, P x → C x ∨ ∃ M, SrtL M ∧ M.length = n ∧ ∀ y ∈ M, C y ∧ ltL y x = true) : Fst n P L := by
 refine ⟨h.srt, fun x hx => hs x (h.sub x hx), h.len, fun x hx => ?_⟩
 rcases ha x hx with hc | ⟨M, hM, hl, hy⟩
 ·exact h.all x hc
 ·right
  have hle := h.len
  have hn : L.length = n := by
   by_cases e : L.length = n
   ·exact e
   ·exfalso
    have h1 := sub_len hM.nodup (ks := L) (fun y hm => (h.all y (hy y hm).1).resolve_right (fun g => e g.1))
    omega
  refine ⟨hn, fun y hyL => ?_⟩
  rcases ltL_tri y x with g | g | g
  ·exact g
  ·exfalso
   subst g
   have hnot : y ∉ M := fun hm => by have := (hy y hm).2; rw [ltL_irrefl] at this; cases this
   have h1 := sub_len (es := y :: M) (ks := L) (List.nodup_cons.2 ⟨hnot, hM.nodup⟩) (fun z hz => by
    rcases List.mem_cons.1 hz with rfl | hz
    ·exact hyL
    ·rcases h.all z (hy z hz).1 with g | ⟨_, g⟩
     ·exact g
     ·have := ltL_trans (g y hyL) (hy z hz).2
      rw [ltL_irrefl] at this; cases this)
   simp only [List.length_cons] at h1
   omega
  ·exfalso
   have hnot : y ∉ M := fun hm => by have := ltL_trans g (hy y hm).2; rw [ltL_irrefl] at this; cases this
   have h1 := sub_len (es := y :: M) (ks := L) (List.nodup_cons.2 ⟨hnot, hM.nodup⟩) (fun z hz => by
    rcases List.mem_cons.1 hz with rfl | hz
    ·exact hyL
    ·rcases h.all z (hy z hz).1 with g' | ⟨_, g'⟩
     ·exact g'
     ·have := ltL_trans (ltL_trans (g' y hyL) (hy z hz).2) g
      rw [ltL_irrefl] at this; cases this)
   simp only [List.length_cons] at h1
   omega
theorem Fst.nil (n : Nat) : Fst n (fun _ => False) [] := ⟨List.Pairwise.nil, fun _ h => (by cases h), Nat.zero_le _, fun _ h => h.elim⟩
theorem Fst.one {n : Nat} (hn : 1 ≤ n) (x : List Int) : Fst n (fun y => y = x) [x] := ⟨List.pairwise_singleton _ _, fun y h => by simpa using h, hn, fun y h => .inl (by simp [h])⟩
theorem Fst.iff {n : Nat} {P Q : List Int → Prop} {L : List (List Int)} (h : Fst n P L) (hq : ∀ x, P x ↔ Q x) : Fst n Q L :=
 ⟨h.srt, fun x hx => (hq x).1 (h.sub x hx), h.len, fun x hx => h.all x ((hq x).2 hx)⟩
theorem SrtL.take {L : List (List Int)} (h : SrtL L) (n : Nat) : SrtL (L.take n) := List.Pairwise.sublist (List.take_sublist n L) h
theorem Fst.take {n : Nat} {P : List Int → Prop} {L : List (List Int)} (hs : SrtL L) (hp : ∀ x, P x ↔ x ∈ L) : Fst n P (L.take n) := by
 refine ⟨hs.take n, fun x hx => (hp x).2 (List.mem_of_mem_take hx), by simp; omega, fun x hx => ?_⟩
 have hx' := (hp x).1 hx
 rw [← List.take_append_drop n L] at hx'
 rcases List.mem_append.1 hx' with h | h
 ·exact .inl h
 ·right
  have hne : n < L.length := by
   rcases Nat.lt_or_ge n L.length with h' | h'
   ·exact h'
   ·rw [List.drop_of_length_le h'] at h; cases h
  refine ⟨by simp; omega, fun y hy => ?_⟩
  have h2 := hs
  unfold SrtL at h2
  rw [← List.take_append_drop n L, List.pairwise_append] at h2
  exact h2.2.2 y hy x h
def putL (n : Nat) (L : List (List Int)) (x : List Int) : List (List Int) :=
 let a := L.takeWhile (fun y => ltL y x)
 if (L.drop a.length).head? = some x ∨ n ≤ a.length then L else (a ++ x :: L.drop a.length).take n
theorem put_parts {L : List (List Int)} (hs : SrtL L) (x : List Int) : ∃ a b, L = a ++ b ∧ L.takeWhile (fun y => ltL y x) = a ∧ L.drop a.length = b ∧ (∀ y ∈ a, ltL y x = true) ∧ ∀ y ∈ b, y = x ∨ ltL x y = true := by
 refine ⟨L.takeWhile (fun y => ltL y x), L.dropWhile (fun y => ltL y x), (List.takeWhile_append_dropWhile).symm, rfl, ?_, ?_, ?_⟩
 ·have := congrArg (List.drop (L.takeWhile (fun y => ltL y x)).length) (List.takeWhile_append_dropWhile (p := fun y => ltL y x) (l := L)).symm
  rw [this, List.drop_left]
 ·intro y hy; simpa using List.all_eq_true.1 (List.all_takeWhile) y hy
 ·intro y hy
  have h2 := hs
  unfold SrtL at h2
  cases hd : L.dropWhile (fun y => ltL y x) with
  | nil => rw [hd] at hy; cases hy
  | cons z t =>
   have hz : ltL z x = false := by
    have := List.head?_dropWhile_not (fun y => ltL y x) L
    rw [hd] at this
    simpa using this
   have hzx : z = x ∨ ltL x z = true := by
    rcases ltL_tri z x with g | g | g
    ·rw [hz] at g; cases g
    ·exact .inl g
    ·exact .inr g
   rw [hd] at hy
   rcases List.mem_cons.1 hy with rfl | hy
   ·exact hzx
   ·rw [← List.takeWhile_append_dropWhile (p := fun y => ltL y x) (l := L), hd, List.pairwise_append] at h2
    have h3 := (List.pairwise_cons.1 h2.2.1).1 y hy
    rcases hzx with e | g
    ·subst e; exact .inr h3
    ·exact .inr (ltL_trans g h3)
theorem Fst.put {n : Nat} {P : List Int → Prop} {L : List (List Int)} (h : Fst n P L) (x : List Int) : Fst n (fun y => P y ∨ y = x) (putL n L x) := by
 obtain ⟨a, b, hab, ha, hb, hax, hbx⟩ := put_parts h.srt x
 have hlen : L.length = a.length + b.length := by rw [hab, List.length_append]
 have hle := h.len
 unfold putL
 simp only [ha, hb]
 split
 ·rename_i hc
  refine ⟨h.srt, fun y hy => .inl (h.sub y hy), h.len, fun y hy => ?_⟩
  rcases hy with hy | rfl
  ·exact h.all y hy
  ·rcases hc with hc | hc
   ·left
    cases b with
    | nil => cases hc
    | cons z t =>
     have : z = y := by simpa using hc
     subst this
     rw [hab]; simp
   ·right
    have : b = [] := List.length_eq_zero_iff.1 (by omega)
    subst this
    rw [List.append_nil] at hab
    exact ⟨by omega, fun z hz => hax z (hab ▸ hz)⟩
 ·rename_i hc
  have hc1 : b.head? ≠ some x := fun e => hc (.inl e)
  have hc2 : a.length < n := by
   rcases Nat.lt_or_ge a.length n with g | g
   ·exact g
   ·exact absurd (.inr g) hc
  have hbx' : ∀ y ∈ b, ltL x y = true := fun y hy => by
   rcases hbx y hy with e | g
   ·subst e
    exfalso
    cases b with
    | nil => cases hy
    | cons z t =>
     rcases List.mem_cons.1 hy with e | hy'
     ·subst e; exact hc1 rfl
     ·have h2 := h.srt
      unfold SrtL at h2
      rw [hab, List.pairwise_append] at h2
      have h3 := (List.pairwise_cons.1 h2.2.1).1 y hy'
      rcases hbx z (by simp) with e | g
      ·subst e; exact hc1 rfl
      ·have := ltL_trans h3 g
       rw [ltL_irrefl] at this; cases this
   ·exact g
  have hs2 : SrtL (a ++ x :: b) := by
   have h2 := h.srt
   unfold SrtL at h2 ⊢
   rw [hab, List.pairwise_append] at h2
   rw [List.pairwise_append]
   exact ⟨h2.1, List.pairwise_cons.2 ⟨hbx', h2.2.1⟩, fun y hy z hz => by
    rcases List.mem_cons.1 hz with rfl | hz
    ·exact hax y hy
    ·exact h2.2.2 y hy z hz⟩
  refine ⟨hs2.take n, fun y hy => ?_, by simp; omega, fun y hy => ?_⟩
  ·have := List.mem_of_mem_take hy
   rcases List.mem_append.1 this with g | g
   ·exact .inl (h.sub y (by rw [hab]; simp [g]))
   ·rcases List.mem_cons.1 g with e | g
    ·exact .inr e
    ·exact .inl (h.sub y (by rw [hab]; simp [g]))
  ·have hin : y ∈ a ++ x :: b ∨ (L.length = n ∧ ∀ z ∈ L, ltL z y = true) := by
    rcases hy with hy | e
    ·rcases h.all y hy with g | g
     ·left; rw [hab] at g
      rcases List.mem_append.1 g with g | g <;> simp [g]
     ·exact .inr g
    ·left; simp [e]
   have hcut : ∀ m : List (List Int), SrtL m → y ∈ m → y ∈ m.take n ∨ ((m.take n).length = n ∧ ∀ z ∈ m.take n, ltL z y = true) := fun m hm hym => (Fst.take (n := n) (P := fun z => z ∈ m) hm (fun _ => Iff.rfl)).all y hym
   rcases hin with hin | ⟨g1, g2⟩
   ·exact hcut _ hs2 hin
   ·right
    have hbn : b ≠ [] := fun e => by subst e; simp at hlen; omega
    obtain ⟨z, t, rfl⟩ := List.exists_cons_of_ne_nil hbn
    have hxy : ltL x y = true := ltL_trans (hbx' z (by simp)) (g2 z (by rw [hab]; simp))
    refine ⟨by simp only [List.length_take, List.length_append, List.length_cons] at *; omega, fun u hu => ?_⟩
    have := List.mem_of_mem_take hu
    rcases List.mem_append.1 this with g | g
    ·exact g2 u (by rw [hab]; simp [g])
    ·rcases List.mem_cons.1 g with e | g
     ·subst e; exact hxy
     ·exact g2 u (by rw [hab]; simp [g])
end Go.Proofs.YthddoikmgpgakaaDoor
