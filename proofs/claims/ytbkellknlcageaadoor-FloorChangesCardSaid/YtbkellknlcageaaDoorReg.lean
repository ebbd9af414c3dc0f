/- A region that draws its order: operations that yield their value in every world that meets S are taken first; S is asked only behind operations that can come up ahead of a held one. After Derived/OrdersHeld. -/
import Derived.Test.YtbkellknlcageaaDoorBase
import Derived.OrdersHeld
import Derived.Deep.RegionHeld
namespace Go.Proofs.YtbkellknlcageaaDoor
open Go.RowKit Go

section
variable {P : Program} {ops : Array Oper} {Q : Exit → Act → World → Prop} {S : World → Prop} {held : List Nat}

/-- Operation j waits for operation i by an edge of its own. -/
def waits (ops : Array Oper) (j i : Nat) : Bool := match ops[j]? with | some o => o.after.any fun e => Region.binds .any e && e.on == i | none => false
/-- Operation j waits for operation i, by at most f edges. -/
def anc (ops : Array Oper) : Nat → Nat → Nat → Bool
  | 0, _, _ => false
  | f + 1, j, i => waits ops j i || match ops[j]? with | some o => o.after.toList.any fun e => Region.binds .any e && anc ops f e.on i | none => false
/-- Operation j can come up ahead of a held one. -/
def needS (ops : Array Oper) (held : List Nat) (j : Nat) : Bool := held.any fun i => !anc ops 3 j i
/-- Whatever has come up, all that it waits for has come up. -/
def Closed (ops : Array Oper) (listed : Array Bool) : Prop := ∀ j o, ops[j]? = some o → listed.getD j false = true → ∀ e ∈ o.after, Region.binds .any e = true → listed.getD e.on false = true
def closedB (ops : Array Oper) (listed : Array Bool) : Bool := (List.range ops.size).all fun j => !listed.getD j false || match ops[j]? with | some o => o.after.toList.all fun e => !Region.binds .any e || listed.getD e.on false | none => true
theorem closed_of_B {listed : Array Bool} (h : closedB ops listed = true) : Closed ops listed := fun j o ho hj e he hb => by
  unfold closedB at h
  rw [List.all_eq_true] at h
  have h1 := h j (List.mem_range.2 (Array.getElem?_eq_some_iff.1 ho).1)
  simp only [hj, Bool.not_true, Bool.false_or, ho, List.all_eq_true] at h1
  have h2 := h1 e (Array.mem_toList_iff.2 he)
  simpa [hb] using h2
theorem getD_ft {listed : Array Bool} {i : Nat} (h : listed.getD i true = false) : listed.getD i false = false := by
  rcases Nat.lt_or_ge i listed.size with h' | h'
  · simpa [Array.getD, h'] using h
  · simp [Array.getD, Nat.not_lt.2 h'] at h
theorem anc_listed {listed : Array Bool} (hc : Closed ops listed) {i : Nat} : ∀ (f j : Nat) (o : Oper), ops[j]? = some o → (∀ e ∈ o.after, Region.binds .any e = true → listed.getD e.on false = true) → anc ops f j i = true → listed.getD i false = true
  | 0, _, _, _, _, h => by cases h
  | f + 1, j, o, ho, hp, h => by
    unfold anc waits at h
    simp only [ho, Bool.or_eq_true] at h
    rcases h with h | h
    · obtain ⟨e, he, h2⟩ := Array.any_eq_true'.1 h
      simp only [Bool.and_eq_true, beq_iff_eq] at h2
      rw [← h2.2]; exact hp e he h2.1
    · rw [List.any_eq_true] at h
      obtain ⟨e, he, h2⟩ := h
      simp only [Bool.and_eq_true] at h2
      have hl := hp e (Array.mem_toList_iff.1 he) h2.1
      cases hk : ops[e.on]? with
      | none => cases f <;> simp [anc, waits, hk] at h2
      | some o' => exact anc_listed hc f e.on o' hk (fun e' he' hb' => hc e.on o' hk hl e' he' hb') h2.2

/-- Operations that touch no memory. -/
def pureKind (o : Oper) : Bool := match o.op with
  | .move _ | .assign _ | .pick .. | .nilCheck _ | .binOp .. | .unOp .. | .convert .. | .fieldAddr .. | .field .. | .indexAddr .. | .index .. | .extract .. | .slice .. | .build .. | .makeFunc .. | .makeInterface .. => true
  | .call { callee := .builtin .len, .. } | .call { callee := .builtin .cap, .. } | .call { callee := .builtin .min, .. } | .call { callee := .builtin .max, .. } => true
  | _ => false
def still (ops : Array Oper) (held : List Nat) (i : Nat) : Bool := held.contains i || match ops[i]? with | some o => pureKind o | none => false
/-- What is asked behind an operation: it leaves the world as it is; or S, if it can come up ahead of a held one. -/
def Req (ops : Array Oper) (held : List Nat) (S : World → Prop) (i : Nat) (w w' : World) : Prop := if still ops held i = true then w' = w else (needS ops held i = true → S w')

def wpAnyF (P : Program) (ops : Array Oper) (Q : Exit → Act → World → Prop) (held : List Nat) (S : World → Prop) : Nat → Array Bool → Act → World → Prop
  | 0, listed, a, w => Region.ready .any ops listed = [] ∧ Q .normal a w
  | fuel + 1, listed, a, w =>
    (Region.ready .any ops listed = [] → Q .normal a w) ∧
    ∀ i ∈ Region.ready .any ops listed, wpOp P ops Q i (fun a' w' => Req ops held S i w w' ∧ wpAnyF P ops Q held S fuel (listed.setIfInBounds i true) a' w') a w

theorem wpAny_of_F : ∀ (fuel : Nat) (listed : Array Bool) (a : Act) (w : World), wpAnyF P ops Q held S fuel listed a w → wpAny P .any ops Q fuel listed a w
  | 0, _, _, _, h => h
  | fuel + 1, _, _, _, h => ⟨h.1, fun i hi => wpOp_mono (fun a' w' h' => wpAny_of_F fuel _ a' w' h'.2) (h.2 i hi)⟩

theorem wpAnyF_first {i : Nat} {oi : Oper} {v : Value} {S' : World → Prop} (hi : ops[i]? = some oi) (hsel : ∀ (j : Nat) (o : Oper) cs b, ops[j]? = some o → o.op ≠ .select cs b)
    (hQ : ∀ c a w, Q (.panic c) (a.put oi.dst v) w → Q (.panic c) a w)
    (hSS : ∀ j w w', j ≠ i → anc ops 3 j i = false → Req ops held S j w w' → S' w → S' w') (hst : still ops held i = true) :
    ∀ (fuel : Nat) (listed : Array Bool) (a : Act) (w : World), Closed ops listed →
      (∀ j oj, ops[j]? = some oj → j ≠ i → listed.getD j true = false → (∀ e ∈ oj.after, Region.binds .any e = true → e.on ≠ i) → oi.apart ops oj = true) →
      i ∈ Region.ready .any ops listed → YieldsIf P ops S' oi v a → S' w →
      wpAnyF P ops Q held S fuel (listed.setIfInBounds i true) (a.put oi.dst v) w → wpAnyF P ops Q held S (fuel + 1) listed a w := by
  intro fuel
  induction fuel with
  | zero =>
    intro listed a w _ _ hr hy hS H
    refine ⟨fun h => (by rw [h] at hr; cases hr), fun j hj => ?_⟩
    by_cases hji : j = i
    · subst hji; exact hy.wpOp hi hS ⟨by unfold Req; rw [if_pos hst], H⟩
    · have := ready_mono hj hji
      rw [H.1] at this
      cases this
  | succ fuel ih =>
    intro listed a w hcl hfree hr hy hS H
    refine ⟨fun h => (by rw [h] at hr; cases hr), fun j hj => ?_⟩
    by_cases hji : j = i
    · subst hji; exact hy.wpOp hi hS ⟨by unfold Req; rw [if_pos hst], H⟩
    · have h1 := H.2 j (ready_mono hj hji)
      obtain ⟨hjun, oj, hoj, hall⟩ := mem_ready.1 hj
      have hnot : ∀ e ∈ oj.after, Region.binds .any e = true → e.on ≠ i := fun e he hb heq => by
        have h1 := hall e he hb
        have h0 := (mem_ready.1 hr).1
        rw [heq] at h1
        rcases Nat.lt_or_ge i listed.size with h' | h'
        · simp [h'] at h0 h1; rw [h0] at h1; cases h1
        · simp [Array.getElem?_eq_none h'] at h1
      have hprs : ∀ e ∈ oj.after, Region.binds .any e = true → listed.getD e.on false = true := fun e he hb => hall e he hb
      have hw : anc ops 3 j i = false := by
        cases ha : anc ops 3 j i with
        | false => rfl
        | true =>
          have h1 := anc_listed hcl 3 j oj hoj hprs ha
          rw [getD_ft (mem_ready.1 hr).1] at h1
          cases h1
      have hcl' : Closed ops (listed.setIfInBounds j true) := fun k ok hok hk e he hb => by
        have hmono : ∀ x, listed.getD x false = true → (listed.setIfInBounds j true).getD x false = true := fun x hx => getD_set_true hx
        by_cases hkj : j = k
        · subst hkj
          rw [hoj] at hok; obtain rfl := Option.some.inj hok
          exact hmono _ (hprs e he hb)
        · rw [getD_set_ne false hkj] at hk
          exact hmono _ (hcl k ok hok hk e he hb)
      have h2 := wpOp_putIf hoj (hfree j oj hoj hji hjun hnot) (fun cs b => hsel i oi cs b hi) (fun cs b => hsel j oj cs b hoj) hQ hy h1
      have hfree' : ∀ k ok, ops[k]? = some ok → k ≠ i → (listed.setIfInBounds j true).getD k true = false →
          (∀ e ∈ ok.after, Region.binds .any e = true → e.on ≠ i) → oi.apart ops ok = true := fun k ok hk hki hun hno => by
        refine hfree k ok hk hki ?_ hno
        by_cases hjk : j = k
        · subst hjk; exact hjun
        · rw [getD_set_ne true hjk] at hun; exact hun
      refine wpOp_mono (fun a' w' h3 => ?_) h2
      have hS2 : S' w' := hSS j w w' hji hw h3.2.1 hS
      refine ⟨h3.2.1, ih (listed.setIfInBounds j true) a' w' hcl' hfree' (ready_mono hr (Ne.symm hji)) h3.1 hS2 ?_⟩
      rw [Array.setIfInBounds_comm _ _ hji]
      exact h3.2.2

/-- May operation i be taken now? (noSelect, free, ready; for one Bool.) -/
def takeOk (ops : Array Oper) (listed : Array Bool) (i : Nat) : Bool := closedB ops listed && Region.noSelect ops && Region.free .any ops listed i && (Region.ready .any ops listed).contains i

/-- TAKE a held operation. -/
theorem wpAnyF_held {i : Nat} {oi : Oper} {v : Value} {fuel : Nat} {listed : Array Bool} {a : Act} {w : World} (hi : ops[i]? = some oi)
    (hk : (takeOk ops listed i && held.contains i) = true) (hQ : ∀ c a w, Q (.panic c) (a.put oi.dst v) w → Q (.panic c) a w) (hS : S w) (hy : YieldsIf P ops S oi v a)
    (h : wpAnyF P ops Q held S fuel (listed.setIfInBounds i true) (a.put oi.dst v) w) : wpAnyF P ops Q held S (fuel + 1) listed a w := by
  simp only [takeOk, Bool.and_eq_true] at hk
  obtain ⟨⟨⟨⟨hc, hs⟩, hf⟩, hr⟩, hh⟩ := hk
  refine wpAnyF_first (S' := S) hi (Region.noSelect_spec hs) hQ (fun j w w' hji hw hn hS' => ?_) (by unfold still; rw [hh]; rfl) fuel listed a w (closed_of_B hc) (Region.free_spec hi hf) (by simpa using hr) hy hS h
  unfold Req at hn
  split at hn
  · rw [hn]; exact hS'
  · refine hn ?_
    unfold needS
    rw [List.any_eq_true]
    exact ⟨i, by simpa using hh, by simp [hw]⟩

/-- TAKE an operation that yields in whatever world. -/
theorem wpAnyF_pure {i : Nat} {oi : Oper} {v : Value} {fuel : Nat} {listed : Array Bool} {a : Act} {w : World} (hi : ops[i]? = some oi)
    (hk : (takeOk ops listed i && still ops held i) = true) (hQ : ∀ c a w, Q (.panic c) (a.put oi.dst v) w → Q (.panic c) a w) (hy : Yields P ops oi v a)
    (h : wpAnyF P ops Q held S fuel (listed.setIfInBounds i true) (a.put oi.dst v) w) : wpAnyF P ops Q held S (fuel + 1) listed a w := by
  simp only [takeOk, Bool.and_eq_true] at hk
  obtain ⟨⟨⟨⟨hc, hs⟩, hf⟩, hr⟩, hh⟩ := hk
  exact wpAnyF_first (S' := fun _ => True) hi (Region.noSelect_spec hs) hQ (fun _ _ _ _ _ _ _ => trivial) hh fuel listed a w (closed_of_B hc) (Region.free_spec hi hf) (by simpa using hr) (hy.imp (fun ⟨hw, hv⟩ => ⟨hw, fun w _ => hv w⟩) id) trivial h

theorem req_of {i : Nat} {w w' : World} (n : still ops held i = false) (h : needS ops held i = true → S w') : Req ops held S i w w' := by
  unfold Req; rw [if_neg (by rw [n]; intro h0; cases h0)]; exact h

/-- ONE operation alone can come up. -/
theorem wpAnyF_one {i : Nat} {oi : Oper} {fuel : Nat} {listed : Array Bool} {a : Act} {w : World} (hi : ops[i]? = some oi) (hr : Region.ready .any ops listed = [i] ∧ still ops held i = false)
    (h : ∀ K : Act → World → Prop, Shut (∀ a w, (needS ops held i = true → S w) → wpAnyF P ops Q held S fuel (listed.setIfInBounds i true) a w → K a w) → if Region.wanted oi (yielded ops a.tmps) = true then Oper.wp P oi a w K Q else K (a.put oi.dst undef) w) :
    wpAnyF P ops Q held S (fuel + 1) listed a w := by
  obtain ⟨hr, n1⟩ := hr
  refine ⟨fun h0 => (by rw [h0] at hr; cases hr), fun j hj => ?_⟩
  rw [hr, List.mem_singleton] at hj
  subst hj
  exact wpOp_step hi (fun K' hK => h K' (fun a w hS hW => hK a w ⟨req_of n1 hS, hW⟩))

/-- TWO operations can come up. -/
theorem wpAnyF_two {i j : Nat} {oi oj : Oper} {fuel : Nat} {listed : Array Bool} {a : Act} {w : World} (hi : ops[i]? = some oi) (hj : ops[j]? = some oj) (hr : Region.ready .any ops listed = [i, j] ∧ still ops held i = false ∧ still ops held j = false)
    (h : ∀ K : Act → World → Prop, Shut (∀ a w, (needS ops held i = true → S w) → wpAnyF P ops Q held S fuel (listed.setIfInBounds i true) a w → K a w) → if Region.wanted oi (yielded ops a.tmps) = true then Oper.wp P oi a w K Q else K (a.put oi.dst undef) w)
    (h2 : ∀ K : Act → World → Prop, Shut (∀ a w, (needS ops held j = true → S w) → wpAnyF P ops Q held S fuel (listed.setIfInBounds j true) a w → K a w) → if Region.wanted oj (yielded ops a.tmps) = true then Oper.wp P oj a w K Q else K (a.put oj.dst undef) w) :
    wpAnyF P ops Q held S (fuel + 1) listed a w := by
  obtain ⟨hr, n1, n2⟩ := hr
  refine ⟨fun h0 => (by rw [h0] at hr; cases hr), fun k hk => ?_⟩
  rw [hr] at hk
  rcases List.mem_cons.1 hk with rfl | hk
  · exact wpOp_step hi (fun K' hK => h K' (fun a w hS hW => hK a w ⟨req_of n1 hS, hW⟩))
  · rw [List.mem_singleton] at hk
    subst hk
    exact wpOp_step hj (fun K' hK => h2 K' (fun a w hS hW => hK a w ⟨req_of n2 hS, hW⟩))

/-- THREE operations can come up. -/
theorem wpAnyF_three {i j k : Nat} {oi oj ok : Oper} {fuel : Nat} {listed : Array Bool} {a : Act} {w : World} (hi : ops[i]? = some oi) (hj : ops[j]? = some oj) (hk : ops[k]? = some ok) (hr : Region.ready .any ops listed = [i, j, k] ∧ still ops held i = false ∧ still ops held j = false ∧ still ops held k = false)
    (h : ∀ K : Act → World → Prop, Shut (∀ a w, (needS ops held i = true → S w) → wpAnyF P ops Q held S fuel (listed.setIfInBounds i true) a w → K a w) → if Region.wanted oi (yielded ops a.tmps) = true then Oper.wp P oi a w K Q else K (a.put oi.dst undef) w)
    (h2 : ∀ K : Act → World → Prop, Shut (∀ a w, (needS ops held j = true → S w) → wpAnyF P ops Q held S fuel (listed.setIfInBounds j true) a w → K a w) → if Region.wanted oj (yielded ops a.tmps) = true then Oper.wp P oj a w K Q else K (a.put oj.dst undef) w)
    (h3 : ∀ K : Act → World → Prop, Shut (∀ a w, (needS ops held k = true → S w) → wpAnyF P ops Q held S fuel (listed.setIfInBounds k true) a w → K a w) → if Region.wanted ok (yielded ops a.tmps) = true then Oper.wp P ok a w K Q else K (a.put ok.dst undef) w) :
    wpAnyF P ops Q held S (fuel + 1) listed a w := by
  obtain ⟨hr, n1, n2, n3⟩ := hr
  refine ⟨fun h0 => (by rw [h0] at hr; cases hr), fun l hl => ?_⟩
  rw [hr] at hl
  rcases List.mem_cons.1 hl with rfl | hl
  · exact wpOp_step hi (fun K' hK => h K' (fun a w hS hW => hK a w ⟨req_of n1 hS, hW⟩))
  · rcases List.mem_cons.1 hl with rfl | hl
    · exact wpOp_step hj (fun K' hK => h2 K' (fun a w hS hW => hK a w ⟨req_of n2 hS, hW⟩))
    · rw [List.mem_singleton] at hl
      subst hl
      exact wpOp_step hk (fun K' hK => h3 K' (fun a w hS hW => hK a w ⟨req_of n3 hS, hW⟩))

/-- ALL have come up. -/
theorem wpAnyF_done {listed : Array Bool} {a : Act} {w : World} (hr : Region.ready .any ops listed = []) (h : Q .normal a w) :
    ∀ fuel, wpAnyF P ops Q held S fuel listed a w
  | 0 => ⟨hr, h⟩
  | _ + 1 => ⟨fun _ => h, by rw [hr]; simp⟩

theorem shutS {i fuel : Nat} {listed : Array Bool} {K : Act → World → Prop} (hK : Shut (∀ a w, (needS ops held i = true → S w) → wpAnyF P ops Q held S fuel (listed.setIfInBounds i true) a w → K a w)) {a : Act} {w : World} (hS : S w)
    (h : Hid (S w) → wpAnyF P ops Q held S fuel (listed.setIfInBounds i true) a w) : K a w := hK.out _ _ (fun _ => hS) (h hS)
theorem shutN {i fuel : Nat} {listed : Array Bool} {K : Act → World → Prop} (hK : Shut (∀ a w, (needS ops held i = true → S w) → wpAnyF P ops Q held S fuel (listed.setIfInBounds i true) a w → K a w)) {a : Act} {w : World} (hn : needS ops held i = false)
    (h : wpAnyF P ops Q held S fuel (listed.setIfInBounds i true) a w) : K a w := hK.out _ _ (fun h0 => by rw [hn] at h0; cases h0) h
/-- A piece of code that ends normally, with what is known then. -/
def NormP (R : Act → World → Prop) : Exit → Act → World → Prop
  | .normal, a, w => R a w
  | _, _, _ => False
/-- Forget how a world came about. -/
theorem wp_world {c : Code} {a : Act} {w : World} (T : World → Prop) (hT : T w) (h : ∀ w', T w' → c.wp P Q a w') : c.wp P Q a w := h w hT
theorem wp_post {c : Code} {a : Act} {w : World} (R : Act → World → Prop) (h : c.wp P (NormP R) a w) (h2 : ∀ a w, R a w → Q .normal a w) : c.wp P Q a w :=
  Code.wp_mono (fun e a w h => by cases e <;> first | exact h2 _ _ h | exact (h : False).elim) h

/-- THE BEGINNING. -/
theorem wp_region_F {id : Nat} {a : Act} {w : World} (held : List Nat) (S : World → Prop) (hm : P.follows .mixedOrders = true) (hS : S w.drew)
    (h : S w.drew → wpAnyF P ops Q held S ops.size (Array.replicate ops.size false) a w.drew) : (Code.region id ops true).wp P Q a w :=
  wp_region_any hm (wpAny_of_F _ _ _ _ (h hS))
end
end Go.Proofs.YtbkellknlcageaaDoor
