/- A region that draws its order, inside a fence that lets every function in (in a round of a loop over an iterator too): the laws of Reg over again, for a fenced walk; no operation is a deferred call. -/
import Derived.Test.YtbkellknlcageaaDoorReg
import Derived.OrdersIn
namespace Go.Proofs.YtbkellknlcageaaDoor
open Go.RowKit Go

section
variable {F : Fence} {n : Nat} {P : Program} {ops : Array Oper} {Q : Exit → Act → World → Prop} {S : World → Prop} {held : List Nat}

/-- The fence lets every function in. -/
def Wide (F : Fence) : Prop := ∀ f, F.fn f
theorem wide_wide : Wide Fence.wide := fun _ => trivial
theorem wide_round (l : Nat) : Wide (Fence.wide.inRound l) := fun _ => trivial

/-- Operation j waits for operation i, by at most f edges (an edge leads back in the text). -/
def ancP (ops : Array Oper) : Nat → Nat → Nat → Bool
  | 0, _, _ => false
  | f + 1, j, i => waits ops j i || match ops[j]? with | some o => o.after.toList.any fun e => decide (i < e.on) && (Region.binds .any e && ancP ops f e.on i) | none => false
theorem ancP_listed {listed : Array Bool} (hc : Closed ops listed) {i : Nat} : ∀ (f j : Nat) (o : Oper), ops[j]? = some o → (∀ e ∈ o.after, Region.binds .any e = true → listed.getD e.on false = true) → ancP ops f j i = true → listed.getD i false = true
  | 0, _, _, _, _, h => by cases h
  | f + 1, j, o, ho, hp, h => by
    unfold ancP waits at h
    simp only [ho, Bool.or_eq_true] at h
    rcases h with h | h
    · obtain ⟨e, he, h2⟩ := Array.any_eq_true'.1 h
      simp only [Bool.and_eq_true, beq_iff_eq] at h2
      rw [← h2.2]; exact hp e he h2.1
    · rw [List.any_eq_true] at h
      obtain ⟨e, he, h2⟩ := h
      simp only [Bool.and_eq_true] at h2
      have hl := hp e (Array.mem_toList_iff.1 he) h2.2.1
      cases hk : ops[e.on]? with
      | none => cases f <;> simp [ancP, waits, hk] at h2
      | some o' => exact ancP_listed hc f e.on o' hk (fun e' he' hb' => hc e.on o' hk hl e' he' hb') h2.2.2
def needG (ops : Array Oper) (held : List Nat) (j : Nat) : Bool := held.any fun i => !ancP ops 8 j i
/-- What is asked behind an operation: it leaves the world as it is; or S, if it can come up ahead of a held one. -/
def ReqG (ops : Array Oper) (held : List Nat) (S : World → Prop) (i : Nat) (w w' : World) : Prop := if still ops held i = true then w' = w else (needG ops held i = true → S w')

def noDefer (ops : Array Oper) : Bool := ops.toList.all fun o => match o.op with | .defer _ => false | _ => true
theorem noDefer_at {i : Nat} {o : Oper} (h : noDefer ops = true) (hi : ops[i]? = some o) : ∀ c, o.op ≠ .defer c := fun c e => by
  unfold noDefer at h
  rw [List.all_eq_true] at h
  have h1 := h o (by rw [Array.mem_toList_iff]; exact Array.mem_of_getElem? hi)
  rw [e] at h1
  cases h1

theorem wpOpIn_yields {i : Nat} {o : Oper} {v : Value} {a : Act} {K : Act → World → Prop} {w : World} {S' : World → Prop} (hF : Wide F) (hn : noDefer ops = true) (hi : ops[i]? = some o) (hy : YieldsIf P ops S' o v a)
    (hS : S' w) (h : K (a.put o.dst v) w) : wpOpIn F n P ops Q i K a w := by
  unfold Go.wpOpIn
  simp only [hi]
  rcases hy with ⟨hw, hv⟩ | ⟨hw, rfl⟩
  · simp only [hw, if_true, Oper.wpIn, Oper.semAt_eq F.round a.eval o (noDefer_at hn hi), hv w hS, Oper.uponIn]; exact ⟨fun f _ => hF f, h⟩
  · simp only [hw, Bool.false_eq_true, if_false]; exact ⟨fun f _ => hF f, h⟩

theorem wpOpIn_putIf {j : Nat} {oi oj : Oper} {v : Value} {S' : World → Prop} (hF : Wide F) (hn : noDefer ops = true) (hj : ops[j]? = some oj) (hap : oi.apart ops oj = true)
    (hsi : ∀ cs b, oi.op ≠ .select cs b) (hsj : ∀ cs b, oj.op ≠ .select cs b)
    (hQ : ∀ c a w, Q (.panic c) (a.put oi.dst v) w → Q (.panic c) a w) {K : Act → World → Prop} {a : Act} {w : World}
    (hy : YieldsIf P ops S' oi v a) (h : wpOpIn F n P ops Q j K (a.put oi.dst v) w) :
    wpOpIn F n P ops Q j (fun a' w' => YieldsIf P ops S' oi v a' ∧ K (a'.put oi.dst v) w') a w := by
  obtain ⟨h1, h2, h3⟩ := Oper.apart_spec hap
  have keep : ∀ (a : Act), YieldsIf P ops S' oi v a → ∀ u, YieldsIf P ops S' oi v (a.put oj.dst u) := fun a hy u =>
    hy.of_same (execOp_put oi hsi a oj.dst u h3) (wanted_put oi a oj.dst u h3)
  have keepD : ∀ d, YieldsIf P ops S' oi v { a with defers := d :: a.defers } := fun d => hy.of_same rfl rfl
  have hd := noDefer_at hn hj
  unfold wpOpIn at *
  simp only [hj] at *
  rw [wanted_put oj a oi.dst v h1] at h
  split
  · rename_i hw
    simp only [hw, if_true] at h
    unfold Oper.wpIn at *
    refine ⟨fun f _ => hF f, ?_⟩
    have h := h.2
    rw [Oper.semAt_eq F.round _ oj hd, execOp_put oj hsj a oi.dst v h1] at h
    rw [Oper.semAt_eq F.round _ oj hd]
    generalize (execOp a.eval oj).run P w = r at *
    cases r with
    | ok x w' =>
      cases x <;> simp only [Oper.uponIn] at h ⊢
      case value u => exact ⟨keep a hy u, by rw [← Act.put_comm a v u h2]; exact h⟩
      case skip => exact ⟨keep a hy _, by rw [← Act.put_comm a v undef h2]; exact h⟩
      case defer d =>
        refine ⟨keep _ (keepD d) _, ?_⟩
        rw [← Act.put_comm _ v undef h2, ← Act.put_defers]
        exact h
      case enter f args =>
        refine ⟨h.1, CallsIn.mono h.2 fun e w'' he => ?_⟩
        cases e with
        | returned u => exact ⟨keep a hy u, by rw [← Act.put_comm a v u h2]; exact he⟩
        | panicked c => exact hQ _ _ _ he
        | outgrown => exact he
      case row row args => exact ⟨h.1, RowsIn.mono h.2 fun u w'' he => ⟨keep a hy u, by rw [← Act.put_comm a v u h2]; exact he⟩⟩
      case round l f tmps assign body =>
        refine ⟨h.1, RoundIn.mono h.2 fun e w'' he => ?_⟩
        cases e with
        | returned u => exact ⟨keep a hy u, by rw [← Act.put_comm a v u h2]; exact he⟩
        | panicked c => exact hQ _ _ _ he
        | outgrown => exact he
    | halt x w' =>
      cases x <;> simp only [Oper.uponIn] at h ⊢
      case panic u => exact hQ _ _ _ h
  · rename_i hw
    simp only [hw] at h
    exact ⟨fun f _ => hF f, keep a hy _, by rw [← Act.put_comm a v undef h2]; exact h.2⟩

def wpAnyG (F : Fence) (n : Nat) (P : Program) (ops : Array Oper) (Q : Exit → Act → World → Prop) (held : List Nat) (S : World → Prop) : Nat → Array Bool → Act → World → Prop
  | 0, listed, a, w => Region.ready .any ops listed = [] ∧ Q .normal a w
  | fuel + 1, listed, a, w =>
    (Region.ready .any ops listed = [] → Q .normal a w) ∧
    ∀ i ∈ Region.ready .any ops listed, wpOpIn F n P ops Q i (fun a' w' => ReqG ops held S i w w' ∧ wpAnyG F n P ops Q held S fuel (listed.setIfInBounds i true) a' w') a w

theorem wpAnyIn_of_G : ∀ (fuel : Nat) (listed : Array Bool) (a : Act) (w : World), wpAnyG F n P ops Q held S fuel listed a w → wpAnyIn F n P .any ops Q fuel listed a w
  | 0, _, _, _, h => h
  | fuel + 1, _, _, _, h => ⟨h.1, fun i hi => wpOpIn_mono (fun a' w' h' => wpAnyIn_of_G fuel _ a' w' h'.2) (h.2 i hi)⟩

theorem wpAnyG_first {i : Nat} {oi : Oper} {v : Value} {S' : World → Prop} (hF : Wide F) (hn : noDefer ops = true) (hi : ops[i]? = some oi) (hsel : ∀ (j : Nat) (o : Oper) cs b, ops[j]? = some o → o.op ≠ .select cs b)
    (hQ : ∀ c a w, Q (.panic c) (a.put oi.dst v) w → Q (.panic c) a w)
    (hSS : ∀ j w w', j ≠ i → ancP ops 8 j i = false → ReqG ops held S j w w' → S' w → S' w') (hst : still ops held i = true) :
    ∀ (fuel : Nat) (listed : Array Bool) (a : Act) (w : World), Closed ops listed →
      (∀ j oj, ops[j]? = some oj → j ≠ i → listed.getD j true = false → (∀ e ∈ oj.after, Region.binds .any e = true → e.on ≠ i) → oi.apart ops oj = true) →
      i ∈ Region.ready .any ops listed → YieldsIf P ops S' oi v a → S' w →
      wpAnyG F n P ops Q held S fuel (listed.setIfInBounds i true) (a.put oi.dst v) w → wpAnyG F n P ops Q held S (fuel + 1) listed a w := by
  intro fuel
  induction fuel with
  | zero =>
    intro listed a w _ _ hr hy hS H
    refine ⟨fun h => (by rw [h] at hr; cases hr), fun j hj => ?_⟩
    by_cases hji : j = i
    · subst hji; exact wpOpIn_yields hF hn hi hy hS ⟨by unfold ReqG; rw [if_pos hst], H⟩
    · have := ready_mono hj hji
      rw [H.1] at this
      cases this
  | succ fuel ih =>
    intro listed a w hcl hfree hr hy hS H
    refine ⟨fun h => (by rw [h] at hr; cases hr), fun j hj => ?_⟩
    by_cases hji : j = i
    · subst hji; exact wpOpIn_yields hF hn hi hy hS ⟨by unfold ReqG; rw [if_pos hst], H⟩
    · have h1 := H.2 j (ready_mono hj hji)
      obtain ⟨hjun, oj, hoj, hall⟩ := mem_ready.1 hj
      have hnot : ∀ e ∈ oj.after, Region.binds .any e = true → e.on ≠ i := fun e he hb heq => by
        have h1 := hall e he hb
        have h0 := (mem_ready.1 hr).1
        rw [heq] at h1
        rcases Nat.lt_or_ge i listed.size with h' | h'
        · simp [h'] at h0 h1; rw [h0] at h1; cases h1
        · simp [Array.getElem?_eq_none h'] at h1
      have hprs : ∀ e ∈ oj.after, Region.binds .any e = true → listed.getD e.on false = true := fun e he hb => hall e he hb
      have hw : ancP ops 8 j i = false := by
        cases ha : ancP ops 8 j i with
        | false => rfl
        | true =>
          have h1 := ancP_listed hcl 8 j oj hoj hprs ha
          rw [getD_ft (mem_ready.1 hr).1] at h1
          cases h1
      have hcl' : Closed ops (listed.setIfInBounds j true) := fun k ok hok hk e he hb => by
        have hmono : ∀ x, listed.getD x false = true → (listed.setIfInBounds j true).getD x false = true := fun x hx => getD_set_true hx
        by_cases hkj : j = k
        · subst hkj
          rw [hoj] at hok; obtain rfl := Option.some.inj hok
          exact hmono _ (hprs e he hb)
        · rw [getD_set_ne false hkj] at hk
          exact hmono _ (hcl k ok hok hk e he hb)
      have h2 := wpOpIn_putIf hF hn hoj (hfree j oj hoj hji hjun hnot) (fun cs b => hsel i oi cs b hi) (fun cs b => hsel j oj cs b hoj) hQ hy h1
      have hfree' : ∀ k ok, ops[k]? = some ok → k ≠ i → (listed.setIfInBounds j true).getD k true = false →
          (∀ e ∈ ok.after, Region.binds .any e = true → e.on ≠ i) → oi.apart ops ok = true := fun k ok hk hki hun hno => by
        refine hfree k ok hk hki ?_ hno
        by_cases hjk : j = k
        · subst hjk; exact hjun
        · rw [getD_set_ne true hjk] at hun; exact hun
      refine wpOpIn_mono (fun a' w' h3 => ?_) h2
      have hS2 : S' w' := hSS j w w' hji hw h3.2.1 hS
      refine ⟨h3.2.1, ih (listed.setIfInBounds j true) a' w' hcl' hfree' (ready_mono hr (Ne.symm hji)) h3.1 hS2 ?_⟩
      rw [Array.setIfInBounds_comm _ _ hji]
      exact h3.2.2

def takeG (ops : Array Oper) (listed : Array Bool) (i : Nat) : Bool := noDefer ops && takeOk ops listed i

/-- TAKE a held operation. -/
theorem wpAnyG_held {i : Nat} {oi : Oper} {v : Value} {fuel : Nat} {listed : Array Bool} {a : Act} {w : World} (hF : Wide F) (hi : ops[i]? = some oi)
    (hk : (takeG ops listed i && held.contains i) = true) (hQ : ∀ c a w, Q (.panic c) (a.put oi.dst v) w → Q (.panic c) a w) (hS : S w) (hy : YieldsIf P ops S oi v a)
    (h : wpAnyG F n P ops Q held S fuel (listed.setIfInBounds i true) (a.put oi.dst v) w) : wpAnyG F n P ops Q held S (fuel + 1) listed a w := by
  simp only [takeG, takeOk, Bool.and_eq_true] at hk
  obtain ⟨⟨hn, ⟨⟨hc, hs⟩, hf⟩, hr⟩, hh⟩ := hk
  refine wpAnyG_first (S' := S) hF hn hi (Region.noSelect_spec hs) hQ (fun j w w' hji hw hn hS' => ?_) (by unfold still; rw [hh]; rfl) fuel listed a w (closed_of_B hc) (Region.free_spec hi hf) (by simpa using hr) hy hS h
  unfold ReqG at hn
  split at hn
  · rw [hn]; exact hS'
  · refine hn ?_
    unfold needG
    rw [List.any_eq_true]
    exact ⟨i, by simpa using hh, by simp [hw]⟩

/-- TAKE an operation that yields in whatever world. -/
theorem wpAnyG_pure {i : Nat} {oi : Oper} {v : Value} {fuel : Nat} {listed : Array Bool} {a : Act} {w : World} (hF : Wide F) (hi : ops[i]? = some oi)
    (hk : (takeG ops listed i && still ops held i) = true) (hQ : ∀ c a w, Q (.panic c) (a.put oi.dst v) w → Q (.panic c) a w) (hy : Yields P ops oi v a)
    (h : wpAnyG F n P ops Q held S fuel (listed.setIfInBounds i true) (a.put oi.dst v) w) : wpAnyG F n P ops Q held S (fuel + 1) listed a w := by
  simp only [takeG, takeOk, Bool.and_eq_true] at hk
  obtain ⟨⟨hn, ⟨⟨hc, hs⟩, hf⟩, hr⟩, hh⟩ := hk
  exact wpAnyG_first (S' := fun _ => True) hF hn hi (Region.noSelect_spec hs) hQ (fun _ _ _ _ _ _ _ => trivial) hh fuel listed a w (closed_of_B hc) (Region.free_spec hi hf) (by simpa using hr) (hy.imp (fun ⟨hw, hv⟩ => ⟨hw, fun w _ => hv w⟩) id) trivial h

theorem reqG_of {i : Nat} {w w' : World} (n : still ops held i = false) (h : needG ops held i = true → S w') : ReqG ops held S i w w' := by
  unfold ReqG; rw [if_neg (by rw [n]; intro h0; cases h0)]; exact h

/-- ONE operation alone can come up. -/
theorem wpAnyG_one {i : Nat} {oi : Oper} {fuel : Nat} {listed : Array Bool} {a : Act} {w : World} (hi : ops[i]? = some oi) (hr : Region.ready .any ops listed = [i] ∧ still ops held i = false)
    (h : ∀ K : Act → World → Prop, Shut (∀ a w, (needG ops held i = true → S w) → wpAnyG F n P ops Q held S fuel (listed.setIfInBounds i true) a w → K a w) → if Region.wanted oi (yielded ops a.tmps) = true then Oper.wpIn F n P oi a w K Q else (∀ f, oi.about P w a.eval = some f → F.fn f) ∧ K (a.put oi.dst undef) w) :
    wpAnyG F n P ops Q held S (fuel + 1) listed a w := by
  obtain ⟨hr, n1⟩ := hr
  refine ⟨fun h0 => (by rw [h0] at hr; cases hr), fun j hj => ?_⟩
  rw [hr, List.mem_singleton] at hj
  subst hj
  exact wpOpIn_step hi (fun K' hK => h K' (fun a w hS hW => hK a w ⟨reqG_of n1 hS, hW⟩))

/-- TWO operations can come up. -/
theorem wpAnyG_two {i j : Nat} {oi oj : Oper} {fuel : Nat} {listed : Array Bool} {a : Act} {w : World} (hi : ops[i]? = some oi) (hj : ops[j]? = some oj) (hr : Region.ready .any ops listed = [i, j] ∧ still ops held i = false ∧ still ops held j = false)
    (h : ∀ K : Act → World → Prop, Shut (∀ a w, (needG ops held i = true → S w) → wpAnyG F n P ops Q held S fuel (listed.setIfInBounds i true) a w → K a w) → if Region.wanted oi (yielded ops a.tmps) = true then Oper.wpIn F n P oi a w K Q else (∀ f, oi.about P w a.eval = some f → F.fn f) ∧ K (a.put oi.dst undef) w)
    (h2 : ∀ K : Act → World → Prop, Shut (∀ a w, (needG ops held j = true → S w) → wpAnyG F n P ops Q held S fuel (listed.setIfInBounds j true) a w → K a w) → if Region.wanted oj (yielded ops a.tmps) = true then Oper.wpIn F n P oj a w K Q else (∀ f, oj.about P w a.eval = some f → F.fn f) ∧ K (a.put oj.dst undef) w) :
    wpAnyG F n P ops Q held S (fuel + 1) listed a w := by
  obtain ⟨hr, n1, n2⟩ := hr
  refine ⟨fun h0 => (by rw [h0] at hr; cases hr), fun k hk => ?_⟩
  rw [hr] at hk
  rcases List.mem_cons.1 hk with rfl | hk
  · exact wpOpIn_step hi (fun K' hK => h K' (fun a w hS hW => hK a w ⟨reqG_of n1 hS, hW⟩))
  · rw [List.mem_singleton] at hk
    subst hk
    exact wpOpIn_step hj (fun K' hK => h2 K' (fun a w hS hW => hK a w ⟨reqG_of n2 hS, hW⟩))

/-- ALL have come up. -/
theorem wpAnyG_done {listed : Array Bool} {a : Act} {w : World} (hr : Region.ready .any ops listed = []) (h : Q .normal a w) :
    ∀ fuel, wpAnyG F n P ops Q held S fuel listed a w
  | 0 => ⟨hr, h⟩
  | _ + 1 => ⟨fun _ => h, by rw [hr]; simp⟩

theorem shutSG {i fuel : Nat} {listed : Array Bool} {K : Act → World → Prop} (hK : Shut (∀ a w, (needG ops held i = true → S w) → wpAnyG F n P ops Q held S fuel (listed.setIfInBounds i true) a w → K a w)) {a : Act} {w : World} (hS : S w)
    (h : Hid (S w) → wpAnyG F n P ops Q held S fuel (listed.setIfInBounds i true) a w) : K a w := hK.out _ _ (fun _ => hS) (h hS)
theorem shutNG {i fuel : Nat} {listed : Array Bool} {K : Act → World → Prop} (hK : Shut (∀ a w, (needG ops held i = true → S w) → wpAnyG F n P ops Q held S fuel (listed.setIfInBounds i true) a w → K a w)) {a : Act} {w : World} (hn : needG ops held i = false)
    (h : wpAnyG F n P ops Q held S fuel (listed.setIfInBounds i true) a w) : K a w := hK.out _ _ (fun h0 => by rw [hn] at h0; cases h0) h

/-- THE BEGINNING. -/
theorem wpIn_region_G {id : Nat} {a : Act} {w : World} (held : List Nat) (S : World → Prop) (hm : P.follows .mixedOrders = true) (hS : S w.drew)
    (h : S w.drew → wpAnyG F n P ops Q held S ops.size (Array.replicate ops.size false) a w.drew) : (Code.region id ops true).wpIn F n P Q a w :=
  wpIn_region_any hm (wpAnyIn_of_G _ _ _ _ (h hS))
/-- Forget how a world came about. -/
theorem wpIn_world {c : Code} {a : Act} {w : World} (T : World → Prop) (hT : T w) (h : ∀ w', T w' → c.wpIn F n P Q a w') : c.wpIn F n P Q a w := h w hT
theorem wpIn_post {c : Code} {a : Act} {w : World} (R : Act → World → Prop) (h : c.wpIn F n P (NormP R) a w) (h2 : ∀ a w, R a w → Q .normal a w) : c.wpIn F n P Q a w :=
  Go.wpIn_mono h (fun e a w h => by cases e <;> first | exact h2 _ _ h | exact (h : False).elim)
/-- A cut behind the first of two pieces of code. -/
theorem wpIn_cut {x y : Code} {a : Act} {w : World} (R : Act → World → Prop) (h : x.wpIn F n P (Exit.then R Q) a w) (h2 : ∀ a w, R a w → y.wpIn F n P Q a w) : (Code.seq x y).wpIn F n P Q a w :=
  wpIn_seq (Go.wpIn_mono h (fun e a w hq => by cases e <;> first | exact h2 _ _ hq | exact hq))
end
/-- Forget how a world came about. -/
theorem forget {K : Act → World → Prop} {a : Act} {w : World} (T : World → Prop) (hT : T w) (h : ∀ w', T w' → K a w') : K a w := h w hT
theorem acts_of {l : List Value} {n : Nat} {R : (Nat → Value) → Prop} (hl : l.length = n) (h : R (fun i => l.getD i (.bool false))) : ∃ f : Nat → Value, (⟨l.toArray, []⟩ : Act) = ⟨((List.range n).map f).toArray, []⟩ ∧ R f := by
  refine ⟨_, ?_, h⟩
  subst hl
  have e : l = (List.range l.length).map fun i => l.getD i (.bool false) := by
    refine List.ext_getElem (by simp) fun i h1 h2 => ?_
    simp [List.getD, List.getElem?_eq_getElem h1]
  rw [← e]
end Go.Proofs.YtbkellknlcageaaDoor
