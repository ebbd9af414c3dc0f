/- A range over an iterator that itself writes older memory (a memo): its contract names its own steps, `St`, which the caller's invariant must bear. -/
import Derived.RangeFuncNested
namespace Go.Proofs.YthddoikmgpgakaaDoor
open Go.RowKit Go

variable {F : Fence} {n : Nat} {P : Program}

/-- What the caller says bears the iterator's work. -/
def Bears {β : Type} (B : Nat) (St : World → World → Prop) (J : β → World → Prop) : Prop := OwnFrom B J ∧ ∀ s W W', J s W → St W W' → J s W'

theorem kf_up {B C : Nat} {X Y : World} (h : KeepsFrom B X Y) (hB : B ≤ C) : KeepsFrom C X Y := ⟨h.size, fun k o hk => h.same k o (by omega)⟩
theorem kf_put {B : Nat} (X : World) (l : Nat) (o : Obj) (hl : l < B) : KeepsFrom B X (X.putObj l o) := ⟨by simp, fun k o' hk h _ => (World.putObj_heap_other (by omega)).trans h⟩

/-- The contract of such an iterator. -/
def SeqX {α : Type} (F : Fence) (n : Nat) (P : Program) (g : Nat) (lb : Array Value) (encs : α → Array Value) (Kp St : World → World → Prop) (S Sp : List α → Prop) (N : Nat) (w : World) : Prop :=
  ∀ (l : Nat) (J Jx : List α → World → Prop) (W : World), Below w.heap.size w W → Bears W.heap.size St J → Bears W.heap.size St Jx →
    (∀ pre x W1, J pre W1 → pre.length < N → YieldAt F (n - 1) P l (encs x) W1 fun e W' =>
      KeepsFrom W.heap.size W1 W' ∧ ((e = .returned (.bool true) ∧ J (pre ++ [x]) W' ∧ Kp W1 W') ∨ (e = .returned (.bool false) ∧ Jx (pre ++ [x]) W'))) →
    J [] W →
    CallsIn F n P g (#[.func (.yield l) #[] #[]] ++ lb) W fun e W' => (∃ v, e = .returned v) ∧ ((∃ xs, S xs ∧ J xs W') ∨ (∃ pre, Sp pre ∧ Jx pre W'))

/-- The statement over such an iterator, outermost in its function. -/
theorem wpIn_range_X {α : Type} {g : Operand} {ps : Array Tmp} {assign body : Code} {Q : Exit → Act → World → Prop} {a : Act} {w : World}
    (hro : F.round = none) (h1 : 1 ≤ n) {gf : Nat} {lb : Array Value} (hg : a.eval g = .func (.func gf) #[] lb) (hFg : F.fn gf) (eg : ∀ args w, (callFunc gf args).run P w = .ok (.enter gf args) w)
    {encs : α → Array Value} {Kp St : World → World → Prop} {S Sp : List α → Prop} {N : Nat} {w0 : World} (hseq : SeqX F (n - 1) P gf lb encs Kp St S Sp N w0)
    (hKt : ∀ {A B C : World}, Kp A B → Kp B C → Kp A C) (hKb : ∀ (W : World) (l : Nat) (o o' : Obj), w.heap.size ≤ l → W.heap[l]? = some o → o.isCells = false → o.isWalk = false → Kp W (W.putObj l o')) (hb0 : Below w0.heap.size w0 w) (hps : ∀ x, (encs x).size = ps.size)
    (hSt : ∀ A B, St A B → KeepsFrom w.heap.size A B)
    (I : List α → World → Prop) (Ix : Code → List α → World → Prop) (hI : Bears w.heap.size St I) (hIx : ∀ c, Bears w.heap.size St (Ix c)) (h0 : I [] w) (Ax : α → Act → World → Prop) (hAx : ∀ x a', OwnFrom w.heap.size (fun (_ : Unit) W => Ax x a' W))
    (hassign : ∀ (l : Nat) (pre : List α) (x : α) (W : World) (K : Act → World → Prop), I pre W → (∀ a' W', KeepsFrom w.heap.size W W' → Kp W W' → I pre W' → Ax x a' W' → K a' W') →
      assign.wpIn (F.inRound l) (n - 1 - 1) P (Exit.then K (fun _ _ _ => False)) { tmps := (ps.zip (encs x)).foldl (fun t (p, v) => t.setIfInBounds p v) a.tmps, defers := [] } W)
    (hbody : ∀ (l : Nat) (pre : List α) (x : α) (a' : Act) (W : World), w.heap.size ≤ l → (∃ r, W.heap[l]? = some (.loop r)) → I pre W → Ax x a' W → pre.length < N → body.wpIn (F.inRound l) (n - 1 - 1) P (ownPostG w.heap.size Kp I Ix (pre ++ [x]) W) a' W)
    (hdone : ∀ (D : Nat) (xs : List α) (W : World), w.heap.size ≤ D → S xs → I xs W → W.heap[D]? = some (.deferred (some [])) → Q .normal { a with defers := { target := .collected D, args := #[] } :: a.defers } W)
    (hstop : ∀ (D : Nat) (c : Code) (pre : List α) (W : World), w.heap.size ≤ D → Sp pre → Ix c pre W → W.heap[D]? = some (.deferred (some [])) → c.wpIn F n P Q { a with defers := { target := .collected D, args := #[] } :: a.defers } W) :
    (Code.rangeFunc g ps assign body).wpIn F n P Q a w := by
  refine wpIn_rangeFunc fun fn hfn => ?_
  obtain ⟨z, hz⟩ : ∃ z, z = w.heap.size := ⟨_, rfl⟩
  let rec_ : LoopState → Option Code → Loop := fun s p => { state := s, pending := p, fn, tmps := a.tmps, params := ps, assign, body, defers := w.heap.size }
  -- what the law itself lays: the record, and the block for the rounds' deferred calls
  let Laid : LoopState → Option Code → World → Prop := fun s p W => W.heap[z + 1]? = some (.loop (rec_ s p)) ∧ W.heap[z]? = some (.deferred (some []))
  have start := Below.alloc (Below.refl w.heap.size w) (Nat.le_refl _) (.deferred (some []))
  have start2 : Below w.heap.size w ((w.alloc (.deferred (some []))).alloc (.loop (rec_ .ready none))) := start.alloc (by simp) _
  have laid0 : Laid .ready none ((w.alloc (.deferred (some []))).alloc (.loop (rec_ .ready none))) :=
    ⟨by have h := World.alloc_heap_new (w.alloc (.deferred (some []))) (.loop (rec_ .ready none)); rw [World.size_alloc] at h; rw [hz]; exact h,
     by rw [hz]; exact (Below.heap_alloc _ _ _ (by simp)).trans (World.alloc_heap_new w _)⟩
  have size0 : ((w.alloc (.deferred (some []))).alloc (.loop (rec_ .ready none))).heap.size = z + 2 := by simp [hz]
  have i0 : I [] ((w.alloc (.deferred (some []))).alloc (.loop (rec_ .ready none))) := hI.1.alloc _ (hI.1.alloc _ h0)
  have enter : (Instr.enterLoop fn a.tmps ps assign body F.round).run P w = .ok (z + 1, [{ target := .collected w.heap.size, args := #[] }]) ((w.alloc (.deferred (some []))).alloc (.loop (rec_ .ready none))) := by
    rw [hro, hz]; exact run_enterLoop_outer fn a.tmps ps assign body
  generalize ((w.alloc (.deferred (some []))).alloc (.loop (rec_ .ready none))) = W1 at start2 laid0 size0 i0 enter
  have laid_own : ∀ {s p A B row}, Laid s p A → A.grownBy B row → (∀ r, row = some r → z + 2 ≤ r) → Laid s p B := fun {s p A B row} hL hg hr =>
    ⟨(hg.block _ (Array.getElem?_eq_some_iff.1 hL.1).1 (fun e => by have := hr _ e.symm; omega)).trans hL.1, (hg.block _ (Array.getElem?_eq_some_iff.1 hL.2).1 (fun e => by have := hr _ e.symm; omega)).trans hL.2⟩
  have laid_keep : ∀ {s p A B}, Laid s p A → KeepsFrom w.heap.size A B → Laid s p B := fun hL hk => ⟨hk.same _ _ (by omega) hL.1 rfl, hk.same _ _ (by omega) hL.2 rfl⟩
  have laid_put : ∀ {s p s' p' A}, Laid s p A → Laid s' p' (A.putObj (z + 1) (.loop (rec_ s' p'))) := fun hL =>
    ⟨World.putObj_heap_same (Array.getElem?_eq_some_iff.1 hL.1).1, (World.putObj_heap_other (by omega)).trans hL.2⟩
  refine ⟨z + 1, _, W1, { target := .fn (.func gf) lb, args := #[.func (.yield (z + 1)) #[] #[]] }, W1, gf, #[.func (.yield (z + 1)) #[] #[]] ++ lb, W1, enter, ?_, ?_, ?_, fun _ => h1, ?_⟩
  · simp only [resolve, hg]; simp [go_sem]
  · intro f' hf'; simp [Target.leads] at hf'; subst hf'; exact hFg
  · simp [invoke, go_sem, eg]
  have bear : ∀ {J : List α → World → Prop} {s p}, Bears w.heap.size St J → Bears W1.heap.size St (fun pre W => J pre W ∧ Laid s p W) := fun {J s p} hJ =>
    ⟨fun _ A B row hs hg hr => ⟨hJ.1 _ A B row hs.1 hg (fun r e => ⟨by have := (hr r e).1; omega, (hr r e).2⟩), laid_own hs.2 hg (fun r e => by have := (hr r e).1; omega)⟩,
     fun _ A B hs hst => ⟨hJ.2 _ A B hs.1 hst, laid_keep hs.2 (hSt A B hst)⟩⟩
  have putI : ∀ {J : List α → World → Prop} {s p s' p' pre A}, Bears w.heap.size St J → J pre A → Laid s p A → J pre (A.putObj (z + 1) (.loop (rec_ s' p'))) := fun hJ hj hL => hJ.1.putObj _ hj (by omega) hL.1 rfl
  refine (hseq (z + 1) (fun pre W => I pre W ∧ Laid .ready none W) (fun pre W => ∃ c, Ix c pre W ∧ Laid .done (some c) W) W1 (hb0.trans (start2.mono hb0.size)) (bear hI)
    ⟨fun s A B row ⟨c, hs⟩ hg hr => ⟨c, (bear (hIx c)).1 s A B row hs hg hr⟩, fun s A B ⟨c, hs⟩ hst => ⟨c, (bear (hIx c)).2 s A B hs hst⟩⟩ ?_ ⟨i0, laid0⟩).mono ?_
  · rintro pre x W ⟨hi, hL⟩ hlen
    refine ⟨fn, _, assign, body, run_yield hL.1 (hps x), roundIn_of_wpIn hfn (hassign _ pre x W _ hi ?_)⟩
    intro a' Wa hka hkp hia hax
    have hLa := laid_keep hL hka
    refine ⟨_, run_beginRound hLa.1 rfl, ?_⟩
    have hLb : Laid .busy none (Wa.putObj (z + 1) (.loop (rec_ .busy none))) := laid_put hLa
    have hkb : Kp Wa (Wa.putObj (z + 1) (.loop (rec_ .busy none))) := hKb _ _ _ _ (by omega) hLa.1 rfl rfl
    refine wpIn_mono (hbody _ pre x a' _ (by omega) ⟨_, hLb.1⟩ (putI hI hia hLa) ((hAx x a').putObj (s := ()) _ hax (by omega) hLa.1 rfl) hlen) ?_
    have kept : ∀ W3 o, KeepsFrom w.heap.size (Wa.putObj (z + 1) (.loop (rec_ .busy none))) W3 → KeepsFrom W1.heap.size W (W3.putObj (z + 1) o) := fun W3 o h =>
      (kf_up hka (by omega)).trans ((kf_put _ _ _ (by omega)).trans ((kf_up h (by omega)).trans (kf_put _ _ _ (by omega))))
    have jump : ∀ c W3, KeepsFrom w.heap.size (Wa.putObj (z + 1) (.loop (rec_ .busy none))) W3 → Ix c (pre ++ [x]) W3 →
        ∃ v w', (Instr.endRound (z + 1) (some c)).run P W3 = .ok v w' ∧ KeepsFrom W1.heap.size W w' ∧ ((Ending.returned v = .returned (.bool true) ∧ (I (pre ++ [x]) w' ∧ Laid .ready none w') ∧ Kp W w') ∨ (Ending.returned v = .returned (.bool false) ∧ ∃ c, Ix c (pre ++ [x]) w' ∧ Laid .done (some c) w')) := fun c W3 hk3 hx3 => by
      have hL3 := laid_keep hLb hk3
      exact ⟨_, _, run_endRound (some c) hL3.1, kept W3 _ hk3, .inr ⟨rfl, c, putI (hIx c) hx3 hL3, laid_put hL3⟩⟩
    rintro e a3 W3 hp
    cases e with
    | normal =>
      obtain ⟨hk3, hkp3, hi3⟩ := hp
      have hL3 := laid_keep hLb hk3
      exact ⟨_, _, run_endRound none hL3.1, kept W3 _ hk3, .inl ⟨rfl, ⟨putI hI hi3 hL3, laid_put hL3⟩, hKt hkp (hKt hkb (hKt hkp3 (hKb _ _ _ _ (by omega) hL3.1 rfl rfl)))⟩⟩
    | ret => exact jump .ret W3 hp.1 hp.2
    | exit id => exact jump (.exit id) W3 hp.1 hp.2
    | goto t => exact jump (.goto t) W3 hp.1 hp.2
    | panic ch => exact hp.elim
    | outgrown => exact hp.elim
  · rintro e W2 ⟨⟨v, rfl⟩, h⟩
    have fin : ∀ {s p}, Laid s p W2 → s ≠ .busy → (Instr.endLoop (z + 1)).run P W2 = .ok p (W2.putObj (z + 1) (.loop (rec_ .exhausted p))) := fun hL hs => run_endLoop hL.1 hs
    rcases h with ⟨xs, hS, hi, hL⟩ | ⟨pre, hSp, c, hx, hL⟩
    · exact ⟨none, _, fin hL (fun e => by cases e), hdone _ xs _ (Nat.le_refl _) hS (putI hI hi hL) (by rw [← hz]; exact (laid_put (s' := .exhausted) (p' := none) hL).2)⟩
    · exact ⟨some c, _, fin hL (fun e => by cases e), hstop _ c pre _ (Nat.le_refl _) hSp (putI (hIx c) hx hL) (by rw [← hz]; exact (laid_put (s' := .exhausted) (p' := some c) hL).2)⟩

end Go.Proofs.YthddoikmgpgakaaDoor
