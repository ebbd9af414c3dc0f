/- Proofs for the seat's cards: Keep, IterX, Marks, Row, Dist, Tri, Leaf, Check, Check2, Tl, Steps, Left, Ed. No condition of its own. -/
import Derived.RangeFuncNested
import Derived.RangeFuncLeaves
import Derived.OwnWalkIn
import Derived.Test.YthddoikmgpgakaaDoorProg
import Derived.Outline
import Derived.Shelf.Abstract
import Derived.Deep.QuietTactic
import Derived.BigQuiet
import Derived.Deep.RegionHeld3
import Derived.WalkSmall
import Derived.Laws.EntriesVeiled
import Derived.RangeFuncBound
import Derived.Shelf.RegionOpen
import Derived.TacticsInMore
import Derived.Sort.BigQuietIn
import Derived.LoopNIn
import Derived.LoopIn
import Derived.Test.YthddoikmgpgakaaDoorNa2
set_option linter.unusedVariables false
set_option linter.unusedSimpArgs false
set_option maxRecDepth 40000
set_option maxHeartbeats 32000000
namespace Go.Proofs.YthddoikmgpgakaaDoor
open Go.RowKit Go
structure Keep (Z : Nat → Prop) (w w' : World) : Prop where
 os : w'.os = w.os
 tape : w'.tape = w.tape
 output : w'.output = w.output
 size : w.heap.size ≤ w'.heap.size
 block : ∀ k, k < w.heap.size → Z k → w'.heap[k]? = w.heap[k]?
theorem Keep.refl (Z : Nat → Prop) (w : World) : Keep Z w w := ⟨rfl, rfl, rfl, Nat.le_refl _, fun _ _ _ => rfl⟩
theorem Keep.trans {Z : Nat → Prop} {a b c : World} (h : Keep Z a b) (k : Keep Z b c) : Keep Z a c :=
 ⟨k.os.trans h.os, k.tape.trans h.tape, k.output.trans h.output, Nat.le_trans h.size k.size, fun i hi hz => (k.block i (Nat.lt_of_lt_of_le hi h.size) hz).trans (h.block i hi hz)⟩
theorem Keep.mono {Z Z' : Nat → Prop} {w w' : World} (h : Keep Z w w') (hz : ∀ k, k < w.heap.size → Z' k → Z k) : Keep Z' w w' :=
 ⟨h.os, h.tape, h.output, h.size, fun k hk hz' => h.block k hk (hz k hk hz')⟩
theorem Keep.alloc {Z : Nat → Prop} {a b : World} (h : Keep Z a b) (o : Obj) : Keep Z a (b.alloc o) :=
 h.trans ⟨rfl, rfl, rfl, by simp, fun k hk _ => Below.heap_alloc b o k hk⟩
theorem Keep.drew {Z : Nat → Prop} {a b : World} (h : Keep Z a b) : Keep Z a b.drew := ⟨h.os, h.tape, h.output, h.size, h.block⟩
theorem Keep.setCell {Z : Nat → Prop} {a b : World} (h : Keep Z a b) (p : Addr) (v : Value) (hp : p.block < a.heap.size → ¬ Z p.block) : Keep Z a (b.setCell p v) :=
 ⟨h.os, h.tape, h.output, by show a.heap.size ≤ (b.heap.modify _ _).size; rw [Array.size_modify]; exact h.size, fun k hk hz => (Below.heap_setCell b p v k (fun e => hp (e ▸ hk) (e ▸ hz))).trans (h.block k hk hz)⟩
theorem Keep.grown {Z : Nat → Prop} {a b c : World} {row : Option Nat} (h : Keep Z a b) (hg : b.grownBy c row) (hr : ∀ r, row = some r → r < a.heap.size → ¬ Z r) : Keep Z a c :=
 ⟨hg.os.trans h.os, hg.tape.trans h.tape, hg.output.trans h.output, Nat.le_trans h.size hg.size, fun k hk hz => (hg.block k (Nat.lt_of_lt_of_le hk h.size) (fun e => hr k e.symm hk hz)).trans (h.block k hk hz)⟩
theorem Keep.putObj {Z : Nat → Prop} {a b : World} (h : Keep Z a b) (l : Nat) (o : Obj) (hl : l < a.heap.size → ¬ Z l) : Keep Z a (b.putObj l o) := h.grown (grownBy_putObj' b l o) (fun r e => by cases e; exact hl)
theorem Keep.of_below {Z : Nat → Prop} {a b : World} {B : Nat} (h : Below B a b) (hz : ∀ k, k < a.heap.size → Z k → k < B) : Keep Z a b := ⟨h.os, h.tape, h.output, h.size, fun k hk hz' => h.block k (hz k hk hz')⟩
theorem Keep.below {Z : Nat → Prop} {a b : World} {B : Nat} (h : Keep Z a b) (hz : ∀ k, k < B → Z k) (hB : B ≤ a.heap.size) : Below B a b := ⟨h.os, h.tape, h.output, h.size, fun k hk => h.block k (Nat.lt_of_lt_of_le hk hB) (hz k hk)⟩
theorem Keep.cell {Z : Nat → Prop} {w w' : World} (h : Keep Z w w') {b o : Nat} {v : Value} (hz : Z b) (hc : w.cell? ⟨b, o, none⟩ = some v) : w'.cell? ⟨b, o, none⟩ = some v :=
 (World.cell?_of_block (a := ⟨b, o, none⟩) (h.block b (cell_lt hc) hz)).trans hc
theorem Keep.box {Z : Nat → Prop} {w w' : World} (h : Keep Z w w') {b : Nat} {cs : Array Value} {t : TypeId} (hz : Z b) (hb : Box w b cs t) : Box w' b cs t := (h.block b hb.lt hz).trans hb
theorem Keep.pmap {Z : Nat → Prop} {w w' : World} (h : Keep Z w w') {b A B : Nat} {V : Nat → Nat → Value → Prop} (hz : Z b) (hb : PMap w b A B V) : PMap w' b A B V := hb.kept (h.block b hb.lt hz)
theorem Keep.rdI {Z : Nat → Prop} {w w' : World} (h : Keep Z w w') {a : Option Addr} {xs : List Int} (hz : xs ≠ [] → ∀ p, a = some p → Z p.block) (hr : RdI w a xs) : RdI w' a xs := fun i hi => by
 obtain ⟨b, o, ha, hc⟩ := hr i hi
 exact ⟨b, o, ha, h.cell (hz (List.ne_nil_of_length_pos (Nat.lt_of_le_of_lt (Nat.zero_le _) hi)) _ ha) hc⟩
theorem PMap.ne_cell {w : World} {b A B : Nat} {V : Nat → Nat → Value → Prop} (h : PMap w b A B V) {p : Addr} {v : Value} (hc : w.cell? p = some v) : p.block ≠ b := fun e => by
 obtain ⟨es, clock, h1, _⟩ := h
 unfold World.cell? at hc
 rw [e, h1] at hc
 cases hc
theorem PMap.ne_box {w : World} {b A B : Nat} {V : Nat → Nat → Value → Prop} (h : PMap w b A B V) {c : Nat} {cs : Array Value} {t : TypeId} (hb : Box w c cs t) : c ≠ b := fun e => by
 obtain ⟨es, clock, h1, _⟩ := h
 unfold Box at hb
 rw [e, h1] at hb
 cases hb
theorem PMap.ne_row {w : World} {b A B : Nat} {V : Nat → Nat → Value → Prop} (h : PMap w b A B V) {a : Option Addr} {xs : List Int} (hr : RdI w a xs) (hx : xs ≠ []) {p : Addr} (hp : a = some p) : p.block ≠ b := by
 have hl : 0 < xs.length := List.length_pos_iff.2 hx
 obtain ⟨b', o, ha, hc⟩ := hr 0 hl
 rw [hp] at ha
 cases ha
 exact h.ne_cell hc
variable {F : Fence} {n : Nat} {P : Program}
def Bears {β : Type} (B : Nat) (St : World → World → Prop) (J : β → World → Prop) : Prop := OwnFrom B J ∧ ∀ s W W', J s W → St W W' → J s W'
theorem kf_up {B C : Nat} {X Y : World} (h : KeepsFrom B X Y) (hB : B ≤ C) : KeepsFrom C X Y := ⟨h.size, fun k o hk => h.same k o (by omega)⟩
theorem kf_put {B : Nat} (X : World) (l : Nat) (o : Obj) (hl : l < B) : KeepsFrom B X (X.putObj l o) := ⟨by simp, fun k o' hk h _ => (World.putObj_heap_other (by omega)).trans h⟩
def SeqX {α : Type} (F : Fence) (n : Nat) (P : Program) (g : Nat) (lb : Array Value) (encs : α → Array Value) (Kp St : World → World → Prop) (S Sp : List α → Prop) (N : Nat) (w : World) : Prop :=
 ∀ (l : Nat) (J Jx : List α → World → Prop) (W : World), Below w.heap.size w W → Bears W.heap.size St J → Bears W.heap.size St Jx →
  (∀ pre x W1, J pre W1 → pre.length < N → YieldAt F (n - 1) P l (encs x) W1 fun e W' =>
   KeepsFrom W.heap.size W1 W' ∧ ((e = .returned (.bool true) ∧ J (pre ++ [x]) W' ∧ Kp W1 W') ∨ (e = .returned (.bool false) ∧ Jx (pre ++ [x]) W'))) →
  J [] W →
  CallsIn F n P g (#[.func (.yield l) #[] #[]] ++ lb) W fun e W' => (∃ v, e = .returned v) ∧ ((∃ xs, S xs ∧ J xs W') ∨ (∃ pre, Sp pre ∧ Jx pre W'))
theorem wpIn_range_X {α : Type} {g : Operand} {ps : Array Tmp} {assign body : Code} {Q : Exit → Act → World → Prop} {a : Act} {w : World}
  (hro : F.round = none) (h1 : 1 ≤ n) {gf : Nat} {lb : Array Value} (hg : a.eval g = .func (.func gf) #[] lb) (hFg : F.fn gf) (eg : ∀ args w, (callFunc gf args).run P w = .ok (.enter gf args) w)
  {encs : α → Array Value} {Kp St : World → World → Prop} {S Sp : List α → Prop} {N : Nat} {w0 : World} (hseq : SeqX F (n - 1) P gf lb encs Kp St S Sp N w0)
  (hKt : ∀ {A B C : World}, Kp A B → Kp B C → Kp A C) (hKb : ∀ (W : World) (l : Nat) (o o' : Obj), w.heap.size ≤ l → W.heap[l]? = some o → o.isCells = false → o.isWalk = false → Kp W (W.putObj l o')) (hb0 : Below w0.heap.size w0 w) (hps : ∀ x, (encs x).size = ps.size)
  (hSt : ∀ A B, St A B → KeepsFrom w.heap.size A B)
  (I : List α → World → Prop) (Ix : Code → List α → World → Prop) (hI : Bears w.heap.size St I) (hIx : ∀ c, Bears w.heap.size St (Ix c)) (h0 : I [] w) (Ax : α → Act → World → Prop) (hAx : ∀ x a', OwnFrom w.heap.size (fun (_ : Unit) W => Ax x a' W))
  (hassign : ∀ (l : Nat) (pre : List α) (x : α) (W : World) (K : Act → World → Prop), I pre W → (∀ a' W', KeepsFrom w.heap.size W W' → Kp W W' → I pre W' → Ax x a' W' → K a' W') →
   assign.wpIn (F.inRound l) (n - 1 - 1) P (Exit.then K (fun _ _ _ => False)) { tmps := (ps.zip (encs x)).foldl (fun t (p, v) => t.setIfInBounds p v) a.tmps, defers := [] } W)
  (hbody : ∀ (l : Nat) (pre : List α) (x : α) (a' : Act) (W : World), w.heap.size ≤ l → (∃ r, W.heap[l]? = some (.loop r)) → I pre W → Ax x a' W → pre.length < N → body.wpIn (F.inRound l) (n - 1 - 1) P (ownPostG w.heap.size Kp I Ix (pre ++ [x]) W) a' W)
  (hdone : ∀ (D : Nat) (xs : List α) (W : World), w.heap.size ≤ D → S xs → I xs W → W.heap[D]? = some (.deferred (some [])) → Q .normal { a with defers := { target := .collected D, args := #[] } :: a.defers } W)
  (hstop : ∀ (D : Nat) (c : Code) (pre : List α) (W : World), w.heap.size ≤ D → Sp pre → Ix c pre W → W.heap[D]? = some (.deferred (some [])) → c.wpIn F n P Q { a with defers := { target := .collected D, args := #[] } :: a.defers } W) :
  (Code.rangeFunc g ps assign body).wpIn F n P Q a w := by
 refine wpIn_rangeFunc fun fn hfn => ?_
 obtain ⟨z, hz⟩ : ∃ z, z = w.heap.size := ⟨_, rfl⟩
 let rec_ : LoopState → Option Code → Loop := fun s p => { state := s, pending := p, fn, tmps := a.tmps, params := ps, assign, body, defers := w.heap.size }
 -- what the law itself lays: the record, and the block for the rounds' deferred calls
 let Laid : LoopState → Option Code → World → Prop := fun s p W => W.heap[z + 1]? = some (.loop (rec_ s p)) ∧ W.heap[z]? = some (.deferred (some []))
 have start := Below.alloc (Below.refl w.heap.size w) (Nat.le_refl _) (.deferred (some []))
 have start2 : Below w.heap.size w ((w.alloc (.deferred (some []))).alloc (.loop (rec_ .ready none))) := start.alloc (by simp) _
 have laid0 : Laid .ready none ((w.alloc (.deferred (some []))).alloc (.loop (rec_ .ready none))) :=
  ⟨by have h := World.alloc_heap_new (w.alloc (.deferred (some []))) (.loop (rec_ .ready none)); rw [World.size_alloc] at h; rw [hz]; exact h,
   by rw [hz]; exact (Below.heap_alloc _ _ _ (by simp)).trans (World.alloc_heap_new w _)⟩
 have size0 : ((w.alloc (.deferred (some []))).alloc (.loop (rec_ .ready none))).heap.size = z + 2 := by simp [hz]
 have i0 : I [] ((w.alloc (.deferred (some []))).alloc (.loop (rec_ .ready none))) := hI.1.alloc _ (hI.1.alloc _ h0)
 have enter : (Instr.enterLoop fn a.tmps ps assign body F.round).run P w = .ok (z + 1, [{ target := .collected w.heap.size, args := #[] }]) ((w.alloc (.deferred (some []))).alloc (.loop (rec_ .ready none))) := by
  rw [hro, hz]; exact run_enterLoop_outer fn a.tmps ps assign body
 generalize ((w.alloc (.deferred (some []))).alloc (.loop (rec_ .ready none))) = W1 at start2 laid0 size0 i0 enter
 have laid_own : ∀ {s p A B row}, Laid s p A → A.grownBy B row → (∀ r, row = some r → z + 2 ≤ r) → Laid s p B := fun {s p A B row} hL hg hr =>
  ⟨(hg.block _ (Array.getElem?_eq_some_iff.1 hL.1).1 (fun e => by have := hr _ e.symm; omega)).trans hL.1, (hg.block _ (Array.getElem?_eq_some_iff.1 hL.2).1 (fun e => by have := hr _ e.symm; omega)).trans hL.2⟩
 have laid_keep : ∀ {s p A B}, Laid s p A → KeepsFrom w.heap.size A B → Laid s p B := fun hL hk => ⟨hk.same _ _ (by omega) hL.1 rfl, hk.same _ _ (by omega) hL.2 rfl⟩
 have laid_put : ∀ {s p s' p' A}, Laid s p A → Laid s' p' (A.putObj (z + 1) (.loop (rec_ s' p'))) := fun hL =>
  ⟨World.putObj_heap_same (Array.getElem?_eq_some_iff.1 hL.1).1, (World.putObj_heap_other (by omega)).trans hL.2⟩
 refine ⟨z + 1, _, W1, { target := .fn (.func gf) lb, args := #[.func (.yield (z + 1)) #[] #[]] }, W1, gf, #[.func (.yield (z + 1)) #[] #[]] ++ lb, W1, enter, ?_, ?_, ?_, fun _ => h1, ?_⟩
 ·simp only [resolve, hg]; simp [go_sem]
 ·intro f' hf'; simp [Target.leads] at hf'; subst hf'; exact hFg
 ·simp [invoke, go_sem, eg]
 have bear : ∀ {J : List α → World → Prop} {s p}, Bears w.heap.size St J → Bears W1.heap.size St (fun pre W => J pre W ∧ Laid s p W) := fun {J s p} hJ =>
  ⟨fun _ A B row hs hg hr => ⟨hJ.1 _ A B row hs.1 hg (fun r e => ⟨by have := (hr r e).1; omega, (hr r e).2⟩), laid_own hs.2 hg (fun r e => by have := (hr r e).1; omega)⟩,
   fun _ A B hs hst => ⟨hJ.2 _ A B hs.1 hst, laid_keep hs.2 (hSt A B hst)⟩⟩
 have putI : ∀ {J : List α → World → Prop} {s p s' p' pre A}, Bears w.heap.size St J → J pre A → Laid s p A → J pre (A.putObj (z + 1) (.loop (rec_ s' p'))) := fun hJ hj hL => hJ.1.putObj _ hj (by omega) hL.1 rfl
 refine (hseq (z + 1) (fun pre W => I pre W ∧ Laid .ready none W) (fun pre W => ∃ c, Ix c pre W ∧ Laid .done (some c) W) W1 (hb0.trans (start2.mono hb0.size)) (bear hI)
  ⟨fun s A B row ⟨c, hs⟩ hg hr => ⟨c, (bear (hIx c)).1 s A B row hs hg hr⟩, fun s A B ⟨c, hs⟩ hst => ⟨c, (bear (hIx c)).2 s A B hs hst⟩⟩ ?_ ⟨i0, laid0⟩).mono ?_
 ·rintro pre x W ⟨hi, hL⟩ hlen
  refine ⟨fn, _, assign, body, run_yield hL.1 (hps x), roundIn_of_wpIn hfn (hassign _ pre x W _ hi ?_)⟩
  intro a' Wa hka hkp hia hax
  have hLa := laid_keep hL hka
  refine ⟨_, run_beginRound hLa.1 rfl, ?_⟩
  have hLb : Laid .busy none (Wa.putObj (z + 1) (.loop (rec_ .busy none))) := laid_put hLa
  have hkb : Kp Wa (Wa.putObj (z + 1) (.loop (rec_ .busy none))) := hKb _ _ _ _ (by omega) hLa.1 rfl rfl
  refine wpIn_mono (hbody _ pre x a' _ (by omega) ⟨_, hLb.1⟩ (putI hI hia hLa) ((hAx x a').putObj (s := ()) _ hax (by omega) hLa.1 rfl) hlen) ?_
  have kept : ∀ W3 o, KeepsFrom w.heap.size (Wa.putObj (z + 1) (.loop (rec_ .busy none))) W3 → KeepsFrom W1.heap.size W (W3.putObj (z + 1) o) := fun W3 o h =>
   (kf_up hka (by omega)).trans ((kf_put _ _ _ (by omega)).trans ((kf_up h (by omega)).trans (kf_put _ _ _ (by omega))))
  have jump : ∀ c W3, KeepsFrom w.heap.size (Wa.putObj (z + 1) (.loop (rec_ .busy none))) W3 → Ix c (pre ++ [x]) W3 →
    ∃ v w', (Instr.endRound (z + 1) (some c)).run P W3 = .ok v w' ∧ KeepsFrom W1.heap.size W w' ∧ ((Ending.returned v = .returned (.bool true) ∧ (I (pre ++ [x]) w' ∧ Laid .ready none w') ∧ Kp W w') ∨ (Ending.returned v = .returned (.bool false) ∧ ∃ c, Ix c (pre ++ [x]) w' ∧ Laid .done (some c) w')) := fun c W3 hk3 hx3 => by
   have hL3 := laid_keep hLb hk3
   exact ⟨_, _, run_endRound (some c) hL3.1, kept W3 _ hk3, .inr ⟨rfl, c, putI (hIx c) hx3 hL3, laid_put hL3⟩⟩
  rintro e a3 W3 hp
  cases e with
  | normal =>
   obtain ⟨hk3, hkp3, hi3⟩ := hp
   have hL3 := laid_keep hLb hk3
   exact ⟨_, _, run_endRound none hL3.1, kept W3 _ hk3, .inl ⟨rfl, ⟨putI hI hi3 hL3, laid_put hL3⟩, hKt hkp (hKt hkb (hKt hkp3 (hKb _ _ _ _ (by omega) hL3.1 rfl rfl)))⟩⟩
  | ret => exact jump .ret W3 hp.1 hp.2
  | exit id => exact jump (.exit id) W3 hp.1 hp.2
  | goto t => exact jump (.goto t) W3 hp.1 hp.2
  | panic ch => exact hp.elim
  | outgrown => exact hp.elim
 ·rintro e W2 ⟨⟨v, rfl⟩, h⟩
  have fin : ∀ {s p}, Laid s p W2 → s ≠ .busy → (Instr.endLoop (z + 1)).run P W2 = .ok p (W2.putObj (z + 1) (.loop (rec_ .exhausted p))) := fun hL hs => run_endLoop hL.1 hs
  rcases h with ⟨xs, hS, hi, hL⟩ | ⟨pre, hSp, c, hx, hL⟩
  ·exact ⟨none, _, fin hL (fun e => by cases e), hdone _ xs _ (Nat.le_refl _) hS (putI hI hi hL) (by rw [← hz]; exact (laid_put (s' := .exhausted) (p' := none) hL).2)⟩
  ·exact ⟨some c, _, fin hL (fun e => by cases e), hstop _ c pre _ (Nat.le_refl _) hSp (putI (hIx c) hx hL) (by rw [← hz]; exact (laid_put (s' := .exhausted) (p' := some c) hL).2)⟩
end Go.Proofs.YthddoikmgpgakaaDoor
namespace Go.Proofs.YthddoikmgpgakaaDoor
open Go.RowKit Go
def Marks (B : Nat) (W : World) (ds : List Deferred) : Prop := ∃ Ds : List Nat, ds = Ds.map (fun D => ({ target := .collected D, args := #[] } : Deferred)) ∧ Ds.Nodup ∧ ∀ D ∈ Ds, B ≤ D ∧ W.heap[D]? = some (.deferred (some []))
theorem Marks.nil (B : Nat) (W : World) : Marks B W [] := ⟨[], rfl, List.nodup_nil, fun _ h => by cases h⟩
theorem Marks.kept {B : Nat} {W W' : World} {ds : List Deferred} (h : Marks B W ds) (k : ∀ D, B ≤ D → W.heap[D]? = some (.deferred (some [])) → W'.heap[D]? = some (.deferred (some []))) : Marks B W' ds := by
 obtain ⟨Ds, e, n, a⟩ := h
 exact ⟨Ds, e, n, fun D hD => ⟨(a D hD).1, k D (a D hD).1 (a D hD).2⟩⟩
theorem Marks.keep {B M : Nat} {W W' : World} {ds : List Deferred} (h : Marks B W ds) (k : Keep (· ≠ M) W W') (hM : M < B) : Marks B W' ds :=
 h.kept fun D hD hd => (k.block D (Array.getElem?_eq_some_iff.1 hd).1 (show D ≠ M by omega)).trans hd
theorem Marks.below {B : Nat} {W W' : World} {ds : List Deferred} (h : Marks B W ds) (k : Below W.heap.size W W') : Marks B W' ds :=
 h.kept fun D _ hd => (k.block D (Array.getElem?_eq_some_iff.1 hd).1).trans hd
theorem Marks.from {B C : Nat} {W W' : World} {ds : List Deferred} (h : Marks B W ds) (k : KeepsFrom C W W') (hC : C ≤ B) : Marks B W' ds :=
 h.kept fun D hD hd => k.same D _ (by omega) hd rfl
theorem Marks.set {B : Nat} {W : World} {ds : List Deferred} (h : Marks B W ds) (p : Addr) (v : Value) : Marks B (W.setCell p v) ds :=
 h.kept fun D _ hd => by
  unfold World.setCell
  simp only [Array.getElem?_modify]
  split
  ·rw [hd]; rfl
  ·exact hd
theorem Marks.cons {B D : Nat} {W W' : World} {ds : List Deferred} (h : Marks B W ds) (hs : W.heap.size ≤ D) (hD : B ≤ D) (k : ∀ D', B ≤ D' → D' < W.heap.size → W.heap[D']? = some (.deferred (some [])) → W'.heap[D']? = some (.deferred (some []))) (hd : W'.heap[D]? = some (.deferred (some []))) : Marks B W' ({ target := .collected D, args := #[] } :: ds) := by
 obtain ⟨Ds, e, n, a⟩ := h
 refine ⟨D :: Ds, by rw [e]; rfl, List.nodup_cons.2 ⟨fun hm => by have := (Array.getElem?_eq_some_iff.1 (a D hm).2).1; omega, n⟩, fun D' hD' => ?_⟩
 rcases List.mem_cons.1 hD' with rfl | hm
 ·exact ⟨hD, hd⟩
 ·exact ⟨(a D' hm).1, k D' (a D' hm).1 (Array.getElem?_eq_some_iff.1 (a D' hm).2).1 (a D' hm).2⟩
theorem box_quad {w : World} {b : Nat} {t : TypeId} {v0 v1 v2 v3 : Value} (h : Box w b #[v0, v1, v2, v3] t) :
  (w.cell? ⟨b, 0, none⟩ = some v0 ∧ w.cell? ⟨b, 1, none⟩ = some v1 ∧ w.cell? ⟨b, 2, none⟩ = some v2 ∧ w.cell? ⟨b, 3, none⟩ = some v3) ∧ (w.frozen? ⟨b, 0, none⟩ = false ∧ w.frozen? ⟨b, 1, none⟩ = false ∧ w.frozen? ⟨b, 2, none⟩ = false ∧ w.frozen? ⟨b, 3, none⟩ = false) ∧ b < w.heap.size :=
 ⟨⟨h.cell 0, h.cell 1, h.cell 2, h.cell 3⟩, ⟨h.frozen 0, h.frozen 1, h.frozen 2, h.frozen 3⟩, h.lt⟩
theorem own_ne' {w : World} {B b : Nat} {e t : TypeId} {size : Nat} {v : Value} {n : Nat} {xs : List Value} {cs : Array Value} (h : w.ownsRow B e size v n xs) (hb : Box w b cs t) (he : e ≠ t) : v.ownBlock ≠ some b := fun hv => by
 rcases h.2 with ⟨rfl, _⟩ | ⟨g, cap, cur, rfl, _, hg, _⟩
 ·cases hv
 ·simp only [Value.ownBlock, Option.some.injEq] at hv
  subst hv
  unfold Box at hb
  rw [hg] at hb
  simp at hb
  exact he hb.2
theorem acts_of' {l : List Value} {n : Nat} {R : (Nat → Value) → Prop} {ds : List Deferred} (hl : l.length = n) (h : R (fun i => l.getD i (.bool false))) : ∃ f : Nat → Value, (⟨l.toArray, ds⟩ : Act) = ⟨((List.range n).map f).toArray, ds⟩ ∧ R f := by
 obtain ⟨f, e, r⟩ := acts_of (R := R) hl h
 exact ⟨f, congrArg (fun a : Act => (⟨a.tmps, ds⟩ : Act)) e, r⟩
theorem own_kp' {Z : Nat → Prop} {w w' : World} {B : Nat} {e : TypeId} {size : Nat} {v : Value} {m : Nat} {ys : List Value} (o : w.ownsRow B e size v m ys) (h : Keep Z w w') (hz : ∀ g, v.ownBlock = some g → Z g) : w'.ownsRow B e size v m ys := by
 refine ⟨o.1, o.2.imp (fun x => x) ?_⟩
 rintro ⟨g, cap, cur, hv, hb, hh, r⟩
 refine ⟨g, cap, cur, hv, hb, ?_, r⟩
 exact (h.block g (Array.getElem?_eq_some_iff.1 hh).1 (hz g (by rw [hv]; rfl))).trans hh
def CellAt (W : World) (b : Nat) : Prop := ∃ o, W.heap[b]? = some o ∧ o.isCells = true
theorem Box.at_ {W : World} {b : Nat} {cs : Array Value} {t : TypeId} (h : Box W b cs t) : CellAt W b := ⟨_, h, rfl⟩
theorem cell_at {W : World} {p : Addr} {v : Value} (h : W.cell? p = some v) : CellAt W p.block := by
 unfold World.cell? at h
 split at h
 ·rename_i c e f hb
  exact ⟨_, hb, rfl⟩
 ·cases h
theorem rd_at {W : World} {a : Option Addr} {xs : List Int} (h : RdI W a xs) (hx : xs ≠ []) {p : Addr} (hp : a = some p) : CellAt W p.block := by
 obtain ⟨b, o, ha, hc⟩ := h 0 (List.length_pos_iff.2 hx)
 rw [hp] at ha
 cases ha
 exact cell_at hc
theorem own_at {w : World} {B : Nat} {e : TypeId} {size : Nat} {v : Value} {m : Nat} {ys : List Value} (o : w.ownsRow B e size v m ys) : ∀ g, v.ownBlock = some g → CellAt w g := fun g hg => by
 rcases o.2 with ⟨rfl, _⟩ | ⟨g', cap, cur, rfl, _, hh, _⟩
 ·cases hg
 ·simp only [Value.ownBlock, Option.some.injEq] at hg
  subst hg
  exact ⟨_, hh, rfl⟩
theorem map_not_cell {W : World} {M A B : Nat} {V : Nat → Nat → Value → Prop} (h : PMap W M A B V) {b : Nat} (hb : CellAt W b) : b ≠ M := fun e => by
 obtain ⟨es, clock, h1, _⟩ := h
 obtain ⟨o, ho, hc⟩ := hb
 rw [e, h1] at ho
 cases ho
 cases hc
theorem keep_of_grown {W W' : World} {row : Option Nat} (hg : W.grownBy W' row) : Keep (fun b => row ≠ some b) W W' := (Keep.refl _ _).grown hg (fun r e _ h => h e)
theorem cell_not_row {W : World} {row : Option Nat} (hr : ∀ r, row = some r → ∃ o : Obj, W.heap[r]? = some o ∧ o.isCells = false) {b : Nat} (hb : CellAt W b) : row ≠ some b := fun e => by
 obtain ⟨o, ho, hc⟩ := hr b e
 obtain ⟨o', ho', hc'⟩ := hb
 rw [ho] at ho'
 cases ho'
 rw [hc] at hc'
 cases hc'
theorem kf_below {B : Nat} {W W' : World} (h : Below W.heap.size W W') : KeepsFrom B W W' := ⟨h.size, fun k o _ hk _ => (h.block k (Array.getElem?_eq_some_iff.1 hk).1).trans hk⟩
theorem kf_own {B C : Nat} {w w' : World} {e : TypeId} {size : Nat} {v : Value} {m : Nat} {ys : List Value} (o : w.ownsRow C e size v m ys) (hg : w.grownBy w' v.ownBlock) : KeepsFrom B w w' :=
 ⟨hg.size, fun k ob _ hk hc => (hg.block k (Array.getElem?_eq_some_iff.1 hk).1 (fun e => by
  obtain ⟨o', ho', hc'⟩ := own_at o k e.symm
  rw [hk] at ho'
  cases ho'
  rw [hc] at hc'
  cases hc')).trans hk⟩
theorem stand {p : Prop} (h : Hid p) : p := h.out
theorem box_news {w : World} {b : Nat} {cs : Array Value} {t : TypeId} {l : List Value} (h : Box w b cs t) (hl : cs.toList = l) : ∀ ad, some (⟨b, 0, none⟩ : Addr) = some ad → ∀ j u, l[j]? = some u → w.cell? (ad.add j) = some u := fun ad e j u hj => by
 cases e
 have hadd : (⟨b, 0, none⟩ : Addr).add j = ⟨b, j, none⟩ := by unfold Addr.add; split <;> simp_all
 rw [hadd, h.cell j, ← hj, ← hl]
 simp
theorem anyW {P : Program} {ops : Array Oper} {Q : Exit → Act → World → Prop} {held : List Nat} {S : World → Prop} {fuel : Nat} {listed : Array Bool} {a : Act} {w : World} (T : World → Prop) (hT : T w) (h : ∀ w', T w' → wpAnyF P ops Q held S fuel listed a w') : wpAnyF P ops Q held S fuel listed a w := h w hT
theorem anyWG {F : Fence} {n : Nat} {P : Program} {ops : Array Oper} {Q : Exit → Act → World → Prop} {held : List Nat} {S : World → Prop} {fuel : Nat} {listed : Array Bool} {a : Act} {w : World} (T : World → Prop) (hT : T w) (h : ∀ w', T w' → wpAnyG F n P ops Q held S fuel listed a w') : wpAnyG F n P ops Q held S fuel listed a w := h w hT
theorem stepIn_append_any {F : Fence} {n0 : Nat} {P : Program} (w : World) {ops : Array Oper} {E : Prop} {o : Oper} {a : Act} {K : Act → World → Prop} {Q : Exit → Act → World → Prop} (hgd : o.guard = none) (s x : Operand) (t : TypeId)
  (ho : o.op = .call { callee := .builtin .append, args := #[s, x], argTypes := #[t, t] })
  (base : Nat) (e : TypeId) (i : TypeInfo) (z : Value) (size bytes : Nat) (ht : P.underlying t = some (.slice e)) (hi : P.info? e = some i) (hz : i.zero = some z)
  (hsize : i.size = size) (hby : i.bytes = bytes) (hzs : z.cells.size = size) (hsz : 0 < size)
  (v : Value) (n : Nat) (xs : List Value) (hs : a.eval s = v) (hown : w.ownsRow base e size v n xs)
  (ao : Option Addr) (m c : Nat) (news : List Value) (hx : a.eval x = .slice ao m c) (hl : news.length = m * size) (hnone : ao = none → m = 0) (hnews : ∀ ad, ao = some ad → ∀ j u, news[j]? = some u → w.cell? (ad.add j) = some u) (h1 : ∀ u ∈ news, u.oneCell' = true)
  (h63 : n + m ≤ 1000000) (hb : bytes ≤ 1000) (hbase : base ≤ w.heap.size)
  (h : ∀ a' c' w', w'.ownsRow base e size (.slice a' (n + m) c') (n + m) (xs ++ news) → w.grownBy w' v.ownBlock →
   ((Value.slice a' (n + m) c').ownBlock = v.ownBlock ∨ (Value.slice a' (n + m) c').ownBlock = some w.heap.size) → K (a.put o.dst (.slice a' (n + m) c')) w') : if Region.wanted o (yielded ops a.tmps) = true then o.wpIn F n0 P a w K Q else E := by
 rw [if_pos (by simp [Region.wanted, hgd])]
 obtain ⟨a', c', w', hr, h2, h3, h4⟩ := run_append_any (P := P) w base t o.type e i z size bytes ht hi hz hsize hby hzs hsz v n xs hown ao m c news hl hnone hnews h1 h63 hb hbase
 unfold Oper.wpIn
 refine ⟨by simp [Oper.about, ho, resolve, Target.leads, Sem.run_pure], ?_⟩
 rw [Oper.semAt_plain F _ _ (by rw [ho]; intro c hc'; cases hc')]
 simp [execOp, ho, resolve, invoke, builtin, hs, hx, hr, Result.andThen]
 exact h a' c' w' h2 h3 h4
section
variable {α : Type} {f : α → List Value} {n : Nat}
def rowC (f : α → List Value) (xs : List α) : List Value := xs.flatMap f
theorem rowC_append (xs ys : List α) : rowC f (xs ++ ys) = rowC f xs ++ rowC f ys := List.flatMap_append
theorem rowC_one (x : α) : rowC f [x] = f x := by simp [rowC]
theorem rowC_len (hf : ∀ x, (f x).length = n) (xs : List α) : (rowC f xs).length = xs.length * n := by
 induction xs with
 | nil => simp [rowC]
 | cons x xs ih =>
  have e : rowC f (x :: xs) = f x ++ rowC f xs := rfl
  rw [e, List.length_append, hf, ih, List.length_cons, Nat.succ_mul]; omega
theorem rowC_get (hf : ∀ x, (f x).length = n) (xs : List α) (i : Nat) (hi : i < xs.length) (j : Nat) (hj : j < n) : (rowC f xs)[i * n + j]? = (f xs[i])[j]? := by
 induction xs generalizing i with
 | nil => cases hi
 | cons x xs ih =>
  have e : rowC f (x :: xs) = f x ++ rowC f xs := rfl
  rw [e]
  cases i with
  | zero =>
   rw [Nat.zero_mul, Nat.zero_add, List.getElem?_append_left (by rw [hf]; exact hj)]
   rfl
  | succ i =>
   have e2 : (i + 1) * n + j = n + (i * n + j) := by rw [Nat.succ_mul]; omega
   rw [e2, List.getElem?_append_right (by rw [hf]; omega), hf, Nat.add_sub_cancel_left]
   exact ih i (by simpa using hi)
def RdX (f : α → List Value) (n : Nat) (w : World) (a : Option Addr) (xs : List α) : Prop := ∀ i (h : i < xs.length), ∃ b o, a = some ⟨b, o, none⟩ ∧ ∀ j v, (f xs[i])[j]? = some v → w.cell? ⟨b, o + i * n + j, none⟩ = some v
theorem RdX.nil (w : World) (a : Option Addr) : RdX f n w a [] := fun i hi => absurd hi (Nat.not_lt_zero _)
theorem RdX.below {w w' : World} {a : Option Addr} {xs : List α} (h : RdX f n w a xs) (hb : Below w.heap.size w w') : RdX f n w' a xs := fun i hi => by
 obtain ⟨b, o, ha, hc⟩ := h i hi
 exact ⟨b, o, ha, fun j v hj => (hb.cell (cell_lt (hc j v hj))).trans (hc j v hj)⟩
theorem RdX.alloc {w : World} {a : Option Addr} {xs : List α} (h : RdX f n w a xs) (o : Obj) : RdX f n (w.alloc o) a xs := h.below ((Below.refl _ _).alloc (Nat.le_refl _) _)
theorem RdX.drew {w : World} {a : Option Addr} {xs : List α} (h : RdX f n w a xs) : RdX f n w.drew a xs := h
theorem RdX.keep {Z : Nat → Prop} {w w' : World} {a : Option Addr} {xs : List α} (h : RdX f n w a xs) (k : Keep Z w w') (hz : ∀ b, CellAt w b → Z b) : RdX f n w' a xs := fun i hi => by
 obtain ⟨b, o, ha, hc⟩ := h i hi
 exact ⟨b, o, ha, fun j v hj => k.cell (hz b (cell_at (hc j v hj))) (hc j v hj)⟩
theorem RdX.of_own (hf : ∀ x, (f x).length = n) (hn : 0 < n) {w : World} {B : Nat} {e : TypeId} {a : Option Addr} {m c : Nat} {xs : List α} (h : w.ownsRow B e n (.slice a m c) m (rowC f xs)) : RdX f n w a xs := fun i hi => by
 have hl : xs.length * n = m * n := by rw [← rowC_len hf]; exact h.1
 rcases h.2 with ⟨h', h0⟩ | ⟨g, cap, cur, h', _, hg, _, _, _, htake⟩
 ·simp only [Value.slice.injEq] at h'
  obtain ⟨rfl, hm, rfl⟩ := h'
  subst hm
  simp only [Nat.zero_mul] at hl
  rcases Nat.mul_eq_zero.1 hl with h1 | h1 <;> omega
 ·simp only [Value.slice.injEq] at h'
  obtain ⟨rfl, _, rfl⟩ := h'
  refine ⟨g, 0, rfl, fun j v hj => ?_⟩
  have hjn : j < n := by
   have := (List.getElem?_eq_some_iff.1 hj).1
   rwa [hf] at this
  have hlt : i * n + j < m * n := by
   rw [← hl]
   calc i * n + j < i * n + n := by omega
    _ = (i + 1) * n := (Nat.succ_mul i n).symm
    _ ≤ xs.length * n := Nat.mul_le_mul_right n hi
  rw [Nat.add_assoc, cell_of_row w g (0 + (i * n + j)) cur e (0, 0) hg]
  have h1 : (cur.toList.take (m * n))[i * n + j]? = some v := by rw [htake, rowC_get hf xs i hi j hjn]; exact hj
  rw [List.getElem?_take, if_pos hlt] at h1
  simpa using h1
end
def spC (s : Int × Int) : List Value := [.int .i64 s.1, .int .i64 s.2]
theorem spC_len (s : Int × Int) : (spC s).length = 2 := rfl
end Go.Proofs.YthddoikmgpgakaaDoor
namespace Go.Proofs.YthddoikmgpgakaaDoor
def dist : List Int → List Int → Nat
 | [], b => b.length
 | x :: a, [] => (x :: a).length
 | x :: a, y :: b => min (dist a b + (if x = y then 0 else 1)) (min (dist a (y :: b) + 1) (dist (x :: a) b + 1))
termination_by a b => a.length + b.length
theorem dist_nil (b : List Int) : dist [] b = b.length := by rw [dist]
theorem dist_nil' (a : List Int) : dist a [] = a.length := by cases a <;> rw [dist] <;> rfl
theorem dist_cons (x y : Int) (a b : List Int) : dist (x :: a) (y :: b) = min (dist a b + (if x = y then 0 else 1)) (min (dist a (y :: b) + 1) (dist (x :: a) b + 1)) := by
 rw [dist]
theorem dist_left (x : Int) (a b : List Int) : dist (x :: a) b ≤ dist a b + 1 := by
 cases b with
 | nil => rw [dist_nil', dist_nil']; simp
 | cons y b => rw [dist_cons]; omega
theorem dist_right (y : Int) (a b : List Int) : dist a (y :: b) ≤ dist a b + 1 := by
 cases a with
 | nil => rw [dist_nil, dist_nil]; simp
 | cons x a => rw [dist_cons]; omega
theorem dist_both (x y : Int) (a b : List Int) : dist (x :: a) (y :: b) ≤ dist a b + (if x = y then 0 else 1) := by
 rw [dist_cons]; omega
theorem dist_le (a b : List Int) : dist a b ≤ a.length + b.length := by
 induction a with
 | nil => rw [dist_nil]; simp
 | cons x a ih => have := dist_left x a b; simp only [List.length_cons]; omega
theorem dist_append (c d : List Int) : ∀ (a b : List Int), dist (a ++ c) (b ++ d) ≤ dist a b + dist c d
 | [], b => by
  rw [dist_nil, List.nil_append]
  induction b with
  | nil => simp
  | cons y b ih => have := dist_right y c (b ++ d); simp only [List.length_cons, List.cons_append]; omega
 | x :: a, [] => by
  have h := dist_append c d a []
  have := dist_left x (a ++ c) ([] ++ d)
  rw [dist_nil'] at h ⊢
  simp only [List.length_cons, List.cons_append] at *
  omega
 | x :: a, y :: b => by
  have h1 := dist_append c d a b
  have h2 := dist_append c d a (y :: b)
  have h3 := dist_append c d (x :: a) b
  have g1 := dist_both x y (a ++ c) (b ++ d)
  have g2 := dist_left x (a ++ c) (y :: (b ++ d))
  have g3 := dist_right y (x :: (a ++ c)) (b ++ d)
  rw [dist_cons]
  simp only [List.cons_append] at *
  omega
termination_by a b => a.length + b.length
theorem dist_split : ∀ (a b : List Int) (i : Nat), i ≤ a.length → ∃ k, k ≤ b.length ∧ dist (a.take i) (b.take k) + dist (a.drop i) (b.drop k) ≤ dist a b
 | a, b, 0, _ => ⟨0, Nat.zero_le _, by simp [dist_nil]⟩
 | [], b, i + 1, h => absurd h (by simp)
 | x :: a, [], i + 1, h => ⟨0, Nat.le_refl _, by
   simp only [List.length_cons] at h
   simp only [List.take_nil, List.drop_nil, dist_nil', List.take_succ_cons, List.drop_succ_cons, List.length_cons, List.length_take, List.length_drop]; omega⟩
 | x :: a, y :: b, i + 1, h => by
  have h' : i ≤ a.length := by simpa using h
  rw [dist_cons]
  have e : ∀ p q r : Nat, min p (min q r) = p ∨ min p (min q r) = q ∨ min p (min q r) = r := by intro p q r; omega
  rcases e (dist a b + (if x = y then 0 else 1)) (dist a (y :: b) + 1) (dist (x :: a) b + 1) with q | q | q
  ·obtain ⟨k, hk, hd⟩ := dist_split a b i h'
   refine ⟨k + 1, by simpa using hk, ?_⟩
   have := dist_both x y (a.take i) (b.take k)
   rw [q]; simp only [List.take_succ_cons, List.drop_succ_cons]; omega
  ·obtain ⟨k, hk, hd⟩ := dist_split a (y :: b) i h'
   refine ⟨k, hk, ?_⟩
   have := dist_left x (a.take i) ((y :: b).take k)
   rw [q]; simp only [List.take_succ_cons, List.drop_succ_cons]; omega
  ·obtain ⟨k, hk, hd⟩ := dist_split (x :: a) b (i + 1) h
   refine ⟨k + 1, by simpa using hk, ?_⟩
   have := dist_right y ((x :: a).take (i + 1)) (b.take k)
   rw [q]; simp only [List.take_succ_cons, List.drop_succ_cons] at *; omega
termination_by a b => a.length + b.length
theorem dist_cut (a b : List Int) (i k : Nat) : dist a b ≤ dist (a.take i) (b.take k) + dist (a.drop i) (b.drop k) := by
 have := dist_append (a.drop i) (b.drop k) (a.take i) (b.take k)
 rwa [List.take_append_drop, List.take_append_drop] at this
theorem dist_drop {a b : List Int} {i k : Nat} (hi : i < a.length) (hk : k < b.length) :
  dist (a.drop i) (b.drop k) = min (dist (a.drop (i + 1)) (b.drop (k + 1)) + (if a[i] = b[k] then 0 else 1)) (min (dist (a.drop (i + 1)) (b.drop k) + 1) (dist (a.drop i) (b.drop (k + 1)) + 1)) := by
 rw [List.drop_eq_getElem_cons hi, List.drop_eq_getElem_cons hk, dist_cons]
theorem dist_end {a b : List Int} {i k : Nat} (h : a.length ≤ i ∨ b.length ≤ k) : dist (a.drop i) (b.drop k) = (a.length - i) + (b.length - k) := by
 rcases h with h | h
 ·rw [List.drop_of_length_le h, dist_nil, List.length_drop]; omega
 ·rw [List.drop_of_length_le h, dist_nil', List.length_drop]; omega
theorem dist_view_r (x : Int) (a b : List Int) : dist a (x :: b) = dist a b + 1 ∨ ∃ y a', a = y :: a' ∧ (dist a (x :: b) = dist a' (x :: b) + 1 ∨ dist a (x :: b) = dist a' b + (if y = x then 0 else 1)) := by
 cases a with
 | nil => left; rw [dist_nil, dist_nil]; rfl
 | cons y a' =>
  rw [dist_cons]
  by_cases h1 : dist (y :: a') b + 1 ≤ min (dist a' b + (if y = x then 0 else 1)) (dist a' (x :: b) + 1)
  ·left; omega
  ·right
   refine ⟨y, a', rfl, ?_⟩
   omega
theorem dist_view_l (x : Int) (b c : List Int) : dist (x :: b) c = dist b c + 1 ∨ ∃ z c', c = z :: c' ∧ (dist (x :: b) c = dist (x :: b) c' + 1 ∨ dist (x :: b) c = dist b c' + (if x = z then 0 else 1)) := by
 cases c with
 | nil => left; rw [dist_nil', dist_nil']; rfl
 | cons z c' =>
  rw [dist_cons]
  by_cases h1 : dist b (z :: c') + 1 ≤ min (dist b c' + (if x = z then 0 else 1)) (dist (x :: b) c' + 1)
  ·left; omega
  ·right
   refine ⟨z, c', rfl, ?_⟩
   omega
theorem ite_tri (a b c : Int) : (if a = c then 0 else 1 : Nat) ≤ (if a = b then 0 else 1) + (if b = c then 0 else 1) := by
 by_cases h1 : a = b <;> by_cases h2 : b = c <;> by_cases h3 : a = c <;> simp_all
theorem dist_tri : ∀ (n : Nat) (a b c : List Int), a.length + b.length + c.length ≤ n → dist a c ≤ dist a b + dist b c
 | 0, a, b, c, h => by
  have h1 : a = [] := List.length_eq_zero_iff.1 (by omega)
  have h3 : c = [] := List.length_eq_zero_iff.1 (by omega)
  subst h1; subst h3
  simp [dist_nil]
 | n + 1, a, [], c, h => by
  have := dist_le a c
  rw [dist_nil', dist_nil]; omega
 | n + 1, a, x :: b, c, h => by
  simp only [List.length_cons] at h
  have hd : ∀ a', a'.length + 1 = a.length → dist a' c ≤ dist a' (x :: b) + dist (x :: b) c := fun a' h' => dist_tri n a' (x :: b) c (by simp only [List.length_cons]; omega)
  have hi : ∀ c', c'.length + 1 = c.length → dist a c' ≤ dist a (x :: b) + dist (x :: b) c' := fun c' h' => dist_tri n a (x :: b) c' (by simp only [List.length_cons]; omega)
  have h0 := dist_tri n a b c (by omega)
  rcases dist_view_l x b c with e | ⟨z, c', rfl, e | e⟩
  ·rcases dist_view_r x a b with g | ⟨y, a', rfl, g | g⟩
   ·omega
   ·have := hd a' (by simp)
    have := dist_left y a' c
    omega
   ·have h1 := dist_tri n a' b c (by simp only [List.length_cons] at h; omega)
    have := dist_left y a' c
    omega
  ·have := hi c' (by simp)
   have := dist_right z a c'
   omega
  ·rcases dist_view_r x a b with g | ⟨y, a', rfl, g | g⟩
   ·have h1 := dist_tri n a b c' (by simp only [List.length_cons] at h; omega)
    have := dist_right z a c'
    omega
   ·have := hd a' (by simp)
    have := dist_left y a' (z :: c')
    omega
   ·have h1 := dist_tri n a' b c' (by simp only [List.length_cons] at h; omega)
    have := dist_both y z a' c'
    have := ite_tri y x z
    omega
theorem dist_third (a b c : List Int) : dist a c ≤ dist a b + dist b c := dist_tri _ a b c (Nat.le_refl _)
theorem dist_comm (a b : List Int) : dist a b = dist b a := by
 induction a generalizing b with
 | nil => rw [dist_nil, dist_nil']
 | cons x a ih =>
  induction b with
  | nil => rw [dist_nil, dist_nil']
  | cons y b ihb =>
   rw [dist_cons, dist_cons, ih b, ih (y :: b), ihb]
   have : (if x = y then 0 else 1 : Nat) = if y = x then 0 else 1 := by by_cases h : x = y <;> simp [h, eq_comm]
   omega
theorem dist_self (a : List Int) : dist a a = 0 := by
 induction a with
 | nil => rw [dist_nil]; rfl
 | cons x a ih => have := dist_both x x a a; simp at this; omega
def TrueL (s f l : List Int) : Prop := dist s l + dist l f = dist s f
theorem TrueL.nil {l : List Int} (h : TrueL [] [] l) : l = [] := by
 unfold TrueL at h
 simp only [dist_nil, dist_nil', List.length_nil] at h
 exact List.length_eq_zero_iff.1 (by omega)
theorem TrueL.done : TrueL [] [] [] := by unfold TrueL; rw [dist_nil]; rfl
theorem TrueL.both {a b c : Int} {s f l : List Int} (h : TrueL s f l) (hd : dist (a :: s) (b :: f) = dist s f + (if a = b then 0 else 1)) (hc : c = a ∨ c = b) : TrueL (a :: s) (b :: f) (c :: l) := by
 unfold TrueL at *
 have h1 := dist_both a c s l
 have h2 := dist_both c b l f
 have h3 := dist_third (a :: s) (c :: l) (b :: f)
 rcases hc with rfl | rfl
 ·simp at h1; omega
 ·simp at h2; omega
theorem TrueL.cut0 {a : Int} {s f l : List Int} (h : TrueL s f l) (hd : dist (a :: s) f = dist s f + 1) : TrueL (a :: s) f l := by
 unfold TrueL at *
 have h1 := dist_left a s l
 have h3 := dist_third (a :: s) l f
 omega
theorem TrueL.cut1 {a : Int} {s f l : List Int} (h : TrueL s f l) (hd : dist (a :: s) f = dist s f + 1) : TrueL (a :: s) f (a :: l) := by
 unfold TrueL at *
 have h1 := dist_both a a s l
 have h2 := dist_left a l f
 have h3 := dist_third (a :: s) (a :: l) f
 simp at h1; omega
theorem TrueL.add0 {b : Int} {s f l : List Int} (h : TrueL s f l) (hd : dist s (b :: f) = dist s f + 1) : TrueL s (b :: f) l := by
 unfold TrueL at *
 have h1 := dist_right b l f
 have h3 := dist_third s l (b :: f)
 omega
theorem TrueL.add1 {b : Int} {s f l : List Int} (h : TrueL s f l) (hd : dist s (b :: f) = dist s f + 1) : TrueL s (b :: f) (b :: l) := by
 unfold TrueL at *
 have h1 := dist_both b b l f
 have h2 := dist_right b s l
 have h3 := dist_third s (b :: l) (b :: f)
 simp at h1; omega
theorem TrueL.begins {s f l : List Int} (h : TrueL s f l) :
  (s = [] ∧ f = [] ∧ l = [])
  ∨ (∃ a s' b f' c l', s = a :: s' ∧ f = b :: f' ∧ l = c :: l' ∧ dist (a :: s') (b :: f') = dist s' f' + (if a = b then 0 else 1) ∧ (c = a ∨ c = b) ∧ TrueL s' f' l')
  ∨ (∃ a s', s = a :: s' ∧ dist (a :: s') f = dist s' f + 1 ∧ (TrueL s' f l ∨ ∃ l', l = a :: l' ∧ TrueL s' f l'))
  ∨ (∃ b f', f = b :: f' ∧ dist s (b :: f') = dist s f' + 1 ∧ (TrueL s f' l ∨ ∃ l', l = b :: l' ∧ TrueL s f' l')) := by
 unfold TrueL at h
 cases l with
 | nil =>
  rw [dist_nil, dist_nil'] at h
  cases s with
  | cons a s' =>
   right; right; left
   have h1 := dist_left a s' f
   have h2 := dist_le s' f
   simp only [List.length_cons] at h
   refine ⟨a, s', rfl, by omega, .inl ?_⟩
   unfold TrueL; rw [dist_nil, dist_nil']; omega
  | nil =>
   cases f with
   | nil => exact .inl ⟨rfl, rfl, rfl⟩
   | cons b f' =>
    right; right; right
    refine ⟨b, f', rfl, by rw [dist_nil, dist_nil]; rfl, .inl ?_⟩
    unfold TrueL; simp only [dist_nil]; simp
 | cons x l =>
  rcases dist_view_r x s l with e | ⟨a, s', rfl, e | e⟩
  ·rcases dist_view_l x l f with g | ⟨b, f', rfl, g | g⟩
   ·have := dist_third s l f
    omega
   ·right; right; right
    have h1 := dist_right b s f'
    have h2 := dist_third s (x :: l) f'
    exact ⟨b, f', rfl, by omega, .inl (by unfold TrueL; omega)⟩
   ·right; right; right
    have h1 := dist_right b s f'
    have h2 := dist_third s l f'
    by_cases hx : x = b
    ·rw [if_pos hx] at g
     exact ⟨b, f', rfl, by omega, .inr ⟨l, by rw [hx], by unfold TrueL; omega⟩⟩
    ·rw [if_neg hx] at g; omega
  ·right; right; left
   have h1 := dist_left a s' f
   have h2 := dist_third s' (x :: l) f
   exact ⟨a, s', rfl, by omega, .inl (by unfold TrueL; omega)⟩
  ·rcases dist_view_l x l f with g | ⟨b, f', rfl, g | g⟩
   ·right; right; left
    have h1 := dist_left a s' f
    have h2 := dist_third s' l f
    by_cases hx : a = x
    ·rw [if_pos hx] at e
     exact ⟨a, s', rfl, by omega, .inr ⟨l, by rw [hx], by unfold TrueL; omega⟩⟩
    ·rw [if_neg hx] at e; omega
   ·right; right; right
    have h1 := dist_right b (a :: s') f'
    have h2 := dist_third (a :: s') (x :: l) f'
    exact ⟨b, f', rfl, by omega, .inl (by unfold TrueL; omega)⟩
   ·right; left
    have h1 := dist_both a b s' f'
    have h2 := dist_third s' l f'
    refine ⟨a, s', b, f', x, l, rfl, rfl, rfl, ?_⟩
    by_cases ha : a = x
    ·subst ha
     simp only [if_true] at e
     exact ⟨by omega, .inl rfl, by unfold TrueL; omega⟩
    ·rw [if_neg ha] at e
     by_cases hb : x = b
     ·subst hb
      simp only [if_true] at g
      rw [if_neg ha] at h1 ⊢
      exact ⟨by omega, .inr rfl, by unfold TrueL; omega⟩
     ·rw [if_neg hb] at g
      exfalso
      split at h1 <;> omega
theorem TrueL.length_le {s f l : List Int} (h : TrueL s f l) : l.length ≤ s.length + f.length := by
 unfold TrueL at h
 have := dist_third [] s l
 have := dist_third [] f l
 rw [dist_nil, dist_nil] at *
 have h1 := dist_le s f
 have := dist_comm f l
 omega
end Go.Proofs.YthddoikmgpgakaaDoor
namespace Go.Proofs.YthddoikmgpgakaaDoor
open Go.RowKit Go.Proofs Go.Shelf
theorem within_any (n lo hi : Int) (w : World) :
  Calls Tryd.prog 78 #[.int .i64 n, .int .i64 lo, .int .i64 hi] w fun e w' => e = .returned (.bool (decide (lo ≤ n) && decide (n ≤ hi))) ∧ w = w' := by
 go_enter Tryd.func78, Tryd.ntmps78
 go_wp2
 all_goals
  go_ret
  exact ⟨(congrArg (fun b => Ending.returned (Value.bool b)) (by first | rfl | (simp [*]; done) | (simp [*]; omega) | (simp_all; done) | (simp_all; omega))), rfl⟩
theorem goBl {p : Prop} (h : p := by repeat (first | (with_reducible exact Below.refl _ _) | (with_reducible assumption) | (with_reducible refine Below.drew ?_) | (with_reducible refine below_drewN ?_ _) | (with_reducible refine Below.alloc ?_ (by first | omega | (simp; done) | (simp; omega)) _) | (with_reducible refine Below.setCell ?_ (by first | omega | (simp; done) | (simp; omega)) _) | (with_reducible refine Below.trans ?_ (Below.mono (by assumption) (by first | omega | (simp; done) | (simp; omega)))))) : p := h
theorem great_any (id hs : Int) (sa : Option Addr) (n sc : Nat) (fa : Option Addr) (m fc : Nat) (w : World) :
  Calls Tryd.prog 18 #[.agg #[.int .i64 id, .int .i64 hs, .slice sa n sc, .slice fa m fc]] w fun e w' => e = .returned (.bool (decide ((30 : Int) < (n : Int)) || decide ((30 : Int) < (m : Int)))) ∧ Below w.heap.size w w' := by
 go_enter Tryd.func18, Tryd.ntmps18
 go_wp2
 all_goals
  go_ret
  exact ⟨(congrArg (fun b => Ending.returned (Value.bool b)) (by first | rfl | (simp [*]; done) | (simp [*]; omega) | (simp_all; done) | (simp_all; omega))), goBl⟩
theorem in1_any (n lo hi : Int) (p q : Addr) (w : World) (hp : w.cell? p = some (.int .i64 lo)) (hq : w.cell? q = some (.int .i64 hi)) :
  Calls Tryd.prog 105 #[.int .i64 n, .pointer (some p), .pointer (some q)] w fun e w' => e = .returned (.bool (decide (n < lo) || decide (hi < n))) ∧ w = w' := by
 go_enter Tryd.func105, Tryd.ntmps105
 go_wp2
 all_goals
  go_ret
  exact ⟨(congrArg (fun b => Ending.returned (Value.bool b)) (by first | rfl | (simp [*]; done) | (simp [*]; omega) | (simp_all; done) | (simp_all; omega))), rfl⟩
def FindIs (f : Int → Bool) (xs : List Int) (e : Ending) : Prop := ∃ n : Int, e = .returned (.int .i64 n) ∧ ((0 ≤ n ∧ xs.any f = true) ∨ (n = -1 ∧ xs.any f = false))
theorem index_any (a : Option Addr) (c : Nat) (xs : List Int) (k : FuncId) (caps : Array Value) (f : Int → Bool) (w : World) (hl : xs.length ≤ 4000) (h : RdI w a xs)
  (eg : ∀ args w, (callFunc k args).run Tryd.prog w = .ok (.enter k args) w)
  (hc : ∀ x, Calls Tryd.prog k (#[.int .i64 x] ++ caps) w fun e w' => e = .returned (.bool (f x)) ∧ w = w') :
  Calls Tryd.prog 124 #[.slice a xs.length c, .func (.func k) #[] caps] w fun e w' => FindIs f xs e ∧ w = w' := by
 go_enter Tryd.func124, Tryd.ntmps124
 have H := hid h; clear h
 have HC := hid hc; clear hc
 go_wp2_with fail
 go_loop [8] (fun i => ∃ k : Nat, k ≤ xs.length ∧ i = .int .i64 k ∧ ∀ x, x ∈ xs.take k → f x = false) (fun i => (xs.length - (intOf i).toNat))
 case atStart => exact ⟨0, by omega, rfl, by simp⟩
 case round =>
  obtain ⟨k, hk, rfl, hno⟩ := hrel
  have Hno := hid hno; clear hno
  by_cases hlt : k < xs.length
  ·obtain ⟨b, o, rfl, hcell⟩ := H.out k hlt
   go_wp2_with (refine (HC.out _).mono ?_; rintro e w' ⟨rfl, rfl⟩)
   ·rename_i hf
    go_ret
    exact ⟨⟨k, rfl, .inl ⟨by omega, List.any_eq_true.2 ⟨_, List.getElem_mem hlt, hf⟩⟩⟩, rfl⟩
   ·rename_i hf
    go_round
    case rel =>
     refine ⟨k + 1, by omega, by go_num, fun x hx => ?_⟩
     rw [List.take_succ_eq_append_getElem hlt] at hx
     rcases List.mem_append.1 hx with h1 | h1
     ·exact Hno.out x h1
     ·rw [List.mem_singleton.1 h1]; exact hf
    case measure => simp [intOf]; omega
  ·go_wp2_with fail
   go_ret
   refine ⟨⟨_, rfl, .inr ⟨rfl, ?_⟩⟩, rfl⟩
   rw [List.any_eq_false]
   intro x hx
   have : k = xs.length := by omega
   subst this
   simpa using Hno.out x (by simpa using hx)
theorem contains_any (a : Option Addr) (c : Nat) (xs : List Int) (k : FuncId) (caps : Array Value) (f : Int → Bool) (w : World) (hl : xs.length ≤ 4000) (h : RdI w a xs)
  (eg : ∀ args w, (callFunc k args).run Tryd.prog w = .ok (.enter k args) w)
  (hc : ∀ x, Calls Tryd.prog k (#[.int .i64 x] ++ caps) w fun e w' => e = .returned (.bool (f x)) ∧ w = w') :
  Calls Tryd.prog 104 #[.slice a xs.length c, .func (.func k) #[] caps] w fun e w' => e = .returned (.bool (xs.any f)) ∧ w = w' := by
 go_enter Tryd.func104, Tryd.ntmps104
 have H := hid h; clear h
 have HC := hid hc; clear hc
 have HE := hid eg; clear eg
 go_wp2_with fail
 refine (index_any a c xs k caps f w hl H.out HE.out HC.out).mono ?_
 rintro e w' ⟨⟨n, rfl, hn⟩, rfl⟩
 rcases hn with ⟨h1, h2⟩ | ⟨h1, h2⟩
 ·go_wp2_with fail
  go_ret
  exact ⟨(congrArg (fun b => Ending.returned (Value.bool b)) (by simp [h2])), rfl⟩
 ·subst h1
  go_wp2_with fail
  go_ret
  exact ⟨(congrArg (fun b => Ending.returned (Value.bool b)) (by simp [h2])), rfl⟩
theorem in_any (lo hi : Int) (a : Option Addr) (c : Nat) (xs : List Int) (w : World) (hl : xs.length ≤ 4000) (h : RdI w a xs) :
  Calls Tryd.prog 82 #[.int .i64 lo, .int .i64 hi, .slice a xs.length c] w fun e w' => e = .returned (.bool (xs.all fun n => decide (lo ≤ n) && decide (n ≤ hi))) ∧ Below w.heap.size w w' := by
 have hall : (!xs.any fun n => (decide (n < lo) || decide (hi < n))) = xs.all fun n => decide (lo ≤ n) && decide (n ≤ hi) := by
  rw [List.not_any_eq_all_not]
  congr 1; funext n
  by_cases h1 : n < lo <;> by_cases h2 : hi < n <;> simp [h1, h2] <;> omega
 have HA := hid hall; clear hall
 go_enter Tryd.func82, Tryd.ntmps82
 have H := hid h; clear h
 go_wp2_with fail
 refine (contains_any a c xs _ _ (fun n => (decide (n < lo) || decide (hi < n))) _ hl ((H.out.alloc _).alloc _) ?_ ?_).mono ?_
 ·exact enters_of Tryd.func105 (by kernel_rfl) rfl
 ·intro x
  exact in1_any x lo hi _ _ _ (by simp) (by simp)
 ·rintro e w' ⟨rfl, rfl⟩
  go_wp2_with fail
  go_ret
  exact ⟨(congrArg (fun b => Ending.returned (Value.bool b)) HA.out), goBl⟩
def okN (l : List Int) : Bool := l.all fun n => decide (1 ≤ n) && decide (n ≤ 4)
def okT (id hs : Int) (st fo : List Int) : Bool := (decide (1 ≤ id) && decide (id ≤ 9999)) && (decide (1 ≤ hs) && decide (hs ≤ 9999)) && decide (st.length ≤ 12) && decide (fo.length ≤ 12) && okN st && okN fo
def errT (b : Bool) : Int := if b then 0 else 70
theorem notches_any (a : Option Addr) (c : Nat) (xs : List Int) (w : World) (hl : xs.length ≤ 4000) (h : RdI w a xs) :
  Calls Tryd.prog 75 #[.slice a xs.length c] w fun e w' => e = .returned (.bool (okN xs)) ∧ w = w' := by
 go_enter Tryd.func75, Tryd.ntmps75
 have H := hid h; clear h
 go_wp2_with fail
 go_loop [7] (fun i => ∃ k : Nat, k ≤ xs.length ∧ i = .int .i64 k ∧ okN (xs.take k) = true) (fun i => (xs.length - (intOf i).toNat))
 case atStart => exact ⟨0, by omega, rfl, by simp [okN]⟩
 case round =>
  obtain ⟨k, hk, rfl, hno⟩ := hrel
  have Hno := hid hno; clear hno
  by_cases hlt : k < xs.length
  ·obtain ⟨b, o, rfl, hcell⟩ := H.out k hlt
   have hs : okN (xs.take (k + 1)) = (decide (1 ≤ xs[k]) && decide (xs[k] ≤ 4)) := by
    unfold okN
    rw [List.take_succ_eq_append_getElem hlt, List.all_append]
    have := Hno.out
    unfold okN at this
    simp [this]
   have HS := hid hs; clear hs
   by_cases ht : (decide (1 ≤ xs[k]) && decide (xs[k] ≤ 4)) = true
   ·have HT := hid ht
    go_wp2_with (refine (within_any _ _ _ _).mono ?_; rintro e w' ⟨rfl, rfl⟩)
    go_round
    case rel => exact ⟨k + 1, by omega, by go_num, HS.out.trans HT.out⟩
    case measure => simp [intOf]; omega
   ·have ht2 : (decide (1 ≤ xs[k]) && decide (xs[k] ≤ 4)) = false := by simpa using ht
    have HT := hid ht2
    clear ht
    go_wp2_with (refine (within_any _ _ _ _).mono ?_; rintro e w' ⟨rfl, rfl⟩)
    go_ret
    refine ⟨(congrArg (fun b => Ending.returned (Value.bool b)) ?_), rfl⟩
    have h1 := HS.out.trans HT.out
    unfold okN at h1 ⊢
    symm
    rw [List.all_eq_false] at h1 ⊢
    obtain ⟨x, hx, hx2⟩ := h1
    exact ⟨x, List.mem_of_mem_take hx, hx2⟩
  ·go_wp2_with fail
   go_ret
   refine ⟨(congrArg (fun b => Ending.returned (Value.bool b)) ?_), rfl⟩
   have : k = xs.length := by omega
   subst this
   simpa using Hno.out.symm
theorem tally_any (id hs : Int) (st fo : List Int) (sa fa : Option Addr) (sc fc : Nat) (w : World)
  (hl : st.length ≤ 4000) (hl2 : fo.length ≤ 4000) (h1 : RdI w sa st) (h2 : RdI w fa fo) :
  Calls Tryd.prog 76 #[.agg #[.int .i64 id, .int .i64 hs, .slice sa st.length sc, .slice fa fo.length fc]] w fun e w' => e = .returned (.bool (okT id hs st fo)) ∧ Below w.heap.size w w' := by
 have HX := hid h1; clear h1
 have HY := hid h2; clear h2
 have H1 := hid hl; have H2 := hid hl2; clear hl hl2
 by_cases e1 : (decide (1 ≤ id) && decide (id ≤ 9999)) = true
 ·by_cases e2 : (decide (1 ≤ hs) && decide (hs ≤ 9999)) = true
  ·by_cases e3 : (st.length : Int) ≤ 12
   ·have e3' : st.length ≤ 12 := by omega
    by_cases e4 : (fo.length : Int) ≤ 12
    ·have e4' : fo.length ≤ 12 := by omega
     by_cases e5 : okN st = true
     ·have E : Hid (okT id hs st fo = okN fo) := by
       show okT id hs st fo = okN fo
       unfold okT; rw [e1, e2, e5]; simp [e3', e4']
      go_enter Tryd.func76, Tryd.ntmps76; go_wp2_with (first | (refine (within_any _ _ _ _).mono ?_; rintro e w' ⟨rfl, rfl⟩) | (refine (notches_any _ _ _ _ (by first | exact H1.out | exact H2.out) (by first | exact HX.out.below goBl | exact HY.out.below goBl)).mono ?_; rintro e w' ⟨rfl, rfl⟩)); go_ret
      exact ⟨(congrArg (fun b => Ending.returned (Value.bool b)) E.out.symm), goBl⟩
     ·have e5' : okN st = false := by simpa using e5
      have E : Hid (okT id hs st fo = false) := by
       show okT id hs st fo = false
       unfold okT; rw [e5']; simp
      go_enter Tryd.func76, Tryd.ntmps76; go_wp2_with (first | (refine (within_any _ _ _ _).mono ?_; rintro e w' ⟨rfl, rfl⟩) | (refine (notches_any _ _ _ _ (by first | exact H1.out | exact H2.out) (by first | exact HX.out.below goBl | exact HY.out.below goBl)).mono ?_; rintro e w' ⟨rfl, rfl⟩)); go_ret
      exact ⟨(congrArg (fun b => Ending.returned (Value.bool b)) E.out.symm), goBl⟩
    ·have E : Hid (okT id hs st fo = false) := by
      show okT id hs st fo = false
      have e4' : ¬ fo.length ≤ 12 := by omega
      unfold okT; simp [e4']
     go_enter Tryd.func76, Tryd.ntmps76; go_wp2_with (first | (refine (within_any _ _ _ _).mono ?_; rintro e w' ⟨rfl, rfl⟩) | (refine (notches_any _ _ _ _ (by first | exact H1.out | exact H2.out) (by first | exact HX.out.below goBl | exact HY.out.below goBl)).mono ?_; rintro e w' ⟨rfl, rfl⟩)); go_ret
     exact ⟨(congrArg (fun b => Ending.returned (Value.bool b)) E.out.symm), goBl⟩
   ·have E : Hid (okT id hs st fo = false) := by
     show okT id hs st fo = false
     have e3' : ¬ st.length ≤ 12 := by omega
     unfold okT; simp [e3']
    go_enter Tryd.func76, Tryd.ntmps76; go_wp2_with (first | (refine (within_any _ _ _ _).mono ?_; rintro e w' ⟨rfl, rfl⟩) | (refine (notches_any _ _ _ _ (by first | exact H1.out | exact H2.out) (by first | exact HX.out.below goBl | exact HY.out.below goBl)).mono ?_; rintro e w' ⟨rfl, rfl⟩)); go_ret
    exact ⟨(congrArg (fun b => Ending.returned (Value.bool b)) E.out.symm), goBl⟩
  ·have e2' : (decide (1 ≤ hs) && decide (hs ≤ 9999)) = false := by simpa using e2
   have E : Hid (okT id hs st fo = false) := by
    show okT id hs st fo = false
    unfold okT; rw [e2']; simp
   clear e2
   go_enter Tryd.func76, Tryd.ntmps76; go_wp2_with (first | (refine (within_any _ _ _ _).mono ?_; rintro e w' ⟨rfl, rfl⟩) | (refine (notches_any _ _ _ _ (by first | exact H1.out | exact H2.out) (by first | exact HX.out.below goBl | exact HY.out.below goBl)).mono ?_; rintro e w' ⟨rfl, rfl⟩)); go_ret
   exact ⟨(congrArg (fun b => Ending.returned (Value.bool b)) E.out.symm), goBl⟩
 ·have e1' : (decide (1 ≤ id) && decide (id ≤ 9999)) = false := by simpa using e1
  have E : Hid (okT id hs st fo = false) := by
   show okT id hs st fo = false
   unfold okT; rw [e1']; simp
  clear e1
  go_enter Tryd.func76, Tryd.ntmps76; go_wp2_with (first | (refine (within_any _ _ _ _).mono ?_; rintro e w' ⟨rfl, rfl⟩) | (refine (notches_any _ _ _ _ (by first | exact H1.out | exact H2.out) (by first | exact HX.out.below goBl | exact HY.out.below goBl)).mono ?_; rintro e w' ⟨rfl, rfl⟩)); go_ret
  exact ⟨(congrArg (fun b => Ending.returned (Value.bool b)) E.out.symm), goBl⟩
theorem kinds_any (a : Option Addr) (c : Nat) (xs : List Int) (w : World) (hl : xs.length ≤ 4000) (h : RdI w a xs) :
  Calls Tryd.prog 77 #[.slice a xs.length c] w fun e w' => e = .returned (.bool (okN xs)) ∧ Below w.heap.size w w' := by
 have H := hid h; clear h
 go_enter Tryd.func77, Tryd.ntmps77
 go_wp2_with fail
 refine (in_any 1 4 a c xs _ hl H.out).mono ?_
 rintro e w1 ⟨rfl, hb1⟩
 go_wp2_with fail
 go_ret
 exact ⟨rfl, goBl⟩
theorem checks1_any (id hs : Int) (sa fa : Option Addr) (n m sc fc : Nat) (w : World) :
  Calls Tryd.prog 164 #[.agg #[.int .i64 id, .int .i64 hs, .slice sa n sc, .slice fa m fc]] w fun e w' => e = .returned (.bool ((decide (1 ≤ id) && decide (id ≤ 9999)) && (decide (1 ≤ hs) && decide (hs ≤ 9999)))) ∧ Below w.heap.size w w' := by
 go_enter Tryd.func164, Tryd.ntmps164
 go_wp2_with fail
 refine (in_any 1 9999 _ _ [id, hs] _ (by simp) ?_).mono ?_
 ·intro i hi
  match i, hi with
  | 0, _ => exact ⟨_, _, rfl, by simp [go_sem]⟩
  | 1, _ => exact ⟨_, _, rfl, by simp [go_sem]⟩
 rintro e w1 ⟨rfl, hb1⟩
 go_wp2_with fail
 go_ret
 exact ⟨(congrArg (fun b => Ending.returned (Value.bool b)) (by simp)), goBl⟩
theorem checks2_any (id hs : Int) (sa fa : Option Addr) (n m sc fc : Nat) (w : World) :
  Calls Tryd.prog 165 #[.agg #[.int .i64 id, .int .i64 hs, .slice sa n sc, .slice fa m fc]] w fun e w' => e = .returned (.bool (decide (n ≤ 12) && decide (m ≤ 12))) ∧ Below w.heap.size w w' := by
 by_cases e1 : (n : Int) ≤ 12
 ·have e1' : n ≤ 12 := by omega
  go_enter Tryd.func165, Tryd.ntmps165
  go_wp2
  go_ret
  exact ⟨(congrArg (fun b => Ending.returned (Value.bool b)) (by simp [e1']; omega)), goBl⟩
 ·have e1' : ¬ n ≤ 12 := by omega
  go_enter Tryd.func165, Tryd.ntmps165
  go_wp2
  go_ret
  exact ⟨(congrArg (fun b => Ending.returned (Value.bool b)) (by simp [e1'])), goBl⟩
theorem checks3_any (id hs : Int) (st fo : List Int) (sa fa : Option Addr) (sc fc : Nat) (w : World)
  (hl : st.length ≤ 4000) (hl2 : fo.length ≤ 4000) (h1 : RdI w sa st) (h2 : RdI w fa fo) :
  Calls Tryd.prog 166 #[.agg #[.int .i64 id, .int .i64 hs, .slice sa st.length sc, .slice fa fo.length fc]] w fun e w' => e = .returned (.bool (okN st && okN fo)) ∧ Below w.heap.size w w' := by
 have HX := hid h1; clear h1
 have HY := hid h2; clear h2
 go_enter Tryd.func166, Tryd.ntmps166
 go_wp2_with fail
 refine (kinds_any _ _ _ _ hl (HX.out.below goBl)).mono ?_
 rintro e w1 ⟨rfl, hb1⟩
 have hz1 := (hb1).size; (try simp only [World.size_alloc, World.size_setCell, World.size_drew, World.heap_drewN] at hz1); obtain ⟨hc1, hf1⟩ := bcell hb1
 by_cases e1 : okN st = true
 ·go_wp2_with fail
  refine (kinds_any _ _ _ _ hl2 (HY.out.below goBl)).mono ?_
  rintro e w2 ⟨rfl, hb2⟩
  go_wp2_with fail
  go_ret
  exact ⟨(congrArg (fun b => Ending.returned (Value.bool b)) (by simp [e1])), goBl⟩
 ·have e1' : okN st = false := by simpa using e1
  clear e1
  go_wp2_with fail
  go_ret
  exact ⟨(congrArg (fun b => Ending.returned (Value.bool b)) (by simp [e1'])), goBl⟩
def Tab (w : World) : Prop := w.cell? ⟨0, 0, none⟩ = some (.func (.func 164) #[] #[]) ∧ w.cell? ⟨0, 1, none⟩ = some (.func (.func 165) #[] #[]) ∧ w.cell? ⟨0, 2, none⟩ = some (.func (.func 166) #[] #[])
theorem Tab.below {w w' : World} (h : Tab w) (hb : Below w.heap.size w w') : Tab w' :=
 ⟨(hb.cell (cell_lt h.1)).trans h.1, (hb.cell (cell_lt h.2.1)).trans h.2.1, (hb.cell (cell_lt h.2.2)).trans h.2.2⟩
theorem tabAt0 (w : World) : (Instr.index 146 (.agg #[.func (.func 164) #[] #[], .func (.func 165) #[] #[], .func (.func 166) #[] #[]]) (.int .i64 0)).run Tryd.prog w = .ok (.agg #[.func (.func 164) #[] #[]]) w := by kernel_rfl
theorem tabAt1 (w : World) : (Instr.index 146 (.agg #[.func (.func 164) #[] #[], .func (.func 165) #[] #[], .func (.func 166) #[] #[]]) (.int .i64 1)).run Tryd.prog w = .ok (.agg #[.func (.func 165) #[] #[]]) w := by kernel_rfl
theorem tabAt2 (w : World) : (Instr.index 146 (.agg #[.func (.func 164) #[] #[], .func (.func 165) #[] #[], .func (.func 166) #[] #[]]) (.int .i64 2)).run Tryd.prog w = .ok (.agg #[.func (.func 166) #[] #[]]) w := by kernel_rfl
theorem check_any (id hs : Int) (st fo : List Int) (sa fa : Option Addr) (sc fc : Nat) (w : World) (ht : Tab w)
  (hl : st.length ≤ 4000) (hl2 : fo.length ≤ 4000) (h1 : RdI w sa st) (h2 : RdI w fa fo) :
  Calls Tryd.prog 36 #[.agg #[.int .i64 id, .int .i64 hs, .slice sa st.length sc, .slice fa fo.length fc]] w fun e w' => e = .returned (.int .i64 (errT (okT id hs st fo))) ∧ Below w.heap.size w w' := by
 have HX := hid h1; clear h1
 have HY := hid h2; clear h2
 have H1 := hid hl; have H2 := hid hl2; clear hl hl2
 have t0 := ht.1; have t1 := ht.2.1; have t2 := ht.2.2
 have hz0 : 0 < w.heap.size := cell_lt t0
 have HT := hid ht; clear ht
 go_enter Tryd.func36, Tryd.ntmps36
 go_wp2_with fail
 clear t0 t1 t2
 go_loopw [6] (fun i wr => ∃ k : Nat, k ≤ 3 ∧ i = .int .i64 k ∧ Hid ((1 ≤ k → ((decide (1 ≤ id) && decide (id ≤ 9999)) && (decide (1 ≤ hs) && decide (hs ≤ 9999))) = true) ∧ (2 ≤ k → (decide (st.length ≤ 12) && decide (fo.length ≤ 12)) = true) ∧ (3 ≤ k → (okN st && okN fo) = true)) ∧ Below (w.heap.size + 1) (w.alloc (.cells #[.int .i64 id, .int .i64 hs, .slice sa st.length sc, .slice fa fo.length fc] 24)) wr) (fun i _ => 3 - (intOf i).toNat)
 case atStart => exact ⟨0, by omega, rfl, ⟨by omega, by omega, by omega⟩, by simpa using Below.refl (w.heap.size + 1) _⟩
 case round =>
  obtain ⟨k, hk, rfl, hp, hb⟩ := hrel
  have hb0 : Below w.heap.size w wr := (((Below.refl _ _).alloc (Nat.le_refl _) _).trans (hb.mono (by omega)))
  have d0 : wr.cell? ⟨w.heap.size, 0, none⟩ = some (.int .i64 id) := box_cell hb 0
  have d1 : wr.cell? ⟨w.heap.size, 1, none⟩ = some (.int .i64 hs) := box_cell hb 1
  have d2 : wr.cell? ⟨w.heap.size, 2, none⟩ = some (.slice sa st.length sc) := box_cell hb 2
  have d3 : wr.cell? ⟨w.heap.size, 3, none⟩ = some (.slice fa fo.length fc) := box_cell hb 3
  have hz1 : w.heap.size < wr.heap.size := by have := hb.size; simp only [World.size_alloc] at this; omega
  by_cases hk3 : k = 3
  ·subst hk3
   go_wp2_with fail
   go_ret
   refine ⟨(congrArg (fun b => Ending.returned (Value.int .i64 b)) ?_), hb0⟩
   obtain ⟨p1, p2, p3⟩ := hp.out
   have q1 := p1 (by omega); have q2 := p2 (by omega); have q3 := p3 (by omega)
   simp only [Bool.and_eq_true] at q1 q2 q3
   have : okT id hs st fo = true := by unfold okT; simp only [Bool.and_eq_true]; exact ⟨⟨⟨⟨⟨q1.1, q1.2⟩, q2.1⟩, q2.2⟩, q3.1⟩, q3.2⟩
   rw [this]; rfl
  ·have j0 := tabAt0; have j1 := tabAt1; have j2 := tabAt2
   by_cases hk0 : k = 0
   ·subst hk0
    go_wp2_with fail
    refine (checks1_any _ _ _ _ _ _ _ _ _).mono ?_
    rintro e w1 ⟨rfl, hb1⟩
    have hz2 := hb1.size; try simp only [World.size_alloc, World.size_setCell] at hz2
    by_cases hc : ((decide (1 ≤ id) && decide (id ≤ 9999)) && (decide (1 ≤ hs) && decide (hs ≤ 9999))) = true
    ·have HC := hid hc
     go_wp2_with fail
     go_roundw
     case rel => exact ⟨1, by omega, by go_num, ⟨fun _ => HC.out, by omega, by omega⟩, goBl⟩
     case measure => simp [intOf]
    ·have hc' : ((decide (1 ≤ id) && decide (id ≤ 9999)) && (decide (1 ≤ hs) && decide (hs ≤ 9999))) = false := by simpa using hc
     have HC := hid hc'
     clear hc
     go_wp2_with fail
     go_ret
     refine ⟨(congrArg (fun b => Ending.returned (Value.int .i64 b)) ?_), goBl⟩
     have : okT id hs st fo = false := by unfold okT; rw [HC.out]; rfl
     rw [this]; rfl
   ·by_cases hk1 : k = 1
    ·subst hk1
     go_wp2_with fail
     refine (checks2_any _ _ _ _ _ _ _ _ _).mono ?_
     rintro e w1 ⟨rfl, hb1⟩
     have hz2 := hb1.size; try simp only [World.size_alloc, World.size_setCell] at hz2
     by_cases hc : (decide (st.length ≤ 12) && decide (fo.length ≤ 12)) = true
     ·have HC := hid hc
      go_wp2_with fail
      go_roundw
      case rel => exact ⟨2, by omega, by go_num, ⟨fun _ => hp.out.1 (by omega), fun _ => HC.out, by omega⟩, goBl⟩
      case measure => simp [intOf]
     ·have hc' : (decide (st.length ≤ 12) && decide (fo.length ≤ 12)) = false := by simpa using hc
      have HC := hid hc'
      clear hc
      go_wp2_with fail
      go_ret
      refine ⟨(congrArg (fun b => Ending.returned (Value.int .i64 b)) ?_), goBl⟩
      have : okT id hs st fo = false := by unfold okT; rw [Bool.and_assoc (decide (1 ≤ id) && decide (id ≤ 9999) && (decide (1 ≤ hs) && decide (hs ≤ 9999))), HC.out]; simp
      rw [this]; rfl
    ·obtain rfl : k = 2 := by omega
     go_wp2_with fail
     refine (checks3_any _ _ _ _ _ _ _ _ _ H1.out H2.out (HX.out.below goBl) (HY.out.below goBl)).mono ?_
     rintro e w1 ⟨rfl, hb1⟩
     have hz2 := hb1.size; try simp only [World.size_alloc, World.size_setCell] at hz2
     by_cases hc : (okN st && okN fo) = true
     ·have HC := hid hc
      go_wp2_with fail
      go_roundw
      case rel => exact ⟨3, by omega, by go_num, ⟨fun _ => hp.out.1 (by omega), fun _ => hp.out.2.1 (by omega), fun _ => HC.out⟩, goBl⟩
      case measure => simp [intOf]
     ·have hc' : (okN st && okN fo) = false := by simpa using hc
      have HC := hid hc'
      clear hc
      go_wp2_with fail
      go_ret
      refine ⟨(congrArg (fun b => Ending.returned (Value.int .i64 b)) ?_), goBl⟩
      have : okT id hs st fo = false := by unfold okT; rw [Bool.and_assoc, HC.out]; simp
      rw [this]; rfl
structure Tl where
 id : Int
 hs : Int
 st : List Int
 fo : List Int
def RdT (w : World) (a : Option Addr) (ts : List Tl) : Prop := ∀ i (h : i < ts.length), ∃ b o sa sc fa fc, a = some ⟨b, o, none⟩ ∧
 w.cell? ⟨b, o + i * 4, none⟩ = some (.int .i64 ts[i].id) ∧ w.cell? ⟨b, o + i * 4 + 1, none⟩ = some (.int .i64 ts[i].hs) ∧ w.cell? ⟨b, o + i * 4 + 2, none⟩ = some (.slice sa ts[i].st.length sc) ∧ w.cell? ⟨b, o + i * 4 + 3, none⟩ = some (.slice fa ts[i].fo.length fc) ∧
 RdI w sa ts[i].st ∧ RdI w fa ts[i].fo
theorem RdT.below {w w' : World} {a : Option Addr} {ts : List Tl} (h : RdT w a ts) (hb : Below w.heap.size w w') : RdT w' a ts := fun i hi => by
 obtain ⟨b, o, sa, sc, fa, fc, ha, h0, h1, h2, h3, h4, h5⟩ := h i hi
 exact ⟨b, o, sa, sc, fa, fc, ha, (hb.cell (cell_lt h0)).trans h0, (hb.cell (cell_lt h1)).trans h1, (hb.cell (cell_lt h2)).trans h2, (hb.cell (cell_lt h3)).trans h3, h4.below hb, h5.below hb⟩
def Tl.ok (t : Tl) : Bool := okT t.id t.hs t.st t.fo
def Tl.small (t : Tl) : Prop := t.st.length ≤ 4000 ∧ t.fo.length ≤ 4000
def zeroT : Tl := ⟨0, 0, [], []⟩
def Tl.cat (a b : Tl) : Tl := ⟨a.id, a.hs, a.st ++ b.st, a.fo ++ b.fo⟩
def ApartV (v u : Value) : Prop := ∀ g, v.ownBlock = some g → u.ownBlock ≠ some g
def NewT (B : Nat) (w : World) (v : Value) (t : Tl) : Prop := ∃ sa sc fa fc, v = .agg #[.int .i64 t.id, .int .i64 t.hs, .slice sa t.st.length sc, .slice fa t.fo.length fc] ∧
 w.ownsRow B 3 1 (.slice sa t.st.length sc) t.st.length (t.st.map (Value.int .i64)) ∧ w.ownsRow B 3 1 (.slice fa t.fo.length fc) t.fo.length (t.fo.map (Value.int .i64)) ∧ ApartV (.slice sa t.st.length sc) (.slice fa t.fo.length fc)
theorem NewT.zero (B : Nat) (w : World) : NewT B w (.agg #[.int .i64 0, .int .i64 0, .slice none 0 0, .slice none 0 0]) zeroT :=
 ⟨none, 0, none, 0, rfl, World.ownsRow_nil _ _ _ _, World.ownsRow_nil _ _ _ _, fun g h => by cases h⟩
theorem NewT.below {B B' : Nat} {w w' : World} {v : Value} {t : Tl} (h : NewT B w v t) (hb : Below B' w w') (hB : w.heap.size ≤ B') : NewT B w' v t := by
 obtain ⟨sa, sc, fa, fc, hv, h1, h2, h3⟩ := h
 exact ⟨sa, sc, fa, fc, hv, own_below h1 hb hB, own_below h2 hb hB, h3⟩
theorem NewT.base {B B' : Nat} {w : World} {v : Value} {t : Tl} (h : NewT B w v t) (hB : B' ≤ B) : NewT B' w v t := by
 obtain ⟨sa, sc, fa, fc, hv, h1, h2, h3⟩ := h
 exact ⟨sa, sc, fa, fc, hv, own_base h1 hB, own_base h2 hB, h3⟩
theorem own_apart {w w' : World} {B B' : Nat} {e : TypeId} {size size' : Nat} {v u : Value} {n m : Nat} {xs ys : List Value} (h : w.ownsRow B e size v n xs) (h2 : w'.ownsRow B' e size' u m ys) (hB : w.heap.size ≤ B') : ApartV v u := fun g hg hu => by
 have h3 := (h.lt g hg).2
 have h4 := (h2.lt g hu).1
 omega
attribute [local go_sem] Oper.semAt_some
structure St where
 i : Nat
 k : Nat
 s : Int
 f : Int
 wr : Int
def St.val (x : St) : Value := .agg #[.int .i64 x.i, .int .i64 x.k, .int .i64 x.s, .int .i64 x.f, .int .i64 x.wr]
def step1 (st fo : List Int) (i k : Nat) : List St := if h : i < st.length ∧ k < fo.length then [⟨i + 1, k + 1, st[i]'h.1, fo[k]'h.2, if st[i]'h.1 = fo[k]'h.2 then 0 else 1⟩] else []
def step2 (st : List Int) (i k : Nat) : List St := if h : i < st.length then [⟨i + 1, k, st[i], 0, 1⟩] else []
def step3 (fo : List Int) (i k : Nat) : List St := if h : k < fo.length then [⟨i, k + 1, 0, fo[k], 1⟩] else []
def stepsL (st fo : List Int) (i k : Nat) : List St := step1 st fo i k ++ (step2 st i k ++ step3 fo i k)
abbrev StAt (st fo : List Int) (i k : Nat) := { x : St // x ∈ stepsL st fo i k }
theorem steps_any (cs : Array Value) (i k : Nat) (w : World) (hcs : cs.size = 5) :
  Calls Tryd.prog 107 #[.agg cs, plc i k] w fun e w' => e = .returned (.func (.func 125) #[] #[.pointer (some ⟨w.heap.size + 1, 0, none⟩), .pointer (some ⟨w.heap.size, 0, none⟩)]) ∧ w' = (w.alloc (.cells cs 134)).alloc (.cells #[.int .i64 i, .int .i64 k] 137) := by
 go_enter Tryd.func107, Tryd.ntmps107
 unfold plc
 go_wp2_with fail
 go_ret
 exact ⟨by simp, by simp [Value.cells]⟩
theorem mixedS : Tryd.prog.follows .mixedOrders = true := by kernel_rfl
theorem wrap_succ {i : Nat} (h : i ≤ 4000) : IntKind.i64.wrap ((i : Int) + 1) = ((i + 1 : Nat) : Int) := by
 simp only [IntKind.wrap, IntKind.signed, IntKind.bits]
 simp
 omega
theorem grown_of_below {w w' : World} (h : Below w.heap.size w w') : w.grownBy w' none := ⟨h.os, h.tape, h.output, h.size, fun k hk _ => h.block k hk⟩
theorem step2_yes {st : List Int} {i : Nat} (k : Nat) (h : i < st.length) : step2 st i k = [⟨i + 1, k, st[i], 0, 1⟩] := by simp [step2, h]
theorem step2_no {st : List Int} {i : Nat} (k : Nat) (h : ¬ i < st.length) : step2 st i k = [] := by simp [step2, h]
theorem step3_yes {fo : List Int} {k : Nat} (i : Nat) (h : k < fo.length) : step3 fo i k = [⟨i, k + 1, 0, fo[k], 1⟩] := by simp [step3, h]
theorem step3_no {fo : List Int} {k : Nat} (i : Nat) (h : ¬ k < fo.length) : step3 fo i k = [] := by simp [step3, h]
theorem step1_yes {st fo : List Int} {i k : Nat} (hi : i < st.length) (hk : k < fo.length) : step1 st fo i k = [⟨i + 1, k + 1, st[i], fo[k], if st[i] = fo[k] then 0 else 1⟩] := by simp [step1, hi, hk]
theorem step1_no {st fo : List Int} {i k : Nat} (h : ¬ (i < st.length ∧ k < fo.length)) : step1 st fo i k = [] := by simp only [step1, dif_neg h]
theorem mem_step1 {st fo : List Int} {i k : Nat} (hi : i < st.length) (hk : k < fo.length) : (⟨i + 1, k + 1, st[i], fo[k], if st[i] = fo[k] then 0 else 1⟩ : St) ∈ stepsL st fo i k := by
 rw [stepsL, step1_yes hi hk]; simp
theorem mem_step2 {st : List Int} (fo : List Int) {i : Nat} (k : Nat) (hi : i < st.length) : (⟨i + 1, k, st[i], 0, 1⟩ : St) ∈ stepsL st fo i k := by
 rw [stepsL, step2_yes k hi]; simp
theorem mem_step3 (st : List Int) {fo : List Int} (i : Nat) {k : Nat} (hk : k < fo.length) : (⟨i, k + 1, 0, fo[k], 1⟩ : St) ∈ stepsL st fo i k := by
 rw [stepsL, step3_yes i hk]; simp
theorem pre_step1 {st fo : List Int} {i k : Nat} (hi : i < st.length) (hk : k < fo.length) : [(⟨i + 1, k + 1, st[i], fo[k], if st[i] = fo[k] then 0 else 1⟩ : St)] <+: stepsL st fo i k :=
 ⟨step2 st i k ++ step3 fo i k, by rw [stepsL, step1_yes hi hk]⟩
theorem pre_step2 {st : List Int} (fo : List Int) {i : Nat} (k : Nat) (hi : i < st.length) : step1 st fo i k ++ [(⟨i + 1, k, st[i], 0, 1⟩ : St)] <+: stepsL st fo i k :=
 ⟨step3 fo i k, by rw [stepsL, step2_yes k hi, List.append_assoc]⟩
theorem steps_yes (st : List Int) {fo : List Int} (i : Nat) {k : Nat} (hk : k < fo.length) : stepsL st fo i k = step1 st fo i k ++ step2 st i k ++ [⟨i, k + 1, 0, fo[k], 1⟩] := by
 rw [stepsL, step3_yes i hk, List.append_assoc]
theorem steps_no (st : List Int) {fo : List Int} (i : Nat) {k : Nat} (hk : ¬ k < fo.length) : stepsL st fo i k = step1 st fo i k ++ step2 st i k := by
 rw [stepsL, step3_no i hk, List.append_nil]
theorem yield_bool {e : Ending} {A B C : Prop} (h : (e = .returned (.bool true) ∧ A ∧ B) ∨ (e = .returned (.bool false) ∧ C)) : ∃ b, e = .returned (.bool b) ∧ (b = true → A ∧ B) ∧ (b = false → C) := by
 rcases h with ⟨rfl, h⟩ | ⟨rfl, h⟩
 ·exact ⟨true, rfl, fun _ => h, fun h0 => by cases h0⟩
 ·exact ⟨false, rfl, fun h0 => (by cases h0), fun _ => h⟩
structure Lies (W : World) (pb xb : Nat) (id hs : Int) (st fo : List Int) (sa fa : Option Addr) (sc fc : Nat) (fv : Value) (i k : Nat) : Prop where
 p : Box W pb #[.int .i64 i, .int .i64 k] 137
 x : Box W xb #[.int .i64 id, .int .i64 hs, .slice sa st.length sc, .slice fa fo.length fc, fv] 134
 s : RdI W sa st
 f : RdI W fa fo
theorem Lies.keep {Z : Nat → Prop} {W W' : World} {pb xb : Nat} {id hs : Int} {st fo : List Int} {sa fa : Option Addr} {sc fc : Nat} {fv : Value} {i k : Nat} (h : Lies W pb xb id hs st fo sa fa sc fc fv i k) (hk : Keep Z W W')
  (hz1 : Z pb) (hz2 : Z xb) (hz3 : st ≠ [] → ∀ p, sa = some p → Z p.block) (hz4 : fo ≠ [] → ∀ p, fa = some p → Z p.block) : Lies W' pb xb id hs st fo sa fa sc fc fv i k :=
 ⟨hk.box hz1 h.p, hk.box hz2 h.x, hk.rdI hz3 h.s, hk.rdI hz4 h.f⟩
theorem Lies.below {W W' : World} {pb xb : Nat} {id hs : Int} {st fo : List Int} {sa fa : Option Addr} {sc fc : Nat} {fv : Value} {i k : Nat} (h : Lies W pb xb id hs st fo sa fa sc fc fv i k) (hk : Below W.heap.size W W') : Lies W' pb xb id hs st fo sa fa sc fc fv i k :=
 h.keep (Z := fun _ => True) (Keep.of_below hk (fun _ h _ => h)) trivial trivial (fun _ _ _ => trivial) (fun _ _ _ => trivial)
theorem step1_len (st fo : List Int) (i k : Nat) : (step1 st fo i k).length ≤ 1 := by unfold step1; split <;> simp
theorem step2_len (st : List Int) (i k : Nat) : (step2 st i k).length ≤ 1 := by unfold step2; split <;> simp
def AllCome (st fo : List Int) (i k : Nat) (ys : List (StAt st fo i k)) : Prop := ys.map (·.1) = stepsL st fo i k
def PartCome (st fo : List Int) (i k : Nat) (ys : List (StAt st fo i k)) : Prop := ys.map (·.1) <+: stepsL st fo i k
def MidS (l pb xb : Nat) (id hs : Int) (st fo : List Int) (sa fa : Option Addr) (sc fc : Nat) (fv : Value) (i k : Nat) (J : List (StAt st fo i k) → World → Prop) (L : List St) (a : Act) (w' : World) : Prop :=
 ∃ f : Nat → Value, a = ⟨((List.range 94).map f).toArray, []⟩ ∧ f 0 = .func (.yield l) #[] #[] ∧ f 1 = .pointer (some ⟨pb, 0, none⟩) ∧ f 2 = .pointer (some ⟨xb, 0, none⟩) ∧ f 4 = .bool (decide (i < st.length)) ∧ f 5 = .bool (decide (k < fo.length)) ∧ Lies w' pb xb id hs st fo sa fa sc fc fv i k ∧ ∃ pre, pre.map (·.1) = L ∧ J pre w'
theorem steps1_in (n : Nat) (l pb xb : Nat) (id hs : Int) (st fo : List Int) (sa fa : Option Addr) (sc fc : Nat) (fv : Value) (i k : Nat) (hi : i ≤ st.length) (hk : k ≤ fo.length) (hl : st.length ≤ 4000) (hl2 : fo.length ≤ 4000)
  (Z : Nat → Prop) (hz1 : Z pb) (hz2 : Z xb) (hz3 : st ≠ [] → ∀ p, sa = some p → Z p.block) (hz4 : fo ≠ [] → ∀ p, fa = some p → Z p.block) (B : Nat) (J Jx : List (StAt st fo i k) → World → Prop) (hJ : AbidesFrom B J)
  (hY : ∀ pre (x : StAt st fo i k) W, J pre W → pre.length < 3 → YieldAt Fence.wide (n - 1) Tryd.prog l #[x.1.val] W fun e W' =>
   (e = .returned (.bool true) ∧ J (pre ++ [x]) W' ∧ Keep Z W W') ∨ (e = .returned (.bool false) ∧ Jx (pre ++ [x]) W'))
  (W : World) (hL : Lies W pb xb id hs st fo sa fa sc fc fv i k) (h0 : J [] W) :
  CallsIn Fence.wide n Tryd.prog 125 #[.func (.yield l) #[] #[], .pointer (some ⟨pb, 0, none⟩), .pointer (some ⟨xb, 0, none⟩)] W fun e W' => (∃ v, e = .returned v) ∧
   ((∃ ys, AllCome st fo i k ys ∧ J ys W') ∨ (∃ pre, PartCome st fo i k pre ∧ Jx pre W')) := by
 have hm := mixedS
 have HY := hid hY; clear hY
 have HL := hid hL
 refine callsIn_of_wp Tryd.func125 rfl trivial ?_ rfl
 simp only [Tryd.ntmps125, List.size_toArray, List.length_cons, List.length_nil, Nat.reduceAdd, Nat.reduceSub, Array.replicate_succ, Array.replicate_zero, List.push_toArray, List.append_toArray, List.nil_append, List.cons_append]
 refine wpIn_cut (fun a w => ∃ f : Nat → Value, a = ⟨((List.range 94).map f).toArray, []⟩ ∧ f 0 = .func (.yield l) #[] #[] ∧ f 1 = .pointer (some ⟨pb, 0, none⟩) ∧ f 2 = .pointer (some ⟨xb, 0, none⟩) ∧ f 4 = .bool (decide (i < st.length)) ∧ f 5 = .bool (decide (k < fo.length)) ∧ Below W.heap.size W w) ?_ ?_
 ·have p0 : W.cell? ⟨pb, 0, none⟩ = some (.int .i64 i) := hL.p.cell 0
  have p1 : W.cell? ⟨pb, 1, none⟩ = some (.int .i64 k) := hL.p.cell 1
  have x2 : W.cell? ⟨xb, 2, none⟩ = some (.slice sa st.length sc) := hL.x.cell 2
  have x3 : W.cell? ⟨xb, 3, none⟩ = some (.slice fa fo.length fc) := hL.x.cell 3
  gi_big_quiet_th (fail)
  refine acts_of rfl ?_
  exact ⟨rfl, rfl, rfl, (by first | rfl | (simp [*]; done) | (simp [*]; omega) | (simp_all; done) | (simp_all; omega)), (by first | rfl | (simp [*]; done) | (simp [*]; omega) | (simp_all; done) | (simp_all; omega)), goBl⟩
 rintro a w ⟨f, rfl, f0, f1, f2, f4, f5, hb⟩
 rw [show (List.range 94).map f = [f 0, f 1, f 2, f 3, f 4, f 5, f 6, f 7, f 8, f 9, f 10, f 11, f 12, f 13, f 14, f 15, f 16, f 17, f 18, f 19, f 20, f 21, f 22, f 23, f 24, f 25, f 26, f 27, f 28, f 29, f 30, f 31, f 32, f 33, f 34, f 35, f 36, f 37, f 38, f 39, f 40, f 41, f 42, f 43, f 44, f 45, f 46, f 47, f 48, f 49, f 50, f 51, f 52, f 53, f 54, f 55, f 56, f 57, f 58, f 59, f 60, f 61, f 62, f 63, f 64, f 65, f 66, f 67, f 68, f 69, f 70, f 71, f 72, f 73, f 74, f 75, f 76, f 77, f 78, f 79, f 80, f 81, f 82, f 83, f 84, f 85, f 86, f 87, f 88, f 89, f 90, f 91, f 92, f 93] from rfl, f0, f1, f2, f4, f5]
 clear f0 f1 f2 f4 f5
 have hLw := hL.below hb
 have hJw := hJ [] W w none h0 (grown_of_below hb) (by simp)
 clear h0 hb
 -- the step by which a notch stays, or is turned
 refine wpIn_cut (MidS l pb xb id hs st fo sa fa sc fc fv i k J (step1 st fo i k)) ?_ ?_
 ·have pre0 : ¬ (i < st.length ∧ k < fo.length) → ∃ pre : List (StAt st fo i k), pre.map (·.1) = step1 st fo i k ∧ J pre w := fun h => ⟨[], by rw [step1_no h]; rfl, hJw⟩
  have PRE := hid pre0; clear pre0
  have hz3' := hid hz3; have hz4' := hid hz4; clear hz3 hz4
  by_cases hi' : i < st.length
  ·by_cases hk' : k < fo.length
   ·have HLw := hid hLw
    obtain ⟨ab, ao, rfl, ca⟩ := hLw.s i hi'
    obtain ⟨bb, bo, rfl, cb⟩ := hLw.f k hk'
    have la := cell_lt ca; have lb := cell_lt cb; have l1 := hLw.p.lt; have l2 := hLw.x.lt
    have p0 : w.cell? ⟨pb, 0, none⟩ = some (.int .i64 i) := hLw.p.cell 0
    have p1 : w.cell? ⟨pb, 1, none⟩ = some (.int .i64 k) := hLw.p.cell 1
    have x2 : w.cell? ⟨xb, 2, none⟩ = some (.slice (some ⟨ab, ao, none⟩) st.length sc) := hLw.x.cell 2
    have x3 : w.cell? ⟨xb, 3, none⟩ = some (.slice (some ⟨bb, bo, none⟩) fo.length fc) := hLw.x.cell 3
    clear hLw hL HL
    gi_wp2
    refine wpIn_region_G [1, 4, 9, 11, 13, 16, 18, 20] (fun w' => w'.cell? ⟨pb, 0, none⟩ = some (.int .i64 i) ∧ w'.cell? ⟨pb, 1, none⟩ = some (.int .i64 k) ∧ w'.cell? ⟨xb, 2, none⟩ = some (.slice (some ⟨ab, ao, none⟩) st.length sc) ∧ w'.cell? ⟨xb, 3, none⟩ = some (.slice (some ⟨bb, bo, none⟩) fo.length fc) ∧ w'.cell? ⟨ab, ao + i, none⟩ = some (.int .i64 st[i]) ∧ w'.cell? ⟨bb, bo + k, none⟩ = some (.int .i64 fo[k])) hm ⟨by go_simp, by go_simp, by go_simp, by go_simp, by go_simp, by go_simp⟩ ?_
    intro hS0; have hS := hid hS0; clear hS0
    (apply wpAnyG_pure wide_wide (i := 0) rfl (by kernel_rfl) (fun _ _ _ h => h); · first | exact .inr ⟨rfl, rfl⟩ | exact .inl ⟨rfl, fun w' => by go_simp; rfl⟩); simp only [Act.put, List.setIfInBounds_toArray, List.set_cons_succ, List.set_cons_zero, List.getElem_toArray, List.getElem_cons_succ, List.getElem_cons_zero]
    (apply wpAnyG_held wide_wide (i := 1) rfl (by kernel_rfl) (fun _ _ _ h => h) hS.out; · first | exact .inr ⟨rfl, rfl⟩ | exact .inl ⟨rfl, fun w' hS' => by (obtain ⟨s1, s2, s3, s4, s5, s6⟩ := hS'; go_simp; rfl)⟩); simp only [Act.put, List.setIfInBounds_toArray, List.set_cons_succ, List.set_cons_zero, List.getElem_toArray, List.getElem_cons_succ, List.getElem_cons_zero]
    (apply wpAnyG_pure wide_wide (i := 2) rfl (by kernel_rfl) (fun _ _ _ h => h); · first | exact .inr ⟨rfl, rfl⟩ | exact .inl ⟨rfl, fun w' => by go_simp; rfl⟩); simp only [Act.put, List.setIfInBounds_toArray, List.set_cons_succ, List.set_cons_zero, List.getElem_toArray, List.getElem_cons_succ, List.getElem_cons_zero]
    (apply wpAnyG_pure wide_wide (i := 3) rfl (by kernel_rfl) (fun _ _ _ h => h); · first | exact .inr ⟨rfl, rfl⟩ | exact .inl ⟨rfl, fun w' => by go_simp; rfl⟩); simp only [Act.put, List.setIfInBounds_toArray, List.set_cons_succ, List.set_cons_zero, List.getElem_toArray, List.getElem_cons_succ, List.getElem_cons_zero]
    (apply wpAnyG_held wide_wide (i := 4) rfl (by kernel_rfl) (fun _ _ _ h => h) hS.out; · first | exact .inr ⟨rfl, rfl⟩ | exact .inl ⟨rfl, fun w' hS' => by (obtain ⟨s1, s2, s3, s4, s5, s6⟩ := hS'; go_simp; rfl)⟩); simp only [Act.put, List.setIfInBounds_toArray, List.set_cons_succ, List.set_cons_zero, List.getElem_toArray, List.getElem_cons_succ, List.getElem_cons_zero]
    (apply wpAnyG_pure wide_wide (i := 5) rfl (by kernel_rfl) (fun _ _ _ h => h); · first | exact .inr ⟨rfl, rfl⟩ | exact .inl ⟨rfl, fun w' => by go_simp; rfl⟩); simp only [Act.put, List.setIfInBounds_toArray, List.set_cons_succ, List.set_cons_zero, List.getElem_toArray, List.getElem_cons_succ, List.getElem_cons_zero]
    (apply wpAnyG_pure wide_wide (i := 6) rfl (by kernel_rfl) (fun _ _ _ h => h); · first | exact .inr ⟨rfl, rfl⟩ | exact .inl ⟨rfl, fun w' => by go_simp; rfl⟩); simp only [Act.put, List.setIfInBounds_toArray, List.set_cons_succ, List.set_cons_zero, List.getElem_toArray, List.getElem_cons_succ, List.getElem_cons_zero]
    (apply wpAnyG_pure wide_wide (i := 7) rfl (by kernel_rfl) (fun _ _ _ h => h); · first | exact .inr ⟨rfl, rfl⟩ | exact .inl ⟨rfl, fun w' => by go_simp; rfl⟩); simp only [Act.put, List.setIfInBounds_toArray, List.set_cons_succ, List.set_cons_zero, List.getElem_toArray, List.getElem_cons_succ, List.getElem_cons_zero]
    (apply wpAnyG_pure wide_wide (i := 8) rfl (by kernel_rfl) (fun _ _ _ h => h); · first | exact .inr ⟨rfl, rfl⟩ | exact .inl ⟨rfl, fun w' => by go_simp; rfl⟩); simp only [Act.put, List.setIfInBounds_toArray, List.set_cons_succ, List.set_cons_zero, List.getElem_toArray, List.getElem_cons_succ, List.getElem_cons_zero]
    (apply wpAnyG_held wide_wide (i := 9) rfl (by kernel_rfl) (fun _ _ _ h => h) hS.out; · first | exact .inr ⟨rfl, rfl⟩ | exact .inl ⟨rfl, fun w' hS' => by (obtain ⟨s1, s2, s3, s4, s5, s6⟩ := hS'; go_simp; rfl)⟩); simp only [Act.put, List.setIfInBounds_toArray, List.set_cons_succ, List.set_cons_zero, List.getElem_toArray, List.getElem_cons_succ, List.getElem_cons_zero]
    (apply wpAnyG_pure wide_wide (i := 10) rfl (by kernel_rfl) (fun _ _ _ h => h); · first | exact .inr ⟨rfl, rfl⟩ | exact .inl ⟨rfl, fun w' => by go_simp; rfl⟩); simp only [Act.put, List.setIfInBounds_toArray, List.set_cons_succ, List.set_cons_zero, List.getElem_toArray, List.getElem_cons_succ, List.getElem_cons_zero]
    (apply wpAnyG_held wide_wide (i := 11) rfl (by kernel_rfl) (fun _ _ _ h => h) hS.out; · first | exact .inr ⟨rfl, rfl⟩ | exact .inl ⟨rfl, fun w' hS' => by (obtain ⟨s1, s2, s3, s4, s5, s6⟩ := hS'; go_simp; rfl)⟩); simp only [Act.put, List.setIfInBounds_toArray, List.set_cons_succ, List.set_cons_zero, List.getElem_toArray, List.getElem_cons_succ, List.getElem_cons_zero]
    (apply wpAnyG_pure wide_wide (i := 12) rfl (by kernel_rfl) (fun _ _ _ h => h); · first | exact .inr ⟨rfl, rfl⟩ | exact .inl ⟨rfl, fun w' => by go_simp; rfl⟩); simp only [Act.put, List.setIfInBounds_toArray, List.set_cons_succ, List.set_cons_zero, List.getElem_toArray, List.getElem_cons_succ, List.getElem_cons_zero]
    (apply wpAnyG_held wide_wide (i := 13) rfl (by kernel_rfl) (fun _ _ _ h => h) hS.out; · first | exact .inr ⟨rfl, rfl⟩ | exact .inl ⟨rfl, fun w' hS' => by (obtain ⟨s1, s2, s3, s4, s5, s6⟩ := hS'; go_simp; rfl)⟩); simp only [Act.put, List.setIfInBounds_toArray, List.set_cons_succ, List.set_cons_zero, List.getElem_toArray, List.getElem_cons_succ, List.getElem_cons_zero]
    (apply wpAnyG_pure wide_wide (i := 14) rfl (by kernel_rfl) (fun _ _ _ h => h); · first | exact .inr ⟨rfl, rfl⟩ | exact .inl ⟨rfl, fun w' => by go_simp; rfl⟩); simp only [Act.put, List.setIfInBounds_toArray, List.set_cons_succ, List.set_cons_zero, List.getElem_toArray, List.getElem_cons_succ, List.getElem_cons_zero]
    (apply wpAnyG_pure wide_wide (i := 15) rfl (by kernel_rfl) (fun _ _ _ h => h); · first | exact .inr ⟨rfl, rfl⟩ | exact .inl ⟨rfl, fun w' => by go_simp; rfl⟩); simp only [Act.put, List.setIfInBounds_toArray, List.set_cons_succ, List.set_cons_zero, List.getElem_toArray, List.getElem_cons_succ, List.getElem_cons_zero]
    (apply wpAnyG_held wide_wide (i := 16) rfl (by kernel_rfl) (fun _ _ _ h => h) hS.out; · first | exact .inr ⟨rfl, rfl⟩ | exact .inl ⟨rfl, fun w' hS' => by (obtain ⟨s1, s2, s3, s4, s5, s6⟩ := hS'; go_simp; rfl)⟩); simp only [Act.put, List.setIfInBounds_toArray, List.set_cons_succ, List.set_cons_zero, List.getElem_toArray, List.getElem_cons_succ, List.getElem_cons_zero]
    (apply wpAnyG_pure wide_wide (i := 17) rfl (by kernel_rfl) (fun _ _ _ h => h); · first | exact .inr ⟨rfl, rfl⟩ | exact .inl ⟨rfl, fun w' => by go_simp; rfl⟩); simp only [Act.put, List.setIfInBounds_toArray, List.set_cons_succ, List.set_cons_zero, List.getElem_toArray, List.getElem_cons_succ, List.getElem_cons_zero]
    (apply wpAnyG_held wide_wide (i := 18) rfl (by kernel_rfl) (fun _ _ _ h => h) hS.out; · first | exact .inr ⟨rfl, rfl⟩ | exact .inl ⟨rfl, fun w' hS' => by (obtain ⟨s1, s2, s3, s4, s5, s6⟩ := hS'; go_simp; rfl)⟩); simp only [Act.put, List.setIfInBounds_toArray, List.set_cons_succ, List.set_cons_zero, List.getElem_toArray, List.getElem_cons_succ, List.getElem_cons_zero]
    (apply wpAnyG_pure wide_wide (i := 19) rfl (by kernel_rfl) (fun _ _ _ h => h); · first | exact .inr ⟨rfl, rfl⟩ | exact .inl ⟨rfl, fun w' => by go_simp; rfl⟩); simp only [Act.put, List.setIfInBounds_toArray, List.set_cons_succ, List.set_cons_zero, List.getElem_toArray, List.getElem_cons_succ, List.getElem_cons_zero]
    (apply wpAnyG_held wide_wide (i := 20) rfl (by kernel_rfl) (fun _ _ _ h => h) hS.out; · first | exact .inr ⟨rfl, rfl⟩ | exact .inl ⟨rfl, fun w' hS' => by (obtain ⟨s1, s2, s3, s4, s5, s6⟩ := hS'; go_simp; rfl)⟩); simp only [Act.put, List.setIfInBounds_toArray, List.set_cons_succ, List.set_cons_zero, List.getElem_toArray, List.getElem_cons_succ, List.getElem_cons_zero]
    (apply wpAnyG_pure wide_wide (i := 21) rfl (by kernel_rfl) (fun _ _ _ h => h); · first | exact .inr ⟨rfl, rfl⟩ | exact .inl ⟨rfl, fun w' => by go_simp; rfl⟩); simp only [Act.put, List.setIfInBounds_toArray, List.set_cons_succ, List.set_cons_zero, List.getElem_toArray, List.getElem_cons_succ, List.getElem_cons_zero]
    refine wpAnyG_one (i := 22) rfl ⟨by kernel_rfl, by kernel_rfl⟩ ?_
    intro K hK
    go_simp
    refine shutSG hK ((fun h : Below w.heap.size w _ => ⟨(h.cell (p := ⟨pb, 0, none⟩) l1).trans p0, (h.cell (p := ⟨pb, 1, none⟩) l1).trans p1, (h.cell (p := ⟨xb, 2, none⟩) l2).trans x2, (h.cell (p := ⟨xb, 3, none⟩) l2).trans x3, (h.cell (p := ⟨ab, ao + i, none⟩) la).trans ca, (h.cell (p := ⟨bb, bo + k, none⟩) lb).trans cb⟩) goBl) (fun hS => ?_)
    clear hK K
    refine wpAnyG_one (i := 23) rfl ⟨by kernel_rfl, by kernel_rfl⟩ ?_
    intro K hK
    go_simp
    refine shutNG hK (by kernel_rfl) ?_
    clear hK K
    refine wpAnyG_done (by kernel_rfl) ?_ _
    clear hS
    refine forget (fun w2 => Box w2 w.heap.size #[.int .i64 (i + 1 : Nat), .int .i64 (k + 1 : Nat), .int .i64 st[i], .int .i64 fo[k], .int .i64 0] 142 ∧ w2.heap.size = w.heap.size + 1 ∧ Below w.heap.size w w2) ⟨?_, by simp, ?_⟩ ?_
    ·rw [wrap_succ (by omega), wrap_succ (by omega)]
     exact (Box.new _ _ _).drew
    ·exact goBl
    rintro w2 ⟨b2, z2, hb2⟩
    have g0 := b2.cell 0; have g1 := b2.cell 1; have g2 := b2.cell 2; have g3 := b2.cell 3; have g4 := b2.cell 4
    have k4 := b2.frozen 4
    have hbl := b2.lt
    simp at g0 g1 g2 g3 g4
    by_cases he : st[i] = fo[k]
    ·have hJ2 := hJ [] w w2 none hJw (grown_of_below hb2) (by simp)
     obtain ⟨fn, tmps, assign, body, hy, hR⟩ := HY.out [] ⟨_, mem_step1 hi' hk'⟩ w2 hJ2 (by simp)
     simp [St.val, he] at hy
     gi_wp2
     refine ⟨fun h => (by cases h), hR.mono ?_⟩
     rintro e w4 (⟨rfl, hJ4, hk4⟩ | ⟨rfl, hJx⟩)
     ·gi_wp2
      unfold MidS; refine acts_of rfl ?_
      exact ⟨rfl, rfl, rfl, (by first | rfl | (simp [*]; done) | (simp [*]; omega) | (simp_all; done) | (simp_all; omega)), (by first | rfl | (simp [*]; done) | (simp [*]; omega) | (simp_all; done) | (simp_all; omega)), (HLw.out.below hb2).keep hk4 hz1 hz2 hz3'.out hz4'.out, [⟨_, mem_step1 hi' hk'⟩], (step1_yes hi' hk').symm, hJ4⟩
     ·gi_wp2
      refine bodyPost_ret (results_none rfl _ _ _) rfl ?_
      exact ⟨⟨_, rfl⟩, .inr ⟨[⟨_, mem_step1 hi' hk'⟩], pre_step1 hi' hk', hJx⟩⟩
    ·have hb3 : Below w.heap.size w (w2.setCell ⟨w.heap.size, 4, none⟩ (.int .i64 1)) := hb2.setCell (p := ⟨w.heap.size, 4, none⟩) (Nat.le_refl _) _
     have hJ2 := hJ [] w _ none hJw (grown_of_below hb3) (by simp)
     obtain ⟨fn, tmps, assign, body, hy, hR⟩ := HY.out [] ⟨_, mem_step1 hi' hk'⟩ _ hJ2 (by simp)
     simp [St.val, he] at hy
     gi_wp2
     refine ⟨fun h => (by cases h), hR.mono ?_⟩
     rintro e w4 (⟨rfl, hJ4, hk4⟩ | ⟨rfl, hJx⟩)
     ·gi_wp2
      unfold MidS; refine acts_of rfl ?_
      exact ⟨rfl, rfl, rfl, (by first | rfl | (simp [*]; done) | (simp [*]; omega) | (simp_all; done) | (simp_all; omega)), (by first | rfl | (simp [*]; done) | (simp [*]; omega) | (simp_all; done) | (simp_all; omega)), (HLw.out.below hb3).keep hk4 hz1 hz2 hz3'.out hz4'.out, [⟨_, mem_step1 hi' hk'⟩], (step1_yes hi' hk').symm, hJ4⟩
     ·gi_wp2
      refine bodyPost_ret (results_none rfl _ _ _) rfl ?_
      exact ⟨⟨_, rfl⟩, .inr ⟨[⟨_, mem_step1 hi' hk'⟩], pre_step1 hi' hk', hJx⟩⟩
   ·obtain ⟨pre, hp, hj⟩ := PRE.out (fun h => hk' h.2)
    gi_wp2
    unfold MidS; refine acts_of rfl ?_
    exact ⟨rfl, rfl, rfl, (by first | rfl | (simp [*]; done) | (simp [*]; omega) | (simp_all; done) | (simp_all; omega)), (by first | rfl | (simp [*]; done) | (simp [*]; omega) | (simp_all; done) | (simp_all; omega)), hLw, pre, hp, hj⟩
  ·obtain ⟨pre, hp, hj⟩ := PRE.out (fun h => hi' h.1)
   gi_wp2
   unfold MidS; refine acts_of rfl ?_
   exact ⟨rfl, rfl, rfl, (by first | rfl | (simp [*]; done) | (simp [*]; omega) | (simp_all; done) | (simp_all; omega)), (by first | rfl | (simp [*]; done) | (simp [*]; omega) | (simp_all; done) | (simp_all; omega)), hLw, pre, hp, hj⟩
 clear hLw hJw
 rintro a w1 ⟨f, rfl, f0, f1, f2, f4, f5, hL1, pre1, hp1, hJ1⟩
 rw [show (List.range 94).map f = [f 0, f 1, f 2, f 3, f 4, f 5, f 6, f 7, f 8, f 9, f 10, f 11, f 12, f 13, f 14, f 15, f 16, f 17, f 18, f 19, f 20, f 21, f 22, f 23, f 24, f 25, f 26, f 27, f 28, f 29, f 30, f 31, f 32, f 33, f 34, f 35, f 36, f 37, f 38, f 39, f 40, f 41, f 42, f 43, f 44, f 45, f 46, f 47, f 48, f 49, f 50, f 51, f 52, f 53, f 54, f 55, f 56, f 57, f 58, f 59, f 60, f 61, f 62, f 63, f 64, f 65, f 66, f 67, f 68, f 69, f 70, f 71, f 72, f 73, f 74, f 75, f 76, f 77, f 78, f 79, f 80, f 81, f 82, f 83, f 84, f 85, f 86, f 87, f 88, f 89, f 90, f 91, f 92, f 93] from rfl, f0, f1, f2, f4, f5]
 clear f0 f1 f2 f4 f5
 have hq1 : pre1.length < 3 := by
  have := congrArg List.length hp1
  rw [List.length_map] at this
  have := step1_len st fo i k; omega
 -- the step by which one is cut off
 refine wpIn_cut (MidS l pb xb id hs st fo sa fa sc fc fv i k J (step1 st fo i k ++ step2 st i k)) ?_ ?_
 ·have hz3' := hid hz3; have hz4' := hid hz4; clear hz3 hz4
  have HP1 := hid hp1; clear hp1
  have HLw := hid hL1
  by_cases hi' : i < st.length
  ·obtain ⟨ab, ao, rfl, ca⟩ := hL1.s i hi'
   have la := cell_lt ca; have l1 := hL1.p.lt; have l2 := hL1.x.lt
   have p0 : w1.cell? ⟨pb, 0, none⟩ = some (.int .i64 i) := hL1.p.cell 0
   have p1 : w1.cell? ⟨pb, 1, none⟩ = some (.int .i64 k) := hL1.p.cell 1
   have x2 : w1.cell? ⟨xb, 2, none⟩ = some (.slice (some ⟨ab, ao, none⟩) st.length sc) := hL1.x.cell 2
   clear hL1
   gi_wp2
   refine wpIn_region_G [4, 7, 11, 13, 15] (fun w' => w'.cell? ⟨pb, 0, none⟩ = some (.int .i64 i) ∧ w'.cell? ⟨pb, 1, none⟩ = some (.int .i64 k) ∧ w'.cell? ⟨xb, 2, none⟩ = some (.slice (some ⟨ab, ao, none⟩) st.length sc) ∧ w'.cell? ⟨ab, ao + i, none⟩ = some (.int .i64 st[i])) hm ⟨by go_simp, by go_simp, by go_simp, by go_simp⟩ ?_
   intro hS0; have hS := hid hS0; clear hS0
   (apply wpAnyG_pure wide_wide (i := 0) rfl (by kernel_rfl) (fun _ _ _ h => h); · first | exact .inr ⟨rfl, rfl⟩ | exact .inl ⟨rfl, fun w' => by go_simp; rfl⟩); simp only [Act.put, List.setIfInBounds_toArray, List.set_cons_succ, List.set_cons_zero, List.getElem_toArray, List.getElem_cons_succ, List.getElem_cons_zero]
   (apply wpAnyG_pure wide_wide (i := 1) rfl (by kernel_rfl) (fun _ _ _ h => h); · first | exact .inr ⟨rfl, rfl⟩ | exact .inl ⟨rfl, fun w' => by go_simp; rfl⟩); simp only [Act.put, List.setIfInBounds_toArray, List.set_cons_succ, List.set_cons_zero, List.getElem_toArray, List.getElem_cons_succ, List.getElem_cons_zero]
   (apply wpAnyG_pure wide_wide (i := 2) rfl (by kernel_rfl) (fun _ _ _ h => h); · first | exact .inr ⟨rfl, rfl⟩ | exact .inl ⟨rfl, fun w' => by go_simp; rfl⟩); simp only [Act.put, List.setIfInBounds_toArray, List.set_cons_succ, List.set_cons_zero, List.getElem_toArray, List.getElem_cons_succ, List.getElem_cons_zero]
   (apply wpAnyG_pure wide_wide (i := 3) rfl (by kernel_rfl) (fun _ _ _ h => h); · first | exact .inr ⟨rfl, rfl⟩ | exact .inl ⟨rfl, fun w' => by go_simp; rfl⟩); simp only [Act.put, List.setIfInBounds_toArray, List.set_cons_succ, List.set_cons_zero, List.getElem_toArray, List.getElem_cons_succ, List.getElem_cons_zero]
   (apply wpAnyG_held wide_wide (i := 4) rfl (by kernel_rfl) (fun _ _ _ h => h) hS.out; · first | exact .inr ⟨rfl, rfl⟩ | exact .inl ⟨rfl, fun w' hS' => by (obtain ⟨s1, s2, s3, s4⟩ := hS'; go_simp; rfl)⟩); simp only [Act.put, List.setIfInBounds_toArray, List.set_cons_succ, List.set_cons_zero, List.getElem_toArray, List.getElem_cons_succ, List.getElem_cons_zero]
   (apply wpAnyG_pure wide_wide (i := 5) rfl (by kernel_rfl) (fun _ _ _ h => h); · first | exact .inr ⟨rfl, rfl⟩ | exact .inl ⟨rfl, fun w' => by go_simp; rfl⟩); simp only [Act.put, List.setIfInBounds_toArray, List.set_cons_succ, List.set_cons_zero, List.getElem_toArray, List.getElem_cons_succ, List.getElem_cons_zero]
   (apply wpAnyG_pure wide_wide (i := 6) rfl (by kernel_rfl) (fun _ _ _ h => h); · first | exact .inr ⟨rfl, rfl⟩ | exact .inl ⟨rfl, fun w' => by go_simp; rfl⟩); simp only [Act.put, List.setIfInBounds_toArray, List.set_cons_succ, List.set_cons_zero, List.getElem_toArray, List.getElem_cons_succ, List.getElem_cons_zero]
   (apply wpAnyG_held wide_wide (i := 7) rfl (by kernel_rfl) (fun _ _ _ h => h) hS.out; · first | exact .inr ⟨rfl, rfl⟩ | exact .inl ⟨rfl, fun w' hS' => by (obtain ⟨s1, s2, s3, s4⟩ := hS'; go_simp; rfl)⟩); simp only [Act.put, List.setIfInBounds_toArray, List.set_cons_succ, List.set_cons_zero, List.getElem_toArray, List.getElem_cons_succ, List.getElem_cons_zero]
   (apply wpAnyG_pure wide_wide (i := 8) rfl (by kernel_rfl) (fun _ _ _ h => h); · first | exact .inr ⟨rfl, rfl⟩ | exact .inl ⟨rfl, fun w' => by go_simp; rfl⟩); simp only [Act.put, List.setIfInBounds_toArray, List.set_cons_succ, List.set_cons_zero, List.getElem_toArray, List.getElem_cons_succ, List.getElem_cons_zero]
   (apply wpAnyG_pure wide_wide (i := 9) rfl (by kernel_rfl) (fun _ _ _ h => h); · first | exact .inr ⟨rfl, rfl⟩ | exact .inl ⟨rfl, fun w' => by go_simp; rfl⟩); simp only [Act.put, List.setIfInBounds_toArray, List.set_cons_succ, List.set_cons_zero, List.getElem_toArray, List.getElem_cons_succ, List.getElem_cons_zero]
   (apply wpAnyG_pure wide_wide (i := 10) rfl (by kernel_rfl) (fun _ _ _ h => h); · first | exact .inr ⟨rfl, rfl⟩ | exact .inl ⟨rfl, fun w' => by go_simp; rfl⟩); simp only [Act.put, List.setIfInBounds_toArray, List.set_cons_succ, List.set_cons_zero, List.getElem_toArray, List.getElem_cons_succ, List.getElem_cons_zero]
   (apply wpAnyG_held wide_wide (i := 11) rfl (by kernel_rfl) (fun _ _ _ h => h) hS.out; · first | exact .inr ⟨rfl, rfl⟩ | exact .inl ⟨rfl, fun w' hS' => by (obtain ⟨s1, s2, s3, s4⟩ := hS'; go_simp; rfl)⟩); simp only [Act.put, List.setIfInBounds_toArray, List.set_cons_succ, List.set_cons_zero, List.getElem_toArray, List.getElem_cons_succ, List.getElem_cons_zero]
   (apply wpAnyG_pure wide_wide (i := 12) rfl (by kernel_rfl) (fun _ _ _ h => h); · first | exact .inr ⟨rfl, rfl⟩ | exact .inl ⟨rfl, fun w' => by go_simp; rfl⟩); simp only [Act.put, List.setIfInBounds_toArray, List.set_cons_succ, List.set_cons_zero, List.getElem_toArray, List.getElem_cons_succ, List.getElem_cons_zero]
   (apply wpAnyG_held wide_wide (i := 13) rfl (by kernel_rfl) (fun _ _ _ h => h) hS.out; · first | exact .inr ⟨rfl, rfl⟩ | exact .inl ⟨rfl, fun w' hS' => by (obtain ⟨s1, s2, s3, s4⟩ := hS'; go_simp; rfl)⟩); simp only [Act.put, List.setIfInBounds_toArray, List.set_cons_succ, List.set_cons_zero, List.getElem_toArray, List.getElem_cons_succ, List.getElem_cons_zero]
   (apply wpAnyG_pure wide_wide (i := 14) rfl (by kernel_rfl) (fun _ _ _ h => h); · first | exact .inr ⟨rfl, rfl⟩ | exact .inl ⟨rfl, fun w' => by go_simp; rfl⟩); simp only [Act.put, List.setIfInBounds_toArray, List.set_cons_succ, List.set_cons_zero, List.getElem_toArray, List.getElem_cons_succ, List.getElem_cons_zero]
   (apply wpAnyG_held wide_wide (i := 15) rfl (by kernel_rfl) (fun _ _ _ h => h) hS.out; · first | exact .inr ⟨rfl, rfl⟩ | exact .inl ⟨rfl, fun w' hS' => by (obtain ⟨s1, s2, s3, s4⟩ := hS'; go_simp; rfl)⟩); simp only [Act.put, List.setIfInBounds_toArray, List.set_cons_succ, List.set_cons_zero, List.getElem_toArray, List.getElem_cons_succ, List.getElem_cons_zero]
   (apply wpAnyG_pure wide_wide (i := 16) rfl (by kernel_rfl) (fun _ _ _ h => h); · first | exact .inr ⟨rfl, rfl⟩ | exact .inl ⟨rfl, fun w' => by go_simp; rfl⟩); simp only [Act.put, List.setIfInBounds_toArray, List.set_cons_succ, List.set_cons_zero, List.getElem_toArray, List.getElem_cons_succ, List.getElem_cons_zero]
   refine wpAnyG_one (i := 17) rfl ⟨by kernel_rfl, by kernel_rfl⟩ ?_
   intro K hK
   have hJ2 := hJ pre1 w1 w1.drew none hJ1 (grown_of_below (Below.drew (Below.refl _ _))) (by simp)
   obtain ⟨fn, tmps, assign, body, hy, hR⟩ := HY.out pre1 ⟨_, mem_step2 fo k hi'⟩ _ hJ2 hq1
   simp [St.val] at hy
   have hw := wrap_succ (i := i) (by omega)
   simp only [Int.natCast_add, Int.cast_ofNat_Int] at hw
   go_simp
   refine ⟨fun h => (by cases h), hR.mono ?_⟩
   intro e w4 hd
   obtain ⟨b, rfl, ht, hf⟩ := yield_bool hd
   clear hd
   refine shutNG hK (by kernel_rfl) ?_
   clear hK K
   (apply wpAnyG_pure wide_wide (i := 18) rfl (by kernel_rfl) (fun _ _ _ h => h); · first | exact .inr ⟨rfl, rfl⟩ | exact .inl ⟨rfl, fun w' => by go_simp; rfl⟩); simp only [Act.put, List.setIfInBounds_toArray, List.set_cons_succ, List.set_cons_zero, List.getElem_toArray, List.getElem_cons_succ, List.getElem_cons_zero]
   (apply wpAnyG_pure wide_wide (i := 19) rfl (by kernel_rfl) (fun _ _ _ h => h); · first | exact .inr ⟨rfl, rfl⟩ | exact .inl ⟨rfl, fun w' => by go_simp; rfl⟩); simp only [Act.put, List.setIfInBounds_toArray, List.set_cons_succ, List.set_cons_zero, List.getElem_toArray, List.getElem_cons_succ, List.getElem_cons_zero]
   refine wpAnyG_done (by kernel_rfl) ?_ _
   cases b with
   | true =>
    obtain ⟨hJ4, hk4⟩ := ht rfl
    gi_wp2
    unfold MidS; refine acts_of rfl ?_
    exact ⟨rfl, rfl, rfl, (by first | rfl | (simp [*]; done) | (simp [*]; omega) | (simp_all; done) | (simp_all; omega)), (by first | rfl | (simp [*]; done) | (simp [*]; omega) | (simp_all; done) | (simp_all; omega)), (HLw.out.below (Below.drew (Below.refl _ _))).keep hk4 hz1 hz2 hz3'.out hz4'.out, pre1 ++ [⟨_, mem_step2 fo k hi'⟩], by rw [List.map_append, HP1.out, step2_yes k hi']; rfl, hJ4⟩
   | false =>
    have hJx := hf rfl
    gi_wp2
    refine bodyPost_ret (results_none rfl _ _ _) rfl ?_
    exact ⟨⟨_, rfl⟩, .inr ⟨pre1 ++ [⟨_, mem_step2 fo k hi'⟩], by unfold PartCome; rw [List.map_append, HP1.out]; exact pre_step2 fo k hi', hJx⟩⟩
  ·gi_wp2
   refine wpIn_region_G [4, 7, 11, 13, 15] (fun _ => True) hm trivial ?_
   intro hS0; have hS := hid hS0; clear hS0
   (apply wpAnyG_pure wide_wide (i := 0) rfl (by kernel_rfl) (fun _ _ _ h => h); · first | exact .inr ⟨rfl, rfl⟩ | exact .inl ⟨rfl, fun w' => by go_simp; rfl⟩); simp only [Act.put, List.setIfInBounds_toArray, List.set_cons_succ, List.set_cons_zero, List.getElem_toArray, List.getElem_cons_succ, List.getElem_cons_zero]
   (apply wpAnyG_pure wide_wide (i := 1) rfl (by kernel_rfl) (fun _ _ _ h => h); · first | exact .inr ⟨rfl, rfl⟩ | exact .inl ⟨rfl, fun w' => by go_simp; rfl⟩); simp only [Act.put, List.setIfInBounds_toArray, List.set_cons_succ, List.set_cons_zero, List.getElem_toArray, List.getElem_cons_succ, List.getElem_cons_zero]
   (apply wpAnyG_pure wide_wide (i := 2) rfl (by kernel_rfl) (fun _ _ _ h => h); · first | exact .inr ⟨rfl, rfl⟩ | exact .inl ⟨rfl, fun w' => by go_simp; rfl⟩); simp only [Act.put, List.setIfInBounds_toArray, List.set_cons_succ, List.set_cons_zero, List.getElem_toArray, List.getElem_cons_succ, List.getElem_cons_zero]
   (apply wpAnyG_pure wide_wide (i := 3) rfl (by kernel_rfl) (fun _ _ _ h => h); · first | exact .inr ⟨rfl, rfl⟩ | exact .inl ⟨rfl, fun w' => by go_simp; rfl⟩); simp only [Act.put, List.setIfInBounds_toArray, List.set_cons_succ, List.set_cons_zero, List.getElem_toArray, List.getElem_cons_succ, List.getElem_cons_zero]
   (apply wpAnyG_held wide_wide (i := 4) rfl (by kernel_rfl) (fun _ _ _ h => h) hS.out; · first | exact .inr ⟨rfl, rfl⟩ | exact .inl ⟨rfl, fun w' hS' => by (obtain s1 := hS'; go_simp; rfl)⟩); simp only [Act.put, List.setIfInBounds_toArray, List.set_cons_succ, List.set_cons_zero, List.getElem_toArray, List.getElem_cons_succ, List.getElem_cons_zero]
   (apply wpAnyG_pure wide_wide (i := 5) rfl (by kernel_rfl) (fun _ _ _ h => h); · first | exact .inr ⟨rfl, rfl⟩ | exact .inl ⟨rfl, fun w' => by go_simp; rfl⟩); simp only [Act.put, List.setIfInBounds_toArray, List.set_cons_succ, List.set_cons_zero, List.getElem_toArray, List.getElem_cons_succ, List.getElem_cons_zero]
   (apply wpAnyG_pure wide_wide (i := 6) rfl (by kernel_rfl) (fun _ _ _ h => h); · first | exact .inr ⟨rfl, rfl⟩ | exact .inl ⟨rfl, fun w' => by go_simp; rfl⟩); simp only [Act.put, List.setIfInBounds_toArray, List.set_cons_succ, List.set_cons_zero, List.getElem_toArray, List.getElem_cons_succ, List.getElem_cons_zero]
   (apply wpAnyG_held wide_wide (i := 7) rfl (by kernel_rfl) (fun _ _ _ h => h) hS.out; · first | exact .inr ⟨rfl, rfl⟩ | exact .inl ⟨rfl, fun w' hS' => by (obtain s1 := hS'; go_simp; rfl)⟩); simp only [Act.put, List.setIfInBounds_toArray, List.set_cons_succ, List.set_cons_zero, List.getElem_toArray, List.getElem_cons_succ, List.getElem_cons_zero]
   (apply wpAnyG_pure wide_wide (i := 8) rfl (by kernel_rfl) (fun _ _ _ h => h); · first | exact .inr ⟨rfl, rfl⟩ | exact .inl ⟨rfl, fun w' => by go_simp; rfl⟩); simp only [Act.put, List.setIfInBounds_toArray, List.set_cons_succ, List.set_cons_zero, List.getElem_toArray, List.getElem_cons_succ, List.getElem_cons_zero]
   (apply wpAnyG_pure wide_wide (i := 9) rfl (by kernel_rfl) (fun _ _ _ h => h); · first | exact .inr ⟨rfl, rfl⟩ | exact .inl ⟨rfl, fun w' => by go_simp; rfl⟩); simp only [Act.put, List.setIfInBounds_toArray, List.set_cons_succ, List.set_cons_zero, List.getElem_toArray, List.getElem_cons_succ, List.getElem_cons_zero]
   (apply wpAnyG_pure wide_wide (i := 10) rfl (by kernel_rfl) (fun _ _ _ h => h); · first | exact .inr ⟨rfl, rfl⟩ | exact .inl ⟨rfl, fun w' => by go_simp; rfl⟩); simp only [Act.put, List.setIfInBounds_toArray, List.set_cons_succ, List.set_cons_zero, List.getElem_toArray, List.getElem_cons_succ, List.getElem_cons_zero]
   (apply wpAnyG_held wide_wide (i := 11) rfl (by kernel_rfl) (fun _ _ _ h => h) hS.out; · first | exact .inr ⟨rfl, rfl⟩ | exact .inl ⟨rfl, fun w' hS' => by (obtain s1 := hS'; go_simp; rfl)⟩); simp only [Act.put, List.setIfInBounds_toArray, List.set_cons_succ, List.set_cons_zero, List.getElem_toArray, List.getElem_cons_succ, List.getElem_cons_zero]
   (apply wpAnyG_pure wide_wide (i := 12) rfl (by kernel_rfl) (fun _ _ _ h => h); · first | exact .inr ⟨rfl, rfl⟩ | exact .inl ⟨rfl, fun w' => by go_simp; rfl⟩); simp only [Act.put, List.setIfInBounds_toArray, List.set_cons_succ, List.set_cons_zero, List.getElem_toArray, List.getElem_cons_succ, List.getElem_cons_zero]
   (apply wpAnyG_held wide_wide (i := 13) rfl (by kernel_rfl) (fun _ _ _ h => h) hS.out; · first | exact .inr ⟨rfl, rfl⟩ | exact .inl ⟨rfl, fun w' hS' => by (obtain s1 := hS'; go_simp; rfl)⟩); simp only [Act.put, List.setIfInBounds_toArray, List.set_cons_succ, List.set_cons_zero, List.getElem_toArray, List.getElem_cons_succ, List.getElem_cons_zero]
   (apply wpAnyG_pure wide_wide (i := 14) rfl (by kernel_rfl) (fun _ _ _ h => h); · first | exact .inr ⟨rfl, rfl⟩ | exact .inl ⟨rfl, fun w' => by go_simp; rfl⟩); simp only [Act.put, List.setIfInBounds_toArray, List.set_cons_succ, List.set_cons_zero, List.getElem_toArray, List.getElem_cons_succ, List.getElem_cons_zero]
   (apply wpAnyG_held wide_wide (i := 15) rfl (by kernel_rfl) (fun _ _ _ h => h) hS.out; · first | exact .inr ⟨rfl, rfl⟩ | exact .inl ⟨rfl, fun w' hS' => by (obtain s1 := hS'; go_simp; rfl)⟩); simp only [Act.put, List.setIfInBounds_toArray, List.set_cons_succ, List.set_cons_zero, List.getElem_toArray, List.getElem_cons_succ, List.getElem_cons_zero]
   (apply wpAnyG_pure wide_wide (i := 16) rfl (by kernel_rfl) (fun _ _ _ h => h); · first | exact .inr ⟨rfl, rfl⟩ | exact .inl ⟨rfl, fun w' => by go_simp; rfl⟩); simp only [Act.put, List.setIfInBounds_toArray, List.set_cons_succ, List.set_cons_zero, List.getElem_toArray, List.getElem_cons_succ, List.getElem_cons_zero]
   refine wpAnyG_one (i := 17) rfl ⟨by kernel_rfl, by kernel_rfl⟩ ?_
   intro K hK
   go_simp
   refine ⟨fun _ _ => trivial, ?_⟩
   refine shutNG hK (by kernel_rfl) ?_
   clear hK K
   (apply wpAnyG_pure wide_wide (i := 18) rfl (by kernel_rfl) (fun _ _ _ h => h); · first | exact .inr ⟨rfl, rfl⟩ | exact .inl ⟨rfl, fun w' => by go_simp; rfl⟩); simp only [Act.put, List.setIfInBounds_toArray, List.set_cons_succ, List.set_cons_zero, List.getElem_toArray, List.getElem_cons_succ, List.getElem_cons_zero]
   (apply wpAnyG_pure wide_wide (i := 19) rfl (by kernel_rfl) (fun _ _ _ h => h); · first | exact .inr ⟨rfl, rfl⟩ | exact .inl ⟨rfl, fun w' => by go_simp; rfl⟩); simp only [Act.put, List.setIfInBounds_toArray, List.set_cons_succ, List.set_cons_zero, List.getElem_toArray, List.getElem_cons_succ, List.getElem_cons_zero]
   refine wpAnyG_done (by kernel_rfl) ?_ _
   gi_wp2
   unfold MidS; refine acts_of rfl ?_
   exact ⟨rfl, rfl, rfl, (by first | rfl | (simp [*]; done) | (simp [*]; omega) | (simp_all; done) | (simp_all; omega)), (by first | rfl | (simp [*]; done) | (simp [*]; omega) | (simp_all; done) | (simp_all; omega)), HLw.out.below goBl, pre1, by rw [HP1.out, step2_no k hi', List.append_nil], hJ pre1 w1 _ none hJ1 (grown_of_below goBl) (by simp)⟩
 clear hL1 hJ1 hp1 hq1 pre1
 rintro a w2 ⟨f, rfl, f0, f1, f2, f4, f5, hL2, pre2, hp2, hJ2⟩
 rw [show (List.range 94).map f = [f 0, f 1, f 2, f 3, f 4, f 5, f 6, f 7, f 8, f 9, f 10, f 11, f 12, f 13, f 14, f 15, f 16, f 17, f 18, f 19, f 20, f 21, f 22, f 23, f 24, f 25, f 26, f 27, f 28, f 29, f 30, f 31, f 32, f 33, f 34, f 35, f 36, f 37, f 38, f 39, f 40, f 41, f 42, f 43, f 44, f 45, f 46, f 47, f 48, f 49, f 50, f 51, f 52, f 53, f 54, f 55, f 56, f 57, f 58, f 59, f 60, f 61, f 62, f 63, f 64, f 65, f 66, f 67, f 68, f 69, f 70, f 71, f 72, f 73, f 74, f 75, f 76, f 77, f 78, f 79, f 80, f 81, f 82, f 83, f 84, f 85, f 86, f 87, f 88, f 89, f 90, f 91, f 92, f 93] from rfl, f0, f1, f2, f4, f5]
 clear f0 f1 f2 f4 f5
 have hq2 : pre2.length < 3 := by
  have := congrArg List.length hp2
  rw [List.length_map, List.length_append] at this
  have := step1_len st fo i k; have := step2_len st i k; omega
 -- the step by which one is added
 have hz3' := hid hz3; have hz4' := hid hz4; clear hz3 hz4
 have HP2 := hid hp2; clear hp2
 by_cases hk' : k < fo.length
 ·obtain ⟨bb, bo, rfl, cb⟩ := hL2.f k hk'
  have lb := cell_lt cb; have l1 := hL2.p.lt; have l2 := hL2.x.lt
  have p0 : w2.cell? ⟨pb, 0, none⟩ = some (.int .i64 i) := hL2.p.cell 0
  have p1 : w2.cell? ⟨pb, 1, none⟩ = some (.int .i64 k) := hL2.p.cell 1
  have x3 : w2.cell? ⟨xb, 3, none⟩ = some (.slice (some ⟨bb, bo, none⟩) fo.length fc) := hL2.x.cell 3
  clear hL2
  gi_wp2
  refine wpIn_region_G [2, 4, 9, 11, 13] (fun w' => w'.cell? ⟨pb, 0, none⟩ = some (.int .i64 i) ∧ w'.cell? ⟨pb, 1, none⟩ = some (.int .i64 k) ∧ w'.cell? ⟨xb, 3, none⟩ = some (.slice (some ⟨bb, bo, none⟩) fo.length fc) ∧ w'.cell? ⟨bb, bo + k, none⟩ = some (.int .i64 fo[k])) hm ⟨by go_simp, by go_simp, by go_simp, by go_simp⟩ ?_
  intro hS0; have hS := hid hS0; clear hS0
  (apply wpAnyG_pure wide_wide (i := 0) rfl (by kernel_rfl) (fun _ _ _ h => h); · first | exact .inr ⟨rfl, rfl⟩ | exact .inl ⟨rfl, fun w' => by go_simp; rfl⟩); simp only [Act.put, List.setIfInBounds_toArray, List.set_cons_succ, List.set_cons_zero, List.getElem_toArray, List.getElem_cons_succ, List.getElem_cons_zero]
  (apply wpAnyG_pure wide_wide (i := 1) rfl (by kernel_rfl) (fun _ _ _ h => h); · first | exact .inr ⟨rfl, rfl⟩ | exact .inl ⟨rfl, fun w' => by go_simp; rfl⟩); simp only [Act.put, List.setIfInBounds_toArray, List.set_cons_succ, List.set_cons_zero, List.getElem_toArray, List.getElem_cons_succ, List.getElem_cons_zero]
  (apply wpAnyG_held wide_wide (i := 2) rfl (by kernel_rfl) (fun _ _ _ h => h) hS.out; · first | exact .inr ⟨rfl, rfl⟩ | exact .inl ⟨rfl, fun w' hS' => by (obtain ⟨s1, s2, s3, s4⟩ := hS'; go_simp; rfl)⟩); simp only [Act.put, List.setIfInBounds_toArray, List.set_cons_succ, List.set_cons_zero, List.getElem_toArray, List.getElem_cons_succ, List.getElem_cons_zero]
  (apply wpAnyG_pure wide_wide (i := 3) rfl (by kernel_rfl) (fun _ _ _ h => h); · first | exact .inr ⟨rfl, rfl⟩ | exact .inl ⟨rfl, fun w' => by go_simp; rfl⟩); simp only [Act.put, List.setIfInBounds_toArray, List.set_cons_succ, List.set_cons_zero, List.getElem_toArray, List.getElem_cons_succ, List.getElem_cons_zero]
  (apply wpAnyG_held wide_wide (i := 4) rfl (by kernel_rfl) (fun _ _ _ h => h) hS.out; · first | exact .inr ⟨rfl, rfl⟩ | exact .inl ⟨rfl, fun w' hS' => by (obtain ⟨s1, s2, s3, s4⟩ := hS'; go_simp; rfl)⟩); simp only [Act.put, List.setIfInBounds_toArray, List.set_cons_succ, List.set_cons_zero, List.getElem_toArray, List.getElem_cons_succ, List.getElem_cons_zero]
  (apply wpAnyG_pure wide_wide (i := 5) rfl (by kernel_rfl) (fun _ _ _ h => h); · first | exact .inr ⟨rfl, rfl⟩ | exact .inl ⟨rfl, fun w' => by go_simp; rfl⟩); simp only [Act.put, List.setIfInBounds_toArray, List.set_cons_succ, List.set_cons_zero, List.getElem_toArray, List.getElem_cons_succ, List.getElem_cons_zero]
  (apply wpAnyG_pure wide_wide (i := 6) rfl (by kernel_rfl) (fun _ _ _ h => h); · first | exact .inr ⟨rfl, rfl⟩ | exact .inl ⟨rfl, fun w' => by go_simp; rfl⟩); simp only [Act.put, List.setIfInBounds_toArray, List.set_cons_succ, List.set_cons_zero, List.getElem_toArray, List.getElem_cons_succ, List.getElem_cons_zero]
  (apply wpAnyG_pure wide_wide (i := 7) rfl (by kernel_rfl) (fun _ _ _ h => h); · first | exact .inr ⟨rfl, rfl⟩ | exact .inl ⟨rfl, fun w' => by go_simp; rfl⟩); simp only [Act.put, List.setIfInBounds_toArray, List.set_cons_succ, List.set_cons_zero, List.getElem_toArray, List.getElem_cons_succ, List.getElem_cons_zero]
  (apply wpAnyG_pure wide_wide (i := 8) rfl (by kernel_rfl) (fun _ _ _ h => h); · first | exact .inr ⟨rfl, rfl⟩ | exact .inl ⟨rfl, fun w' => by go_simp; rfl⟩); simp only [Act.put, List.setIfInBounds_toArray, List.set_cons_succ, List.set_cons_zero, List.getElem_toArray, List.getElem_cons_succ, List.getElem_cons_zero]
  (apply wpAnyG_held wide_wide (i := 9) rfl (by kernel_rfl) (fun _ _ _ h => h) hS.out; · first | exact .inr ⟨rfl, rfl⟩ | exact .inl ⟨rfl, fun w' hS' => by (obtain ⟨s1, s2, s3, s4⟩ := hS'; go_simp; rfl)⟩); simp only [Act.put, List.setIfInBounds_toArray, List.set_cons_succ, List.set_cons_zero, List.getElem_toArray, List.getElem_cons_succ, List.getElem_cons_zero]
  (apply wpAnyG_pure wide_wide (i := 10) rfl (by kernel_rfl) (fun _ _ _ h => h); · first | exact .inr ⟨rfl, rfl⟩ | exact .inl ⟨rfl, fun w' => by go_simp; rfl⟩); simp only [Act.put, List.setIfInBounds_toArray, List.set_cons_succ, List.set_cons_zero, List.getElem_toArray, List.getElem_cons_succ, List.getElem_cons_zero]
  (apply wpAnyG_held wide_wide (i := 11) rfl (by kernel_rfl) (fun _ _ _ h => h) hS.out; · first | exact .inr ⟨rfl, rfl⟩ | exact .inl ⟨rfl, fun w' hS' => by (obtain ⟨s1, s2, s3, s4⟩ := hS'; go_simp; rfl)⟩); simp only [Act.put, List.setIfInBounds_toArray, List.set_cons_succ, List.set_cons_zero, List.getElem_toArray, List.getElem_cons_succ, List.getElem_cons_zero]
  (apply wpAnyG_pure wide_wide (i := 12) rfl (by kernel_rfl) (fun _ _ _ h => h); · first | exact .inr ⟨rfl, rfl⟩ | exact .inl ⟨rfl, fun w' => by go_simp; rfl⟩); simp only [Act.put, List.setIfInBounds_toArray, List.set_cons_succ, List.set_cons_zero, List.getElem_toArray, List.getElem_cons_succ, List.getElem_cons_zero]
  (apply wpAnyG_held wide_wide (i := 13) rfl (by kernel_rfl) (fun _ _ _ h => h) hS.out; · first | exact .inr ⟨rfl, rfl⟩ | exact .inl ⟨rfl, fun w' hS' => by (obtain ⟨s1, s2, s3, s4⟩ := hS'; go_simp; rfl)⟩); simp only [Act.put, List.setIfInBounds_toArray, List.set_cons_succ, List.set_cons_zero, List.getElem_toArray, List.getElem_cons_succ, List.getElem_cons_zero]
  (apply wpAnyG_pure wide_wide (i := 14) rfl (by kernel_rfl) (fun _ _ _ h => h); · first | exact .inr ⟨rfl, rfl⟩ | exact .inl ⟨rfl, fun w' => by go_simp; rfl⟩); simp only [Act.put, List.setIfInBounds_toArray, List.set_cons_succ, List.set_cons_zero, List.getElem_toArray, List.getElem_cons_succ, List.getElem_cons_zero]
  refine wpAnyG_one (i := 15) rfl ⟨by kernel_rfl, by kernel_rfl⟩ ?_
  intro K hK
  have hJ3 := hJ pre2 w2 w2.drew none hJ2 (grown_of_below (Below.drew (Below.refl _ _))) (by simp)
  obtain ⟨fn, tmps, assign, body, hy, hR⟩ := HY.out pre2 ⟨_, mem_step3 st i hk'⟩ _ hJ3 hq2
  simp [St.val] at hy
  have hw := wrap_succ (i := k) (by omega)
  simp only [Int.natCast_add, Int.cast_ofNat_Int] at hw
  go_simp
  refine ⟨fun h => (by cases h), hR.mono ?_⟩
  intro e w4 hd
  obtain ⟨b, rfl, ht, hf⟩ := yield_bool hd
  clear hd
  refine shutNG hK (by kernel_rfl) ?_
  clear hK K
  refine wpAnyG_done (by kernel_rfl) ?_ _
  refine bodyPost_end (results_none rfl _ _ _) rfl ?_
  cases b with
  | true => exact ⟨⟨_, rfl⟩, .inl ⟨pre2 ++ [⟨_, mem_step3 st i hk'⟩], by unfold AllCome; rw [List.map_append, HP2.out]; exact (steps_yes st i hk').symm, (ht rfl).1⟩⟩
  | false => exact ⟨⟨_, rfl⟩, .inr ⟨pre2 ++ [⟨_, mem_step3 st i hk'⟩], by unfold PartCome; rw [List.map_append, HP2.out]; exact ⟨[], by rw [List.append_nil]; exact (steps_yes st i hk').symm⟩, hf rfl⟩⟩
 ·gi_wp2
  go_end0
  exact ⟨⟨_, rfl⟩, .inl ⟨pre2, by unfold AllCome; rw [HP2.out]; exact (steps_no st i hk').symm, hJ2⟩⟩
theorem steps1_stops (n : Nat) (pb xb : Nat) (id hs : Int) (st fo : List Int) (sa fa : Option Addr) (sc fc : Nat) (fv : Value) (i k : Nat) (hi : i ≤ st.length) (hk : k ≤ fo.length) (hl : st.length ≤ 4000) (hl2 : fo.length ≤ 4000)
  (Z : Nat → Prop) (hz1 : Z pb) (hz2 : Z xb) (hz3 : st ≠ [] → ∀ p, sa = some p → Z p.block) (hz4 : fo ≠ [] → ∀ p, fa = some p → Z p.block) (w : World) (hL : Lies w pb xb id hs st fo sa fa sc fc fv i k) :
  SeqStopsK Fence.wide n Tryd.prog 125 #[.pointer (some ⟨pb, 0, none⟩), .pointer (some ⟨xb, 0, none⟩)] (fun x : StAt st fo i k => #[x.1.val]) (Keep Z) (AllCome st fo i k) (PartCome st fo i k) 3 w :=
 fun l J Jx W hW hJ _ hY h0 => steps1_in n l pb xb id hs st fo sa fa sc fc fv i k hi hk hl hl2 Z hz1 hz2 hz3 hz4 W.heap.size J Jx hJ hY W (hL.below hW) h0
attribute [local go_sem] Oper.semAt_some
def dd (st fo : List Int) (i k : Nat) : Nat := dist (st.drop i) (fo.drop k)
theorem dd_le (st fo : List Int) (i k : Nat) (hl : st.length ≤ 2000) (hl2 : fo.length ≤ 2000) : dd st fo i k ≤ 4000 := by
 have := dist_le (st.drop i) (fo.drop k)
 simp only [List.length_drop] at this
 unfold dd
 omega
def lst (d : Nat → Nat → Nat) (pre : List St) : Int := pre.foldl (fun m x => if m < 0 ∨ x.wr + d x.i x.k < m then x.wr + d x.i x.k else m) (-1)
theorem lst_snoc (d : Nat → Nat → Nat) (pre : List St) (x : St) : lst d (pre ++ [x]) = if lst d pre < 0 ∨ x.wr + d x.i x.k < lst d pre then x.wr + d x.i x.k else lst d pre := by
 unfold lst; rw [List.foldl_append]; rfl
theorem lst_steps {st fo : List Int} {i k : Nat} (hi : i ≤ st.length) (hk : k ≤ fo.length) (hne : ¬ (i = st.length ∧ k = fo.length)) : lst (dd st fo) (stepsL st fo i k) = (dd st fo i k : Int) := by
 by_cases h1 : i < st.length
 ·by_cases h2 : k < fo.length
  ·have e := dist_drop h1 h2
   rw [stepsL, step1_yes h1 h2, step2_yes k h1, step3_yes i h2]
   simp only [lst, List.foldl, List.cons_append, List.nil_append, dd]
   rw [e]
   by_cases he : st[i] = fo[k]
   ·simp only [he, if_true]
    split <;> split <;> split <;> omega
   ·simp only [he, if_false]
    split <;> split <;> split <;> omega
  ·have e1 : dd st fo i k = (st.length - i) + (fo.length - k) := dist_end (.inr (by omega))
   have e2 : dd st fo (i + 1) k = (st.length - (i + 1)) + (fo.length - k) := dist_end (.inr (by omega))
   rw [stepsL, step1_no (fun h => h2 h.2), step2_yes k h1, step3_no i h2]
   simp only [lst, List.foldl, List.append_nil, List.nil_append, e1, e2]
   rw [if_pos (by omega)]
   omega
 ·by_cases h2 : k < fo.length
  ·have e1 : dd st fo i k = (st.length - i) + (fo.length - k) := dist_end (.inl (by omega))
   have e2 : dd st fo i (k + 1) = (st.length - i) + (fo.length - (k + 1)) := dist_end (.inl (by omega))
   rw [stepsL, step1_no (fun h => h1 h.1), step2_no k h1, step3_yes i h2]
   simp only [lst, List.foldl, List.nil_append, e1, e2]
   rw [if_pos (by omega)]
   omega
  ·exact absurd ⟨by omega, by omega⟩ hne
def leftV (eb kb pb : Nat) : Value := .func (.func 106) #[] #[.pointer (some ⟨eb, 0, none⟩), .pointer (some ⟨kb, 0, none⟩), .pointer (some ⟨pb, 0, none⟩)]
def Known (st fo : List Int) (i k : Nat) (v : Value) : Prop := v = .int .i64 (dd st fo i k : Int)
def pairC (id hs : Int) (st fo : List Int) (sa fa : Option Addr) (sc fc : Nat) (fv : Value) : Array Value := #[.int .i64 id, .int .i64 hs, .slice sa st.length sc, .slice fa fo.length fc, fv]
structure Half (w : World) (pb eb kb M : Nat) (id hs : Int) (st fo : List Int) (sa fa : Option Addr) (sc fc : Nat) : Prop where
 pair : Box w pb (pairC id hs st fo sa fa sc fc (leftV eb kb pb)) 134
 fin : Box w eb #[.int .i64 st.length, .int .i64 fo.length] 137
 known : Box w kb #[.map (some M)] 170
 map : PMap w M st.length fo.length (Known st fo)
 s : RdI w sa st
 f : RdI w fa fo
theorem Half.keep {w w' : World} {pb eb kb M : Nat} {id hs : Int} {st fo : List Int} {sa fa : Option Addr} {sc fc : Nat} (h : Half w pb eb kb M id hs st fo sa fa sc fc) (hk : Keep (· ≠ M) w w') (hm : PMap w' M st.length fo.length (Known st fo)) :
  Half w' pb eb kb M id hs st fo sa fa sc fc :=
 ⟨hk.box (h.map.ne_box h.pair) h.pair, hk.box (h.map.ne_box h.fin) h.fin, hk.box (h.map.ne_box h.known) h.known, hm, hk.rdI (fun hx _ hp => h.map.ne_row h.s hx hp) h.s, hk.rdI (fun hx _ hp => h.map.ne_row h.f hx hp) h.f⟩
theorem eqPlace (a b c d : Int) (w : World) : (Op.equalIn 10000 137 (.agg #[.int .i64 a, .int .i64 b]) (.agg #[.int .i64 c, .int .i64 d])).run Tryd.prog w = .ok (a == c && b == d) w := by
 have u3 := Tryd.underlying3
 have a3 := Tryd.isAgg3
 have z3 := Tryd.sizeOf3
 rw [show (10000 : Nat) = 9999 + 1 from rfl, Op.equalIn]
 simp only [Sem.run_bind, run_underlying Tryd.underlying137, Result.andThen_ok]
 simp only [Std.Legacy.Range.forIn_eq_forIn_range', Std.Legacy.Range.size, Nat.sub_zero, Nat.add_sub_cancel, Nat.div_one, List.range'_succ, List.range'_zero, List.forIn_cons, List.forIn_nil]
 go_simp
 by_cases h1 : a = c <;> by_cases h2 : b = d <;> simp [h1, h2]
attribute [local go_sem] eqPlace
theorem row_lt {w : World} {a : Option Addr} {xs : List Int} (hr : RdI w a xs) (hx : xs ≠ []) {p : Addr} (hp : a = some p) : p.block < w.heap.size := by
 obtain ⟨b, o, ha, hc⟩ := hr 0 (List.length_pos_iff.2 hx)
 rw [hp] at ha
 cases ha
 exact cell_lt hc
theorem keepsFrom_of {M B : Nat} {W W' : World} (h : Keep (· ≠ M) W W') (hM : M < B) : KeepsFrom B W W' :=
 ⟨h.size, fun k o hB hk _ => (h.block k (Array.getElem?_eq_some_iff.1 hk).1 (show k ≠ M by omega)).trans hk⟩
theorem step_bound {st fo : List Int} {i k : Nat} {x : St} (h : x ∈ stepsL st fo i k) (hi : i ≤ st.length) (hk : k ≤ fo.length) :
  x.i ≤ st.length ∧ x.k ≤ fo.length ∧ (st.length - x.i) + (fo.length - x.k) < (st.length - i) + (fo.length - k) ∧ 0 ≤ x.wr ∧ x.wr ≤ 1 := by
 rw [stepsL, List.mem_append, List.mem_append] at h
 rcases h with h | h | h
 ·by_cases hh : i < st.length ∧ k < fo.length
  ·rw [step1_yes hh.1 hh.2, List.mem_singleton] at h
   subst h
   refine ⟨hh.1, hh.2, ?_, ?_, ?_⟩
   ·show (st.length - (i + 1)) + (fo.length - (k + 1)) < _; omega
   ·show (0 : Int) ≤ if _ then 0 else 1; split <;> omega
   ·show (if _ then 0 else 1 : Int) ≤ 1; split <;> omega
  ·rw [step1_no hh] at h; cases h
 ·by_cases hh : i < st.length
  ·rw [step2_yes k hh, List.mem_singleton] at h
   subst h
   exact ⟨hh, hk, (show (st.length - (i + 1)) + (fo.length - k) < _ by omega), (by show (0 : Int) ≤ 1; omega), (by show (1 : Int) ≤ 1; omega)⟩
  ·rw [step2_no k hh] at h; cases h
 ·by_cases hh : k < fo.length
  ·rw [step3_yes i hh, List.mem_singleton] at h
   subst h
   exact ⟨hi, hh, (show (st.length - i) + (fo.length - (k + 1)) < _ by omega), (by show (0 : Int) ≤ 1; omega), (by show (1 : Int) ≤ 1; omega)⟩
  ·rw [step3_no i hh] at h; cases h
theorem wrap_small {n : Int} (h0 : 0 ≤ n) (h1 : n ≤ 10000) : IntKind.i64.wrap n = n := by
 simp only [IntKind.wrap, IntKind.signed, IntKind.bits]
 simp
 omega
def leastA (st fo : List Int) (i k : Nat) (pre : List (StAt st fo i k)) : Int := lst (dd st fo) (pre.map (·.1))
theorem leastA_snoc (st fo : List Int) (i k : Nat) (pre : List (StAt st fo i k)) (x : StAt st fo i k) :
  leastA st fo i k (pre ++ [x]) = if leastA st fo i k pre < 0 ∨ x.1.wr + dd st fo x.1.i x.1.k < leastA st fo i k pre then x.1.wr + dd st fo x.1.i x.1.k else leastA st fo i k pre := by
 unfold leastA
 rw [List.map_append]
 exact lst_snoc _ _ _
theorem leastA_all {st fo : List Int} {i k : Nat} (hi : i ≤ st.length) (hk : k ≤ fo.length) (hne : ¬ (i = st.length ∧ k = fo.length)) {ys : List (StAt st fo i k)} (h : AllCome st fo i k ys) : leastA st fo i k ys = (dd st fo i k : Int) := by
 unfold leastA
 rw [show ys.map (·.1) = _ from h]
 exact lst_steps hi hk hne
def LeftP (M : Nat) (st fo : List Int) (i k : Nat) (w : World) (e : Ending) (w' : World) : Prop :=
 e = .returned (.int .i64 (dd st fo i k : Int)) ∧ Keep (· ≠ M) w w' ∧ PMap w' M st.length fo.length (Known st fo)
theorem yL {p : Prop} (h : p := by first | omega | (simp; done) | (simp; omega)) : p := h
theorem left_step (pb eb kb M : Nat) (id hs : Int) (st fo : List Int) (sa fa : Option Addr) (sc fc : Nat) (hl : st.length ≤ 2000) (hl2 : fo.length ≤ 2000) (i k : Nat) (hi : i ≤ st.length) (hk : k ≤ fo.length)
  (ih : ∀ i' k' w, i' ≤ st.length → k' ≤ fo.length → (st.length - i') + (fo.length - k') < (st.length - i) + (fo.length - k) → Half w pb eb kb M id hs st fo sa fa sc fc →
   Calls Tryd.prog 106 #[plc i' k', .pointer (some ⟨eb, 0, none⟩), .pointer (some ⟨kb, 0, none⟩), .pointer (some ⟨pb, 0, none⟩)] w (LeftP M st fo i' k' w))
  (w : World) (hH : Half w pb eb kb M id hs st fo sa fa sc fc) :
  Calls Tryd.prog 106 #[plc i k, .pointer (some ⟨eb, 0, none⟩), .pointer (some ⟨kb, 0, none⟩), .pointer (some ⟨pb, 0, none⟩)] w (LeftP M st fo i k w) := by
 have hm := mixedS
 have hl0 := hl
 have IH := hid ih; clear ih
 have HH := hid hH
 have l1 := hH.pair.lt; have l2 := hH.fin.lt; have l3 := hH.known.lt; have l4 := hH.map.lt
 have e0 : w.cell? ⟨eb, 0, none⟩ = some (.int .i64 st.length) := hH.fin.cell 0
 have e1 : w.cell? ⟨eb, 1, none⟩ = some (.int .i64 fo.length) := hH.fin.cell 1
 have k0 : w.cell? ⟨kb, 0, none⟩ = some (.map (some M)) := hH.known.cell 0
 have p0 : w.cell? ⟨pb, 0, none⟩ = some (.int .i64 id) := hH.pair.cell 0
 have p1 : w.cell? ⟨pb, 1, none⟩ = some (.int .i64 hs) := hH.pair.cell 1
 have p2 : w.cell? ⟨pb, 2, none⟩ = some (.slice sa st.length sc) := hH.pair.cell 2
 have p3 : w.cell? ⟨pb, 3, none⟩ = some (.slice fa fo.length fc) := hH.pair.cell 3
 have p4 : w.cell? ⟨pb, 4, none⟩ = some (.func (.func 106) #[] #[.pointer (some ⟨eb, 0, none⟩), .pointer (some ⟨kb, 0, none⟩), .pointer (some ⟨pb, 0, none⟩)]) := hH.pair.cell 4
 refine (callsIn_wide (n := 3)).1 (callsIn_of_wp_marks Tryd.func106 rfl trivial ?_ rfl)
 simp only [Tryd.ntmps106, List.size_toArray, List.length_cons, List.length_nil, Nat.reduceAdd, Nat.reduceSub, Array.replicate_succ, Array.replicate_zero, List.push_toArray, List.append_toArray, List.nil_append, List.cons_append]
 unfold plc
 by_cases hend : i = st.length ∧ k = fo.length
 ·obtain ⟨rfl, rfl⟩ := hend
  gi_wp2
  refine ⟨_, results_tmp rfl _ _ _, ?_⟩
  have h0 : dd st fo st.length fo.length = 0 := (dist_end (.inl (Nat.le_refl _))).trans (by omega)
  exact ⟨by rw [h0]; rfl, (Keep.refl _ _).alloc _, hH.map.kept (Below.heap_alloc _ _ _ l4)⟩
 ·have hq : ((i : Int) == (st.length : Int) && (k : Int) == (fo.length : Int)) = false := by
   rw [Bool.and_eq_false_iff]; simp only [beq_eq_false_iff_ne, ne_eq]; omega
  have hP := hH.map.kept (w' := w.alloc (.cells #[.int .i64 i, .int .i64 k] 137)) (Below.heap_alloc _ _ _ l4)
  have hlk := hP.look (t := 170) (e := 3) Tryd.underlying170 (z := .int .i64 0) (Tryd.zeroValue3 _) (i := i) (k := k) (by omega) (by omega)
  unfold plc at hlk
  rcases hlk with hrun | ⟨v, rfl, hrun⟩
  ·clear hH hP
   gi_wp2_with (refine ⟨trivial, ?_⟩; gi_at_call 107; refine (callsIn_wide.2 (steps_any _ i k _ rfl)).mono ?_; rintro e w' ⟨rfl, rfl⟩)
   refine wpIn_world (fun wL => Box wL w.heap.size #[.int .i64 i, .int .i64 k] 137 ∧ Box wL (w.heap.size + 1) #[.int .i64 (-1)] 3 ∧ Box wL (w.heap.size + 1 + 1) (pairC id hs st fo sa fa sc fc (leftV eb kb pb)) 134 ∧ Box wL (w.heap.size + 1 + 1 + 1) #[.int .i64 i, .int .i64 k] 137 ∧ w.heap.size + 4 ≤ wL.heap.size ∧ Below w.heap.size w wL) ⟨?_, ?_, ?_, ?_, by simp, ?_⟩ ?_
   ·exact (((Box.at _ _ yL).alloc _).alloc _).alloc _
   ·exact ((Box.at _ _ yL).alloc _).alloc _
   ·exact (Box.at _ _ yL).alloc _
   ·exact Box.at _ _ yL
   ·exact goBl
   rintro wL ⟨bA, bB, bC, bD, zL, hbL⟩
   clear hrun hq p0 p1 p2 p3 p4 e0 e1 k0
   have hHL := HH.out.keep (w' := wL) (Keep.of_below hbL (fun _ h _ => h)) (HH.out.map.kept (hbL.block _ l4))
   have HHL := hid hHL
   have ZL := hid zL
   refine wpIn_rangeFunc_ownH rfl (by omega) (gf := 125) (lb := #[.pointer (some ⟨w.heap.size + 1 + 1 + 1, 0, none⟩), .pointer (some ⟨w.heap.size + 1 + 1, 0, none⟩)]) rfl trivial (enters_of Tryd.func125 (by kernel_rfl) rfl)
    (steps1_stops 2 (w.heap.size + 1 + 1 + 1) (w.heap.size + 1 + 1) id hs st fo sa fa sc fc (leftV eb kb pb) i k hi hk (by omega) (by omega) (fun b => b ≠ M ∧ b ≠ w.heap.size + 1 ∧ b < wL.heap.size)
     ⟨by omega, by omega, by omega⟩ ⟨by omega, by omega, by omega⟩ ?z3 ?z4 wL ⟨bD, bC, hHL.s, hHL.f⟩)
    (fun h k => h.trans k) ?kb (Below.refl _ _) (fun _ => rfl)
    (fun pre W => Box W (w.heap.size + 1) #[.int .i64 (leastA st fo i k pre)] 3 ∧ Box W w.heap.size #[.int .i64 i, .int .i64 k] 137 ∧ Keep (· ≠ M) w W ∧ PMap W M st.length fo.length (Known st fo) ∧ wL.heap.size ≤ W.heap.size)
    (fun _ _ _ => False) ?hI ?hIx ⟨bB, bA, Keep.of_below hbL (fun _ h _ => h), hHL.map, Nat.le_refl _⟩
    (fun x a' W => ∃ Bx, wL.heap.size ≤ Bx ∧ Box W Bx #[.int .i64 x.1.i, .int .i64 x.1.k, .int .i64 x.1.s, .int .i64 x.1.f, .int .i64 x.1.wr] 142 ∧ ∃ f : Nat → Value, a' = ⟨((List.range 46).map f).toArray, []⟩ ∧ f 3 = .pointer (some ⟨pb, 0, none⟩) ∧ f 8 = .pointer (some ⟨w.heap.size + 1, 0, none⟩) ∧ f 9 = .pointer (some ⟨Bx, 0, none⟩)) ?hAx ?assign ?body ?done ?stop
   case z3 => exact fun hx p hp => ⟨HHL.out.map.ne_row HHL.out.s hx hp, by have := row_lt HH.out.s hx hp; omega, by have := row_lt HH.out.s hx hp; omega⟩
   case z4 => exact fun hx p hp => ⟨HHL.out.map.ne_row HHL.out.f hx hp, by have := row_lt HH.out.f hx hp; omega, by have := row_lt HH.out.f hx hp; omega⟩
   case kb => exact fun W l o o' hl _ _ _ => (Keep.refl _ _).putObj l o' (fun _ hz => by have := hz.2.2; omega)
   case hI =>
    rintro pre W W' row ⟨iB, iA, iK, iP, iz⟩ hg hr
    have hrow : ∀ r, r < wL.heap.size → row ≠ some r := fun r hlt e => by have := (hr r e).1; omega
    exact ⟨iB.grown hg (hrow _ (by omega)), iA.grown hg (hrow _ (by omega)), iK.grown hg (fun r e hlt => absurd e (hrow r (by omega))), iP.kept (hg.block M iP.lt (fun e => hrow M (by omega) e.symm)), Nat.le_trans iz hg.size⟩
   case hIx => exact fun _ _ _ _ _ hs _ _ => hs
   case hAx =>
    rintro x a' _ W W' row ⟨Bx, hB, hb, hf⟩ hg hr
    refine ⟨Bx, hB, hb.grown hg (fun e => ?_), hf⟩
    obtain ⟨o, ho, hc⟩ := (hr Bx e).2
    rw [show W.heap[Bx]? = _ from hb] at ho
    cases ho
    cases hc
   case assign =>
    rintro l pre ⟨x, hx⟩ W K ⟨iB, iA, iK, iP, iz⟩ hK
    simp only [St.val]
    gi_wp2
    refine hK _ _ ((KeepsOthers.alloc _ _).from _) ((Keep.refl _ _).alloc _) ⟨iB.alloc _, iA.alloc _, iK.alloc _, iP.kept (Below.heap_alloc _ _ _ iP.lt), by simp; omega⟩ ⟨W.heap.size, iz, Box.new _ _ _, ?_⟩
    refine acts_of rfl ?_
    exact ⟨rfl, rfl, rfl⟩
   case body =>
    rintro l pre ⟨x, hx⟩ a' W hl ⟨r, hr⟩ ⟨iB, iA, iK, iP, iz⟩ ⟨Bx, hBx, bX, f, rfl, f3, f8, f9⟩ hlt
    obtain ⟨b1, b2, b3, b4, b5⟩ := step_bound hx hi hk
    have d1 := dd_le st fo x.i x.k hl0 hl2
    rw [show (List.range 46).map f = [f 0, f 1, f 2, f 3, f 4, f 5, f 6, f 7, f 8, f 9, f 10, f 11, f 12, f 13, f 14, f 15, f 16, f 17, f 18, f 19, f 20, f 21, f 22, f 23, f 24, f 25, f 26, f 27, f 28, f 29, f 30, f 31, f 32, f 33, f 34, f 35, f 36, f 37, f 38, f 39, f 40, f 41, f 42, f 43, f 44, f 45] from rfl, f3, f8, f9]
    clear f3 f8 f9
    have HK := hid iK; have HP := hid iP; have HB := hid iB; have HA := hid iA; have HX := hid bX
    have hHW := HH.out.keep iK iP
    have HHW := hid hHW
    have p4 : W.cell? ⟨pb, 4, none⟩ = some (.func (.func 106) #[] #[.pointer (some ⟨eb, 0, none⟩), .pointer (some ⟨kb, 0, none⟩), .pointer (some ⟨pb, 0, none⟩)]) := hHW.pair.cell 4
    have x0 : W.cell? ⟨Bx, 0, none⟩ = some (.int .i64 x.i) := bX.cell 0
    have x1 : W.cell? ⟨Bx, 1, none⟩ = some (.int .i64 x.k) := bX.cell 1
    have x4 : W.cell? ⟨Bx, 4, none⟩ = some (.int .i64 x.wr) := bX.cell 4
    clear iB iA iK iP bX hHW
    gi_wp2
    refine wpIn_region_G [1, 3, 5] (fun w' => w'.cell? ⟨pb, 4, none⟩ = some (.func (.func 106) #[] #[.pointer (some ⟨eb, 0, none⟩), .pointer (some ⟨kb, 0, none⟩), .pointer (some ⟨pb, 0, none⟩)]) ∧ w'.cell? ⟨Bx, 0, none⟩ = some (.int .i64 x.i) ∧ w'.cell? ⟨Bx, 1, none⟩ = some (.int .i64 x.k) ∧ w'.cell? ⟨Bx, 4, none⟩ = some (.int .i64 x.wr)) hm ⟨by go_simp, by go_simp, by go_simp, by go_simp⟩ ?_
    intro hS0; have hS := hid hS0; clear hS0
    (apply wpAnyG_pure (wide_round _) (i := 0) rfl (by kernel_rfl) (fun _ _ _ h => h); · first | exact .inr ⟨rfl, rfl⟩ | exact .inl ⟨rfl, fun w' => by go_simp; rfl⟩); simp only [Act.put, List.setIfInBounds_toArray, List.set_cons_succ, List.set_cons_zero, List.getElem_toArray, List.getElem_cons_succ, List.getElem_cons_zero]
    (apply wpAnyG_held (wide_round _) (i := 1) rfl (by kernel_rfl) (fun _ _ _ h => h) hS.out; · first | exact .inr ⟨rfl, rfl⟩ | exact .inl ⟨rfl, fun w' hS' => by (obtain ⟨s1, s2, s3, s4⟩ := hS'; go_simp; rfl)⟩); simp only [Act.put, List.setIfInBounds_toArray, List.set_cons_succ, List.set_cons_zero, List.getElem_toArray, List.getElem_cons_succ, List.getElem_cons_zero]
    (apply wpAnyG_pure (wide_round _) (i := 2) rfl (by kernel_rfl) (fun _ _ _ h => h); · first | exact .inr ⟨rfl, rfl⟩ | exact .inl ⟨rfl, fun w' => by go_simp; rfl⟩); simp only [Act.put, List.setIfInBounds_toArray, List.set_cons_succ, List.set_cons_zero, List.getElem_toArray, List.getElem_cons_succ, List.getElem_cons_zero]
    (apply wpAnyG_held (wide_round _) (i := 3) rfl (by kernel_rfl) (fun _ _ _ h => h) hS.out; · first | exact .inr ⟨rfl, rfl⟩ | exact .inl ⟨rfl, fun w' hS' => by (obtain ⟨s1, s2, s3, s4⟩ := hS'; go_simp; rfl)⟩); simp only [Act.put, List.setIfInBounds_toArray, List.set_cons_succ, List.set_cons_zero, List.getElem_toArray, List.getElem_cons_succ, List.getElem_cons_zero]
    (apply wpAnyG_pure (wide_round _) (i := 4) rfl (by kernel_rfl) (fun _ _ _ h => h); · first | exact .inr ⟨rfl, rfl⟩ | exact .inl ⟨rfl, fun w' => by go_simp; rfl⟩); simp only [Act.put, List.setIfInBounds_toArray, List.set_cons_succ, List.set_cons_zero, List.getElem_toArray, List.getElem_cons_succ, List.getElem_cons_zero]
    (apply wpAnyG_held (wide_round _) (i := 5) rfl (by kernel_rfl) (fun _ _ _ h => h) hS.out; · first | exact .inr ⟨rfl, rfl⟩ | exact .inl ⟨rfl, fun w' hS' => by (obtain ⟨s1, s2, s3, s4⟩ := hS'; go_simp; rfl)⟩); simp only [Act.put, List.setIfInBounds_toArray, List.set_cons_succ, List.set_cons_zero, List.getElem_toArray, List.getElem_cons_succ, List.getElem_cons_zero]
    refine wpAnyG_one (i := 6) rfl ⟨by kernel_rfl, by kernel_rfl⟩ ?_
    intro K hK
    go_simp
    refine ⟨trivial, ?_⟩
    refine (CallsIn.inRound l (callsIn_wide.2 (IH.out x.i x.k _ b1 b2 b3 (HHW.out.keep (Keep.drew (Keep.refl _ _)) (HHW.out.map.kept rfl))))).mono ?_
    rintro e w6 ⟨rfl, hk6, hp6⟩
    have KW : Keep (· ≠ M) W w6 := (Keep.drew (Keep.refl _ W)).trans hk6
    refine shutSG hK ⟨KW.cell (HHW.out.map.ne_box HHW.out.pair) p4, KW.cell (show Bx ≠ M by omega) x0, KW.cell (show Bx ≠ M by omega) x1, KW.cell (show Bx ≠ M by omega) x4⟩ (fun hS => ?_)
    clear hK K
    (apply wpAnyG_pure (wide_round _) (i := 7) rfl (by kernel_rfl) (fun _ _ _ h => h); · first | exact .inr ⟨rfl, rfl⟩ | exact .inl ⟨rfl, fun w' => by go_simp; rfl⟩); simp only [Act.put, List.setIfInBounds_toArray, List.set_cons_succ, List.set_cons_zero, List.getElem_toArray, List.getElem_cons_succ, List.getElem_cons_zero]
    (apply wpAnyG_pure (wide_round _) (i := 8) rfl (by kernel_rfl) (fun _ _ _ h => h); · first | exact .inr ⟨rfl, rfl⟩ | exact .inl ⟨rfl, fun w' => by go_simp; rfl⟩); simp only [Act.put, List.setIfInBounds_toArray, List.set_cons_succ, List.set_cons_zero, List.getElem_toArray, List.getElem_cons_succ, List.getElem_cons_zero]
    refine wpAnyG_done (by kernel_rfl) ?_ _
    clear hS x0 x1 x4 p4
    have B6 := KW.box (show w.heap.size + 1 ≠ M by omega) HB.out
    have A6 := KW.box (show w.heap.size ≠ M by omega) HA.out
    have c8 : w6.cell? ⟨w.heap.size + 1, 0, none⟩ = some (.int .i64 (leastA st fo i k pre)) := B6.cell 0
    have k8 := B6.frozen 0
    have hl6 := B6.lt
    have hw := wrap_small (n := x.wr + (dd st fo x.i x.k : Int)) (by omega) (by omega)
    simp only [hw]
    have hsn := leastA_snoc st fo i k pre ⟨x, hx⟩
    have HSN := hid hsn; clear hsn
    have KF := keepsFrom_of KW (B := wL.heap.size) (by omega)
    have KZ : Keep (fun b => b ≠ M ∧ b ≠ w.heap.size + 1 ∧ b < wL.heap.size) W w6 := KW.mono (fun b _ hz => hz.1)
    have K1 := HK.out.trans KW
    have hz6 := KW.size
    have hM1 : M ≠ w.heap.size + 1 := by omega
    by_cases h1 : leastA st fo i k pre < 0
    ·have H1 := hid h1
     gi_wp2
     refine ⟨KF.trans ((KeepsOthers.setCell _ _ _).from _), KZ.setCell ⟨w.heap.size + 1, 0, none⟩ _ (fun _ hz => hz.2.1 rfl), ?_, A6.other _ _ _ (by omega), K1.setCell _ _ (fun h => by have : w.heap.size + 1 < w.heap.size := h; omega), hp6.kept (Below.heap_setCell _ _ _ _ hM1), by rw [World.size_setCell]; omega⟩
     rw [HSN.out, if_pos (.inl H1.out)]
     exact B6.set 0 _
    ·by_cases h2 : x.wr + (dd st fo x.i x.k : Int) < leastA st fo i k pre
     ·have H2 := hid h2
      gi_wp2
      refine ⟨KF.trans ((KeepsOthers.setCell _ _ _).from _), KZ.setCell ⟨w.heap.size + 1, 0, none⟩ _ (fun _ hz => hz.2.1 rfl), ?_, A6.other _ _ _ (by omega), K1.setCell _ _ (fun h => by have : w.heap.size + 1 < w.heap.size := h; omega), hp6.kept (Below.heap_setCell _ _ _ _ hM1), by rw [World.size_setCell]; omega⟩
      rw [HSN.out, if_pos (.inr H2.out)]
      exact B6.set 0 _
     ·have H1 := hid h1; have H2 := hid h2
      gi_wp2
      refine ⟨KF, KZ, ?_, A6, K1, hp6, by omega⟩
      rw [HSN.out, if_neg (fun h => by have g1 := H1.out; have g2 := H2.out; omega)]
      exact B6
   case done =>
    rintro D ys W hD hall ⟨iB, iA, iK, iP, iz⟩ hKD
    have hfin := leastA_all hi hk hend hall
    rw [hfin] at iB
    clear hall hfin
    have hHW := HH.out.keep iK iP
    have k0 : W.cell? ⟨kb, 0, none⟩ = some (.map (some M)) := hHW.known.cell 0
    have c8 : W.cell? ⟨w.heap.size + 1, 0, none⟩ = some (.int .i64 (dd st fo i k : Int)) := iB.cell 0
    have a0 : W.cell? ⟨w.heap.size, 0, none⟩ = some (.int .i64 i) := iA.cell 0
    have a1 : W.cell? ⟨w.heap.size, 1, none⟩ = some (.int .i64 k) := iA.cell 1
    obtain ⟨w5, hrun5, hp5, hg5, hz5⟩ := iP.store (t := 170) (e := 3) Tryd.underlying170 (by omega) (by omega) hi hk (v := .int .i64 (dd st fo i k : Int)) rfl
    unfold plc at hrun5
    have B5 := iB.grown hg5 (show some M ≠ some (w.heap.size + 1) from fun e => by cases e; omega)
    have c85 : w5.cell? ⟨w.heap.size + 1, 0, none⟩ = some (.int .i64 (dd st fo i k : Int)) := B5.cell 0
    have hKD5 : w5.heap[D]? = some (.deferred (some [])) := (hg5.block D (Array.getElem?_eq_some_iff.1 hKD).1 (fun e => by cases e; omega)).trans hKD
    have hDM : M ≠ D := by omega
    have K5 := iK.grown hg5 (fun r e _ hz => by cases e; exact hz rfl)
    have hDw : ¬ D < w.heap.size := by omega
    clear iB iA iK iP hHW hKD B5 hg5 hz5
    gi_wp2
    refine ⟨by simp, .inl ⟨_, _, rfl, run_takeDeferred hKD5, ?_⟩⟩
    exact ⟨_, results_tmp rfl _ _ _, rfl, K5.putObj _ _ (fun h => absurd h hDw), hp5.kept (World.putObj_heap_other hDM)⟩
   case stop =>
    rintro D c pre W _ _ h _
    exact h.elim
  ·clear hH
   gi_wp2
   refine ⟨_, results_tmp rfl _ _ _, ?_⟩
   exact ⟨rfl, (Keep.refl _ _).alloc _, hP⟩
theorem field_left (c0 c1 c2 c3 v : Value) (w : World) : (Instr.field 134 (.agg #[c0, c1, c2, c3, v]) 1).run Tryd.prog w = .ok v w := by kernel_rfl
theorem left_any (pb eb kb M : Nat) (id hs : Int) (st fo : List Int) (sa fa : Option Addr) (sc fc : Nat) (hl : st.length ≤ 2000) (hl2 : fo.length ≤ 2000) (i k : Nat) (w : World) (hi : i ≤ st.length) (hk : k ≤ fo.length) (hH : Half w pb eb kb M id hs st fo sa fa sc fc) :
  Calls Tryd.prog 106 #[plc i k, .pointer (some ⟨eb, 0, none⟩), .pointer (some ⟨kb, 0, none⟩), .pointer (some ⟨pb, 0, none⟩)] w (LeftP M st fo i k w) := by
 have h : ∀ m i k w, (st.length - i) + (fo.length - k) < m → i ≤ st.length → k ≤ fo.length → Half w pb eb kb M id hs st fo sa fa sc fc →
   Calls Tryd.prog 106 #[plc i k, .pointer (some ⟨eb, 0, none⟩), .pointer (some ⟨kb, 0, none⟩), .pointer (some ⟨pb, 0, none⟩)] w (LeftP M st fo i k w) := by
  intro m
  induction m with
  | zero => intro i k w h; omega
  | succ m ih =>
   intro i k w hm hi hk hH
   exact left_step pb eb kb M id hs st fo sa fa sc fc hl hl2 i k hi hk (fun i' k' w' hi' hk' hlt hH' => ih i' k' w' (by omega) hi' hk' hH') w hH
 exact h _ i k w (Nat.lt_succ_self _) hi hk hH
theorem PMap.at {w : World} {n : Nat} (A B : Nat) (V : Nat → Nat → Value → Prop) (hn : n = w.heap.size) : PMap (w.alloc (.map #[] 0)) n A B V := hn ▸ PMap.made w A B V
theorem PMap.alloc {w : World} {b A B : Nat} {V : Nat → Nat → Value → Prop} (h : PMap w b A B V) (o : Obj) : PMap (w.alloc o) b A B V := h.kept (Below.heap_alloc _ _ _ h.lt)
theorem halves_any (id hs : Int) (st fo : List Int) (sa fa : Option Addr) (sc fc : Nat) (w : World) (hl : st.length ≤ 2000) (hl2 : fo.length ≤ 2000) (h1 : RdI w sa st) (h2 : RdI w fa fo) :
  Calls Tryd.prog 83 #[.agg #[.int .i64 id, .int .i64 hs, .slice sa st.length sc, .slice fa fo.length fc]] w fun e w' => ∃ pb eb kb M, e = .returned (.agg (pairC id hs st fo sa fa sc fc (leftV eb kb pb))) ∧ Below w.heap.size w w' ∧ w.heap.size ≤ M ∧ Half w' pb eb kb M id hs st fo sa fa sc fc := by
 have hmm := @run_makeMap Tryd.prog
 have H1 := hid h1; have H2 := hid h2; clear h1 h2
 go_enter Tryd.func83, Tryd.ntmps83
 go_wp2_with fail
 refine bodyPost_ret (v := .agg (pairC id hs st fo sa fa sc fc (leftV (w.heap.size + 3) (w.heap.size + 5) (w.heap.size + 2)))) (by simp [results, Tryd.results83, go_sem, pairC, leftV]) rfl ?_
 refine ⟨w.heap.size + 2, w.heap.size + 3, w.heap.size + 5, w.heap.size + 4, rfl, goBl, by omega, ⟨(show Box _ (w.heap.size + 2) #[.int .i64 id, .int .i64 hs, .slice sa st.length sc, .slice fa fo.length fc, .func (.func 106) #[] #[.pointer (some ⟨w.heap.size + 3, 0, none⟩), .pointer (some ⟨w.heap.size + 5, 0, none⟩), .pointer (some ⟨w.heap.size + 2, 0, none⟩)]] 134 from (by repeat (first | (with_reducible assumption) | (with_reducible refine Box.at _ _ yL) | (with_reducible refine Box.drew ?_) | (with_reducible refine Box.alloc ?_ _) | (with_reducible refine Box.other ?_ _ _ _ yL) | (refine Box.below ?_ hb2 yL) | (refine Box.below ?_ hb3 yL)))), (by repeat (first | (with_reducible assumption) | (with_reducible refine Box.at _ _ yL) | (with_reducible refine Box.drew ?_) | (with_reducible refine Box.alloc ?_ _) | (with_reducible refine Box.other ?_ _ _ _ yL) | (refine Box.below ?_ hb2 yL) | (refine Box.below ?_ hb3 yL))), (by repeat (first | (with_reducible assumption) | (with_reducible refine Box.at _ _ yL) | (with_reducible refine Box.drew ?_) | (with_reducible refine Box.alloc ?_ _) | (with_reducible refine Box.other ?_ _ _ _ yL) | (refine Box.below ?_ hb2 yL) | (refine Box.below ?_ hb3 yL))), (PMap.at _ _ _ yL).alloc _, ?_, ?_⟩⟩
 ·exact H1.out.below goBl
 ·exact H2.out.below goBl
theorem between_any (st fo : List Int) (sa fa : Option Addr) (sc fc : Nat) (w : World) (hl : st.length ≤ 2000) (hl2 : fo.length ≤ 2000) (h1 : RdI w sa st) (h2 : RdI w fa fo) :
  Calls Tryd.prog 84 #[.slice sa st.length sc, .slice fa fo.length fc] w fun e w' => e = .returned (.int .i64 (dist st fo : Int)) ∧ Below w.heap.size w w' := by
 have H1 := hid h1; have H2 := hid h2; clear h1 h2
 go_enter Tryd.func84, Tryd.ntmps84
 go_wp2_with fail
 refine (halves_any 0 0 st fo sa fa sc fc w hl hl2 H1.out H2.out).mono ?_
 rintro e w1 ⟨pb, eb, kb, M, rfl, hb1, hM, hH⟩
 have HH := hid hH; clear hH
 unfold pairC leftV
 have hfd := field_left
 go_wp2_with fail
 refine (left_any pb eb kb M 0 0 st fo sa fa sc fc hl hl2 0 0 w1 (Nat.zero_le _) (Nat.zero_le _) HH.out).mono ?_
 rintro e w2 ⟨rfl, hk2, _⟩
 go_wp2_with fail
 go_ret
 exact ⟨(congrArg (fun b => Ending.returned (Value.int .i64 b)) rfl), hb1.trans (hk2.below (B := w.heap.size) (fun k hk => show k ≠ M by omega) hb1.size)⟩
structure Ed where
 kd : Int
 at' : Int
 nt : Int
def Ed.cells (e : Ed) : List Value := [.int .i64 e.kd, .int .i64 e.at', .int .i64 e.nt]
def edCells (es : List Ed) : List Value := es.flatMap Ed.cells
def RdE (w : World) (a : Option Addr) (es : List Ed) : Prop := ∀ i (h : i < es.length), ∃ b o, a = some ⟨b, o, none⟩ ∧
 w.cell? ⟨b, o + i * 3, none⟩ = some (.int .i64 es[i].kd) ∧ w.cell? ⟨b, o + i * 3 + 1, none⟩ = some (.int .i64 es[i].at') ∧ w.cell? ⟨b, o + i * 3 + 2, none⟩ = some (.int .i64 es[i].nt)
theorem RdE.nil (w : World) (a : Option Addr) : RdE w a [] := fun i hi => absurd hi (Nat.not_lt_zero _)
theorem RdE.below {w w' : World} {a : Option Addr} {es : List Ed} (h : RdE w a es) (hb : Below w.heap.size w w') : RdE w' a es := fun i hi => by
 obtain ⟨b, o, ha, h0, h1, h2⟩ := h i hi
 exact ⟨b, o, ha, (hb.cell (cell_lt h0)).trans h0, (hb.cell (cell_lt h1)).trans h1, (hb.cell (cell_lt h2)).trans h2⟩
end Go.Proofs.YthddoikmgpgakaaDoor
