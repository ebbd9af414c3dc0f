/- What true lists come to, by the program's memo: 'comes' and what it tells. -/
import Derived.Test.YthddoikmgpgakaaDoorProg
import Derived.Test.YthddoikmgpgakaaDoorBase
import Derived.Outline
import Derived.RangeFuncNested
import Derived.Shelf.Abstract
import Derived.Deep.QuietTactic
import Derived.BigQuiet
import Derived.Deep.RegionHeld3
import Derived.WalkSmall
import Derived.Laws.EntriesVeiled
import Derived.WalkMore
import Derived.LoopNIn
import Derived.LoopIn
import Derived.Test.YthddoikmgpgakaaDoorSpans
import Derived.Test.YthddoikmgpgakaaDoorPmap2
import Derived.Test.YthddoikmgpgakaaDoorBest
namespace Go.Proofs.YthddoikmgpgakaaDoor
open Go.RowKit Go.Proofs Go.Shelf

attribute [local go_sem] Oper.semAt_some

/-- What notches are worth, by a function value. -/
def Worth (S : World → Prop) (fv : Value) (W : Int → Int) : Prop := ∃ k first caps, fv = .func (.func k) first caps ∧ (∀ args w, (callFunc k args).run Tryd.prog w = .ok (.enter k args) w) ∧
  ∀ (n : Int) (w : World), 0 ≤ n → n ≤ 4 → S w → Calls Tryd.prog k (first ++ #[.int .i64 n] ++ caps) w fun e w' => e = .returned (.int .i64 (W n)) ∧ Below w.heap.size w w'
/-- What is known of places. -/
def KnownS (W : Int → Int) (st fo : List Int) (i k : Nat) (v : Value) : Prop := ∃ lo hi, v = .agg #[.int .i64 lo, .int .i64 hi] ∧ IsSpan W (TrueL (st.drop i) (fo.drop k)) lo hi
/-- The function value that tells. -/
def tellV (kb xb tb vb : Nat) : Value := .func (.func 109) #[] #[.pointer (some ⟨kb, 0, none⟩), .pointer (some ⟨xb, 0, none⟩), .pointer (some ⟨tb, 0, none⟩), .pointer (some ⟨vb, 0, none⟩)]

/-- Blocks of the places of 'comes'. -/
structure CB where
  kb : Nat
  xb : Nat
  tb : Nat
  vb : Nat
  pb : Nat
  eb : Nat
  qb : Nat
  M : Nat
  K : Nat
/-- 'comes' at work. -/
structure Tell (w : World) (c : CB) (a : Tl) (sa fa : Option Addr) (sc fc : Nat) (fv : Value) (W : Int → Int) (S : World → Prop) : Prop where
  known : Box w c.kb #[.map (some c.K)] 173
  x : Box w c.xb (pairC a.id a.hs a.st a.fo sa fa sc fc (leftV c.eb c.qb c.pb)) 134
  tell : Box w c.tb #[tellV c.kb c.xb c.tb c.vb] 174
  worth : Box w c.vb #[fv] 148
  half : Half w c.pb c.eb c.qb c.M a.id a.hs a.st a.fo sa fa sc fc
  map : PMap w c.K a.st.length a.fo.length (KnownS W a.st a.fo)
  s : S w
/-- What is fixed. -/
structure TellC (c : CB) (a : Tl) (fv : Value) (W : Int → Int) (S : World → Prop) (n0 : Nat) : Prop where
  ne : c.M ≠ c.K
  l1 : a.st.length ≤ 1000
  l2 : a.fo.length ≤ 1000
  o1 : okN a.st = true
  o2 : okN a.fo = true
  wf : Worth S fv W
  w0 : W 0 = 0
  wb : ∀ n, -1000 ≤ W n ∧ W n ≤ 1000
  sk : ∀ w w', S w → Keep (fun b => b < n0 ∧ b ≠ c.M ∧ b ≠ c.K) w w' → S w'

theorem sumW_bound {W : Int → Int} (wb : ∀ n, -1000 ≤ W n ∧ W n ≤ 1000) (l : List Int) : -(1000 * l.length : Int) ≤ sumW W l ∧ sumW W l ≤ 1000 * l.length := by
  induction l with
  | nil => simp [sumW]
  | cons x l ih =>
    have := wb x
    have e : sumW W (x :: l) = W x + sumW W l := by simp [sumW]
    rw [e, List.length_cons]
    omega
theorem span_bound {W : Int → Int} (wb : ∀ n, -1000 ≤ W n ∧ W n ≤ 1000) {s f : List Int} (hs : s.length ≤ 1000) (hf : f.length ≤ 1000) {lo hi : Int} (h : IsSpan W (TrueL s f) lo hi) : -2000000 ≤ lo ∧ lo ≤ 2000000 ∧ -2000000 ≤ hi ∧ hi ≤ 2000000 := by
  obtain ⟨l1, p1, e1⟩ := h.lo
  obtain ⟨l2, p2, e2⟩ := h.hi
  have := p1.length_le; have := p2.length_le
  have b1 := sumW_bound wb l1; have b2 := sumW_bound wb l2
  omega
theorem wrap_mid {n : Int} (h0 : -100000000 ≤ n) (h1 : n ≤ 100000000) : IntKind.i64.wrap n = n := by
  simp only [IntKind.wrap, IntKind.signed, IntKind.bits]
  simp
  omega
theorem step_notch {st fo : List Int} (hs : okN st = true) (hf : okN fo = true) {i k : Nat} {x : St} (hx : x ∈ stepsL st fo i k) {n : Int} (hn : n ∈ notchesL x) : 0 ≤ n ∧ n ≤ 4 := by
  have ok : ∀ {xs : List Int}, okN xs = true → ∀ {i : Nat} (hi : i < xs.length), 0 ≤ xs[i] ∧ xs[i] ≤ 4 := fun {xs} h {i} hi => by
    unfold okN at h
    rw [List.all_eq_true] at h
    have := h _ (List.getElem_mem hi)
    simp at this
    omega
  have hb : (0 ≤ x.s ∧ x.s ≤ 4) ∧ (0 ≤ x.f ∧ x.f ≤ 4) := by
    rw [stepsL, List.mem_append, List.mem_append] at hx
    rcases hx with hx | hx | hx
    · by_cases hh : i < st.length ∧ k < fo.length
      · rw [step1_yes hh.1 hh.2, List.mem_singleton] at hx
        subst hx
        exact ⟨ok hs hh.1, ok hf hh.2⟩
      · rw [step1_no hh] at hx; cases hx
    · by_cases hh : i < st.length
      · rw [step2_yes k hh, List.mem_singleton] at hx
        subst hx
        exact ⟨ok hs hh, (show (0 : Int) ≤ 0 by omega), (show (0 : Int) ≤ 4 by omega)⟩
      · rw [step2_no k hh] at hx; cases hx
    · by_cases hh : k < fo.length
      · rw [step3_yes i hh, List.mem_singleton] at hx
        subst hx
        exact ⟨⟨(show (0 : Int) ≤ 0 by omega), (show (0 : Int) ≤ 4 by omega)⟩, ok hf hh⟩
      · rw [step3_no i hh] at hx; cases hx
  unfold notchesL at hn
  split at hn <;> simp at hn
  · subst hn; exact hb.1
  · rcases hn with rfl | rfl
    · exact hb.1
    · exact hb.2
theorem notchesL_len (x : St) : 1 ≤ (notchesL x).length ∧ (notchesL x).length ≤ 2 := by unfold notchesL; split <;> simp

theorem stepsL_le (st fo : List Int) (i k : Nat) : (stepsL st fo i k).length ≤ 3 := by
  have h1 : (step1 st fo i k).length ≤ 1 := by unfold step1; split <;> simp
  have h2 : (step2 st i k).length ≤ 1 := by unfold step2; split <;> simp
  have h3 : (step3 fo i k).length ≤ 1 := by unfold step3; split <;> simp
  unfold stepsL
  simp only [List.length_append]; omega
theorem Tell.keepZ {w w' : World} {c : CB} {a : Tl} {sa fa : Option Addr} {sc fc : Nat} {fv : Value} {W : Int → Int} {S : World → Prop} {Z : Nat → Prop} (h : Tell w c a sa fa sc fc fv W S) (kp : Keep Z w w') (hz : ∀ b, CellAt w b → Z b) (hM : PMap w' c.M a.st.length a.fo.length (Known a.st a.fo)) (hK : PMap w' c.K a.st.length a.fo.length (KnownS W a.st a.fo)) (hS : S w') :
    Tell w' c a sa fa sc fc fv W S :=
  ⟨kp.box (hz _ h.known.at_) h.known, kp.box (hz _ h.x.at_) h.x, kp.box (hz _ h.tell.at_) h.tell, kp.box (hz _ h.worth.at_) h.worth, 
   ⟨kp.box (hz _ h.half.pair.at_) h.half.pair, kp.box (hz _ h.half.fin.at_) h.half.fin, kp.box (hz _ h.half.known.at_) h.half.known, hM, kp.rdI (fun hx _ hp => hz _ (rd_at h.half.s hx hp)) h.half.s, kp.rdI (fun hx _ hp => hz _ (rd_at h.half.f hx hp)) h.half.f⟩, hK, hS⟩
theorem Tell.below {w w' : World} {c : CB} {a : Tl} {sa fa : Option Addr} {sc fc : Nat} {fv : Value} {W : Int → Int} {S : World → Prop} {n0 : Nat} (hc : TellC c a fv W S n0) (h : Tell w c a sa fa sc fc fv W S) (hb : Below w.heap.size w w') : Tell w' c a sa fa sc fc fv W S :=
  h.keepZ (Keep.of_below (Z := fun b => b < w.heap.size) hb (fun _ _ h => h)) (fun b ⟨_, ho, _⟩ => (Array.getElem?_eq_some_iff.1 ho).1) (h.half.map.kept (hb.block _ h.half.map.lt)) (h.map.kept (hb.block _ h.map.lt))
    (hc.sk _ _ h.s (Keep.of_below hb (fun k hk _ => hk)))

/-- What it tells of a place. -/
def TellP (c : CB) (a : Tl) (W : Int → Int) (i k : Nat) (w : World) (e : Ending) (w' : World) : Prop := ∃ lo hi, e = .returned (.agg #[.int .i64 lo, .int .i64 hi]) ∧ IsSpan W (TrueL (a.st.drop i) (a.fo.drop k)) lo hi ∧ Keep (fun b => b ≠ c.M ∧ b ≠ c.K) w w' ∧ PMap w' c.M a.st.length a.fo.length (Known a.st a.fo) ∧ PMap w' c.K a.st.length a.fo.length (KnownS W a.st a.fo)

/-- The lists that go by some steps. -/
def ByS (a : Tl) (xs : List St) (l : List Int) : Prop := ∃ x ∈ xs, ∃ n ∈ notchesL x, ∃ r, TrueL (a.st.drop x.i) (a.fo.drop x.k) r ∧ l = preL n r
/-- The lists that go by a step and some of its notches. -/
def ByN (a : Tl) (x : St) (ns : List Int) (l : List Int) : Prop := ∃ n ∈ ns, ∃ r, TrueL (a.st.drop x.i) (a.fo.drop x.k) r ∧ l = preL n r
theorem byS_snoc (a : Tl) (xs : List St) (x : St) (l : List Int) : ByS a (xs ++ [x]) l ↔ ByS a xs l ∨ ByN a x (notchesL x) l := by
  constructor
  · rintro ⟨y, hy, h⟩
    rcases List.mem_append.1 hy with hy | hy
    · exact .inl ⟨y, hy, h⟩
    · rw [List.mem_singleton] at hy; subst hy; exact .inr h
  · rintro (⟨y, hy, h⟩ | h)
    · exact ⟨y, by simp [hy], h⟩
    · exact ⟨x, by simp, h⟩
theorem byN_snoc (a : Tl) (x : St) (ns : List Int) (n : Int) (l : List Int) : ByN a x (ns ++ [n]) l ↔ ByN a x ns l ∨ ∃ r, TrueL (a.st.drop x.i) (a.fo.drop x.k) r ∧ l = preL n r := by
  constructor
  · rintro ⟨y, hy, h⟩
    rcases List.mem_append.1 hy with hy | hy
    · exact .inl ⟨y, hy, h⟩
    · rw [List.mem_singleton] at hy; subst hy; exact .inr h
  · rintro (⟨y, hy, h⟩ | h)
    · exact ⟨y, by simp [hy], h⟩
    · exact ⟨n, by simp, h⟩

theorem infoSpan : (Tryd.prog.info? 68).map (fun i => (i.zero, i.size, i.bytes)) = some (some (.agg #[.int .i64 0, .int .i64 0]), 2, 16) := by kernel_rfl

/-- Between two rounds. -/
structure ComI (c : CB) (a : Tl) (sa fa : Option Addr) (sc fc : Nat) (fv : Value) (W : Int → Int) (S : World → Prop) (i k N : Nat) (w : World) (P : List Int → Prop) (m : Nat) (Q : Nat → Prop) (W' : World) : Prop where
  p5 : Box W' N #[.int .i64 i, .int .i64 k] 137
  p6 : Box W' (N + 1) #[.int .i64 0, .int .i64 0] 68
  l9 : ∃ ss la lc, Box W' (N + 4) #[.slice la ss.length lc] 176 ∧ W'.ownsRow (N + 3) 68 2 (.slice la ss.length lc) ss.length (rowC spC ss) ∧ SpanAcc W P ss ∧ ss.length ≤ m ∧ ∀ g, (Value.slice la ss.length lc).ownBlock = some g → ¬ Q g
  tell : Tell W' c a sa fa sc fc fv W S
  kp : Keep (fun b => b < N ∧ b ≠ c.M ∧ b ≠ c.K) w W'
theorem ComI.keepZ {c : CB} {a : Tl} {sa fa : Option Addr} {sc fc : Nat} {fv : Value} {W : Int → Int} {S : World → Prop} {n0 i k N m : Nat} {w W1 W2 : World} {P : List Int → Prop} {Q Z : Nat → Prop} (hc : TellC c a fv W S n0) (hn : n0 ≤ N) (h : ComI c a sa fa sc fc fv W S i k N w P m Q W1) (kp : Keep Z W1 W2) (hz : ∀ b, CellAt W1 b → Z b) (h0 : ∀ b, b < N → b ≠ c.M → b ≠ c.K → Z b)
    (hM : PMap W2 c.M a.st.length a.fo.length (Known a.st a.fo)) (hK : PMap W2 c.K a.st.length a.fo.length (KnownS W a.st a.fo)) : ComI c a sa fa sc fc fv W S i k N w P m Q W2 := by
  obtain ⟨ss, la, lc, g1, g2, g3, g4⟩ := h.l9
  exact ⟨kp.box (hz _ h.p5.at_) h.p5, kp.box (hz _ h.p6.at_) h.p6, ⟨ss, la, lc, kp.box (hz _ g1.at_) g1, own_kp' g2 kp (fun g hg => hz _ (own_at g2 g hg)), g3, g4⟩,
    h.tell.keepZ kp hz hM hK (hc.sk _ _ h.tell.s (kp.mono (fun b _ hb => h0 b (by have := hb.1; omega) hb.2.1 hb.2.2))), h.kp.trans (kp.mono (fun b _ hb => h0 b hb.1 hb.2.1 hb.2.2))⟩
theorem ComI.iff {c : CB} {a : Tl} {sa fa : Option Addr} {sc fc : Nat} {fv : Value} {W : Int → Int} {S : World → Prop} {i k N m m' : Nat} {w W1 : World} {P P' : List Int → Prop} {Q Q' : Nat → Prop} (h : ComI c a sa fa sc fc fv W S i k N w P m Q W1) (hq : ∀ x, P x ↔ P' x) (hm : m ≤ m') (hQ : ∀ g, N + 3 ≤ g → g < W1.heap.size → ¬ Q g → ¬ Q' g) : ComI c a sa fa sc fc fv W S i k N w P' m' Q' W1 := by
  obtain ⟨ss, la, lc, g1, g2, g3, g4, g5⟩ := h.l9
  exact ⟨h.p5, h.p6, ⟨ss, la, lc, g1, g2, g3.iff hq, by omega, fun g hg => hQ g (g2.lt g hg).1 (g2.lt g hg).2 (g5 g hg)⟩, h.tell, h.kp⟩
theorem ComI.below {c : CB} {a : Tl} {sa fa : Option Addr} {sc fc : Nat} {fv : Value} {W : Int → Int} {S : World → Prop} {n0 i k N m : Nat} {w W1 W2 : World} {P : List Int → Prop} {Q : Nat → Prop} (hc : TellC c a fv W S n0) (hn : n0 ≤ N) (h : ComI c a sa fa sc fc fv W S i k N w P m Q W1) (hN : N ≤ W1.heap.size) (hb : Below W1.heap.size W1 W2) : ComI c a sa fa sc fc fv W S i k N w P m Q W2 :=
  h.keepZ hc hn (Keep.of_below (Z := fun b => b < W1.heap.size) hb (fun _ _ h => h)) (fun b ⟨_, ho, _⟩ => (Array.getElem?_eq_some_iff.1 ho).1) (fun b hb _ _ => show b < W1.heap.size by omega) (h.tell.half.map.kept (hb.block _ h.tell.half.map.lt)) (h.tell.map.kept (hb.block _ h.tell.map.lt))
theorem KpB.of_keepZ {R : Nat → Prop} {M : Nat} {st fo : List Int} {W W' : World} {Z : Nat → Prop} (kp : Keep Z W W') (hz : ∀ b, CellAt W b → Z b) (hR : ∀ b, R b → Z b) (hm : PMap W M st.length fo.length (Known st fo) → PMap W' M st.length fo.length (Known st fo)) : KpB R M st fo W W' :=
  ⟨kp.os, kp.tape, kp.output, kp.size, fun b cs t hb _ => kp.box (hz _ hb.at_) hb, fun k hk hr => kp.block k hk (hR k hr), hm⟩

/-- In the middle of a round. -/
structure ComB (c : CB) (a : Tl) (sa fa : Option Addr) (sc fc : Nat) (fv : Value) (W : Int → Int) (S : World → Prop) (i k N : Nat) (w : World) (P : List Int → Prop) (m : Nat) (Q : Nat → Prop) (L : Nat) (W1 : World) (p11 : Nat) (lo hi : Int) (na : Option Addr) (ns : List Int) (ss : List (Int × Int)) (la : Option Addr) (lc : Nat) (W' : World) : Prop where
  com : ComI c a sa fa sc fc fv W S i k N w P m Q W'
  b11 : Box W' p11 #[.int .i64 lo, .int .i64 hi] 68
  rn : RdI W' na ns
  kb : KpB (fun b => b < N ∧ b ≠ c.M ∧ b ≠ c.K) c.M a.st a.fo W1 W'
  kf : KeepsFrom L W1 W'
  z : W1.heap.size ≤ W'.heap.size
  g1 : Box W' (N + 4) #[.slice la ss.length lc] 176
  g2 : W'.ownsRow (N + 3) 68 2 (.slice la ss.length lc) ss.length (rowC spC ss)
  g3 : ∀ g, (Value.slice la ss.length lc).ownBlock = some g → ¬ Q g
theorem ComB.below {c : CB} {a : Tl} {sa fa : Option Addr} {sc fc : Nat} {fv : Value} {W : Int → Int} {S : World → Prop} {n0 i k N m L p11 : Nat} {w W1 W2 W3 : World} {P : List Int → Prop} {Q : Nat → Prop} {lo hi : Int} {na : Option Addr} {ns : List Int} {ss : List (Int × Int)} {la : Option Addr} {lc : Nat} (hc : TellC c a fv W S n0) (hn : n0 ≤ N) (h : ComB c a sa fa sc fc fv W S i k N w P m Q L W1 p11 lo hi na ns ss la lc W2) (hN : N ≤ W2.heap.size) (hb : Below W2.heap.size W2 W3) : ComB c a sa fa sc fc fv W S i k N w P m Q L W1 p11 lo hi na ns ss la lc W3 :=
  ⟨h.com.below hc hn hN hb, h.b11.below hb h.b11.lt, h.rn.below hb, h.kb.trans (KpB.of_keepZ (Keep.of_below (Z := fun b => b < W2.heap.size) hb (fun _ _ h => h)) (fun b ⟨_, ho, _⟩ => (Array.getElem?_eq_some_iff.1 ho).1) (fun b hb => by have := hb.1; show b < W2.heap.size; omega) (fun h => h.kept (hb.block _ h.lt))), h.kf.trans (kf_below hb), Nat.le_trans h.z hb.size, h.g1.below hb h.g1.lt, own_below h.g2 hb (Nat.le_refl _), h.g3⟩

/-- All that lies below a block. -/
structure TellLt (c : CB) (N : Nat) : Prop where
  kb : c.kb < N
  xb : c.xb < N
  tb : c.tb < N
  vb : c.vb < N
  pb : c.pb < N
  eb : c.eb < N
  qb : c.qb < N
  M : c.M < N
  K : c.K < N
theorem Tell.low {w w' : World} {c : CB} {a : Tl} {sa fa : Option Addr} {sc fc : Nat} {fv : Value} {W : Int → Int} {S : World → Prop} {n0 N : Nat} (hc : TellC c a fv W S n0) (hn : n0 ≤ N) (h : Tell w c a sa fa sc fc fv W S) (hlt : TellLt c N) (r3 : a.st ≠ [] → ∀ {p : Addr}, sa = some p → p.block < N) (r4 : a.fo ≠ [] → ∀ {p : Addr}, fa = some p → p.block < N) (kp : Keep (· < N) w w') : Tell w' c a sa fa sc fc fv W S :=
  ⟨kp.box hlt.kb h.known, kp.box hlt.xb h.x, kp.box hlt.tb h.tell, kp.box hlt.vb h.worth,
   ⟨kp.box hlt.pb h.half.pair, kp.box hlt.eb h.half.fin, kp.box hlt.qb h.half.known, kp.pmap hlt.M h.half.map, kp.rdI (fun hx p hp => r3 hx hp) h.half.s, kp.rdI (fun hx p hp => r4 hx hp) h.half.f⟩, kp.pmap hlt.K h.map, hc.sk _ _ h.s (kp.mono (fun b _ hb => by have := hb.1; show b < N; omega))⟩

set_option maxRecDepth 20000 in
set_option maxHeartbeats 4000000 in
theorem tell_step (c : CB) (a : Tl) (sa fa : Option Addr) (sc fc : Nat) (fv : Value) (W : Int → Int) (S : World → Prop) (n0 : Nat) (hc : TellC c a fv W S n0) (i k : Nat) (hi : i ≤ a.st.length) (hk : k ≤ a.fo.length)
    (ih : ∀ i' k' w', i' ≤ a.st.length → k' ≤ a.fo.length → (a.st.length - i') + (a.fo.length - k') < (a.st.length - i) + (a.fo.length - k) → n0 ≤ w'.heap.size → Tell w' c a sa fa sc fc fv W S →
      Calls Tryd.prog 109 #[plc i' k', .pointer (some ⟨c.kb, 0, none⟩), .pointer (some ⟨c.xb, 0, none⟩), .pointer (some ⟨c.tb, 0, none⟩), .pointer (some ⟨c.vb, 0, none⟩)] w' (TellP c a W i' k' w'))
    (w : World) (hn0 : n0 ≤ w.heap.size) (hT : Tell w c a sa fa sc fc fv W S) :
    Calls Tryd.prog 109 #[plc i k, .pointer (some ⟨c.kb, 0, none⟩), .pointer (some ⟨c.xb, 0, none⟩), .pointer (some ⟨c.tb, 0, none⟩), .pointer (some ⟨c.vb, 0, none⟩)] w (TellP c a W i k w) := by
  have hm := mixedS
  obtain ⟨i0, hi0, iz0, iz1, iz2⟩ := info_parts infoSpan
  have IH := hid ih; clear ih
  have hc' := hc
  obtain ⟨kf, first, caps, rfl, eg, hcall⟩ := hc'.wf
  have EG := hid eg; have HC := hid hcall
  clear eg hcall hc'
  have HT := hid hT
  have k0 : w.cell? ⟨c.kb, 0, none⟩ = some (.map (some c.K)) := hT.known.cell 0
  have lk := hT.known.lt
  have hlk := (hT.map.alloc (.cells #[.int .i64 i, .int .i64 k] 137)).alloc (.cells #[.int .i64 0, .int .i64 0] 68)
  have hlk := hlk.look (t := 173) (e := 68) Tryd.underlying173 (z := .agg #[.int .i64 0, .int .i64 0]) (Tryd.zeroValue68 _) (i := i) (k := k) (by have := hc.l1; omega) (by have := hc.l2; omega)
  clear hT
  apply (callsIn_wide (n := 4)).1
  refine callsIn_of_wp_marks Tryd.func109 rfl trivial ?_ rfl
  simp only [Tryd.ntmps109, List.size_toArray, List.length_cons, List.length_nil, Nat.reduceAdd, Nat.reduceSub, Array.replicate_succ, Array.replicate_zero, List.push_toArray, List.append_toArray, List.nil_append, List.cons_append]
  unfold plc at hlk ⊢
  rcases hlk with hrun | ⟨v, ⟨lo, hi2, rfl, hsp⟩, hrun⟩
  · have x0 : w.cell? ⟨c.xb, 0, none⟩ = some (.int .i64 a.id) := HT.out.x.cell 0
    have x1 : w.cell? ⟨c.xb, 1, none⟩ = some (.int .i64 a.hs) := HT.out.x.cell 1
    have x2 : w.cell? ⟨c.xb, 2, none⟩ = some (.slice sa a.st.length sc) := HT.out.x.cell 2
    have x3 : w.cell? ⟨c.xb, 3, none⟩ = some (.slice fa a.fo.length fc) := HT.out.x.cell 3
    have x4 : w.cell? ⟨c.xb, 4, none⟩ = some (leftV c.eb c.qb c.pb) := HT.out.x.cell 4
    have lx := HT.out.x.lt
    have lx1 : c.xb < w.heap.size + 1 := by omega
    have lx2 : c.xb < w.heap.size + 1 + 1 := by omega
    have lx3 : c.xb < w.heap.size + 1 + 1 + 1 := by omega
    have lx4 : c.xb < w.heap.size + 1 + 1 + 1 + 1 := by omega
    gi_wp2_with (fail)
    refine ⟨trivial, ?_⟩
    gi_at_call 87
    refine (callsIn_wide.2 (best_any #[.int .i64 a.id, .int .i64 a.hs, .slice sa a.st.length sc, .slice fa a.fo.length fc, leftV c.eb c.qb c.pb] i k _ rfl)).mono ?_
    rintro e w3 ⟨rfl, rfl⟩
    gi_wp2_with (fail)
    obtain ⟨N, hN⟩ : ∃ N, N = w.heap.size := ⟨_, rfl⟩
    refine wpIn_world (fun wL => Box wL N #[.int .i64 i, .int .i64 k] 137 ∧ Box wL (N + 1) #[.int .i64 0, .int .i64 0] 68 ∧ wL.ownsRow (N + 3) 68 2 (.slice (some ⟨N + 3, 0, none⟩) 0 0) 0 [] ∧ Box wL (N + 4) #[.slice (some ⟨N + 3, 0, none⟩) 0 0] 176 ∧ Box wL (N + 5) (pairC a.id a.hs a.st a.fo sa fa sc fc (leftV c.eb c.qb c.pb)) 134 ∧ Box wL (N + 6) #[.int .i64 i, .int .i64 k] 137 ∧ Below w.heap.size w wL ∧ N + 7 ≤ wL.heap.size) ⟨?_, ?_, ?_, ?_, ?_, ?_, ?_, ?_⟩ ?_
    · rw [hN]; exact ((((((Box.at _ _ (by first | omega | (simp; done) | (simp; omega))).alloc _).alloc _).alloc _).alloc _).alloc _).alloc _
    · rw [hN]; exact (((((Box.at _ _ (by first | omega | (simp; done) | (simp; omega))).alloc _).alloc _).alloc _).alloc _).alloc _
    · rw [hN]; exact (((own_lit (by first | omega | (simp; done) | (simp; omega)) (Nat.le_refl _) (by omega) rfl rfl).alloc _).alloc _).alloc _
    · rw [hN]; exact ((Box.at _ _ (by first | omega | (simp; done) | (simp; omega))).alloc _).alloc _
    · rw [hN]; exact (Box.at _ _ (by first | omega | (simp; done) | (simp; omega))).alloc _
    · rw [hN]; exact Box.at _ _ (by first | omega | (simp; done) | (simp; omega))
    · exact (by repeat (first | (with_reducible exact Below.refl _ _) | (with_reducible assumption) | (with_reducible refine Below.drew ?_) | (with_reducible refine below_drewN ?_ _) | (with_reducible refine Below.alloc ?_ (by first | omega | (simp; done) | (simp; omega)) _) | (with_reducible refine Below.setCell ?_ (by first | omega | (simp; done) | (simp; omega)) _) | (with_reducible refine Below.trans ?_ (Below.mono (by assumption) (by first | omega | (simp; done) | (simp; omega))))))
    · rw [hN]; simp
    rintro wL ⟨b5, b6, o9, b9, bC, bD, hbL, zL⟩
    rw [← hN]
    have hMN : c.M < N := by have := HT.out.half.map.lt; omega
    have hKN : c.K < N := by have := HT.out.map.lt; omega
    have hn : n0 ≤ N := by omega
    have kpL : Keep (fun b => b < N ∧ b ≠ c.M ∧ b ≠ c.K) w wL := Keep.of_below hbL (fun b _ hb => by have := hb.1; omega)
    have tL := HT.out.below hc hbL
    have I0 : ComI c a sa fa sc fc (.func (.func kf) first caps) W S i k N w (fun l => ByS a [] l) 0 (fun _ => False) wL := ⟨b5, b6, ⟨[], _, 0, b9, o9, .nil (fun l ⟨_, h, _⟩ => by cases h), Nat.le_refl _, fun _ _ h => h⟩, tL, kpL⟩
    have hH := tL.half
    clear hrun k0 lk x0 x1 x2 x3 x4 lx lx1 lx2 lx3 lx4 b5 b6 o9 b9 hbL kpL
    have hLT : TellLt c N := ⟨by have := HT.out.known.lt; omega, by have := HT.out.x.lt; omega, by have := HT.out.tell.lt; omega, by have := HT.out.worth.lt; omega, by have := HT.out.half.pair.lt; omega, by have := HT.out.half.fin.lt; omega, by have := HT.out.half.known.lt; omega, hMN, hKN⟩
    have R3 := fun hx {p} => row_lt (p := p) HT.out.half.s hx; have R4 := fun hx {p} => row_lt (p := p) HT.out.half.f hx
    rw [← hN] at R3 R4
    have HN := hid hN
    clear hN
    refine wpIn_range_X rfl (by omega) (gf := 108) (lb := #[.pointer (some ⟨N + 5, 0, none⟩), .pointer (some ⟨N + 6, 0, none⟩)]) rfl trivial (enters_of Tryd.func108 (by kernel_rfl) rfl)
      (best1_stops (N + 5) (N + 6) c.pb c.eb c.qb c.M a.id a.hs a.st a.fo sa fa sc fc i k hi hk (by have := hc.l1; omega) (by have := hc.l2; omega) (fun b => b < N ∧ b ≠ c.M ∧ b ≠ c.K) (fun h => h.2.1 rfl) (fun hx p hp => ⟨R3 hx hp, hH.map.ne_row hH.s hx hp, tL.map.ne_row hH.s hx hp⟩) (fun hx p hp => ⟨R4 hx hp, hH.map.ne_row hH.f hx hp, tL.map.ne_row hH.f hx hp⟩) wL bC bD hH)
      (fun h k => h.trans k) ?kb (Below.refl _ _) (fun _ => rfl) ?hSt
      (fun pre W' => ComI c a sa fa sc fc (.func (.func kf) first caps) W S i k N w (fun l => ByS a (pre.map (·.1)) l) (2 * pre.length) (fun _ => False) W' ∧ wL.heap.size ≤ W'.heap.size)
      (fun _ _ _ => False) ?hI ?hIx ⟨I0, Nat.le_refl _⟩
      (fun x a' W' => ∃ Bx, wL.heap.size ≤ Bx ∧ Box W' Bx #[.int .i64 x.1.i, .int .i64 x.1.k, .int .i64 x.1.s, .int .i64 x.1.f, .int .i64 x.1.wr] 142 ∧ ∃ f : Nat → Value, a' = ⟨((List.range 66).map f).toArray, []⟩ ∧ f 3 = .pointer (some ⟨c.tb, 0, none⟩) ∧ f 4 = .pointer (some ⟨c.vb, 0, none⟩) ∧ f 9 = .pointer (some ⟨N + 4, 0, none⟩) ∧ f 10 = .pointer (some ⟨Bx, 0, none⟩)) ?hAx ?assign ?body ?done ?stop
    case kb =>
      intro W1 l1 o o' hl1 ho hco _
      have k1 : Keep (· ≠ l1) W1 (W1.putObj l1 o') := (Keep.refl _ _).putObj _ _ (fun _ h => h rfl)
      exact KpB.of_keepZ k1 (fun b hb e => by subst e; obtain ⟨o2, h2, h3⟩ := hb; rw [ho] at h2; cases h2; rw [hco] at h3; cases h3) (fun b hb => show b ≠ l1 by have := hb.1; omega) (fun h => h.kept (World.putObj_heap_other (show c.M ≠ l1 by omega)))
    case hSt => exact fun A B h => keepsFrom_of h.1 (show c.M < wL.heap.size by omega)
    case hI =>
      refine ⟨?_, ?_⟩
      · rintro pre W1 W2 row ⟨I1, z1⟩ hg hr
        have hrc : ∀ r, row = some r → ∃ o : Obj, W1.heap[r]? = some o ∧ o.isCells = false := fun r e => (hr r e).2
        have hlt : ∀ b, b < N → row ≠ some b := fun b hb e => by have := (hr b e).1; omega
        exact ⟨I1.keepZ hc hn (keep_of_grown hg) (fun b hb => cell_not_row hrc hb) (fun b hb _ _ => hlt b hb) (I1.tell.half.map.kept (hg.block c.M I1.tell.half.map.lt (fun e => hlt _ hMN e.symm))) (I1.tell.map.kept (hg.block c.K I1.tell.map.lt (fun e => hlt _ hKN e.symm))), Nat.le_trans z1 hg.size⟩
      · rintro pre W1 W2 ⟨I1, z1⟩ ⟨hk, hp⟩
        exact ⟨I1.keepZ hc hn hk (fun b hb => map_not_cell I1.tell.half.map hb) (fun b _ hb _ => hb) (hp I1.tell.half.map) (hk.pmap (show c.K ≠ c.M from Ne.symm hc.ne) I1.tell.map), Nat.le_trans z1 hk.size⟩
    case hIx => exact fun _ => ⟨fun _ _ _ _ h _ _ => h, fun _ _ _ h _ => h⟩
    case hAx =>
      rintro x a' _ W1 W2 row ⟨Bx, hB, hb, hf⟩ hg hr
      exact ⟨Bx, hB, box_own hb hg (fun r e => (hr r e).2), hf⟩
    case assign =>
      rintro l2 pre ⟨x, hx⟩ W1 K ⟨I1, z1⟩ hK
      simp only [St.val]
      gi_wp2
      have k1 := (Keep.refl (fun b => b < W1.heap.size) W1).alloc (.cells #[.int .i64 x.i, .int .i64 x.k, .int .i64 x.s, .int .i64 x.f, .int .i64 x.wr] 142)
      refine hK _ _ ((KeepsOthers.alloc _ _).from _) (KpB.of_keepZ k1 (fun b ⟨_, ho, _⟩ => (Array.getElem?_eq_some_iff.1 ho).1) (fun b hb => by have := hb.1; show b < W1.heap.size; omega) (fun h => h.alloc _)) ⟨I1.keepZ hc hn k1 (fun b ⟨_, ho, _⟩ => (Array.getElem?_eq_some_iff.1 ho).1) (fun b hb _ _ => by show b < W1.heap.size; omega) (I1.tell.half.map.alloc _) (I1.tell.map.alloc _), by simp; omega⟩ ⟨W1.heap.size, z1, Box.new _ _ _, ?_⟩
      refine acts_of rfl ?_
      exact ⟨rfl, rfl, rfl, rfl⟩
    case body =>
      rintro l2 pre ⟨x, hx⟩ a' W1 hl' ⟨r, hr⟩ ⟨I1, z1⟩ ⟨Bx, hBx, bX, f, rfl, f3, f4, f9, f10⟩ hlt2
      obtain ⟨b1, b2, b3, b4, b5⟩ := step_bound hx hi hk
      rw [show (List.range 66).map f = [f 0, f 1, f 2, f 3, f 4, f 5, f 6, f 7, f 8, f 9, f 10, f 11, f 12, f 13, f 14, f 15, f 16, f 17, f 18, f 19, f 20, f 21, f 22, f 23, f 24, f 25, f 26, f 27, f 28, f 29, f 30, f 31, f 32, f 33, f 34, f 35, f 36, f 37, f 38, f 39, f 40, f 41, f 42, f 43, f 44, f 45, f 46, f 47, f 48, f 49, f 50, f 51, f 52, f 53, f 54, f 55, f 56, f 57, f 58, f 59, f 60, f 61, f 62, f 63, f 64, f 65] from rfl, f3, f4, f9, f10]
      clear f3 f4 f9 f10
      have y0 : W1.cell? ⟨c.tb, 0, none⟩ = some (tellV c.kb c.xb c.tb c.vb) := I1.tell.tell.cell 0
      have x0 : W1.cell? ⟨Bx, 0, none⟩ = some (.int .i64 x.i) := bX.cell 0
      have x1 : W1.cell? ⟨Bx, 1, none⟩ = some (.int .i64 x.k) := bX.cell 1
      have II := hid I1; have BB := hid bX
      clear I1 bX
      unfold tellV at y0
      gi_wp2_with (fail)
      refine ⟨trivial, ?_⟩
      gi_at_call 109
      refine (CallsIn.inRound l2 (callsIn_wide.2 (IH.out x.i x.k W1 b1 b2 b3 (by omega) II.out.tell))).mono ?_
      rintro e w5 ⟨lo, hi5, rfl, hsp, kp5, hM5, hK5⟩
      have hcel : ∀ b, CellAt W1 b → b ≠ c.M ∧ b ≠ c.K := fun b hb => ⟨map_not_cell II.out.tell.half.map hb, map_not_cell II.out.tell.map hb⟩
      have I5 := hid (II.out.keepZ hc hn kp5 hcel (fun b _ h1 h2 => ⟨h1, h2⟩) hM5 hK5)
      have B5 := hid (kp5.box (hcel _ BB.out.at_) BB.out)
      have KB5 : KpB (fun b => b < N ∧ b ≠ c.M ∧ b ≠ c.K) c.M a.st a.fo W1 w5 := KpB.of_keepZ kp5 hcel (fun b hb => hb.2) (fun _ => hM5)
      have KF5 : KeepsFrom wL.heap.size W1 w5 := ⟨kp5.size, fun q o hB hq _ => (kp5.block q (Array.getElem?_eq_some_iff.1 hq).1 ⟨by omega, by omega⟩).trans hq⟩
      have z5 := kp5.size
      have sb := span_bound hc.wb (by have := hc.l1; simp; omega) (by have := hc.l2; simp; omega) hsp
      clear kp5 hM5 hK5 hcel x0 x1 y0
      obtain ⟨⟨v0, v1, v2, v3, v4⟩, lv⟩ : (w5.cell? ⟨Bx, 0, none⟩ = some (.int .i64 x.i) ∧ w5.cell? ⟨Bx, 1, none⟩ = some (.int .i64 x.k) ∧ w5.cell? ⟨Bx, 2, none⟩ = some (.int .i64 x.s) ∧ w5.cell? ⟨Bx, 3, none⟩ = some (.int .i64 x.f) ∧ w5.cell? ⟨Bx, 4, none⟩ = some (.int .i64 x.wr)) ∧ Bx < w5.heap.size := ⟨⟨B5.out.cell 0, B5.out.cell 1, B5.out.cell 2, B5.out.cell 3, B5.out.cell 4⟩, B5.out.lt⟩
      gi_wp2_with (fail)
      refine ⟨trivial, ?_⟩
      gi_at_call 110
      refine (CallsIn.inRound l2 (callsIn_wide.2 (notches_step x _))).mono ?_
      rintro e w6 ⟨na, nc, rfl, hna, hb6, hnf⟩
      obtain ⟨p11, hp11⟩ : ∃ p, p = w5.heap.size := ⟨_, rfl⟩
      obtain ⟨L6, hL6⟩ : ∃ L, L = w6.heap.size := ⟨_, rfl⟩
      have B11 := hid ((Box.at (w := w5) #[.int .i64 lo, .int .i64 hi5] 68 hp11).below hb6 (by simp; omega))
      have hb65 : Below w5.heap.size w5 w6 := ((Below.refl _ w5).alloc (Nat.le_refl _) _).trans (hb6.mono (by simp))
      have kp6 : Keep (fun b => b < w5.heap.size) w5 w6 := Keep.of_below hb65 (fun _ _ h => h)
      have cel6 : ∀ b, CellAt w5 b → b < w5.heap.size := fun b ⟨_, ho, _⟩ => (Array.getElem?_eq_some_iff.1 ho).1
      have hNW : N + 7 ≤ w5.heap.size := by omega
      have I5q := I5.out.iff (Q' := fun b => p11 ≤ b ∧ b < L6) (fun _ => Iff.rfl) (Nat.le_refl _) (fun g _ hg _ hq => by have := hq.1; omega)
      have I6 := hid (I5q.keepZ hc hn kp6 cel6 (fun b hb _ _ => show b < w5.heap.size by omega) (I5.out.tell.half.map.kept (hb65.block _ I5.out.tell.half.map.lt)) (I5.out.tell.map.kept (hb65.block _ I5.out.tell.map.lt)))
      have KB6 := KB5.trans (KpB.of_keepZ kp6 cel6 (fun b hb => by have := hb.1; show b < w5.heap.size; omega) (fun h => h.kept (hb65.block _ h.lt)))
      have KF6 := KF5.trans (kf_below (B := wL.heap.size) hb65)
      have RN := hid hna
      have np : N + 7 ≤ p11 := by omega
      have pL : p11 < L6 := by have := B11.out.lt; omega
      have pz : W1.heap.size ≤ p11 := by omega
      have hnq : ∀ p, na = some p → p11 ≤ p.block ∧ p.block < L6 := fun p e => ⟨by have := hnf p e; simp at this; omega, by rw [hL6]; exact row_lt hna (List.ne_nil_of_length_pos (by have := notchesL_len x; omega)) e⟩
      have zL6 : L6 ≤ w6.heap.size := by omega
      rw [← hp11]
      clear hp11 hL6 hb6 hb65 kp6 cel6 KB5 KF5 v0 v1 v2 v3 v4 lv hna I5 B5 I5q hnf
      have nl := notchesL_len x
      gi_wp2_with (fail)
      gi_loopw [34] (fun p wr => ∃ j : Nat, j ≤ (notchesL x).length ∧ p = .int .i64 j ∧ ComI c a sa fa sc fc (.func (.func kf) first caps) W S i k N w (fun l => ByS a (pre.map (·.1)) l ∨ ByN a x ((notchesL x).take j) l) (2 * pre.length + j) (fun b => p11 ≤ b ∧ b < L6) wr ∧ Box wr p11 #[.int .i64 lo, .int .i64 hi5] 68 ∧ RdI wr na (notchesL x) ∧ KpB (fun b => b < N ∧ b ≠ c.M ∧ b ≠ c.K) c.M a.st a.fo W1 wr ∧ KeepsFrom wL.heap.size W1 wr ∧ L6 ≤ wr.heap.size) (fun p _ => (notchesL x).length - (intOf p).toNat)
      case atStart => exact ⟨0, Nat.zero_le _, rfl, I6.out.iff (fun l => ⟨.inl, fun h => h.resolve_right (fun ⟨_, h, _⟩ => by simp at h)⟩) (by omega) (fun _ _ _ h => h), B11.out, RN.out, KB6, KF6, zL6⟩
      case round =>
        clear I6 B11 RN KB6 KF6 zL6
        obtain ⟨j, hj, rfl, J, b11, rn, kb, kf', zr⟩ := hrel
        by_cases hlt : j < (notchesL x).length
        · obtain ⟨bn, on, rfl, cn⟩ := rn j hlt
          have hnn := step_notch hc.o1 hc.o2 hx (List.getElem_mem hlt)
          have JJ := hid J; have B11 := hid b11; have RN := hid rn; have KB := hid kb; have KF := hid kf'
          obtain ⟨ss, la, lc, g1, g2, g3, g4, g5⟩ := J.l9
          have q0 : wr.cell? ⟨N + 4, 0, none⟩ = some (.slice la ss.length lc) := g1.cell 0
          have q1 : wr.cell? ⟨c.vb, 0, none⟩ = some (.func (.func kf) first caps) := J.tell.worth.cell 0
          have q2 : wr.cell? ⟨p11, 0, none⟩ = some (.int .i64 lo) := b11.cell 0
          have q3 : wr.cell? ⟨p11, 1, none⟩ = some (.int .i64 hi5) := b11.cell 1
          have G1 := hid g1; have G2 := hid g2; have G3 := hid g3
          have lcn := cell_lt cn
          clear J b11 rn kb kf' g1 g2 g3
          obtain ⟨n, hne⟩ : ∃ n, (notchesL x)[j] = n := ⟨_, rfl⟩
          rw [hne] at cn hnn
          have wbn := hc.wb n
          have hw1 := wrap_mid (n := W n + lo) (by omega) (by omega)
          have hw2 := wrap_mid (n := W n + hi5) (by omega) (by omega)
          gi_wp2_with (fail)
          refine wpIn_region_G [0, 1, 5, 7, 11] (fun w' => w'.cell? ⟨N + 4, 0, none⟩ = some (.slice la ss.length lc) ∧ w'.cell? ⟨c.vb, 0, none⟩ = some (.func (.func kf) first caps) ∧ w'.cell? ⟨p11, 0, none⟩ = some (.int .i64 lo) ∧ w'.cell? ⟨p11, 1, none⟩ = some (.int .i64 hi5)) hm ⟨by go_simp, by go_simp, by go_simp, by go_simp⟩ ?_
          intro hS0; have hS := hid hS0; clear hS0
          have dr : Below wr.heap.size wr wr.drew := ⟨rfl, rfl, rfl, Nat.le_refl _, fun _ _ => rfl⟩
          have BB0 : ComB c a sa fa sc fc (.func (.func kf) first caps) W S i k N w (fun l => ByS a (pre.map (·.1)) l ∨ ByN a x ((notchesL x).take j) l) (2 * pre.length + j) (fun b => p11 ≤ b ∧ b < L6) wL.heap.size W1 p11 lo hi5 (some ⟨bn, on, none⟩) (notchesL x) ss la lc wr := ⟨JJ.out, B11.out, RN.out, KB.out, KF.out, by omega, G1.out, G2.out, g5⟩
          have BB0 := BB0.below hc hn (by omega) dr
          have zd2 : L6 ≤ wr.drew.heap.size := by show L6 ≤ wr.heap.size; omega
          have zd : W1.heap.size ≤ wr.drew.heap.size := by show W1.heap.size ≤ wr.heap.size; omega
          clear JJ B11 RN KB KF zr G1 G2 q0 q1 q2 q3 cn lcn dr
          refine anyWG (fun W' => ComB c a sa fa sc fc (.func (.func kf) first caps) W S i k N w (fun l => ByS a (pre.map (·.1)) l ∨ ByN a x ((notchesL x).take j) l) (2 * pre.length + j) (fun b => p11 ≤ b ∧ b < L6) wL.heap.size W1 p11 lo hi5 (some ⟨bn, on, none⟩) (notchesL x) ss la lc W' ∧ L6 ≤ W'.heap.size ∧ (W'.cell? ⟨N + 4, 0, none⟩ = some (.slice la ss.length lc) ∧ W'.cell? ⟨c.vb, 0, none⟩ = some (.func (.func kf) first caps) ∧ W'.cell? ⟨p11, 0, none⟩ = some (.int .i64 lo) ∧ W'.cell? ⟨p11, 1, none⟩ = some (.int .i64 hi5))) ⟨BB0, zd2, hS.out⟩ ?_
          clear BB0 hS zd zd2
          rintro wc ⟨cb, zc, hs⟩
          have CB := hid cb; have hS := hid hs
          clear cb hs
          (apply wpAnyG_held (wide_round _) (i := 0) rfl (by kernel_rfl) (fun _ _ _ h => h) hS.out; · first | exact .inr ⟨rfl, rfl⟩ | exact .inl ⟨rfl, fun w' hS' => by (obtain ⟨s1, s2, s3, s4⟩ := hS'; go_simp; rfl)⟩); simp only [Act.put, List.setIfInBounds_toArray, List.set_cons_succ, List.set_cons_zero, List.getElem_toArray, List.getElem_cons_succ, List.getElem_cons_zero]
          (apply wpAnyG_held (wide_round _) (i := 1) rfl (by kernel_rfl) (fun _ _ _ h => h) hS.out; · first | exact .inr ⟨rfl, rfl⟩ | exact .inl ⟨rfl, fun w' hS' => by (obtain ⟨s1, s2, s3, s4⟩ := hS'; go_simp; rfl)⟩); simp only [Act.put, List.setIfInBounds_toArray, List.set_cons_succ, List.set_cons_zero, List.getElem_toArray, List.getElem_cons_succ, List.getElem_cons_zero]
          (apply wpAnyG_pure (wide_round _) (i := 2) rfl (by kernel_rfl) (fun _ _ _ h => h); · first | exact .inr ⟨rfl, rfl⟩ | exact .inl ⟨rfl, fun w' => by go_simp; rfl⟩); simp only [Act.put, List.setIfInBounds_toArray, List.set_cons_succ, List.set_cons_zero, List.getElem_toArray, List.getElem_cons_succ, List.getElem_cons_zero]
          (apply wpAnyG_pure (wide_round _) (i := 4) rfl (by kernel_rfl) (fun _ _ _ h => h); · first | exact .inr ⟨rfl, rfl⟩ | exact .inl ⟨rfl, fun w' => by go_simp; rfl⟩); simp only [Act.put, List.setIfInBounds_toArray, List.set_cons_succ, List.set_cons_zero, List.getElem_toArray, List.getElem_cons_succ, List.getElem_cons_zero]
          (apply wpAnyG_held (wide_round _) (i := 5) rfl (by kernel_rfl) (fun _ _ _ h => h) hS.out; · first | exact .inr ⟨rfl, rfl⟩ | exact .inl ⟨rfl, fun w' hS' => by (obtain ⟨s1, s2, s3, s4⟩ := hS'; go_simp; rfl)⟩); simp only [Act.put, List.setIfInBounds_toArray, List.set_cons_succ, List.set_cons_zero, List.getElem_toArray, List.getElem_cons_succ, List.getElem_cons_zero]
          (apply wpAnyG_held (wide_round _) (i := 7) rfl (by kernel_rfl) (fun _ _ _ h => h) hS.out; · first | exact .inr ⟨rfl, rfl⟩ | exact .inl ⟨rfl, fun w' hS' => by (obtain ⟨s1, s2, s3, s4⟩ := hS'; go_simp; rfl)⟩); simp only [Act.put, List.setIfInBounds_toArray, List.set_cons_succ, List.set_cons_zero, List.getElem_toArray, List.getElem_cons_succ, List.getElem_cons_zero]
          (apply wpAnyG_pure (wide_round _) (i := 8) rfl (by kernel_rfl) (fun _ _ _ h => h); · first | exact .inr ⟨rfl, rfl⟩ | exact .inl ⟨rfl, fun w' => by go_simp; rfl⟩); simp only [Act.put, List.setIfInBounds_toArray, List.set_cons_succ, List.set_cons_zero, List.getElem_toArray, List.getElem_cons_succ, List.getElem_cons_zero]
          (apply wpAnyG_pure (wide_round _) (i := 10) rfl (by kernel_rfl) (fun _ _ _ h => h); · first | exact .inr ⟨rfl, rfl⟩ | exact .inl ⟨rfl, fun w' => by go_simp; rfl⟩); simp only [Act.put, List.setIfInBounds_toArray, List.set_cons_succ, List.set_cons_zero, List.getElem_toArray, List.getElem_cons_succ, List.getElem_cons_zero]
          (apply wpAnyG_held (wide_round _) (i := 11) rfl (by kernel_rfl) (fun _ _ _ h => h) hS.out; · first | exact .inr ⟨rfl, rfl⟩ | exact .inl ⟨rfl, fun w' hS' => by (obtain ⟨s1, s2, s3, s4⟩ := hS'; go_simp; rfl)⟩); simp only [Act.put, List.setIfInBounds_toArray, List.set_cons_succ, List.set_cons_zero, List.getElem_toArray, List.getElem_cons_succ, List.getElem_cons_zero]
          refine wpAnyG_one (i := 3) rfl ⟨by kernel_rfl, by kernel_rfl⟩ ?_
          intro K hK
          have eg := EG.out
          go_simp
          clear eg
          refine ⟨trivial, ?_⟩
          refine (CallsIn.inRound l2 (callsIn_wide.2 (HC.out n wc hnn.1 hnn.2 CB.out.com.tell.s))).mono ?_
          rintro e w7 ⟨rfl, hb7⟩
          have CB := hid (CB.out.below hc hn (by have := CB.out.z; omega) hb7)
          refine shutSG hK ⟨CB.out.g1.cell 0, CB.out.com.tell.worth.cell 0, CB.out.b11.cell 0, CB.out.b11.cell 1⟩ (fun hS => ?_)
          clear hK K
          (apply wpAnyG_pure (wide_round _) (i := 6) rfl (by kernel_rfl) (fun _ _ _ h => h); · first | exact .inr ⟨rfl, rfl⟩ | exact .inl ⟨rfl, fun w' => by go_simp; rfl⟩); simp only [Act.put, List.setIfInBounds_toArray, List.set_cons_succ, List.set_cons_zero, List.getElem_toArray, List.getElem_cons_succ, List.getElem_cons_zero]
          refine wpAnyG_one (i := 9) rfl ⟨by kernel_rfl, by kernel_rfl⟩ ?_
          intro K hK
          have eg := EG.out
          go_simp
          clear eg
          refine ⟨trivial, ?_⟩
          refine (CallsIn.inRound l2 (callsIn_wide.2 (HC.out n w7 hnn.1 hnn.2 CB.out.com.tell.s))).mono ?_
          rintro e w8 ⟨rfl, hb8⟩
          have CB := hid (CB.out.below hc hn (by have := CB.out.z; omega) hb8)
          refine shutSG hK ⟨CB.out.g1.cell 0, CB.out.com.tell.worth.cell 0, CB.out.b11.cell 0, CB.out.b11.cell 1⟩ (fun hS => ?_)
          clear hK K
          (apply wpAnyG_pure (wide_round _) (i := 12) rfl (by kernel_rfl) (fun _ _ _ h => h); · first | exact .inr ⟨rfl, rfl⟩ | exact .inl ⟨rfl, fun w' => by go_simp; rfl⟩); simp only [Act.put, List.setIfInBounds_toArray, List.set_cons_succ, List.set_cons_zero, List.getElem_toArray, List.getElem_cons_succ, List.getElem_cons_zero]
          (apply wpAnyG_pure (wide_round _) (i := 13) rfl (by kernel_rfl) (fun _ _ _ h => h); · first | exact .inr ⟨rfl, rfl⟩ | exact .inl ⟨rfl, fun w' => by go_simp; rfl⟩); simp only [Act.put, List.setIfInBounds_toArray, List.set_cons_succ, List.set_cons_zero, List.getElem_toArray, List.getElem_cons_succ, List.getElem_cons_zero]
          refine wpAnyG_one (i := 14) rfl ⟨by kernel_rfl, by kernel_rfl⟩ ?_
          intro K hK
          go_simp
          have ba : Below w8.heap.size w8 (w8.alloc (.cells #[.int .i64 (W n + lo), .int .i64 (W n + hi5)] 68)) := (Below.refl _ _).alloc (Nat.le_refl _) _
          have CB8 := CB
          have CB := hid (CB.out.below hc hn (by have := CB.out.z; omega) ba)
          refine shutSG hK ⟨CB.out.g1.cell 0, CB.out.com.tell.worth.cell 0, CB.out.b11.cell 0, CB.out.b11.cell 1⟩ (fun hS => ?_)
          clear hK K
          refine wpAnyG_one (i := 15) rfl ⟨by kernel_rfl, by kernel_rfl⟩ ?_
          intro K hK
          refine stepIn_append_any _ rfl _ _ _ rfl (N + 3) 68 i0 _ 2 16 Tryd.underlying176 hi0 iz0 iz1 iz2 rfl (by decide) (.slice la ss.length lc) ss.length (rowC spC ss) rfl CB.out.g2 (some ⟨w8.heap.size, 0, none⟩) 1 1 [.int .i64 (W n + lo), .int .i64 (W n + hi5)] rfl rfl (fun h => by cases h) (box_news (Box.new _ _ _) rfl) (by simp [Value.oneCell']) (by omega) (by omega) (by have := CB.out.z; omega) ?_
          intro la2 lc2 w9 own9 gr9 pl9
          refine shutNG hK (by kernel_rfl) ?_
          clear hK K
          refine wpAnyG_one (i := 16) rfl ⟨by kernel_rfl, by kernel_rfl⟩ ?_
          intro K hK
          have Q9 := hid (CB.out.g1.grown gr9 (own_ne' CB.out.g2 CB.out.g1 (by decide)))
          have u0 := Q9.out.cell 0; have u1 := Q9.out.frozen 0; have u2 := Q9.out.lt
          simp only [List.getElem?_toArray, List.getElem?_cons_zero, List.getElem?_cons_succ] at u0
          go_simp
          clear u0 u1 u2
          refine shutNG hK (by kernel_rfl) ?_
          clear hK K
          refine wpAnyG_done (by kernel_rfl) ?_ _
          have hsn : (notchesL x).take (j + 1) = (notchesL x).take j ++ [n] := by rw [List.take_succ_eq_append_getElem hlt, hne]
          obtain ⟨X8, hX8⟩ : ∃ X, X = (w8.alloc (.cells #[.int .i64 (W n + lo), .int .i64 (W n + hi5)] 68)) := ⟨_, rfl⟩
          rw [← hX8] at gr9 CB pl9
          have rl := fun g hg => CB.out.g2.lt g hg
          have kpF : Keep (· < N + 3) X8 (w9.setCell ⟨N + 4, 0, none⟩ (.slice la2 (ss.length + 1) lc2)) := ((Keep.refl _ _).grown gr9 (fun r e _ hz => by have := (rl r e).1; have : r < N + 3 := hz; omega)).setCell _ _ (fun _ h => by have : N + 4 < N + 3 := h; omega)
          have kpQ : Keep (fun b => p11 ≤ b ∧ b < L6) X8 (w9.setCell ⟨N + 4, 0, none⟩ (.slice la2 (ss.length + 1) lc2)) := ((Keep.refl _ _).grown gr9 (fun r e _ hz => CB.out.g3 r e hz)).setCell _ _ (fun _ h => by have : p11 ≤ N + 4 := h.1; omega)
          have kfF : KeepsFrom wL.heap.size X8 (w9.setCell ⟨N + 4, 0, none⟩ (.slice la2 (ss.length + 1) lc2)) := (kf_own CB.out.g2 gr9).trans ((KeepsOthers.setCell _ _ _).from _)
          have kbF : KpB (fun b => b < N ∧ b ≠ c.M ∧ b ≠ c.K) c.M a.st a.fo X8 (w9.setCell ⟨N + 4, 0, none⟩ (.slice la2 (ss.length + 1) lc2)) := by
            refine ⟨kpF.os, kpF.tape, kpF.output, kpF.size, fun b cs t hb ht => ?_, fun k hk hr => kpF.block k hk (by have := hr.1; show k < N + 3; omega), fun h => kpF.pmap (show c.M < N + 3 by omega) h⟩
            have n1 : b ≠ N + 4 := fun e => by
              subst e
              have h1 := CB.out.g1
              unfold Box at h1 hb
              rw [h1] at hb
              simp at hb
              obtain ⟨_, rfl⟩ := hb
              rcases ht with h | h | h | h <;> cases h
            have hg := hb.grown gr9 (own_ne' CB.out.g2 hb (by rcases ht with h | h | h | h <;> (rw [h]; decide)))
            exact hg.other _ _ _ n1
          have z9 := gr9.size
          have zx : L6 ≤ X8.heap.size := by have h7 := hb7.size; have h8 := hb8.size; rw [hX8]; simp; omega
          have hcom := CB.out.com
          have hsp2 := G3.out.snoc (hsp.pre hc.w0 hnn.1)
          gi_wp2_with (fail)
          refine ⟨⟨j + 1, by omega, by go_num, ⟨kpF.box (show N < N + 3 by omega) hcom.p5, kpF.box (show N + 1 < N + 3 by omega) hcom.p6, ⟨ss ++ [(W n + lo, W n + hi5)], la2, lc2, ?_, ?_, ?_, by rw [List.length_append]; simp only [List.length_cons, List.length_nil]; omega, ?_⟩, hcom.tell.low hc hn hLT R3 R4 (kpF.mono (fun b _ hb => by have : b < N := hb; show b < N + 3; omega)), hcom.kp.trans (kpF.mono (fun b _ hb => by have := hb.1; show b < N + 3; omega))⟩, kpQ.box ⟨Nat.le_refl _, pL⟩ CB.out.b11, kpQ.rdI (fun _ p hp => hnq p hp) CB.out.rn, CB.out.kb.trans kbF, CB.out.kf.trans kfF, by rw [World.size_setCell]; omega⟩, by simp [intOf]; omega⟩
          · rw [List.length_append]; exact Q9.out.set 0 _
          · rw [List.length_append, rowC_append, rowC_one]; exact own_kp' own9 ((Keep.refl (· ≠ N + 4) _).setCell _ _ (fun _ h => h rfl)) (fun g hg e => own_ne' own9 Q9.out (by decide) (e ▸ hg))
          · refine hsp2.iff (fun l => ?_)
            rw [hsn]
            show (ByS a (pre.map (·.1)) l ∨ ByN a x ((notchesL x).take j) l) ∨ (∃ r, TrueL (a.st.drop x.i) (a.fo.drop x.k) r ∧ l = preL n r) ↔ _
            rw [byN_snoc, or_assoc]
          · intro g hg
            rw [List.length_append] at hg
            rcases pl9 with h | h
            · exact CB.out.g3 g (h ▸ hg)
            · intro hq
              have h2 : g = X8.heap.size := by
                have h3 := h.symm.trans hg
                simpa using h3.symm
              omega
        · gi_wp2_with (fail)
          have hje : j = (notchesL x).length := by omega
          rw [List.take_of_length_le (by omega)] at J
          refine ⟨kf', kb, J.iff (fun l => ?_) (by simp; omega) (fun _ _ _ _ h => h), by omega⟩
          rw [List.map_append]
          exact (byS_snoc a (pre.map (·.1)) x l).symm
    case done =>
      rintro D ys W1 hD hall ⟨I1, z1⟩ hKD
      obtain ⟨ss, la, lc, g1, g2, g3, g4, -⟩ := I1.l9
      have q0 : W1.cell? ⟨N + 4, 0, none⟩ = some (.slice la ss.length lc) := g1.cell 0
      have hall' : ys.map (·.1) = bestL a.st a.fo i k := hall
      rw [hall'] at g3
      have y5 : ys.length ≤ 3 := by
        have h1 := congrArg List.length hall'
        have h2 := List.length_filter_le (isBest a.st a.fo i k) (stepsL a.st a.fo i k)
        have h3 := stepsL_le a.st a.fo i k
        simp only [List.length_map] at h1
        unfold bestL at h1
        omega
      have hDN : N + 7 ≤ D := by omega
      have a0 := I1.p5.cell 0; have a1 := I1.p5.cell 1
      simp only [List.getElem?_toArray, List.getElem?_cons_zero, List.getElem?_cons_succ] at a0 a1
      have c0 := I1.p6.cell 0; have c1 := I1.p6.cell 1; have c2 := I1.p6.frozen 0; have c3 := I1.p6.frozen 1; have c4 := I1.p6.lt
      simp only [List.getElem?_toArray, List.getElem?_cons_zero, List.getElem?_cons_succ] at c0 c1
      have k0 : W1.cell? ⟨c.kb, 0, none⟩ = some (.map (some c.K)) := I1.tell.known.cell 0
      have II := hid I1; have G2 := hid g2; have G3 := hid g3
      clear I1 g1 g2 g3 hall hall' I0 bC bD hH tL
      by_cases hend : i = a.st.length ∧ k = a.fo.length
      · have hss : ss = [] := by
          rcases G3.out with ⟨h, _⟩ | ⟨h, h2⟩
          · exact h
          · obtain ⟨l, ⟨x, hx, _⟩, _⟩ := h2.lo
            have hb := (mem_best.1 hx).1
            have := (step_bound hb hi hk).2.2.1
            omega
        subst hss
        have HE := hid hend; clear hend
        gi_wp2_with (fail)
        have hKD2 := ((KeepsOthers.setCell W1 ⟨N + 1, 0, none⟩ (.int .i64 0)).trans (KeepsOthers.setCell _ ⟨N + 1, 1, none⟩ (.int .i64 0))).same D _ hKD rfl
        have kV : Keep (fun b => b ≠ N + 1 ∧ b ≠ D) W1 (((W1.setCell ⟨N + 1, 0, none⟩ (.int .i64 0)).setCell ⟨N + 1, 1, none⟩ (.int .i64 0)).putObj D (.deferred none)) := (((Keep.refl _ _).setCell _ _ (fun _ h => h.1 rfl)).setCell _ _ (fun _ h => h.1 rfl)).putObj _ _ (fun _ h => h.2 rfl)
        have bV : Box (((W1.setCell ⟨N + 1, 0, none⟩ (.int .i64 0)).setCell ⟨N + 1, 1, none⟩ (.int .i64 0)).putObj D (.deferred none)) (N + 1) #[.int .i64 0, .int .i64 0] 68 := ((Keep.refl (· ≠ D) _).putObj _ _ (fun _ h => h rfl)).box (show N + 1 ≠ D by omega) ((II.out.p6.set 0 _).set 1 _)
        refine ⟨by simp, .inl ⟨D, _, rfl, run_takeDeferred hKD2, ?_⟩⟩
        generalize (((W1.setCell ⟨N + 1, 0, none⟩ (.int .i64 0)).setCell ⟨N + 1, 1, none⟩ (.int .i64 0)).putObj D (.deferred none)) = V at kV bV ⊢
        have r0 := bV.cell 0; have r1 := bV.cell 1
        simp only [List.getElem?_toArray, List.getElem?_cons_zero, List.getElem?_cons_succ] at r0 r1
        refine ⟨.agg #[.int .i64 0, .int .i64 0], by simp [results, Tryd.results109, go_sem, r0, r1], 0, 0, rfl, ?_, ?_, kV.pmap ⟨by omega, by omega⟩ II.out.tell.half.map, kV.pmap ⟨by omega, by omega⟩ II.out.tell.map⟩
        · rw [HE.out.1, HE.out.2]
          exact IsSpan.nil.iff (fun x => (true_end x).symm)
        · exact (II.out.kp.trans (kV.mono (fun b _ hz => ⟨by have := hz.1; omega, by have := hz.1; omega⟩))).mono (fun b hb hz => ⟨by have := HN.out; omega, hz⟩)
      · have hss : 0 < ss.length := by
          rcases G3.out with ⟨_, h⟩ | ⟨h, _⟩
          · exfalso
            exact h (a.st.drop i) ((true_iff hc.o1 hc.o2 hi hk hend _).1 (by unfold TrueL; rw [dist_self]; omega))
          · exact List.length_pos_iff.2 h
        have hsz : (((ss.length : Nat) : Int) == 0) = false := by rw [beq_eq_false_iff_ne]; omega
        have hsp : IsSpan W (TrueL (a.st.drop i) (a.fo.drop k)) (endsL ss).1 (endsL ss).2 := by
          rcases G3.out with ⟨h, _⟩ | ⟨_, h⟩
          · subst h; cases hss
          · exact h.iff (fun l => (true_iff hc.o1 hc.o2 hi hk hend l).symm)
        have HSP := hid hsp; clear hsp
        gi_wp2_with (fail)
        obtain ⟨E, hE⟩ : ∃ E, endsL ss = E := ⟨_, rfl⟩
        rw [hE] at HSP
        have HE2 := hid hE; clear hE
        obtain ⟨lo, hi2⟩ := E
        dsimp only at HSP
        refine wpIn_post (fun a' W' => ∃ f : Nat → Value, a' = ⟨((List.range 66).map f).toArray, [{ target := .collected D, args := #[] }]⟩ ∧ f 1 = .pointer (some ⟨c.kb, 0, none⟩) ∧ f 5 = .pointer (some ⟨N, 0, none⟩) ∧ f 6 = .pointer (some ⟨N + 1, 0, none⟩) ∧ Box W' c.kb #[.map (some c.K)] 173 ∧ Box W' N #[.int .i64 i, .int .i64 k] 137 ∧ Box W' (N + 1) #[.int .i64 0, .int .i64 0] 68 ∧ W'.heap[D]? = some (.deferred (some [])) ∧ PMap W' c.M a.st.length a.fo.length (Known a.st a.fo) ∧ PMap W' c.K a.st.length a.fo.length (KnownS W a.st a.fo) ∧ Keep (fun b => b < N ∧ b ≠ c.M ∧ b ≠ c.K) w W' ∧
          (Instr.lookup 173 (.map (some c.K)) (.agg #[.int .i64 i, .int .i64 k]) false).run Tryd.prog W' = .ok (.agg #[.int .i64 lo, .int .i64 hi2]) W') ?reg ?rest
        · refine wpIn_region_G [0, 1, 2] (fun w' => w'.cell? ⟨c.kb, 0, none⟩ = some (.map (some c.K)) ∧ w'.cell? ⟨N, 0, none⟩ = some (.int .i64 i) ∧ w'.cell? ⟨N, 1, none⟩ = some (.int .i64 k) ∧ w'.cell? ⟨N + 4, 0, none⟩ = some (.slice la ss.length lc)) hm ⟨by go_simp, by go_simp, by go_simp, by go_simp⟩ ?_
          intro hS0; have hS := hid hS0; clear hS0
          have hne : ss ≠ [] := List.length_pos_iff.1 hss
          (apply wpAnyG_held wide_wide (i := 0) rfl (by kernel_rfl) (fun _ _ _ h => h) hS.out; · first | exact .inr ⟨rfl, rfl⟩ | exact .inl ⟨rfl, fun w' hS' => by (obtain ⟨s1, s2, s3, s4⟩ := hS'; go_simp; rfl)⟩); simp only [Act.put, List.setIfInBounds_toArray, List.set_cons_succ, List.set_cons_zero, List.getElem_toArray, List.getElem_cons_succ, List.getElem_cons_zero]
          (apply wpAnyG_held wide_wide (i := 1) rfl (by kernel_rfl) (fun _ _ _ h => h) hS.out; · first | exact .inr ⟨rfl, rfl⟩ | exact .inl ⟨rfl, fun w' hS' => by (obtain ⟨s1, s2, s3, s4⟩ := hS'; go_simp; rfl)⟩); simp only [Act.put, List.setIfInBounds_toArray, List.set_cons_succ, List.set_cons_zero, List.getElem_toArray, List.getElem_cons_succ, List.getElem_cons_zero]
          (apply wpAnyG_held wide_wide (i := 2) rfl (by kernel_rfl) (fun _ _ _ h => h) hS.out; · first | exact .inr ⟨rfl, rfl⟩ | exact .inl ⟨rfl, fun w' hS' => by (obtain ⟨s1, s2, s3, s4⟩ := hS'; go_simp; rfl)⟩); simp only [Act.put, List.setIfInBounds_toArray, List.set_cons_succ, List.set_cons_zero, List.getElem_toArray, List.getElem_cons_succ, List.getElem_cons_zero]
          refine wpAnyG_one (i := 3) rfl ⟨by kernel_rfl, by kernel_rfl⟩ ?_
          intro K hK
          go_simp
          refine ⟨trivial, ?_⟩
          refine (callsIn_wide.2 (ends_any la lc ss W1.drew (by omega) hne (RdX.of_own spC_len (by decide) G2.out).drew)).mono ?_
          rintro e w5 ⟨rfl, hb5'⟩
          rw [HE2.out]
          dsimp only
          have hb5 : Below W1.heap.size W1 w5 := ⟨hb5'.os, hb5'.tape, hb5'.output, hb5'.size, hb5'.block⟩
          have I5 := II.out.below hc hn (by omega) hb5
          have KD5 := (hb5.block D (Array.getElem?_eq_some_iff.1 hKD).1).trans hKD
          obtain ⟨w6, hrun6, hp6, hg6, hz6, hlk6⟩ := I5.tell.map.store2 (t := 173) (e := 68) Tryd.underlying173 (fun w => Tryd.zeroValue68 w) (by have := hc.l1; omega) (by have := hc.l2; omega) hi hk (v := .agg #[.int .i64 lo, .int .i64 hi2]) ⟨lo, hi2, rfl, HSP.out⟩
          have hlk := hlk6 w6 rfl
          unfold plc at hrun6 hlk
          have kM6 : Keep (· ≠ c.K) w5 w6 := keep_of_grown hg6 |>.mono (fun b _ h e => h (by cases e; rfl))
          clear hlk6 hg6 hb5'
          refine shutSG hK ⟨I5.tell.known.cell 0, I5.p5.cell 0, I5.p5.cell 1, (by obtain ⟨ss', la', lc', h1, _⟩ := I5.l9; exact (hb5.cell (cell_lt q0)).trans q0)⟩ (fun hS => ?_)
          clear hK K
          refine wpAnyG_one (i := 4) rfl ⟨by kernel_rfl, by kernel_rfl⟩ ?_
          intro K hK
          go_simp
          clear hrun6
          refine shutNG hK (by kernel_rfl) ?_
          clear hK K
          refine wpAnyG_done (by kernel_rfl) ?_ _
          have K0 := kM6.box (map_not_cell I5.tell.map I5.tell.known.at_) I5.tell.known
          have P5 := kM6.box (map_not_cell I5.tell.map I5.p5.at_) I5.p5
          have P6 := kM6.box (map_not_cell I5.tell.map I5.p6.at_) I5.p6
          have KD6 := (kM6.block D (Array.getElem?_eq_some_iff.1 KD5).1 (show D ≠ c.K by omega)).trans KD5
          refine acts_of' rfl ?_
          exact ⟨rfl, rfl, rfl, K0, P5, P6, KD6, kM6.pmap hc.ne I5.tell.half.map, hp6, I5.kp.trans (kM6.mono (fun b _ hz => hz.2.2)), hlk⟩
        · rintro a' w6 ⟨f, rfl, f1, f5, f6, K0, P5, P6, KD6, hpM, hp6, kp6, hlk⟩
          rw [show (List.range 66).map f = [f 0, f 1, f 2, f 3, f 4, f 5, f 6, f 7, f 8, f 9, f 10, f 11, f 12, f 13, f 14, f 15, f 16, f 17, f 18, f 19, f 20, f 21, f 22, f 23, f 24, f 25, f 26, f 27, f 28, f 29, f 30, f 31, f 32, f 33, f 34, f 35, f 36, f 37, f 38, f 39, f 40, f 41, f 42, f 43, f 44, f 45, f 46, f 47, f 48, f 49, f 50, f 51, f 52, f 53, f 54, f 55, f 56, f 57, f 58, f 59, f 60, f 61, f 62, f 63, f 64, f 65] from rfl, f1, f5, f6]
          clear f1 f5 f6
          have m0 : w6.cell? ⟨c.kb, 0, none⟩ = some (.map (some c.K)) := K0.cell 0
          have m1 : w6.cell? ⟨N, 0, none⟩ = some (.int .i64 i) := P5.cell 0
          have m2 : w6.cell? ⟨N, 1, none⟩ = some (.int .i64 k) := P5.cell 1
          have d0 : w6.cell? ⟨N + 1, 0, none⟩ = some (.int .i64 0) := P6.cell 0
          have d1 : w6.cell? ⟨N + 1, 1, none⟩ = some (.int .i64 0) := P6.cell 1
          have d2 := P6.frozen 0; have d3 := P6.frozen 1; have d4 := P6.lt
          have HP6 := hid P6
          clear K0 P5 P6 q0 a0 a1 c0 c1 c2 c3 c4 k0
          gi_wp2_with (fail)
          have hKD2 := ((KeepsOthers.setCell w6 ⟨N + 1, 0, none⟩ (.int .i64 lo)).trans (KeepsOthers.setCell _ ⟨N + 1, 1, none⟩ (.int .i64 hi2))).same D _ KD6 rfl
          have kV : Keep (fun b => b ≠ N + 1 ∧ b ≠ D) w6 (((w6.setCell ⟨N + 1, 0, none⟩ (.int .i64 lo)).setCell ⟨N + 1, 1, none⟩ (.int .i64 hi2)).putObj D (.deferred none)) := (((Keep.refl _ _).setCell _ _ (fun _ h => h.1 rfl)).setCell _ _ (fun _ h => h.1 rfl)).putObj _ _ (fun _ h => h.2 rfl)
          have bV : Box (((w6.setCell ⟨N + 1, 0, none⟩ (.int .i64 lo)).setCell ⟨N + 1, 1, none⟩ (.int .i64 hi2)).putObj D (.deferred none)) (N + 1) #[.int .i64 lo, .int .i64 hi2] 68 := ((Keep.refl (· ≠ D) _).putObj _ _ (fun _ h => h rfl)).box (show N + 1 ≠ D by omega) ((HP6.out.set 0 _).set 1 _)
          refine ⟨by simp, .inl ⟨D, _, rfl, run_takeDeferred hKD2, ?_⟩⟩
          generalize (((w6.setCell ⟨N + 1, 0, none⟩ (.int .i64 lo)).setCell ⟨N + 1, 1, none⟩ (.int .i64 hi2)).putObj D (.deferred none)) = V at kV bV ⊢
          have r0 := bV.cell 0; have r1 := bV.cell 1
          simp only [List.getElem?_toArray, List.getElem?_cons_zero, List.getElem?_cons_succ] at r0 r1
          refine ⟨.agg #[.int .i64 lo, .int .i64 hi2], by simp [results, Tryd.results109, go_sem, r0, r1], lo, hi2, rfl, HSP.out, ?_, kV.pmap ⟨by omega, by omega⟩ hpM, kV.pmap ⟨by omega, by omega⟩ hp6⟩
          exact (kp6.trans (kV.mono (fun b _ hz => ⟨by have := hz.1; omega, by have := hz.1; omega⟩))).mono (fun b hb hz => ⟨by have := HN.out; omega, hz⟩)
    case stop =>
      rintro D c pre W1 _ _ h _
      exact h.elim
  · gi_wp2_with (fail)
    refine ⟨.agg #[.int .i64 lo, .int .i64 hi2], by simp [results, Tryd.results109, go_sem], lo, hi2, rfl, hsp, ((Keep.refl _ _).alloc _).alloc _ |>.alloc _, ((HT.out.half.map.alloc _).alloc _).alloc _, ((HT.out.map.alloc _).alloc _).alloc _⟩

/-- **What true lists come to from a place on.** -/
theorem tell_any (c : CB) (a : Tl) (sa fa : Option Addr) (sc fc : Nat) (fv : Value) (W : Int → Int) (S : World → Prop) (n0 : Nat) (hc : TellC c a fv W S n0) (i k : Nat) (w : World) (hi : i ≤ a.st.length) (hk : k ≤ a.fo.length) (hn0 : n0 ≤ w.heap.size) (hT : Tell w c a sa fa sc fc fv W S) :
    Calls Tryd.prog 109 #[plc i k, .pointer (some ⟨c.kb, 0, none⟩), .pointer (some ⟨c.xb, 0, none⟩), .pointer (some ⟨c.tb, 0, none⟩), .pointer (some ⟨c.vb, 0, none⟩)] w (TellP c a W i k w) := by
  have h : ∀ m i k w, (a.st.length - i) + (a.fo.length - k) < m → i ≤ a.st.length → k ≤ a.fo.length → n0 ≤ w.heap.size → Tell w c a sa fa sc fc fv W S →
      Calls Tryd.prog 109 #[plc i k, .pointer (some ⟨c.kb, 0, none⟩), .pointer (some ⟨c.xb, 0, none⟩), .pointer (some ⟨c.tb, 0, none⟩), .pointer (some ⟨c.vb, 0, none⟩)] w (TellP c a W i k w) := by
    intro m
    induction m with
    | zero => intro i k w h; omega
    | succ m ih =>
      intro i k w hm hi hk hn0 hT
      exact tell_step c a sa fa sc fc fv W S n0 hc i k hi hk (fun i' k' w' hi' hk' hlt hn' hT' => ih i' k' w' (by omega) hi' hk' hn' hT') w hn0 hT
  exact h _ i k w (Nat.lt_succ_self _) hi hk hn0 hT

theorem wp_calls_world {P : Program} {f : Nat} {args : Array Value} {w : World} {R : Ending → World → Prop} (T : World → Prop) (hT : T w) (h : ∀ w', T w' → Calls P f args w' R) : Calls P f args w R := h w hT

set_option maxRecDepth 20000 in
set_option maxHeartbeats 4000000 in
/-- 'comes': what true lists come to, at least and at most. -/
theorem comes_any (pb eb qb M : Nat) (a : Tl) (sa fa : Option Addr) (sc fc : Nat) (fv : Value) (W : Int → Int) (S : World → Prop) (w : World) (l1 : a.st.length ≤ 1000) (l2 : a.fo.length ≤ 1000) (o1 : okN a.st = true) (o2 : okN a.fo = true) (wf : Worth S fv W) (w0 : W 0 = 0) (wb : ∀ n, -1000 ≤ W n ∧ W n ≤ 1000)
    (sk : ∀ w1 w2, S w1 → Keep (fun b => b < w.heap.size ∧ b ≠ M) w1 w2 → S w2) (hs : S w) (hH : Half w pb eb qb M a.id a.hs a.st a.fo sa fa sc fc) :
    Calls Tryd.prog 91 #[.agg (pairC a.id a.hs a.st a.fo sa fa sc fc (leftV eb qb pb)), fv] w fun e w' => ∃ lo hi, e = .returned (.agg #[.int .i64 lo, .int .i64 hi]) ∧ IsSpan W (TrueL a.st a.fo) lo hi ∧ Keep (fun b => b ≠ M) w w' := by
  have hmm := @run_makeMap Tryd.prog
  have HH := hid hH; have SK := hid sk; have HS := hid hs
  have wf' := wf
  obtain ⟨kf, first, caps, rfl, -, -⟩ := wf'
  clear hH sk hs
  unfold pairC leftV
  go_enter Tryd.func91, Tryd.ntmps91
  go_wp2_with fail
  refine wp_calls_world (fun W0 => Tell W0 ⟨w.heap.size + 1 + 1 + 1 + 1, w.heap.size, w.heap.size + 1 + 1 + 1 + 1 + 1, w.heap.size + 1, pb, eb, qb, M, w.heap.size + 1 + 1 + 1⟩ a sa fa sc fc (.func (.func kf) first caps) W S ∧ Box W0 (w.heap.size + 1 + 1) #[.int .i64 0, .int .i64 0] 68 ∧ Below w.heap.size w W0 ∧ w.heap.size + 6 ≤ W0.heap.size) ⟨⟨?_, ?_, ?_, ?_, ?_, ?_, ?_⟩, ?_, ?_, ?_⟩ ?_
  · exact (Box.at _ _ (by first | omega | (simp; done) | (simp; omega))).alloc _
  · exact (((((Box.new _ _ _).alloc _).alloc _).alloc _).alloc _).alloc _
  · exact Box.at _ _ (by first | omega | (simp; done) | (simp; omega))
  · exact ((((Box.at _ _ (by first | omega | (simp; done) | (simp; omega))).alloc _).alloc _).alloc _).alloc _
  · exact HH.out.keep ((((((Keep.refl _ _).alloc _).alloc _).alloc _).alloc _).alloc _ |>.alloc _) ((((((HH.out.map.alloc _).alloc _).alloc _).alloc _).alloc _).alloc _)
  · exact ((PMap.at _ _ _ (by first | omega | (simp; done) | (simp; omega))).alloc _).alloc _
  · exact SK.out _ _ HS.out ((((((Keep.refl _ _).alloc _).alloc _).alloc _).alloc _).alloc _ |>.alloc _)
  · exact (((Box.at _ _ (by first | omega | (simp; done) | (simp; omega))).alloc _).alloc _).alloc _
  · exact (by repeat (first | (with_reducible exact Below.refl _ _) | (with_reducible assumption) | (with_reducible refine Below.drew ?_) | (with_reducible refine below_drewN ?_ _) | (with_reducible refine Below.alloc ?_ (by first | omega | (simp; done) | (simp; omega)) _) | (with_reducible refine Below.setCell ?_ (by first | omega | (simp; done) | (simp; omega)) _) | (with_reducible refine Below.trans ?_ (Below.mono (by assumption) (by first | omega | (simp; done) | (simp; omega))))))
  · simp
  rintro W0 ⟨hT, b4, hb, z0⟩
  have lM := HH.out.map.lt
  have hc : TellC ⟨w.heap.size + 1 + 1 + 1 + 1, w.heap.size, w.heap.size + 1 + 1 + 1 + 1 + 1, w.heap.size + 1, pb, eb, qb, M, w.heap.size + 1 + 1 + 1⟩ a (.func (.func kf) first caps) W S w.heap.size :=
    ⟨by show M ≠ w.heap.size + 1 + 1 + 1; omega, l1, l2, o1, o2, wf, w0, wb, fun w1 w2 h k => SK.out w1 w2 h (k.mono (fun b _ hb => ⟨hb.1, hb.2, by have := hb.1; show b ≠ w.heap.size + 1 + 1 + 1; omega⟩))⟩
  refine (tell_any _ a sa fa sc fc _ W S w.heap.size hc 0 0 W0 (Nat.zero_le _) (Nat.zero_le _) hb.size hT).mono ?_
  rintro e w5 ⟨lo, hi, rfl, hsp, kp, hM5, hK5⟩
  dsimp only at kp hM5 hK5
  rw [List.drop_zero, List.drop_zero] at hsp
  have b5 := kp.box ⟨by omega, by omega⟩ b4
  have r0 := b5.cell 0; have r1 := b5.cell 1; have r2 := b5.frozen 0; have r3 := b5.frozen 1; have r4 := b5.lt
  simp only [List.getElem?_toArray, List.getElem?_cons_zero, List.getElem?_cons_succ] at r0 r1
  have KP := hid kp; have HB := hid hb; have HSP := hid hsp; have z5 := kp.size
  clear kp hM5 hK5 hT b4 hb hsp b5
  go_wp2_with fail
  refine bodyPost_ret (v := .agg #[.int .i64 lo, .int .i64 hi]) (by simp [results, Tryd.results91, go_sem, r0, r1, r2, r3, r4]) rfl ⟨lo, hi, rfl, HSP.out, ?_⟩
  have k1 : Keep (fun b => b < w.heap.size ∧ b ≠ M) w W0 := Keep.of_below HB.out (fun b _ h => h.1)
  have k2 : Keep (fun b => b < w.heap.size ∧ b ≠ M) W0 w5 := KP.out.mono (fun b _ h => ⟨h.2, by have := h.1; omega⟩)
  have k3 := ((k1.trans k2).setCell ⟨w.heap.size + 1 + 1, 0, none⟩ (.int .i64 lo) (fun _ h => by have : w.heap.size + 1 + 1 < w.heap.size := h.1; omega)).setCell ⟨w.heap.size + 1 + 1, 1, none⟩ (.int .i64 hi) (fun _ h => by have : w.heap.size + 1 + 1 < w.heap.size := h.1; omega)
  exact k3.mono (fun b hb h => ⟨hb, h⟩)

end Go.Proofs.YthddoikmgpgakaaDoor
