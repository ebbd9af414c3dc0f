/- The marks that loops over iterators leave among a frame's deferred calls, any number of them: what they leave as it lay when the function returns. -/
import Derived.RangeFuncNested
import Derived.RangeFuncLeaves
import Derived.Test.YthddoikmgpgakaaDoorKeep
import Derived.Test.YthddoikmgpgakaaDoorRegIn
import Derived.Test.YthddoikmgpgakaaDoorApp
import Derived.Test.YthddoikmgpgakaaDoorIterX
import Derived.OwnWalkIn
namespace Go.Proofs.YthddoikmgpgakaaDoor
open Go.RowKit Go

/-- So many marks, each a block at or behind B. -/
def Marks (B : Nat) (W : World) (ds : List Deferred) : Prop := ∃ Ds : List Nat, ds = Ds.map (fun D => ({ target := .collected D, args := #[] } : Deferred)) ∧ Ds.Nodup ∧ ∀ D ∈ Ds, B ≤ D ∧ W.heap[D]? = some (.deferred (some []))
theorem Marks.nil (B : Nat) (W : World) : Marks B W [] := ⟨[], rfl, List.nodup_nil, fun _ h => by cases h⟩
theorem Marks.kept {B : Nat} {W W' : World} {ds : List Deferred} (h : Marks B W ds) (k : ∀ D, B ≤ D → W.heap[D]? = some (.deferred (some [])) → W'.heap[D]? = some (.deferred (some []))) : Marks B W' ds := by
  obtain ⟨Ds, e, n, a⟩ := h
  exact ⟨Ds, e, n, fun D hD => ⟨(a D hD).1, k D (a D hD).1 (a D hD).2⟩⟩
theorem Marks.keep {B M : Nat} {W W' : World} {ds : List Deferred} (h : Marks B W ds) (k : Keep (· ≠ M) W W') (hM : M < B) : Marks B W' ds :=
  h.kept fun D hD hd => (k.block D (Array.getElem?_eq_some_iff.1 hd).1 (show D ≠ M by omega)).trans hd
theorem Marks.below {B : Nat} {W W' : World} {ds : List Deferred} (h : Marks B W ds) (k : Below W.heap.size W W') : Marks B W' ds :=
  h.kept fun D _ hd => (k.block D (Array.getElem?_eq_some_iff.1 hd).1).trans hd
theorem Marks.from {B C : Nat} {W W' : World} {ds : List Deferred} (h : Marks B W ds) (k : KeepsFrom C W W') (hC : C ≤ B) : Marks B W' ds :=
  h.kept fun D hD hd => k.same D _ (by omega) hd rfl
theorem Marks.set {B : Nat} {W : World} {ds : List Deferred} (h : Marks B W ds) (p : Addr) (v : Value) : Marks B (W.setCell p v) ds :=
  h.kept fun D _ hd => by
    unfold World.setCell
    simp only [Array.getElem?_modify]
    split
    · rw [hd]; rfl
    · exact hd
theorem Marks.cons {B D : Nat} {W W' : World} {ds : List Deferred} (h : Marks B W ds) (hs : W.heap.size ≤ D) (hD : B ≤ D) (k : ∀ D', B ≤ D' → D' < W.heap.size → W.heap[D']? = some (.deferred (some [])) → W'.heap[D']? = some (.deferred (some []))) (hd : W'.heap[D]? = some (.deferred (some []))) : Marks B W' ({ target := .collected D, args := #[] } :: ds) := by
  obtain ⟨Ds, e, n, a⟩ := h
  refine ⟨D :: Ds, by rw [e]; rfl, List.nodup_cons.2 ⟨fun hm => by have := (Array.getElem?_eq_some_iff.1 (a D hm).2).1; omega, n⟩, fun D' hD' => ?_⟩
  rcases List.mem_cons.1 hD' with rfl | hm
  · exact ⟨hD, hd⟩
  · exact ⟨(a D' hm).1, k D' (a D' hm).1 (Array.getElem?_eq_some_iff.1 (a D' hm).2).1 (a D' hm).2⟩

/-- What the marks leave as it lay. -/
def Unmarked (B : Nat) (W : World) (b : Nat) : Prop := b < B ∨ ∀ o, W.heap[b]? ≠ some (.deferred o)
theorem unmarked_box {B b : Nat} {W : World} {cs : Array Value} {t : TypeId} (h : Box W b cs t) : Unmarked B W b := .inr fun o e => by
  unfold Box at h; rw [h] at e; cases e

theorem leaves_marks {F : Fence} {n : Nat} {P : Program} {fn : Func} {tmps : Array Value} {R : Ending → World → Prop} {B : Nat} {u : FrameMode} (hu : u ≠ .run) : ∀ (ds : List Deferred) (W : World), Marks B W ds →
    (∀ W', Keep (Unmarked B W) W W' → LeavesIn F n P fn tmps R [] u W') → LeavesInM F n P fn tmps R ds u W := by
  intro ds
  induction ds with
  | nil => exact fun W _ h => h W (Keep.refl _ _)
  | cons d ds ih =>
    rintro W ⟨Ds, e, nd, a⟩ h
    cases Ds with
    | nil => cases e
    | cons D Ds =>
      obtain ⟨rfl, rfl⟩ := List.cons.inj e
      obtain ⟨hD, hd⟩ := a D (by simp)
      have nd' := List.nodup_cons.1 nd
      refine ⟨hu, .inl ⟨D, _, rfl, run_takeDeferred hd, ih _ ⟨Ds, rfl, nd'.2, fun D' hm => ⟨(a D' (by simp [hm])).1, (World.putObj_heap_other (fun (e : D' = D) => nd'.1 (by rw [← e]; exact hm))).trans (a D' (by simp [hm])).2⟩⟩ fun W' hk => h W' ?_⟩⟩
      have k1 : Keep (Unmarked B W) W (W.putObj D (.deferred none)) := (Keep.refl _ _).putObj _ _ (fun _ hz => by
        rcases hz with hz | hz
        · omega
        · exact hz _ hd)
      refine k1.trans (hk.mono fun b hb hz => ?_)
      rcases hz with hz | hz
      · exact .inl hz
      · refine .inr fun o ho => ?_
        have hne : b ≠ D := fun e => by subst e; exact hz _ hd
        rw [World.putObj_heap_other hne] at ho
        exact hz o ho

theorem box_quad {w : World} {b : Nat} {t : TypeId} {v0 v1 v2 v3 : Value} (h : Box w b #[v0, v1, v2, v3] t) :
    (w.cell? ⟨b, 0, none⟩ = some v0 ∧ w.cell? ⟨b, 1, none⟩ = some v1 ∧ w.cell? ⟨b, 2, none⟩ = some v2 ∧ w.cell? ⟨b, 3, none⟩ = some v3) ∧ (w.frozen? ⟨b, 0, none⟩ = false ∧ w.frozen? ⟨b, 1, none⟩ = false ∧ w.frozen? ⟨b, 2, none⟩ = false ∧ w.frozen? ⟨b, 3, none⟩ = false) ∧ b < w.heap.size :=
  ⟨⟨h.cell 0, h.cell 1, h.cell 2, h.cell 3⟩, ⟨h.frozen 0, h.frozen 1, h.frozen 2, h.frozen 3⟩, h.lt⟩
/-- A row of the call's own is none of a box of another type. -/
theorem own_ne' {w : World} {B b : Nat} {e t : TypeId} {size : Nat} {v : Value} {n : Nat} {xs : List Value} {cs : Array Value} (h : w.ownsRow B e size v n xs) (hb : Box w b cs t) (he : e ≠ t) : v.ownBlock ≠ some b := fun hv => by
  rcases h.2 with ⟨rfl, _⟩ | ⟨g, cap, cur, rfl, _, hg, _⟩
  · cases hv
  · simp only [Value.ownBlock, Option.some.injEq] at hv
    subst hv
    unfold Box at hb
    rw [hg] at hb
    simp at hb
    exact he hb.2

theorem acts_of' {l : List Value} {n : Nat} {R : (Nat → Value) → Prop} {ds : List Deferred} (hl : l.length = n) (h : R (fun i => l.getD i (.bool false))) : ∃ f : Nat → Value, (⟨l.toArray, ds⟩ : Act) = ⟨((List.range n).map f).toArray, ds⟩ ∧ R f := by
  obtain ⟨f, e, r⟩ := acts_of (R := R) hl h
  exact ⟨f, congrArg (fun a : Act => (⟨a.tmps, ds⟩ : Act)) e, r⟩

theorem own_kp' {Z : Nat → Prop} {w w' : World} {B : Nat} {e : TypeId} {size : Nat} {v : Value} {m : Nat} {ys : List Value} (o : w.ownsRow B e size v m ys) (h : Keep Z w w') (hz : ∀ g, v.ownBlock = some g → Z g) : w'.ownsRow B e size v m ys := by
  refine ⟨o.1, o.2.imp (fun x => x) ?_⟩
  rintro ⟨g, cap, cur, hv, hb, hh, r⟩
  refine ⟨g, cap, cur, hv, hb, ?_, r⟩
  exact (h.block g (Array.getElem?_eq_some_iff.1 hh).1 (hz g (by rw [hv]; rfl))).trans hh
theorem own_keep_marks {w w' : World} {B C : Nat} {e : TypeId} {size : Nat} {v : Value} {m : Nat} {ys : List Value} (o : w.ownsRow B e size v m ys) (h : Keep (Unmarked C w) w w') : w'.ownsRow B e size v m ys := by
  refine ⟨o.1, o.2.imp (fun x => x) ?_⟩
  rintro ⟨g, cap, cur, hv, hb, hh, r⟩
  exact ⟨g, cap, cur, hv, hb, (h.block g (Array.getElem?_eq_some_iff.1 hh).1 (.inr fun o e => by rw [hh] at e; cases e)).trans hh, r⟩

/-- A block of cells. -/
def CellAt (W : World) (b : Nat) : Prop := ∃ o, W.heap[b]? = some o ∧ o.isCells = true
theorem Box.at_ {W : World} {b : Nat} {cs : Array Value} {t : TypeId} (h : Box W b cs t) : CellAt W b := ⟨_, h, rfl⟩
theorem cell_at {W : World} {p : Addr} {v : Value} (h : W.cell? p = some v) : CellAt W p.block := by
  unfold World.cell? at h
  split at h
  · rename_i c e f hb
    exact ⟨_, hb, rfl⟩
  · cases h
theorem rd_at {W : World} {a : Option Addr} {xs : List Int} (h : RdI W a xs) (hx : xs ≠ []) {p : Addr} (hp : a = some p) : CellAt W p.block := by
  obtain ⟨b, o, ha, hc⟩ := h 0 (List.length_pos_iff.2 hx)
  rw [hp] at ha
  cases ha
  exact cell_at hc
theorem own_at {w : World} {B : Nat} {e : TypeId} {size : Nat} {v : Value} {m : Nat} {ys : List Value} (o : w.ownsRow B e size v m ys) : ∀ g, v.ownBlock = some g → CellAt w g := fun g hg => by
  rcases o.2 with ⟨rfl, _⟩ | ⟨g', cap, cur, rfl, _, hh, _⟩
  · cases hg
  · simp only [Value.ownBlock, Option.some.injEq] at hg
    subst hg
    exact ⟨_, hh, rfl⟩
theorem map_not_cell {W : World} {M A B : Nat} {V : Nat → Nat → Value → Prop} (h : PMap W M A B V) {b : Nat} (hb : CellAt W b) : b ≠ M := fun e => by
  obtain ⟨es, clock, h1, _⟩ := h
  obtain ⟨o, ho, hc⟩ := hb
  rw [e, h1] at ho
  cases ho
  cases hc
theorem keep_of_grown {W W' : World} {row : Option Nat} (hg : W.grownBy W' row) : Keep (fun b => row ≠ some b) W W' := (Keep.refl _ _).grown hg (fun r e _ h => h e)
theorem cell_not_row {W : World} {row : Option Nat} (hr : ∀ r, row = some r → ∃ o : Obj, W.heap[r]? = some o ∧ o.isCells = false) {b : Nat} (hb : CellAt W b) : row ≠ some b := fun e => by
  obtain ⟨o, ho, hc⟩ := hr b e
  obtain ⟨o', ho', hc'⟩ := hb
  rw [ho] at ho'
  cases ho'
  rw [hc] at hc'
  cases hc'
theorem kf_below {B : Nat} {W W' : World} (h : Below W.heap.size W W') : KeepsFrom B W W' := ⟨h.size, fun k o _ hk _ => (h.block k (Array.getElem?_eq_some_iff.1 hk).1).trans hk⟩
theorem kf_own {B C : Nat} {w w' : World} {e : TypeId} {size : Nat} {v : Value} {m : Nat} {ys : List Value} (o : w.ownsRow C e size v m ys) (hg : w.grownBy w' v.ownBlock) : KeepsFrom B w w' :=
  ⟨hg.size, fun k ob _ hk hc => (hg.block k (Array.getElem?_eq_some_iff.1 hk).1 (fun e => by
    obtain ⟨o', ho', hc'⟩ := own_at o k e.symm
    rw [hk] at ho'
    cases ho'
    rw [hc] at hc'
    cases hc')).trans hk⟩

theorem wpListIn_append_any {F : Fence} {n0 : Nat} {P : Program} (w : World) {ops : Array Oper} {rest : List Oper} {o : Oper} {a : Act} {Q : Exit → Act → World → Prop} (hgd : o.guard = none) (s x : Operand) (t : TypeId)
    (ho : o.op = .call { callee := .builtin .append, args := #[s, x], argTypes := #[t, t] })
    (base : Nat) (e : TypeId) (i : TypeInfo) (z : Value) (size bytes : Nat) (ht : P.underlying t = some (.slice e)) (hi : P.info? e = some i) (hz : i.zero = some z)
    (hsize : i.size = size) (hby : i.bytes = bytes) (hzs : z.cells.size = size) (hsz : 0 < size)
    (v : Value) (n : Nat) (xs : List Value) (hs : a.eval s = v) (hown : w.ownsRow base e size v n xs)
    (ao : Option Addr) (m c : Nat) (news : List Value) (hx : a.eval x = .slice ao m c) (hl : news.length = m * size) (hnone : ao = none → m = 0) (hnews : ∀ ad, ao = some ad → ∀ j u, news[j]? = some u → w.cell? (ad.add j) = some u) (h1 : ∀ u ∈ news, u.oneCell' = true)
    (h63 : n + m ≤ 1000000) (hb : bytes ≤ 1000) (hbase : base ≤ w.heap.size)
    (h : ∀ a' c' w', w'.ownsRow base e size (.slice a' (n + m) c') (n + m) (xs ++ news) → w.grownBy w' v.ownBlock →
      ((Value.slice a' (n + m) c').ownBlock = v.ownBlock ∨ (Value.slice a' (n + m) c').ownBlock = some w.heap.size) → wpListIn F n0 P ops Q rest (a.put o.dst (.slice a' (n + m) c')) w') : wpListIn F n0 P ops Q (o :: rest) a w := by
  refine wpListIn_plain hgd fun K hK => ?_
  obtain ⟨a', c', w', hr, h2, h3, h4⟩ := run_append_any (P := P) w base t o.type e i z size bytes ht hi hz hsize hby hzs hsz v n xs hown ao m c news hl hnone hnews h1 h63 hb hbase
  unfold Oper.wpIn
  refine ⟨by simp [Oper.about, ho, resolve, Target.leads, Sem.run_pure], ?_⟩
  rw [Oper.semAt_plain F _ _ (by rw [ho]; intro c hc'; cases hc')]
  simp [execOp, ho, resolve, invoke, builtin, hs, hx, hr, Result.andThen]
  exact hK _ _ (h a' c' w' h2 h3 h4)

theorem marks_lt {B : Nat} {W : World} {ds : List Deferred} (h : Marks B W ds) : ∀ D, ({ target := .collected D, args := #[] } : Deferred) ∈ ds → D < W.heap.size := fun D hD => by
  obtain ⟨Ds, rfl, _, a⟩ := h
  obtain ⟨D', hm, e⟩ := List.mem_map.1 hD
  have e' : D' = D := by simpa using e
  subst e'
  exact (Array.getElem?_eq_some_iff.1 (a D' hm).2).1
theorem marks_own {B H : Nat} {W W' : World} {ds : List Deferred} {row : Option Nat} (h : Marks B W ds) (hm : ∀ D, ({ target := .collected D, args := #[] } : Deferred) ∈ ds → D < H) (hg : W.grownBy W' row) (hr : ∀ r, row = some r → H ≤ r) : Marks B W' ds := by
  obtain ⟨Ds, rfl, n, a⟩ := h
  refine ⟨Ds, rfl, n, fun D hD => ⟨(a D hD).1, (hg.block D (Array.getElem?_eq_some_iff.1 (a D hD).2).1 (fun e => ?_)).trans (a D hD).2⟩⟩
  have h1 := hm D (List.mem_map.2 ⟨D, hD, rfl⟩)
  have h2 := hr D e.symm
  omega

/-- Here the walk stands still. -/
theorem stand {p : Prop} (h : Hid p) : p := h.out

theorem box_news {w : World} {b : Nat} {cs : Array Value} {t : TypeId} {l : List Value} (h : Box w b cs t) (hl : cs.toList = l) : ∀ ad, some (⟨b, 0, none⟩ : Addr) = some ad → ∀ j u, l[j]? = some u → w.cell? (ad.add j) = some u := fun ad e j u hj => by
  cases e
  have hadd : (⟨b, 0, none⟩ : Addr).add j = ⟨b, j, none⟩ := by unfold Addr.add; split <;> simp_all
  rw [hadd, h.cell j, ← hj, ← hl]
  simp

theorem marks_cons {B H D : Nat} {W : World} {ds : List Deferred} (h : Marks B W ds) (hm : ∀ D, ({ target := .collected D, args := #[] } : Deferred) ∈ ds → D < H) (hD : H ≤ D) (hB : B ≤ D) (hd : W.heap[D]? = some (.deferred (some []))) : Marks B W ({ target := .collected D, args := #[] } :: ds) := by
  obtain ⟨Ds, rfl, n, a⟩ := h
  refine ⟨D :: Ds, rfl, List.nodup_cons.2 ⟨fun hx => by have := hm D (List.mem_map.2 ⟨D, hx, rfl⟩); omega, n⟩, fun D' hD' => ?_⟩
  rcases List.mem_cons.1 hD' with rfl | hx
  · exact ⟨hB, hd⟩
  · exact a D' hx

theorem anyW {P : Program} {ops : Array Oper} {Q : Exit → Act → World → Prop} {held : List Nat} {S : World → Prop} {fuel : Nat} {listed : Array Bool} {a : Act} {w : World} (T : World → Prop) (hT : T w) (h : ∀ w', T w' → wpAnyF P ops Q held S fuel listed a w') : wpAnyF P ops Q held S fuel listed a w := h w hT
theorem anyWG {F : Fence} {n : Nat} {P : Program} {ops : Array Oper} {Q : Exit → Act → World → Prop} {held : List Nat} {S : World → Prop} {fuel : Nat} {listed : Array Bool} {a : Act} {w : World} (T : World → Prop) (hT : T w) (h : ∀ w', T w' → wpAnyG F n P ops Q held S fuel listed a w') : wpAnyG F n P ops Q held S fuel listed a w := h w hT
theorem stepIn_append_any {F : Fence} {n0 : Nat} {P : Program} (w : World) {ops : Array Oper} {E : Prop} {o : Oper} {a : Act} {K : Act → World → Prop} {Q : Exit → Act → World → Prop} (hgd : o.guard = none) (s x : Operand) (t : TypeId)
    (ho : o.op = .call { callee := .builtin .append, args := #[s, x], argTypes := #[t, t] })
    (base : Nat) (e : TypeId) (i : TypeInfo) (z : Value) (size bytes : Nat) (ht : P.underlying t = some (.slice e)) (hi : P.info? e = some i) (hz : i.zero = some z)
    (hsize : i.size = size) (hby : i.bytes = bytes) (hzs : z.cells.size = size) (hsz : 0 < size)
    (v : Value) (n : Nat) (xs : List Value) (hs : a.eval s = v) (hown : w.ownsRow base e size v n xs)
    (ao : Option Addr) (m c : Nat) (news : List Value) (hx : a.eval x = .slice ao m c) (hl : news.length = m * size) (hnone : ao = none → m = 0) (hnews : ∀ ad, ao = some ad → ∀ j u, news[j]? = some u → w.cell? (ad.add j) = some u) (h1 : ∀ u ∈ news, u.oneCell' = true)
    (h63 : n + m ≤ 1000000) (hb : bytes ≤ 1000) (hbase : base ≤ w.heap.size)
    (h : ∀ a' c' w', w'.ownsRow base e size (.slice a' (n + m) c') (n + m) (xs ++ news) → w.grownBy w' v.ownBlock →
      ((Value.slice a' (n + m) c').ownBlock = v.ownBlock ∨ (Value.slice a' (n + m) c').ownBlock = some w.heap.size) → K (a.put o.dst (.slice a' (n + m) c')) w') : if Region.wanted o (yielded ops a.tmps) = true then o.wpIn F n0 P a w K Q else E := by
  rw [if_pos (by simp [Region.wanted, hgd])]
  obtain ⟨a', c', w', hr, h2, h3, h4⟩ := run_append_any (P := P) w base t o.type e i z size bytes ht hi hz hsize hby hzs hsz v n xs hown ao m c news hl hnone hnews h1 h63 hb hbase
  unfold Oper.wpIn
  refine ⟨by simp [Oper.about, ho, resolve, Target.leads, Sem.run_pure], ?_⟩
  rw [Oper.semAt_plain F _ _ (by rw [ho]; intro c hc'; cases hc')]
  simp [execOp, ho, resolve, invoke, builtin, hs, hx, hr, Result.andThen]
  exact h a' c' w' h2 h3 h4

end Go.Proofs.YthddoikmgpgakaaDoor
