/- More operations: slices of the call's own, literals, structs. No condition. -/
import Derived.OwnWalk
import Derived.Test.YtbkellknlcageaaDoorSwAny
import Derived.Test.YtbkellknlcageaaDoorApp
namespace Go.Proofs.YtbkellknlcageaaDoor.Sw
open Go.RowKit Go

/-- A slice type, with what an append asks of its elements. -/
class TyE (P : Program) (t : TypeId) (e : outParam TypeId) (n : outParam Nat) : Prop where
  und : P.underlying t = some (.slice e)
  info : ∃ i z, P.info? e = some i ∧ i.zero = some z ∧ i.size = n ∧ i.bytes ≤ 1000 ∧ z.cells.size = n
  pos : 0 < n
theorem tyE {P : Program} {t e : TypeId} {n b : Nat} {z : Value} (h1 : P.underlying t = some (.slice e)) (h2 : (P.info? e).map (fun i => (i.zero, i.size, i.bytes)) = some (some z, n, b)) (h3 : b ≤ 1000) (h4 : z.cells.size = n) (h5 : 0 < n) : TyE P t e n := by
  obtain ⟨i, hi, e1, e2, e3⟩ := info_parts h2
  exact ⟨h1, ⟨i, z, hi, e1, e2, by omega, h4⟩, h5⟩
instance {P : Program} {t e : TypeId} {n : Nat} [h : TyE P t e n] : TyS P t e n := ⟨h.und, fun w => by
  obtain ⟨i, z, h1, _, h2, _⟩ := h.info
  simp [sizeOf, typeInfo, h1, h2]⟩
/-- Elements whose cells are one cell each. -/
class OneF {α : Type} (f : α → List AV) : Prop where
  out : ∀ x, OneL (f x)
instance : OneF iC := ⟨fun _ => inferInstance⟩
/-- Lists of numbers as cells. -/
def iiC (l : List Int) : List AV := [.sl 1 iC l]
instance : OneF iiC := ⟨fun _ => inferInstanceAs (OneL [_])⟩
instance {l : List Int} : OneL (iiC l) := inferInstanceAs (OneL [_])
/-- Elements of so many cells. -/
class LenF {α : Type} (f : α → List AV) (n : outParam Nat) : Prop where
  out : ∀ x, (f x).length = n
instance : LenF iC 1 := ⟨fun _ => rfl⟩
instance : LenF iiC 1 := ⟨fun _ => rfl⟩

section
variable {P : Program} {rs : List (Nat × AV)} {d : Option Nat} {ty : TypeId} {pos : String} {af : Array Edge} {g : Option (Nat × Bool)}

theorem slP_fits {α : Type} {G : Nat → Option Obj} {n : Nat} {f : α → List AV} {b o : Nat} {xs : List α} (hn : ∀ x ∈ xs, (f x).length = n) (h : SlP G n f (some ⟨b, o, none⟩) xs) :
    ∃ vs : List Value, Fits G (xs.flatMap f) vs ∧ ∀ j u, vs[j]? = some u → cellG G b (o + j) = some u := by
  have key : ∀ (k : Nat) (cs : List AV) (q : Nat), (∀ j av, cs[j]? = some av → ∃ u, cellG G b (q + j) = some u ∧ av.P G u) → ∃ vs : List Value, Fits G cs vs ∧ ∀ j u, vs[j]? = some u → cellG G b (q + j) = some u := by
    intro _ cs
    induction cs with
    | nil => exact fun q _ => ⟨[], trivial, fun j u e => by simp at e⟩
    | cons c cs ih =>
      intro q hs
      obtain ⟨u, hu, hp⟩ := hs 0 c rfl
      obtain ⟨us, h1, h2⟩ := ih (q + 1) (fun j av e => by rw [show q + 1 + j = q + (j + 1) by omega]; exact hs (j + 1) av (by simpa using e))
      refine ⟨u :: us, ⟨hp, h1⟩, fun j v e => ?_⟩
      cases j with
      | zero => simp at e; subst e; exact hu
      | succ j => rw [show q + (j + 1) = q + 1 + j by omega]; exact h2 j v (by simpa using e)
  have h' : ∀ i (hi : i < xs.length), ∀ j av, (f xs[i])[j]? = some av → ∃ u, cellG G b (o + i * n + j) = some u ∧ av.P G u := fun i hi => by
    obtain ⟨b', o', e, k⟩ := h i hi
    cases e; exact k
  clear h
  induction xs generalizing o with
  | nil => exact ⟨[], trivial, fun j u e => by simp at e⟩
  | cons x xs ih =>
    obtain ⟨vs, h1, h2⟩ := key 0 (f x) o (fun j av e => by have := h' 0 (by simp) j av e; simpa using this)
    obtain ⟨us, h3, h4⟩ := ih (o := o + n) (fun y hy => hn y (by simp [hy])) (fun i hi j av e => by
      have := h' (i + 1) (by simpa using hi) j av (by simpa using e)
      rw [Nat.succ_mul] at this
      rw [show o + n + i * n + j = o + (i * n + n) + j by omega]; exact this)
    have hl := h1.length
    rw [hn x (by simp)] at hl
    refine ⟨vs ++ us, by rw [List.flatMap_cons]; exact h1.append h3, fun j u e => ?_⟩
    by_cases hj : j < n
    · rw [List.getElem?_append_left (by omega)] at e; exact h2 j u e
    · rw [List.getElem?_append_right (by omega), hl] at e
      have := h4 (j - n) u e
      rwa [show o + n + (j - n) = o + j by omega] at this
theorem flat_get {α : Type} {f : α → List AV} {n : Nat} : ∀ {xs : List α}, (∀ x ∈ xs, (f x).length = n) → ∀ (i : Nat) (hi : i < xs.length) (j : Nat), j < n → (xs.flatMap f)[i * n + j]? = (f xs[i])[j]?
  | x :: xs, h, 0, _, j, hj => by
    rw [List.flatMap_cons, Nat.zero_mul, Nat.zero_add, List.getElem?_append_left (by rw [h x (by simp)]; exact hj)]
    rfl
  | x :: xs, h, i + 1, hi, j, hj => by
    rw [List.flatMap_cons, show (i + 1) * n + j = n + (i * n + j) by rw [Nat.succ_mul]; omega, List.getElem?_append_right (by rw [h x (by simp)]; omega), h x (by simp), Nat.add_sub_cancel_left]
    exact flat_get (fun y hy => h y (by simp [hy])) i (by simpa using hi) j hj
  | [], _, _, hi, _, _ => absurd hi (Nat.not_lt_zero _)
theorem lenL {α : Type} {f : α → List AV} {n : Nat} : ∀ {xs : List α}, (∀ x ∈ xs, (f x).length = n) → (xs.flatMap f).length = xs.length * n
  | [], _ => by simp
  | x :: xs, h => by rw [List.flatMap_cons, List.length_append, h x (by simp), lenL fun y hy => h y (by simp [hy]), List.length_cons, Nat.succ_mul]; omega
theorem onesF {α : Type} {f : α → List AV} [h : OneF f] : ∀ (xs : List α), OneL (xs.flatMap f)
  | [] => ⟨fun _ hx => by simp at hx⟩
  | x :: xs => ⟨fun c hc => by
    rw [List.flatMap_cons] at hc
    rcases List.mem_append.1 hc with h1 | h1
    · exact (h.out x).out c h1
    · exact (onesF xs).out c h1⟩
theorem fr_grown {w w' : World} {v v' : Value} {G : Nat → Option Obj} (hg : w.grownBy w' v.ownBlock) (hb : v'.ownBlock = v.ownBlock ∨ v'.ownBlock = some w.heap.size) : Fr w w' v.ownBlock.toList v'.ownBlock.toList G G :=
  ⟨hg.os, hg.tape, hg.output, hg.size, fun b hb' hn => hg.block b hb' (fun e => hn (by rw [← e]; simp)), fun b hm => by
    rcases hb with h | h
    · rw [h] at hm; exact .inl hm
    · rw [h] at hm; simp at hm; exact .inr (by omega), Gle.refl _, fun _ _ h => .inl h⟩
/-- append onto a slice of the call's own. -/
theorem lt_append {α : Type} {x y : Operand} {t e : TypeId} {n : Nat} [hT : TyE P t e n] {v : Value} {f : α → List AV} [hO : OneF f] [hL : LenF f n] {xs ys : List α} (hx : opv rs x = some (.val v)) (hy : opv rs y = some (.sl n f ys)) (hlen : xs.length + ys.length ≤ 1000000) :
    LT P ⟨d, .call { callee := .builtin .append, args := #[x, y], argTypes := #[t, t] }, ty, pos, af, g⟩ rs [.row v e n f xs] (fun x y => ∃ u, x = .val u ∧ y = [.row u e n f (xs ++ ys)]) :=
  LT_eff (fun _ e => by cases e) fun a w G F hR hI => by
    obtain ⟨F1, F2, hp, ⟨vs, hF1, hlf, hfv, hone, hown⟩, h2⟩ := hI.hs
    have h2' : F2 = [] := h2
    subst h2'
    obtain ⟨i, z, hi, hz, hs, hb, hzs⟩ := hT.info
    have e1 : a.eval x = v := opv_ok hR hx
    obtain ⟨ad, c, e2, hc, hsl⟩ : (AV.sl n f ys).P G (a.eval y) := opv_ok hR hy
    obtain ⟨news, hn1, hn2, hn3⟩ : ∃ news : List Value, Fits G (ys.flatMap f) news ∧ (ad = none → ys.length = 0) ∧ ∀ ad', ad = some ad' → ∀ j u, news[j]? = some u → w.cell? (ad'.add j) = some u := by
      cases hys : ys with
      | nil => exact ⟨[], by simp [Fits], fun _ => rfl, fun _ _ j u e => by simp at e⟩
      | cons y0 yt =>
        obtain ⟨b, o, e3, _⟩ := hsl 0 (by rw [hys]; simp)
        subst e3
        obtain ⟨news, h1, h2⟩ := slP_fits (fun x _ => hL.out x) hsl
        rw [hys] at h1
        refine ⟨news, h1, fun e => (by cases e), fun ad' e j u hu => ?_⟩
        cases e
        rw [add_plain]; exact cellG.cell hI.gin (h2 j u hu)
    have hnl : news.length = ys.length * n := by rw [hn1.length, lenL fun x _ => hL.out x]
    obtain ⟨a', c', w', hr, ho', hg', hb'⟩ := run_append_any (P := P) w 0 t ty e i z n i.bytes hT.und hi hz hs rfl hzs hT.pos v xs.length vs hown ad ys.length c news hnl hn2 hn3 (fits_one (onesF ys) hn1) hlen hb (Nat.zero_le _)
    have hF : F.Perm v.ownBlock.toList := by rw [← hF1]; simpa using hp
    have hmem : ∀ b, b ∈ F ↔ b ∈ v.ownBlock.toList := fun b => hF.mem_iff
    have fr0 := fr_grown (G := G) (v' := .slice a' (xs.length + ys.length) c') hg' hb'
    have fr : Fr w w' F (Value.slice a' (xs.length + ys.length) c').ownBlock.toList G G := ⟨fr0.os, fr0.tape, fr0.output, fr0.size, fun b h1 h2 => fr0.same b h1 (fun h => h2 ((hmem b).2 h)), fun b h => (fr0.newF b h).imp (fun h => (hmem b).2 h) id, fr0.gle, fun b o h => .inl h⟩
    have hgn : Gin G w' := fun b o h => by
      have h0 := hI.gin b o h
      by_cases hbF : b ∈ F
      · have := (hI.own b hbF).2; rw [h] at this; cases this
      · exact (fr.same b (hI.gin.lt h) hbF).trans h0
    refine ⟨_, w', .slice a' (xs.length + ys.length) c', _, _, G, _, ?_, .inl rfl, ⟨_, rfl, rfl⟩, fr, ⟨hgn, ?_, fun b hb => ?_, _, [], by simp, ⟨vs ++ news, rfl, fun x _ => hL.out x, ?_, ?_, ?_⟩, rfl⟩, rfl⟩
    · simp [execOp, resolve, e1, e2, invoke, builtin, hr]
    · cases (Value.slice a' (xs.length + ys.length) c').ownBlock <;> simp
    · have hlt := (ho'.lt b (by simpa using hb)).2
      refine ⟨hlt, ?_⟩
      rcases fr.newF b hb with h | h
      · exact (hI.own b h).2
      · cases hg : G b with
        | none => rfl
        | some o => have := hI.gin.lt hg; omega
    · rw [List.flatMap_append]; exact hfv.append hn1
    · intro u hu
      rcases List.mem_append.1 hu with h | h
      · exact hone u h
      · exact fits_one (onesF ys) hn1 u h
    · rw [List.length_append]; exact ho'
/-- The parts of a literal: these elements. -/
inductive Elems {α : Type} (rs : List (Nat × AV)) (f : α → List AV) : Nat → List (Nat × Operand) → List α → Prop
  | nil {k : Nat} : Elems rs f k [] []
  | cons {k : Nat} {x : Operand} {l : List (Nat × Operand)} {av : AV} {ds : List AV} {y : α} {ys : List α} (hx : opv rs x = some av) (hc : CellsOf av ds) (hf : f y = ds) (m : Elems rs f (k + 1) l ys) : Elems rs f k ((k, x) :: l) (y :: ys)
theorem Elems.fill {α : Type} {f : α → List AV} {n : Nat} (hn : ∀ x, (f x).length = n) {a : Act} {G : Nat → Option Obj} (hR : RegOK rs G a) : ∀ {k : Nat} {l : List (Nat × Operand)} {xs : List α}, Elems rs f k l xs → ∀ (pre post : List Value), pre.length = k * n → post.length = xs.length * n →
    ∃ vs : List Value, Fits G (xs.flatMap f) vs ∧ Instr.fill (fun i => some (i * n, n)) (pre ++ post).toArray (l.map fun p => (p.1, a.eval p.2)) = some (pre ++ vs).toArray := by
  intro k l xs h
  induction h with
  | nil => exact fun pre post h1 h2 => ⟨[], trivial, by simp at h2; subst h2; simp [Instr.fill]⟩
  | @cons k x l av ds y ys hx hc hf m ih =>
    intro pre post h1 h2
    obtain ⟨us, hu1, hu2⟩ := hc.out G _ (opv_ok hR hx)
    have hul : us.length = n := by rw [hu2.length, ← hf, hn]
    rw [List.length_cons, Nat.succ_mul] at h2
    obtain ⟨vs, hv1, hv2⟩ := ih (pre ++ us) (post.drop n) (by rw [List.length_append, h1, hul, Nat.succ_mul]) (by rw [List.length_drop]; omega)
    refine ⟨us ++ vs, by rw [List.flatMap_cons, hf]; exact hu2.append hv1, ?_⟩
    have hsz : (a.eval x).cells.size = n := by rw [hu1]; simpa using hul
    have hput : (a.eval x).cells.zipIdx.foldl (fun cs (p : Value × Nat) => cs.setIfInBounds (k * n + p.2) p.1) (pre ++ post).toArray = (pre ++ us ++ post.drop n).toArray := by
      rw [← Array.foldl_toList, Array.toList_zipIdx, hu1, ← h1]
      have key : ∀ (us post : List Value) (j : Nat) (pre0 : List Value), us.length ≤ post.length → pre0.length = pre.length + j → (us.zipIdx j).foldl (fun cs (p : Value × Nat) => cs.setIfInBounds (pre.length + p.2) p.1) (pre0 ++ post).toArray = (pre0 ++ us ++ post.drop us.length).toArray := by
        intro us
        induction us with
        | nil => intro post j pre0 _ _; simp
        | cons u us ih =>
          intro post j pre0 hle hp
          cases post with
          | nil => simp at hle
          | cons q post =>
            have := ih post (j + 1) (pre0 ++ [u]) (by simpa using hle) (by simp [hp]; omega)
            rw [List.zipIdx_cons, List.foldl_cons]
            have hset : (pre0 ++ q :: post).toArray.setIfInBounds (pre.length + j) u = (pre0 ++ [u] ++ post).toArray := by
              rw [← hp]; simp
            rw [hset, this]
            simp
      have := key us post 0 pre (by omega) (by simp)
      rw [hul] at this
      exact this
    simp only [List.map_cons, Instr.fill]
    rw [if_neg (by rw [hsz]; simp; omega), hput, hv2, List.append_assoc]
/-- A literal: what it makes. -/
theorem run_lit {α : Type} {t e : TypeId} {n : Nat} [hT : TyE P t e n] {f : α → List AV} [hL : LenF f n] {l : List (Nat × Operand)} {xs : List α} (h : Elems rs f 0 l xs) {a : Act} {w : World} {G : Nat → Option Obj} (hR : RegOK rs G a) (hx : xs.length * n ≤ 16777216) {len : Nat} (hlen : len = xs.length) :
    ∃ vs : List Value, Fits G (xs.flatMap f) vs ∧ (execOp a.eval ⟨d, .buildSlice t len l.toArray, ty, pos, af, g⟩).run P w = .ok (.value (.slice (some ⟨w.heap.size, 0, none⟩) xs.length xs.length)) (w.alloc (.cells vs.toArray e)) := by
  obtain ⟨i, z, hi, hz, hs, hb, hzs⟩ := hT.info
  subst hlen
  obtain ⟨vs, h1, h2⟩ := h.fill hL.out hR [] ((List.range (xs.length * n)).map (fun j => z.cells[j % z.cells.size]!)) (by simp) (by simp)
  refine ⟨vs, h1, ?_⟩
  have hle : ¬ (16777216 < xs.length * n) := by omega
  have hparts : (l.toArray.map fun (p : Nat × Operand) => (p.1, a.eval p.2)).toList = l.map fun p => (p.1, a.eval p.2) := by simp
  have hfin : ∀ cs : Array Value, ((fun ad : Addr => Value.slice (some ad) xs.length xs.length) <$> newRow e cs).run P w = .ok (.slice (some ⟨w.heap.size, 0, none⟩) xs.length xs.length) (w.alloc (.cells cs e)) := fun cs => by simp [newRow, go_sem]
  by_cases h0 : xs.length * n = 0
  · rw [h0] at h2
    simp only [List.range_zero, List.map_nil, List.append_nil] at h2
    simp [execOp, Instr.buildSlice, run_underlying hT.und, sizeOf, typeInfo, hi, hs, h0]
    rw [show (Array.map (fun _ : Nat => (default : Value)) (Array.range 0)) = #[] by simp, h2]
    simp only [hfin, List.nil_append, Result.andThen_ok]
  · have hz0 : ((Array.range (xs.length * n)).map (fun j => z.cells[j % n]!)) = ([] ++ (List.range (xs.length * n)).map (fun j => z.cells[j % z.cells.size]!)).toArray := by
      apply Array.ext'; simp [Array.toList_range, hzs]
    simp [execOp, Instr.buildSlice, run_underlying hT.und, sizeOf, typeInfo, hi, hs, h0, hle, zeroValue, hz, hzs]
    rw [hz0, h2]
    simp only [hfin, List.nil_append, Result.andThen_ok]
theorem new_row {α : Type} {w : World} {G : Nat → Option Obj} (h : Inv G [] [] w) {e : TypeId} {n : Nat} {f : α → List AV} [hO : OneF f] [hL : LenF f n] {xs : List α} {vs : List Value} (hf : Fits G (xs.flatMap f) vs) (hx : xs.length ≤ 1000000) :
    Inv G [w.heap.size] [.row (.slice (some ⟨w.heap.size, 0, none⟩) xs.length xs.length) e n f xs] (w.alloc (.cells vs.toArray e)) := by
  refine ⟨gin_alloc h.gin _, by simp, fun b hb => ?_, [w.heap.size], [], by simp, ⟨vs, rfl, fun x _ => hL.out x, hf, fits_one (onesF xs) hf, ?_⟩, rfl⟩
  · rw [List.mem_singleton] at hb
    subst hb
    refine ⟨by simp, ?_⟩
    cases hg : G w.heap.size with
    | none => rfl
    | some o => exact absurd (h.gin.lt hg) (Nat.lt_irrefl _)
  · exact World.ownsRow_lit w _ _ (Nat.zero_le _) (by simp only [maxLen]; omega) (by simp [hf.length, lenL fun x _ => hL.out x])
/-- A literal that is the call's own. -/
theorem lt_lit {α : Type} {t e : TypeId} {n len : Nat} [hT : TyE P t e n] {f : α → List AV} [hO : OneF f] [hL : LenF f n] {l : List (Nat × Operand)} {xs : List α} (h : Elems rs f 0 l xs) (hlen : len = xs.length) (hx : xs.length * n ≤ 1000000) :
    LT P ⟨d, .buildSlice t len l.toArray, ty, pos, af, g⟩ rs [] (fun x y => ∃ u, x = .val u ∧ y = [.row u e n f xs]) :=
  LT_eff (fun _ e => by cases e) fun a w G F hR hI => by
    obtain rfl := inv_nil hI
    obtain ⟨vs, h1, h2⟩ := run_lit (P := P) (d := d) (ty := ty) (pos := pos) (af := af) (g := g) (t := t) h (w := w) hR (by omega) hlen
    have hxl : xs.length ≤ 1000000 := Nat.le_trans (Nat.le_mul_of_pos_right _ hT.pos) hx
    exact ⟨_, _, _, _, _, G, _, h2, .inl rfl, ⟨_, rfl, rfl⟩, fr_alloc _ _ _, new_row hI h1 hxl, rfl⟩
/-- What is frozen: a block of the call's own that nobody writes any more. -/
def gadd (G : Nat → Option Obj) (b : Nat) (o : Obj) : Nat → Option Obj := fun k => if k = b then some o else G k
theorem gle_add {G : Nat → Option Obj} {b : Nat} {o : Obj} (h : G b = none) : Gle G (gadd G b o) := fun k o' e => by
  unfold gadd
  by_cases hk : k = b
  · subst hk; rw [h] at e; cases e
  · rw [if_neg hk]; exact e
theorem row_freeze {α : Type} {G : Nat → Option Obj} {F : List Nat} {w : World} {v : Value} {e : TypeId} {n : Nat} {f : α → List AV} {xs : List α} {rest : List HA} (h : Inv G F (.row v e n f xs :: rest) w) :
    ∃ G' F', Inv G' F' rest w ∧ Fr w w F F' G G' ∧ (AV.sl n f xs).P G' v := by
  obtain ⟨F1, F2, ep, ⟨vs, hF1, hlen, hf, hone, hown⟩, h2⟩ := h.hs
  have nd := ep.nodup_iff.1 h.nd
  have hm : ∀ b, b ∈ F2 → b ∈ F := fun b hb => ep.mem_iff.2 (by simp [hb])
  rcases hown.2 with ⟨rfl, hn0⟩ | ⟨b, cap, cur, rfl, _, hb, hnc, _, hcs, htake⟩
  · refine ⟨G, F2, ⟨h.gin, (List.nodup_append.1 nd).2.1, fun b hb => h.own b (hm b hb), h2⟩, ⟨rfl, rfl, rfl, Nat.le_refl _, fun _ _ _ => rfl, fun b hb => .inl (hm b hb), Gle.refl _, fun _ _ h => .inl h⟩, none, 0, by rw [hn0], by omega, fun i hi => by omega⟩
  · have hF1' : F1 = [b] := hF1
    subst hF1'
    have hbF : b ∈ F := ep.mem_iff.2 (by simp)
    have hgb := (h.own b hbF).2
    have hbn : b ∉ F2 := fun hin => (List.nodup_append.1 nd).2.2 b (by simp) b hin rfl
    refine ⟨gadd G b (.cells cur e (0, 0)), F2, ⟨fun k o ek => ?_, (List.nodup_append.1 nd).2.1, fun k hk => ⟨(h.own k (hm k hk)).1, ?_⟩, hsP.mono (gle_add hgb) h2⟩, ⟨rfl, rfl, rfl, Nat.le_refl _, fun _ _ _ => rfl, fun k hk => .inl (hm k hk), gle_add hgb, fun k o ek => ?_⟩, some ⟨b, 0, none⟩, cap, rfl, hnc, fun i hi => ⟨b, 0, rfl, fun j av ej => ?_⟩⟩
    · unfold gadd at ek
      by_cases hk : k = b
      · subst hk; rw [if_pos rfl] at ek; cases ek; exact hb
      · rw [if_neg hk] at ek; exact h.gin k o ek
    · unfold gadd; rw [if_neg (fun eq => hbn (by rw [← eq]; exact hk))]; exact (h.own k (hm k hk)).2
    · unfold gadd at ek
      by_cases hk : k = b
      · subst hk; exact .inr (.inl hbF)
      · rw [if_neg hk] at ek; exact .inl ek
    · have hjn : j < n := by
        have := (List.getElem?_eq_some_iff.1 ej).1
        rwa [hlen _ (List.getElem_mem hi)] at this
      obtain ⟨u, hu, hp⟩ := hf.get (i := i * n + j) (av := av) (by
        rw [flat_get hlen i hi j hjn]; exact ej)
      refine ⟨u, ?_, av.mono (gle_add hgb) hp⟩
      have hlt : i * n + j < xs.length * n := by
        calc i * n + j < i * n + n := by omega
          _ = (i + 1) * n := (Nat.succ_mul i n).symm
          _ ≤ xs.length * n := Nat.mul_le_mul_right n hi
      unfold cellG gadd
      rw [if_pos rfl]
      simp only [Nat.zero_add]
      rw [← htake, List.getElem?_take, if_pos hlt] at hu
      simpa using hu
/-- Made, and frozen at once. -/
theorem LT_frz {α : Type} {o : Oper} {cons : List HA} {e : TypeId} {n : Nat} {f : α → List AV} {xs : List α} (h : LT P o rs cons (fun x y => ∃ u, x = .val u ∧ y = [.row u e n f xs])) : LT P o rs cons (Is (.sl n f xs) []) := by
  refine ⟨?_⟩
  intro F m hF a w G Fp K Q hR hI hk
  refine h.go F m hF a w G Fp K Q hR hI fun v av prod G' F' w' ⟨u, e1, e2⟩ hfr hi hv => ?_
  subst e1 e2
  have hv' : v = u := hv
  subst hv'
  obtain ⟨G'', F'', h1, h2, h3⟩ := row_freeze hi
  exact hk v _ _ G'' F'' w' ⟨rfl, rfl⟩ (hfr.trans h2) h1 h3
theorem slP_drop {α : Type} {G : Nat → Option Obj} {n : Nat} {f : α → List AV} {b o : Nat} {xs : List α} (h : SlP G n f (some ⟨b, o, none⟩) xs) (k : Nat) : SlP G n f (some ⟨b, o + k * n, none⟩) (xs.drop k) := fun i hi => by
  rw [List.length_drop] at hi
  obtain ⟨b', o', e1, h1⟩ := h (k + i) (by omega)
  cases e1
  refine ⟨b, o + k * n, rfl, fun j av e => ?_⟩
  rw [List.getElem_drop] at e
  obtain ⟨u, hu⟩ := h1 j av e
  rw [Nat.add_mul] at hu
  exact ⟨u, by rw [show o + k * n + i * n + j = o + (k * n + i * n) + j by omega]; exact hu.1, hu.2⟩
theorem slP_take {α : Type} {G : Nat → Option Obj} {n : Nat} {f : α → List AV} {a : Option Addr} {xs : List α} (h : SlP G n f a xs) (k : Nat) : SlP G n f a (xs.take k) := fun i hi => by
  rw [List.length_take] at hi
  obtain ⟨b, o, e1, h1⟩ := h i (by omega)
  refine ⟨b, o, e1, fun j av e => ?_⟩
  rw [List.getElem_take] at e
  exact h1 j av e
theorem run_sliceAt {t e : TypeId} {n : Nat} [hT : TyE P t e n] {w : World} {ad : Option Addr} {len cap : Nat} {lo hi : Option Value} {l h : Nat} (hlo : lo = some (.int .i64 (l : Int)) ∨ (lo = none ∧ l = 0)) (hhi : hi = some (.int .i64 (h : Int)) ∨ (hi = none ∧ h = len)) (h1 : l ≤ h) (h2 : h ≤ cap) (h3 : len ≤ cap) :
    (Instr.sliceAt t (.slice ad len cap) lo hi none).run P w = .ok (.slice (if cap = l then ad else ad.map (·.add (l * n))) (h - l) (cap - l)) w := by
  obtain ⟨i, z, hi', _, hs, _⟩ := hT.info
  have hb : ∀ (x : Nat) (y : Nat) (code : BoundsCode), x ≤ y → (Instr.sliceBound (.int .i64 (x : Int)) y code).run P w = .ok x w := fun x y code hxy => by
    have : (0 : Int) ≤ (x : Int) ∧ (x : Int) ≤ (y : Int) := by omega
    simp [Instr.sliceBound, asIntOf, this]
  rcases hlo with rfl | ⟨rfl, rfl⟩ <;> rcases hhi with rfl | ⟨rfl, rfl⟩ <;>
    simp [Instr.sliceAt, Instr.slice, Instr.sliceBounds, run_underlying hT.und, sizeOf, typeInfo, hi', hs, hb _ _ _ h1, hb _ _ _ h2]
theorem lt_slice {α : Type} {x : Operand} {lo hi : Option Operand} {t e : TypeId} {n : Nat} [hT : TyE P t e n] {f : α → List AV} {xs : List α} {l h : Nat} {li hi' : Int} (hx : opv rs x = some (.sl n f xs))
    (hlo : lo.map (opv rs) = some (some (.val (.int .i64 li))) ∨ (lo = none ∧ li = 0)) (hl : li = (l : Int))
    (hhi : hi.map (opv rs) = some (some (.val (.int .i64 hi'))) ∨ (hi = none ∧ hi' = (xs.length : Int))) (hh : hi' = (h : Int)) (h1 : l ≤ h) (h2 : h ≤ xs.length) :
    LT P ⟨d, .slice t x lo hi none, ty, pos, af, g⟩ rs [] (Is (.sl n f ((xs.take h).drop l)) []) :=
  LT_val (fun _ e => by cases e) fun a w G hR hG => by
    obtain ⟨ad, c, e1, hc, hs⟩ : (AV.sl n f xs).P G (a.eval x) := opv_ok hR hx
    have hlo' : lo.map a.eval = some (.int .i64 (l : Int)) ∨ (lo.map a.eval = none ∧ l = 0) := by
      rcases hlo with h | ⟨rfl, rfl⟩
      · cases lo with
        | none => simp at h
        | some y =>
          simp only [Option.map_some, Option.some.injEq] at h
          have : a.eval y = _ := opv_ok hR h
          left; rw [Option.map_some, this, hl]
      · right; exact ⟨rfl, by omega⟩
    have hhi' : hi.map a.eval = some (.int .i64 (h : Int)) ∨ (hi.map a.eval = none ∧ h = xs.length) := by
      rcases hhi with h' | ⟨rfl, h'⟩
      · cases hi with
        | none => simp at h'
        | some y =>
          simp only [Option.map_some, Option.some.injEq] at h'
          have : a.eval y = _ := opv_ok hR h'
          left; rw [Option.map_some, this, hh]
      · right; exact ⟨rfl, by omega⟩
    have hr := run_sliceAt (P := P) (t := t) (w := w) (ad := ad) hlo' hhi' h1 (by omega) hc
    have hlen : ((xs.take h).drop l).length = h - l := by rw [List.length_drop, List.length_take]; omega
    refine ⟨_, ⟨if c = l then ad else ad.map (·.add (l * n)), c - l, rfl, by rw [hlen]; omega, ?_⟩, ?_⟩
    · by_cases hcl : c = l
      · intro i hi; rw [hlen] at hi; omega
      · rw [if_neg hcl]
        cases had : ad with
        | none =>
          intro i hi
          rw [hlen] at hi
          obtain ⟨b, o, e, _⟩ := hs 0 (by omega)
          rw [had] at e; cases e
        | some ad' =>
          by_cases h0 : xs.length = 0
          · intro i hi; rw [hlen] at hi; omega
          · obtain ⟨b, o, e, _⟩ := hs 0 (by omega)
            rw [had] at e; cases e
            rw [Option.map_some, add_plain]
            rw [had] at hs
            exact slP_drop (slP_take hs h) l
    · rw [hlen]
      simp only [execOp, e1, Option.map_none, Sem.run_bind, hr]
      rfl
end
/-- What is owned is frozen. -/
theorem st_frz {α : Type} {c : Cx} {rs : List (Nat × AV)} {hs r : List HA} {e : TypeId} {n : Nat} {f : α → List AV} {xs : List α} {v : Value} {i : Nat} {a : Act} {w : World} (hl : look rs i = some (.val v)) (hr : Rm hs (.row v e n f xs) r) (st : St c ⟨rs, hs⟩ a w) : St c ⟨(i, .sl n f xs) :: rs, r⟩ a w := by
  obtain ⟨G, F, hI, hF, hR, rr⟩ := st
  obtain ⟨G', F', h1, h2, h3⟩ := row_freeze (rest := r) ⟨hI.gin, hI.nd, hI.own, hr.sel hI.hs⟩
  refine ⟨G', F', h1, hF.trans h2, fun k av ek => ?_, rr.1, rr.2.step h2⟩
  simp only [look] at ek
  cases hb : Nat.beq i k with
  | true =>
    rw [hb] at ek
    obtain rfl := Nat.eq_of_beq_eq_true hb
    simp only [cond_true, Option.some.injEq] at ek
    subst ek
    have : a.tmps.getD i undef = v := hR _ _ hl
    rw [this]; exact h3
  | false => rw [hb] at ek; exact av.mono h2.gle (hR k av (by simpa using ek))
theorem W_frz {α : Type} {c : Cx} {rs : List (Nat × AV)} {hs r : List HA} {Q : Exit → S → Prop} {x : Code} {e : TypeId} {n : Nat} {f : α → List AV} {xs : List α} {v : Value} (i : Nat) (hl : look rs i = some (.val v)) (hr : Rm hs (.row v e n f xs) r) (k : W c x ⟨(i, .sl n f xs) :: rs, r⟩ Q) : W c x ⟨rs, hs⟩ Q := ⟨fun a w st => k.out a w (st_frz hl hr st)⟩
theorem WL_frz {α : Type} {c : Cx} {rs : List (Nat × AV)} {hs r : List HA} {Q : Exit → S → Prop} {ops : Array Oper} {l : List Oper} {e : TypeId} {n : Nat} {f : α → List AV} {xs : List α} {v : Value} (i : Nat) (hl : look rs i = some (.val v)) (hr : Rm hs (.row v e n f xs) r) (k : WL c ops l ⟨(i, .sl n f xs) :: rs, r⟩ Q) : WL c ops l ⟨rs, hs⟩ Q := ⟨fun a w st => k.out a w (st_frz hl hr st)⟩
/-- A nil slice is an own one without elements. -/
theorem st_nil {α : Type} {c : Cx} {rs : List (Nat × AV)} {hs : List HA} {a : Act} {w : World} (e : TypeId) (n : Nat) (f : α → List AV) (st : St c ⟨rs, hs⟩ a w) : St c ⟨rs, .row (.slice none 0 0) e n f [] :: hs⟩ a w := by
  obtain ⟨G, F, hI, r⟩ := st
  exact ⟨G, F, ⟨hI.gin, hI.nd, hI.own, [], F, .refl _, ⟨[], rfl, fun _ h => (by cases h), trivial, fun _ h => (by cases h), ⟨by simp, .inl ⟨rfl, rfl⟩⟩⟩, hI.hs⟩, r⟩
/-- The value of an own slice is one cell. -/
theorem WL_one {α : Type} {c : Cx} {rs : List (Nat × AV)} {hs : List HA} {Q : Exit → S → Prop} {ops : Array Oper} {l : List Oper} {e : TypeId} {n : Nat} {f : α → List AV} {xs : List α} {v : Value} {g : HA → List HA} (hat : At hs (.row v e n f xs) g) (k : One (.val v) → WL c ops l ⟨rs, hs⟩ Q) : WL c ops l ⟨rs, hs⟩ Q := ⟨fun a w st => by
  have st' := st
  obtain ⟨G, F, hI, _⟩ := st'
  obtain ⟨rest, hs'⟩ := hat.sel
  obtain ⟨F1, F2, _, ⟨vs, _, _, _, _, hown⟩, _⟩ := (hs' _ G F w).1 (by rw [hat.self]; exact hI.hs)
  refine (k ⟨fun G v' h => ?_⟩).out a w st
  have h' : v' = v := h
  subst h'
  rcases hown.2 with ⟨rfl, _⟩ | ⟨g, cap, cur, rfl, _⟩ <;> rfl⟩
end Go.Proofs.YtbkellknlcageaaDoor.Sw
