/- Proofs for one card: Gr2, Gr3, Gr4, FloorTa, SwI, SwL, SwM, FloorOc, FloorTb, FloorTc, FloorTd, FloorTe. No condition of its own. -/
import Derived.Lib.LazyBuf
import Derived.Deep.AppendSrc
import Derived.DeepKeys4
import Derived.Maps.OwnIn
import Derived.Maps.Views
import Derived.Test.YtihonljdanjfmaaDoorZt4
namespace Go.Proofs.YtihonljdanjfmaaDoor.Gr
open Go.Proofs.YtihonljdanjfmaaDoor.Sw (Pay)
def payLt (a b : Pay) : Bool := if a.a ≠ b.a then decide (a.a < b.a) else if a.b ≠ b.b then decide (a.b < b.b) else decide (a.p < b.p)
def atP (l : List Pay) (x : Pay) : Nat := (l.takeWhile fun y => payLt y x).length
def addP (l : List Pay) (x : Pay) : List Pay := l.take (atP l x) ++ [x] ++ l.drop (atP l x)
def payX (ids : List Int) (i o : Nat) (c : Int) : Pay := if 0 < c then ⟨ids.getD o 0, ids.getD i 0, c⟩ else ⟨ids.getD i 0, ids.getD o 0, -c⟩
def mvL (l : List Int) (i o : Nat) : List Int := (l.set o (l.getD o 0 + l.getD i 0)).set i 0
def lf (l : List Int) : Nat → Int := fun v => l.getD v 0
def leafAt (L : List (Nat × Nat)) (i : Nat) : Option (Nat × (Nat × Nat)) := match L.filter (inc i) with | [e] => some (i, e) | _ => none
def findLeaf (n : Nat) (L : List (Nat × Nat)) : Option (Nat × (Nat × Nat)) := (List.range n).findSome? (leafAt L)
def treeGo (ids : List Int) : Nat → List (Nat × Nat) → List Int → List Pay → Option (List Int × List Pay)
  | 0, _, left, out => some (left, out)
  | m + 1, L, left, out => match findLeaf ids.length L with
    | none => none
    | some (i, e) => if left.getD i 0 = 0 then none else treeGo ids m (L.erase e) (mvL left i (oth e i)) (addP out (payX ids i (oth e i) (left.getD i 0)))
def treeR (ids : List Int) (L : List (Nat × Nat)) (owed : List Int) : Option (List Pay) := match treeGo ids L.length L owed [] with
  | some r => if r.1.all (fun n => decide (n = 0)) = true then some r.2 else none
  | none => none
theorem lf_mvL {l : List Int} {i o : Nat} (hi : i < l.length) (ho : o < l.length) : lf (mvL l i o) = mv (lf l) i o := by
  funext v
  simp only [lf, mvL, mv, upd]
  simp only [List.getD_eq_getElem?_getD, List.getElem?_set, List.length_set]
  by_cases h1 : v = i
  · subst h1; simp [hi]
  · rw [if_neg (fun e => h1 e.symm), if_neg h1]
    by_cases h2 : v = o
    · subst h2; simp [ho]
    · rw [if_neg (fun e => h2 e.symm), if_neg h2]
theorem mvL_len (l : List Int) (i o : Nat) : (mvL l i o).length = l.length := by simp [mvL]
theorem leafAt_some {L : List (Nat × Nat)} {i j : Nat} {e : Nat × Nat} (h : leafAt L i = some (j, e)) : j = i ∧ Leaf L i e := by
  unfold leafAt at h
  split at h
  · rename_i e' he
    simp only [Option.some.injEq, Prod.mk.injEq] at h
    obtain ⟨rfl, rfl⟩ := h
    have h1 : e' ∈ L.filter (inc i) := by rw [he]; simp
    have h2 := List.mem_filter.1 h1
    refine ⟨rfl, h2.1, h2.2, fun p hp hi => ?_⟩
    have : p ∈ L.filter (inc i) := List.mem_filter.2 ⟨hp, hi⟩
    rw [he] at this
    simpa using this
  · cases h
theorem leafAt_of {L : List (Nat × Nat)} (hn : L.Nodup) {i : Nat} {e : Nat × Nat} (h : Leaf L i e) : leafAt L i = some (i, e) := by
  have : L.filter (inc i) = [e] := by
    have hnd := hn.filter (inc i)
    have hm : e ∈ L.filter (inc i) := List.mem_filter.2 ⟨h.1, h.2.1⟩
    have ha : ∀ p ∈ L.filter (inc i), p = e := fun p hp => h.2.2 p (List.mem_filter.1 hp).1 (List.mem_filter.1 hp).2
    match hq : L.filter (inc i), hnd, hm, ha with
    | [], _, hm, _ => cases hm
    | [x], _, _, ha => rw [ha x (by simp)]
    | x :: y :: t, hnd, _, ha =>
      have h1 := ha x (by simp)
      have h2 := ha y (by simp)
      exact absurd (h1.trans h2.symm) (by intro hxy; subst hxy; simp at hnd)
  unfold leafAt
  rw [this]
theorem findLeaf_some {n : Nat} {L : List (Nat × Nat)} {i : Nat} {e : Nat × Nat} (h : findLeaf n L = some (i, e)) : i < n ∧ Leaf L i e := by
  obtain ⟨j, hj, h1⟩ := List.exists_of_findSome?_eq_some h
  obtain ⟨rfl, h2⟩ := leafAt_some h1
  exact ⟨List.mem_range.1 hj, h2⟩
theorem findLeaf_of {n : Nat} {L : List (Nat × Nat)} (hn : L.Nodup) {i : Nat} {e : Nat × Nat} (hi : i < n) (h : Leaf L i e) : ∃ r, findLeaf n L = some r := by
  cases hf : findLeaf n L with
  | some r => exact ⟨r, rfl⟩
  | none =>
    have := List.findSome?_eq_none_iff.1 hf i (List.mem_range.2 hi)
    rw [leafAt_of hn h] at this
    cases this
theorem treeGo_len {ids : List Int} : ∀ {m : Nat} {L : List (Nat × Nat)} {left : List Int} {out : List Pay} {r : List Int × List Pay}, treeGo ids m L left out = some r → r.1.length = left.length
  | 0, _, _, _, _, h => by simp [treeGo] at h; rw [← h]
  | m + 1, L, left, out, r, h => by
    unfold treeGo at h
    split at h
    · cases h
    · split at h
      · cases h
      · rw [treeGo_len h, mvL_len]
theorem treeGo_zr {ids : List Int} : ∀ {m : Nat} {L : List (Nat × Nat)} {left : List Int} {out : List Pay} {r : List Int × List Pay}, L.length = m → Ok ids.length L → left.length = ids.length → treeGo ids m L left out = some r → (∀ v, v < ids.length → lf r.1 v = 0) → Zr ids.length L (lf left)
  | 0, L, left, out, r, hl, hok, hlen, h, hz => by
    simp [treeGo] at h
    rw [← h] at hz
    exact zr_zero hz
  | m + 1, L, left, out, r, hl, hok, hlen, h, hz => by
    unfold treeGo at h
    split at h
    · cases h
    · rename_i i e hf
      split at h
      · cases h
      · obtain ⟨hi, hle⟩ := findLeaf_some hf
        obtain ⟨hon, hne, _, _⟩ := oth_spec hok hle.1 hle.2.1
        have h1 := treeGo_zr (by rw [List.length_erase_of_mem hle.1]; omega) (hok.erase e) (by rw [mvL_len, hlen]) h hz
        rw [lf_mvL (by omega) (by omega)] at h1
        exact step_zr_back hok hle.1 hle.2.1 h1
theorem treeGo_ok {ids : List Int} : ∀ {m : Nat} {L : List (Nat × Nat)} {left : List Int} {out : List Pay}, L.length = m → Ok ids.length L → left.length = ids.length → Zr ids.length L (lf left) → Min ids.length L (lf left) → ∃ r, treeGo ids m L left out = some r ∧ ∀ v, v < ids.length → lf r.1 v = 0
  | 0, L, left, out, hl, hok, hlen, hz, hm => by
    have : L = [] := List.eq_nil_of_length_eq_zero hl
    subst this
    exact ⟨(left, out), rfl, zr_nil hz⟩
  | m + 1, L, left, out, hl, hok, hlen, hz, hm => by
    obtain ⟨i0, e0, hi0, hl0⟩ := hm.leaf hok hz (by intro h; rw [h] at hl; simp at hl)
    obtain ⟨⟨i, e⟩, hf⟩ := findLeaf_of hok.nd hi0 hl0
    obtain ⟨hi, hle⟩ := findLeaf_some hf
    obtain ⟨hon, hne, _, _⟩ := oth_spec hok hle.1 hle.2.1
    have hx := hm.left hok hz hle
    unfold treeGo
    rw [hf]
    dsimp only
    rw [if_neg (by exact hx)]
    refine treeGo_ok (by rw [List.length_erase_of_mem hle.1]; omega) (hok.erase e) (by rw [mvL_len, hlen]) ?_ ?_
    · rw [lf_mvL (by omega) (by omega)]; exact step_zr hok hz hle
    · rw [lf_mvL (by omega) (by omega)]; exact step_min hok hm hle
theorem all_zero {l : List Int} : l.all (fun n => decide (n = 0)) = true ↔ ∀ v, v < l.length → lf l v = 0 := by
  rw [List.all_eq_true]
  constructor
  · intro h v hv
    have := h l[v] (List.getElem_mem hv)
    simpa [lf, List.getD_eq_getElem?_getD, List.getElem?_eq_getElem hv] using this
  · intro h x hx
    obtain ⟨v, hv, rfl⟩ := List.getElem_of_mem hx
    have := h v hv
    simpa [lf, List.getD_eq_getElem?_getD, List.getElem?_eq_getElem hv] using this
theorem treeR_zr {ids : List Int} {L : List (Nat × Nat)} {owed : List Int} {out : List Pay} (hok : Ok ids.length L) (hlen : owed.length = ids.length) (h : treeR ids L owed = some out) : Zr ids.length L (lf owed) := by
  unfold treeR at h
  split at h
  · rename_i r hr
    split at h
    · rename_i ha
      have hl := treeGo_len hr
      exact treeGo_zr rfl hok hlen hr (by have := all_zero.1 ha; rw [hl, hlen] at this; exact this)
    · cases h
  · cases h
theorem treeR_ok {ids : List Int} {L : List (Nat × Nat)} {owed : List Int} (hok : Ok ids.length L) (hlen : owed.length = ids.length) (hz : Zr ids.length L (lf owed)) (hm : Min ids.length L (lf owed)) : ∃ out, treeR ids L owed = some out := by
  obtain ⟨r, hr, h0⟩ := treeGo_ok (out := []) rfl hok hlen hz hm
  refine ⟨r.2, ?_⟩
  unfold treeR
  rw [hr]
  dsimp only
  rw [if_pos (all_zero.2 (by rw [treeGo_len hr, hlen]; exact h0))]
/-- Those that the bits of a number name. -/
def pick {α : Type} : List α → Nat → List α
  | [], _ => []
  | p :: l, s => if s % 2 = 1 then p :: pick l (s / 2) else pick l (s / 2)
theorem pick_sub {α : Type} : ∀ (l : List α) (s : Nat), List.Sublist (pick l s) l
  | [], _ => List.Sublist.refl _
  | p :: l, s => by
    unfold pick
    split
    · exact (pick_sub l _).cons_cons p
    · exact (pick_sub l _).cons p
theorem sub_pick {α : Type} {S l : List α} (h : List.Sublist S l) : ∃ s, s < 2 ^ l.length ∧ pick l s = S := by
  induction h with
  | slnil => exact ⟨0, by simp, rfl⟩
  | cons a _ ih =>
    obtain ⟨s, h1, h2⟩ := ih
    refine ⟨2 * s, by simp [Nat.pow_succ]; omega, ?_⟩
    unfold pick
    rw [if_neg (by omega), show 2 * s / 2 = s by omega, h2]
  | cons_cons a _ ih =>
    obtain ⟨s, h1, h2⟩ := ih
    refine ⟨2 * s + 1, by simp [Nat.pow_succ]; omega, ?_⟩
    unfold pick
    rw [if_pos (by omega), show (2 * s + 1) / 2 = s by omega, h2]
theorem pick_snoc {α : Type} (p : α) : ∀ (l : List α) (s : Nat), pick (l ++ [p]) s = pick l s ++ if s / 2 ^ l.length % 2 = 1 then [p] else []
  | [], s => by simp [pick]
  | q :: l, s => by
    show (if s % 2 = 1 then q :: pick (l ++ [p]) (s / 2) else pick (l ++ [p]) (s / 2)) = _
    rw [pick_snoc p l (s / 2), Nat.div_div_eq_div_mul, List.length_cons, Nat.pow_succ, Nat.mul_comm (2 ^ l.length) 2]
    show _ = (if s % 2 = 1 then q :: pick l (s / 2) else pick l (s / 2)) ++ _
    split <;> rfl
theorem Ok.sub {n : Nat} {L S : List (Nat × Nat)} (h : Ok n L) (hs : List.Sublist S L) : Ok n S := ⟨h.nd.sublist hs, fun p hp => h.lt p (hs.subset hp)⟩
theorem Zr.sup {n : Nat} {L S : List (Nat × Nat)} {x : Nat → Int} (h : Zr n S x) (hs : ∀ p ∈ S, p ∈ L) : Zr n L x := fun P hP => h P fun p hp => hP p (hs p hp)
/-- Some choice of fewer than six edges settles, as soon as what all edges connect comes to nothing. -/
theorem can_iff {ids : List Int} {L : List (Nat × Nat)} {owed : List Int} (hok : Ok ids.length L) (hn : ids.length ≤ 6) (hlen : owed.length = ids.length) :
    (∃ s, s < 2 ^ L.length ∧ (pick L s).length < 6 ∧ ∃ out, treeR ids (pick L s) owed = some out) ↔ Zr ids.length L (lf owed) := by
  constructor
  · rintro ⟨s, _, _, out, h⟩
    exact (treeR_zr (hok.sub (pick_sub L s)) hlen h).sup fun p hp => (pick_sub L s).subset hp
  · intro hz
    obtain ⟨S, hS, hokS, hzS, hmS⟩ := exists_min _ rfl hok hz
    obtain ⟨s, h1, h2⟩ := sub_pick hS
    obtain ⟨out, h3⟩ := treeR_ok hokS hlen hzS hmS
    refine ⟨s, h1, ?_, out, by rw [h2]; exact h3⟩
    rw [h2]
    rcases hmS.small hokS hzS with h | h <;> omega
/-- Both ends of an edge get one label: the lesser one. -/
def mergeH (h : List Nat) (p : Nat × Nat) : List Nat := h.map fun v => if v = max (h.getD p.1 0) (h.getD p.2 0) then min (h.getD p.1 0) (h.getD p.2 0) else v
def headsR (n : Nat) (L : List (Nat × Nat)) : List Nat := L.foldl mergeH (List.range n)
def hf (h : List Nat) : Nat → Nat := fun v => h.getD v 0
theorem headsR_snoc (n : Nat) (L : List (Nat × Nat)) (p : Nat × Nat) : headsR n (L ++ [p]) = mergeH (headsR n L) p := by simp [headsR]
theorem hf_merge {h : List Nat} {p : Nat × Nat} {v : Nat} (hv : v < h.length) : hf (mergeH h p) v = if hf h v = max (hf h p.1) (hf h p.2) then min (hf h p.1) (hf h p.2) else hf h v := by
  simp only [hf, mergeH, List.getD_eq_getElem?_getD, List.getElem?_map, List.getElem?_eq_getElem hv, Option.map_some, Option.getD_some]
structure Lab (n : Nat) (L : List (Nat × Nat)) (h : List Nat) : Prop where
  len : h.length = n
  lt : ∀ v, v < n → hf h v < n
  one : ∀ p ∈ L, hf h p.1 = hf h p.2
  cl : ∀ P, Cl L P → ∀ v, v < n → P (hf h v) = P v
theorem lab_nil (n : Nat) : Lab n [] (List.range n) := by
  have : ∀ v, v < n → hf (List.range n) v = v := fun v hv => by simp [hf, List.getD_eq_getElem?_getD, hv]
  exact ⟨by simp, fun v hv => by rw [this v hv]; exact hv, fun _ h => (by cases h), fun P _ v hv => by rw [this v hv]⟩
theorem Lab.snoc {n : Nat} {L : List (Nat × Nat)} {h : List Nat} {p : Nat × Nat} (k : Lab n L h) (hL : ∀ q ∈ L, q.1 < n ∧ q.2 < n) (h1 : p.1 < n) (h2 : p.2 < n) : Lab n (L ++ [p]) (mergeH h p) := by
  have l1 := k.lt _ h1
  have l2 := k.lt _ h2
  refine ⟨by simp [mergeH, k.len], fun v hv => ?_, fun q hq => ?_, fun P hP v hv => ?_⟩
  · rw [hf_merge (by rw [k.len]; exact hv)]
    split
    · omega
    · exact k.lt v hv
  · rcases List.mem_append.1 hq with hq | hq
    · have b := hL q hq
      rw [hf_merge (by rw [k.len]; exact b.1), hf_merge (by rw [k.len]; exact b.2), k.one q hq]
    · obtain rfl : q = p := by simpa using hq
      rw [hf_merge (by rw [k.len]; exact h1), hf_merge (by rw [k.len]; exact h2)]
      split <;> split <;> omega
  · have hcl : Cl L P := fun q hq => hP q (List.mem_append.2 (.inl hq))
    have e0 := k.cl P hcl v hv
    have e1 := k.cl P hcl _ h1
    have e2 := k.cl P hcl _ h2
    have e3 : P p.1 = P p.2 := hP p (by simp)
    rw [hf_merge (by rw [k.len]; exact hv)]
    split
    · rename_i e'
      rw [← e0, e']
      rcases Nat.le_total (hf h p.1) (hf h p.2) with hle | hle
      · rw [Nat.min_eq_left hle, Nat.max_eq_right hle, e1, e2, e3]
      · rw [Nat.min_eq_right hle, Nat.max_eq_left hle, e1, e2, e3]
    · exact e0
theorem lab_heads {n : Nat} {L : List (Nat × Nat)} (h : ∀ p ∈ L, p.1 < n ∧ p.2 < n) : ∀ k, k ≤ L.length → Lab n (L.take k) (headsR n (L.take k)) := by
  intro k
  induction k with
  | zero => intro _; exact lab_nil n
  | succ k ih =>
    intro hk
    have h1 := h L[k] (List.getElem_mem (by omega))
    rw [List.take_succ_eq_append_getElem (by omega), headsR_snoc]
    exact (ih (by omega)).snoc (fun q hq => h q (List.mem_of_mem_take hq)) h1.1 h1.2
theorem lab_all {n : Nat} {L : List (Nat × Nat)} (h : ∀ p ∈ L, p.1 < n ∧ p.2 < n) : Lab n L (headsR n L) := by
  have := lab_heads h L.length (Nat.le_refl _)
  rwa [List.take_length] at this
def sumN : Nat → (Nat → Int) → Int
  | 0, _ => 0
  | n + 1, g => sumN n g + g n
theorem sumN_succ (n : Nat) (g : Nat → Int) : sumN (n + 1) g = sumN n g + g n := rfl
theorem sumN_add (f : Nat → Int) (j : Nat) (c : Int) : ∀ {m : Nat}, j < m → sumN m (fun k => f k + if j = k then c else 0) = sumN m f + c
  | m + 1, h => by
    rw [sumN_succ, sumN_succ]
    by_cases e : j = m
    · subst e
      have : ∀ m, m ≤ j → sumN m (fun k => f k + if j = k then c else 0) = sumN m f := by
        intro m
        induction m with
        | zero => intro _; rfl
        | succ m ih => intro hm; rw [sumN_succ, sumN_succ, ih (by omega), if_neg (by omega)]; omega
      rw [this j (Nat.le_refl _), if_pos rfl]; omega
    · rw [sumN_add f j c (by omega), if_neg e]; omega
theorem sumN_zero (m : Nat) : sumN m (fun _ => 0) = 0 := by
  induction m with
  | zero => rfl
  | succ m ih => unfold sumN; rw [ih]; rfl
theorem sumN_congr {f g : Nat → Int} (h : ∀ k, f k = g k) (m : Nat) : sumN m f = sumN m g := by rw [funext h]
theorem sum_by {x : Nat → Int} {P : Nat → Bool} {h : Nat → Nat} {m : Nat} : ∀ {n : Nat}, (∀ v, v < n → h v < m) → (∀ v, v < n → P (h v) = P v) → sumP n x P = sumN m fun k => if P k then sumP n x (fun v => decide (h v = k)) else 0
  | 0, _, _ => by
    rw [sumN_congr (g := fun _ => 0) (fun k => by split <;> rfl), sumN_zero]; rfl
  | n + 1, h1, h2 => by
    have ih := sum_by (x := x) (P := P) (h := h) (m := m) (n := n) (fun v hv => h1 v (by omega)) (fun v hv => h2 v (by omega))
    rw [sumN_congr (g := fun k => (if P k then sumP n x (fun v => decide (h v = k)) else 0) + if h n = k then (if P n then x n else 0) else 0) (fun k => ?_), sumN_add _ _ _ (h1 n (by omega)), ← ih]
    · rfl
    · have hs : sumP (n + 1) x (fun v => decide (h v = k)) = sumP n x (fun v => decide (h v = k)) + (if decide (h n = k) = true then x n else 0) := rfl
      rw [hs]
      by_cases e : h n = k
      · subst e
        rw [if_pos rfl, h2 n (by omega)]
        cases P n <;> simp
      · rw [if_neg e]
        have : decide (h n = k) = false := decide_eq_false e
        rw [this]
        cases P k <;> simp
theorem even_iff {n : Nat} {L : List (Nat × Nat)} {h : List Nat} {x : Nat → Int} (k : Lab n L h) : (∀ j, sumP n x (fun v => decide (hf h v = j)) = 0) ↔ Zr n L x := by
  constructor
  · intro h0 P hP
    rw [sum_by (m := n) k.lt (k.cl P hP), sumN_congr (g := fun _ => 0) (fun j => by rw [h0 j]; split <;> rfl), sumN_zero]
  · intro hz j
    exact hz _ fun p hp => by rw [k.one p hp]
end Go.Proofs.YtihonljdanjfmaaDoor.Gr
namespace Go.Proofs.YtihonljdanjfmaaDoor.Gr
open Go.Proofs.YtihonljdanjfmaaDoor.Sw (Pay)
def Forest (L : List (Nat × Nat)) : Prop := ∀ e ∈ L, ∃ P, Cl (L.erase e) P ∧ P e.1 ≠ P e.2
structure Side (L : List (Nat × Nat)) (e : Nat × Nat) (i o : Nat) (Q : Nat → Bool) : Prop where
  cl : Cl (L.erase e) Q
  inn : Q i = true
  out : Q o = false
theorem sumP_split (n : Nat) (x : Nat → Int) (P Q : Nat → Bool) : sumP n x P = sumP n x (fun v => P v && Q v) + sumP n x (fun v => P v && !Q v) := by
  induction n with
  | zero => rfl
  | succ n ih =>
    unfold sumP
    rw [ih]
    dsimp only
    by_cases hP : P n = true <;> by_cases hQ : Q n = true <;> simp [hP, hQ] <;> omega
theorem sumP_not (n : Nat) (x : Nat → Int) (P : Nat → Bool) : sumP n x (fun v => !P v) = sumP n x (fun _ => true) - sumP n x P := by
  induction n with
  | zero => rfl
  | succ n ih =>
    unfold sumP
    rw [ih]
    dsimp only
    by_cases hP : P n = true <;> simp [hP] <;> omega
theorem cl_of_erase {L : List (Nat × Nat)} {e : Nat × Nat} {Q : Nat → Bool} (hn : L.Nodup) (h : Cl (L.erase e) Q) (he : e ∈ L → Q e.1 = Q e.2) : Cl L Q := fun p hp => by
  by_cases hpe : p = e
  · subst hpe; exact he hp
  · exact h p ((hn.mem_erase_iff).2 ⟨hpe, hp⟩)
def Ends (e : Nat × Nat) (i o : Nat) : Prop := (e.1 = i ∧ e.2 = o) ∨ (e.1 = o ∧ e.2 = i)
theorem Ends.swap {e : Nat × Nat} {i o : Nat} (h : Ends e i o) : Ends e o i := h.elim (fun h => .inr h) (fun h => .inl h)
theorem side_sum {n : Nat} {L : List (Nat × Nat)} {x : Nat → Int} (hn : L.Nodup) (hz : Zr n L x) {e : Nat × Nat} {i o : Nat} (he : Ends e i o) {Q R : Nat → Bool} (h : Side L e i o Q) (k : Side L e i o R) : sumP n x Q = sumP n x R := by
  have z1 : sumP n x (fun v => Q v && !R v) = 0 := hz _ (cl_of_erase (e := e) hn (fun p hp => by show (Q p.1 && !R p.1) = _; rw [h.cl p hp, k.cl p hp]) fun _ => by
    rcases he with ⟨a, b⟩ | ⟨a, b⟩ <;> simp [a, b, h.inn, h.out, k.inn, k.out])
  have z2 : sumP n x (fun v => R v && !Q v) = 0 := hz _ (cl_of_erase (e := e) hn (fun p hp => by show (R p.1 && !Q p.1) = _; rw [h.cl p hp, k.cl p hp]) fun _ => by
    rcases he with ⟨a, b⟩ | ⟨a, b⟩ <;> simp [a, b, h.inn, h.out, k.inn, k.out])
  have s1 := sumP_split n x Q R
  have s2 := sumP_split n x R Q
  have e3 : sumP n x (fun v => Q v && R v) = sumP n x (fun v => R v && Q v) := sumP_congr (fun _ _ => rfl) (fun v _ => Bool.and_comm _ _)
  omega
theorem Side.swap {L : List (Nat × Nat)} {e : Nat × Nat} {i o : Nat} {Q : Nat → Bool} (h : Side L e i o Q) : Side L e o i (fun v => !Q v) := ⟨fun p hp => by show (!Q p.1) = _; rw [h.cl p hp], by simp [h.out], by simp [h.inn]⟩
theorem side_of {L : List (Nat × Nat)} (hf : Forest L) {e : Nat × Nat} (he : e ∈ L) {i o : Nat} (hio : Ends e i o) : ∃ Q, Side L e i o Q := by
  obtain ⟨P, h1, h2⟩ := hf e he
  have hne : P i ≠ P o := by rcases hio with ⟨a, b⟩ | ⟨a, b⟩ <;> rw [a, b] at h2 <;> first | exact h2 | exact h2.symm
  cases hi : P i with
  | true => exact ⟨P, h1, hi, by rw [hi] at hne; simpa using hne.symm⟩
  | false => exact ⟨fun v => !P v, fun p hp => by show (!P p.1) = _; rw [h1 p hp], by simp [hi], by rw [hi] at hne; simpa using hne.symm⟩
/-- What an edge carries to its second end. -/
noncomputable def amt (n : Nat) (x : Nat → Int) (L : List (Nat × Nat)) (e : Nat × Nat) : Int := @dite _ (∃ Q, Side L e e.2 e.1 Q) (Classical.propDecidable _) (fun h => sumP n x h.choose) fun _ => 0
theorem amt_side {n : Nat} {L : List (Nat × Nat)} {x : Nat → Int} (hn : L.Nodup) (hz : Zr n L x) {e : Nat × Nat} {Q : Nat → Bool} (h : Side L e e.2 e.1 Q) : amt n x L e = sumP n x Q := by
  have hex : ∃ Q, Side L e e.2 e.1 Q := ⟨Q, h⟩
  unfold amt
  rw [dif_pos hex]
  exact side_sum hn hz (.inr ⟨rfl, rfl⟩) hex.choose_spec h
theorem amt_swap {n : Nat} {L : List (Nat × Nat)} {x : Nat → Int} (hn : L.Nodup) (hz : Zr n L x) {e : Nat × Nat} {Q : Nat → Bool} (h : Side L e e.1 e.2 Q) : amt n x L e = - sumP n x Q := by
  rw [amt_side hn hz h.swap, sumP_not, hz (fun _ => true) (fun _ _ => rfl)]; omega
/-- Who pays whom over an edge. -/
noncomputable def payE (ids : List Int) (x : Nat → Int) (L : List (Nat × Nat)) (e : Nat × Nat) : Pay :=
  if amt ids.length x L e < 0 then ⟨ids.getD e.2 0, ids.getD e.1 0, - amt ids.length x L e⟩ else ⟨ids.getD e.1 0, ids.getD e.2 0, amt ids.length x L e⟩
theorem payE_side {ids : List Int} {L : List (Nat × Nat)} {x : Nat → Int} (hn : L.Nodup) (hz : Zr ids.length L x) {e : Nat × Nat} {i : Nat} (hi : inc i e = true) {Q : Nat → Bool} (h : Side L e i (oth e i) Q) (h0 : sumP ids.length x Q ≠ 0) : payE ids x L e = payX ids i (oth e i) (sumP ids.length x Q) := by
  unfold payE payX
  rcases inc_iff.1 hi with h1 | h1
  · have h2 : oth e i = e.2 := by unfold oth; omega
    rw [h2] at h ⊢
    subst h1
    rw [amt_swap hn hz h]
    by_cases hc : 0 < sumP ids.length x Q
    · rw [if_pos hc, if_pos (by omega), Int.neg_neg]
    · rw [if_neg hc, if_neg (by omega)]
  · have h2 : oth e i = e.1 := by unfold oth; omega
    rw [h2] at h ⊢
    subst h1
    rw [amt_side hn hz h]
    by_cases hc : 0 < sumP ids.length x Q
    · rw [if_pos hc, if_neg (by omega)]
    · rw [if_neg hc, if_pos (by omega)]
/-! What lies behind. -/
structure Good (n : Nat) (L : List (Nat × Nat)) (m a fr : Nat) : Prop where
  go : ∃ e ∈ L, Ends e a fr ∧ ∃ P, Side L e a fr P ∧ cnt n P ≤ m
end Go.Proofs.YtihonljdanjfmaaDoor.Gr
namespace Go.Proofs.YtihonljdanjfmaaDoor.Gr
open Go.Proofs.YtihonljdanjfmaaDoor.Sw (Pay)
def SortedP (l : List Pay) : Prop := l.Pairwise fun a b => payLt b a = false
theorem payLt_iff {a b : Pay} : payLt a b = true ↔ a.a < b.a ∨ (a.a = b.a ∧ (a.b < b.b ∨ (a.b = b.b ∧ a.p < b.p))) := by
  unfold payLt
  by_cases h1 : a.a = b.a
  · by_cases h2 : a.b = b.b
    · simp [h1, h2]
    · simp [h1, h2]
  · simp [h1]
theorem payLt_no {a b : Pay} : payLt a b = false ↔ b.a < a.a ∨ (a.a = b.a ∧ (b.b < a.b ∨ (a.b = b.b ∧ b.p ≤ a.p))) := by
  rw [← Bool.not_eq_true, payLt_iff]
  omega
theorem payLt_anti {a b : Pay} (h : payLt a b = false) (k : payLt b a = false) : a = b := by
  rw [payLt_no] at h k
  obtain ⟨a1, a2, a3⟩ := a
  obtain ⟨b1, b2, b3⟩ := b
  simp only [Pay.mk.injEq] at *
  omega
theorem sorted_uniq : ∀ {l l' : List Pay}, SortedP l → SortedP l' → l.Perm l' → l = l'
  | [], l', _, _, p => p.nil_eq
  | a :: t, l', h, h', p => by
    obtain ⟨h1, h2⟩ := List.pairwise_cons.1 h
    match l', p with
    | [], p => exact absurd p.length_eq (by simp)
    | b :: t', p =>
      obtain ⟨h3, h4⟩ := List.pairwise_cons.1 h'
      have hab : a = b := by
        have ha : a ∈ b :: t' := p.mem_iff.1 (by simp)
        have hb : b ∈ a :: t := p.mem_iff.2 (by simp)
        rcases List.mem_cons.1 ha with e | ha
        · exact e
        · rcases List.mem_cons.1 hb with e | hb
          · exact e.symm
          · exact payLt_anti (h3 a ha |> fun q => by simpa using q) (by simpa using h1 b hb) |>.symm ▸ rfl
      subst hab
      rw [sorted_uniq h2 h4 ((List.perm_cons a).1 p)]
theorem addP_perm (l : List Pay) (x : Pay) : (addP l x).Perm (x :: l) := by
  unfold addP
  rw [List.append_assoc]
  refine (List.perm_append_comm_assoc _ _ _).trans ?_
  simp
theorem takeWhile_split (q : Pay → Bool) : ∀ l : List Pay, l.take (l.takeWhile q).length = l.takeWhile q ∧ l.drop (l.takeWhile q).length = l.dropWhile q
  | [] => ⟨rfl, rfl⟩
  | a :: t => by
    have ih := takeWhile_split q t
    cases h : q a with
    | true => simp [h, ih.1, ih.2]
    | false => simp [h]
theorem dropWhile_head {q : Pay → Bool} : ∀ {l : List Pay} {b : Pay} {t : List Pay}, l.dropWhile q = b :: t → q b = false
  | [], _, _, h => by cases h
  | a :: l, b, t, h => by
    cases ha : q a with
    | true => rw [List.dropWhile_cons_of_pos ha] at h; exact dropWhile_head h
    | false => rw [List.dropWhile_cons_of_neg (by simp [ha])] at h; injection h with h1 h2; rw [← h1]; exact ha
theorem addP_sorted {l : List Pay} {x : Pay} (h : SortedP l) : SortedP (addP l x) := by
  unfold addP atP
  obtain ⟨e1, e2⟩ := takeWhile_split (fun y => payLt y x) l
  rw [e1, e2, List.append_assoc]
  have hl : l = l.takeWhile (fun y => payLt y x) ++ l.dropWhile (fun y => payLt y x) := (List.takeWhile_append_dropWhile).symm
  have h' : SortedP (l.takeWhile (fun y => payLt y x) ++ l.dropWhile (fun y => payLt y x)) := by rw [← hl]; exact h
  obtain ⟨k1, k2, k3⟩ := List.pairwise_append.1 h'
  have hx : ∀ b ∈ l.dropWhile (fun y => payLt y x), payLt b x = false := fun b hb => by
    cases hd : l.dropWhile (fun y => payLt y x) with
    | nil => rw [hd] at hb; cases hb
    | cons c t =>
      have hc := dropWhile_head hd
      rw [hd] at hb k2
      rcases List.mem_cons.1 hb with rfl | hb
      · exact hc
      · have := (List.pairwise_cons.1 k2).1 b hb
        rw [payLt_no] at hc this ⊢
        omega
  refine List.pairwise_append.2 ⟨k1, List.pairwise_cons.2 ⟨hx, k2⟩, fun a ha b hb => ?_⟩
  have ha' : payLt a x = true := by
    have := List.all_takeWhile (p := fun y => payLt y x) (l := l)
    exact List.all_eq_true.1 this a ha
  rcases List.mem_cons.1 hb with rfl | hb
  · rw [payLt_iff] at ha'
    rw [payLt_no]; omega
  · exact k3 a ha b hb
theorem Forest.sub {L S : List (Nat × Nat)} (h : Forest L) (hL : L.Nodup) (hn : S.Nodup) (hs : ∀ p ∈ S, p ∈ L) : Forest S := fun e he => by
  obtain ⟨P, h1, h2⟩ := h e (hs e he)
  exact ⟨P, fun p hp => h1 p (by
    have := (hn.mem_erase_iff).1 hp
    exact (hL.mem_erase_iff).2 ⟨this.1, hs p this.2⟩), h2⟩
theorem forest_back {n : Nat} {L : List (Nat × Nat)} (hok : Ok n L) {i : Nat} {e : Nat × Nat} (hl : Leaf L i e) (h : Forest (L.erase e)) : Forest L := fun e' he' => by
  obtain ⟨he, hi, hu⟩ := hl
  obtain ⟨_, hne, hin, _⟩ := oth_spec hok he hi
  have noi : ∀ p ∈ L, p ≠ e → p.1 ≠ i ∧ p.2 ≠ i := fun p hp hpe => by
    have : inc i p ≠ true := fun h => hpe (hu p hp h)
    exact ⟨fun h => this (by simp [inc, h]), fun h => this (by simp [inc, h])⟩
  by_cases hee : e' = e
  · subst hee
    refine ⟨flip (fun _ => false) i true, fun p hp => ?_, ?_⟩
    · have hp' := (hok.nd.mem_erase_iff).1 hp
      obtain ⟨a, b⟩ := noi p hp'.2 hp'.1
      unfold flip; rw [if_neg a, if_neg b]
    · have := (hok.lt e' he).2.2
      rcases inc_iff.1 hi with r | r
      · unfold flip; rw [if_pos r, if_neg (fun h => this (r.trans h.symm))]; simp
      · unfold flip; rw [if_pos r, if_neg (fun h => this (h.trans r.symm))]; simp
  · obtain ⟨P, h1, h2⟩ := h e' ((hok.nd.mem_erase_iff).2 ⟨hee, he'⟩)
    have hl' : Leaf (L.erase e') i e := ⟨(hok.nd.mem_erase_iff).2 ⟨fun h => hee h.symm, he⟩, hi, fun p hp h => hu p (List.mem_of_mem_erase hp) h⟩
    refine ⟨_, cl_flip (hok.erase e') hl' (P := P) (by rw [erase_erase]; exact h1), ?_⟩
    obtain ⟨a, b⟩ := noi e' he' hee
    unfold flip; rw [if_neg a, if_neg b]; exact h2
theorem Forest.leaf {n : Nat} {L : List (Nat × Nat)} (hok : Ok n L) (hf : Forest L) (hne : L ≠ []) : ∃ i e, i < n ∧ Leaf L i e := by
  obtain ⟨e, he⟩ := List.exists_mem_of_ne_nil L hne
  obtain ⟨P, h1, h2⟩ := hf e he
  exact leaf_of_bridges hok hf _ e P he h1 h2 rfl
theorem treeGo_forest {ids : List Int} : ∀ {m : Nat} {L : List (Nat × Nat)} {left : List Int} {out : List Pay} {r : List Int × List Pay}, L.length = m → Ok ids.length L → treeGo ids m L left out = some r → Forest L
  | 0, L, _, _, _, hl, _, _ => fun e he => by rw [List.eq_nil_of_length_eq_zero hl] at he; cases he
  | m + 1, L, left, out, r, hl, hok, h => by
    unfold treeGo at h
    split at h
    · cases h
    · rename_i i e hf
      split at h
      · cases h
      · obtain ⟨hi, hle⟩ := findLeaf_some hf
        exact forest_back hok hle (treeGo_forest (by rw [List.length_erase_of_mem hle.1]; omega) (hok.erase e) h)
/-- What is known on the way. -/
structure TI (ids : List Int) (x : Nat → Int) (L0 L : List (Nat × Nat)) (left : List Int) : Prop where
  ok : Ok ids.length L
  sub : ∀ p ∈ L, p ∈ L0
  len : left.length = ids.length
  zr : Zr ids.length L (lf left)
  inv : ∀ e ∈ L, ∀ Q, Cl (L0.erase e) Q → sumP ids.length (lf left) Q = sumP ids.length x Q
theorem TI.step {ids : List Int} {x : Nat → Int} {L0 L : List (Nat × Nat)} {left : List Int} (hn : L0.Nodup) (h : TI ids x L0 L left) {i : Nat} {e : Nat × Nat} (hl : Leaf L i e) : TI ids x L0 (L.erase e) (mvL left i (oth e i)) := by
  obtain ⟨hon, hne, hin, _⟩ := oth_spec h.ok hl.1 hl.2.1
  have hz := step_zr h.ok h.zr hl
  refine ⟨h.ok.erase e, fun p hp => h.sub p (List.mem_of_mem_erase hp), by rw [mvL_len, h.len], by rw [lf_mvL (by rw [h.len]; exact hin) (by rw [h.len]; exact hon)]; exact hz, fun e' he' Q hQ => ?_⟩
  have he2 := (h.ok.nd.mem_erase_iff).1 he'
  have hQe : Q i = Q (oth e i) := cl_inc (L := L) hl.2.1 (hQ e ((hn.mem_erase_iff).2 ⟨fun h => he2.1 h.symm, h.sub e hl.1⟩))
  rw [lf_mvL (by rw [h.len]; exact hin) (by rw [h.len]; exact hon), sumP_mv hin hon hne hQe]
  exact h.inv e' he2.2 Q hQ
theorem TI.left {ids : List Int} {x : Nat → Int} {L0 L : List (Nat × Nat)} {left : List Int} (hn : L0.Nodup) (h : TI ids x L0 L left) {i : Nat} {e : Nat × Nat} (hl : Leaf L i e) {Q : Nat → Bool} (hQ : Side L0 e i (oth e i) Q) : left.getD i 0 = sumP ids.length x Q := by
  obtain ⟨hon, hne, hin, _⟩ := oth_spec h.ok hl.1 hl.2.1
  have h1 := h.zr (flip Q i false) fun p hp => by
    by_cases hpe : p = e
    · subst hpe
      rcases inc_iff.1 hl.2.1 with r | r
      · have : p.2 = oth p i := by unfold oth; omega
        unfold flip; rw [if_pos r, this, if_neg (fun h => hne h.symm), hQ.out]
      · have : p.1 = oth p i := by unfold oth; omega
        unfold flip; rw [if_pos r, this, if_neg (fun h => hne h.symm), hQ.out]
    · have : inc i p ≠ true := fun h => hpe (hl.2.2 p hp h)
      unfold flip
      rw [if_neg (fun h => this (by simp [inc, h])), if_neg (fun h => this (by simp [inc, h]))]
      exact hQ.cl p ((hn.mem_erase_iff).2 ⟨hpe, h.sub p hp⟩)
  rw [sumP_flip hin, h.inv e hl.1 Q hQ.cl] at h1
  simp [hQ.inn, lf] at h1 ⊢
  omega
theorem inc_ends {e : Nat × Nat} {i : Nat} (h : inc i e = true) : Ends e i (oth e i) := by
  rcases inc_iff.1 h with r | r
  · exact .inl ⟨r, by unfold oth; omega⟩
  · exact .inr ⟨by unfold oth; omega, r⟩
theorem amt_zero {n : Nat} {L : List (Nat × Nat)} {x : Nat → Int} (hn : L.Nodup) (hz : Zr n L x) {e : Nat × Nat} {i : Nat} (hi : inc i e = true) {Q : Nat → Bool} (h : Side L e i (oth e i) Q) : amt n x L e = 0 ↔ sumP n x Q = 0 := by
  rcases inc_iff.1 hi with h1 | h1
  · have h2 : oth e i = e.2 := by unfold oth; omega
    rw [h2] at h; subst h1
    rw [amt_swap hn hz h]; omega
  · have h2 : oth e i = e.1 := by unfold oth; omega
    rw [h2] at h; subst h1
    rw [amt_side hn hz h]
theorem treeGo_out {ids : List Int} {x : Nat → Int} {L0 : List (Nat × Nat)} (hn : L0.Nodup) (hf : Forest L0) (hz : Zr ids.length L0 x) : ∀ {m : Nat} {L : List (Nat × Nat)} {left : List Int} {out : List Pay} {r : List Int × List Pay}, L.length = m → TI ids x L0 L left → SortedP out → treeGo ids m L left out = some r →
    (∀ e ∈ L, amt ids.length x L0 e ≠ 0) ∧ SortedP r.2 ∧ r.2.Perm (out ++ L.map (payE ids x L0))
  | 0, L, left, out, r, hl, h, hs, hr => by
    have : L = [] := List.eq_nil_of_length_eq_zero hl
    subst this
    simp [treeGo] at hr
    subst hr
    exact ⟨fun _ h => (by cases h), hs, by simp⟩
  | m + 1, L, left, out, r, hl, h, hs, hr => by
    unfold treeGo at hr
    split at hr
    · cases hr
    · rename_i i e hfl
      split at hr
      · cases hr
      · rename_i hne
        obtain ⟨hi, hle⟩ := findLeaf_some hfl
        obtain ⟨Q, hQ⟩ := side_of hf (h.sub e hle.1) (inc_ends hle.2.1)
        have hlv := h.left hn hle hQ
        obtain ⟨k1, k2, k3⟩ := treeGo_out hn hf hz (by rw [List.length_erase_of_mem hle.1]; omega) (h.step hn hle) (addP_sorted hs) hr
        have hx : sumP ids.length x Q ≠ 0 := by rw [← hlv]; exact hne
        have hpe := payE_side hn hz hle.2.1 hQ hx
        refine ⟨fun e' he' => ?_, k2, ?_⟩
        · by_cases hee : e' = e
          · subst hee; exact fun h => hx ((amt_zero hn hz hle.2.1 hQ).1 h)
          · exact k1 e' ((h.ok.nd.mem_erase_iff).2 ⟨hee, he'⟩)
        · refine k3.trans ?_
          rw [hlv, ← hpe]
          refine ((addP_perm out _).append_right _).trans ?_
          have h1 : (L.map (payE ids x L0)).Perm (payE ids x L0 e :: (L.erase e).map (payE ids x L0)) := (List.perm_cons_erase hle.1).map _
          refine List.Perm.trans ?_ (h1.symm.append_left out)
          rw [List.cons_append]
          exact List.perm_middle.symm
theorem treeGo_some {ids : List Int} {x : Nat → Int} {L0 : List (Nat × Nat)} (hn : L0.Nodup) (hf : Forest L0) (hz : Zr ids.length L0 x) : ∀ {m : Nat} {L : List (Nat × Nat)} {left : List Int} {out : List Pay}, L.length = m → TI ids x L0 L left → (∀ e ∈ L, amt ids.length x L0 e ≠ 0) → ∃ r, treeGo ids m L left out = some r ∧ ∀ v, v < ids.length → lf r.1 v = 0
  | 0, L, left, out, hl, h, _ => by
    have : L = [] := List.eq_nil_of_length_eq_zero hl
    subst this
    exact ⟨(left, out), rfl, zr_nil h.zr⟩
  | m + 1, L, left, out, hl, h, hm => by
    obtain ⟨i0, e0, hi0, hl0⟩ := (hf.sub hn h.ok.nd h.sub).leaf h.ok (by intro h; rw [h] at hl; simp at hl)
    obtain ⟨⟨i, e⟩, hfl⟩ := findLeaf_of h.ok.nd hi0 hl0
    obtain ⟨hi, hle⟩ := findLeaf_some hfl
    obtain ⟨Q, hQ⟩ := side_of hf (h.sub e hle.1) (inc_ends hle.2.1)
    have hlv := h.left hn hle hQ
    have hx : left.getD i 0 ≠ 0 := by rw [hlv]; exact fun h => hm e hle.1 ((amt_zero hn hz hle.2.1 hQ).2 h)
    unfold treeGo
    rw [hfl]
    dsimp only
    rw [if_neg hx]
    exact treeGo_some hn hf hz (by rw [List.length_erase_of_mem hle.1]; omega) (h.step hn hle) fun e' he' => hm e' (List.mem_of_mem_erase he')
/-- What the reference's tree hands back. -/
theorem treeR_iff {ids : List Int} {L : List (Nat × Nat)} {owed : List Int} {out : List Pay} (hok : Ok ids.length L) (hlen : owed.length = ids.length) :
    treeR ids L owed = some out ↔ Forest L ∧ Zr ids.length L (lf owed) ∧ (∀ e ∈ L, amt ids.length (lf owed) L e ≠ 0) ∧ SortedP out ∧ out.Perm (L.map (payE ids (lf owed) L)) := by
  have ti : Zr ids.length L (lf owed) → TI ids (lf owed) L L owed := fun hz => ⟨hok, fun _ h => h, hlen, hz, fun _ _ _ _ => rfl⟩
  constructor
  · intro h
    have hz := treeR_zr hok hlen h
    unfold treeR at h
    split at h
    · rename_i r hr
      split at h
      · have hf := treeGo_forest rfl hok hr
        obtain ⟨k1, k2, k3⟩ := treeGo_out hok.nd hf hz rfl (ti hz) List.Pairwise.nil hr
        injection h with h
        subst h
        exact ⟨hf, hz, k1, k2, by simpa using k3⟩
      · cases h
    · cases h
  · rintro ⟨hf, hz, hm, hs, hp⟩
    obtain ⟨r, hr, h0⟩ := treeGo_some (out := []) hok.nd hf hz rfl (ti hz) hm
    obtain ⟨_, k2, k3⟩ := treeGo_out hok.nd hf hz rfl (ti hz) List.Pairwise.nil hr
    unfold treeR
    rw [hr]
    dsimp only
    rw [if_pos (all_zero.2 (by rw [treeGo_len hr, hlen]; exact h0))]
    exact congrArg some (sorted_uniq k2 hs ((by simpa using k3 : r.2.Perm _).trans hp.symm))
end Go.Proofs.YtihonljdanjfmaaDoor.Gr
namespace Go.Proofs.YtihonljdanjfmaaDoor.Sw
open Go.RowKit Go Go.Shelf Go.Proofs
open Go.Proofs.YtihonljdanjfmaaDoor.Gr (mergeH headsR hf)
/-- An index as a cell; a pair of them. -/
def nC (v : Nat) : List AV := [.val (.int .i64 (v : Int))]
instance : OneF nC := ⟨fun _ => inferInstanceAs (OneL [_])⟩
instance : LenF nC 1 := ⟨fun _ => rfl⟩
instance zeroN : ZeroF Tryd.prog 3 nC 0 := zeroF (z := .int .i64 0) (n := 1) (b := 8) (zs := [.int .i64 0]) (by kernel_rfl) rfl (fun _ => ⟨rfl, trivial⟩)
def pnC (p : Nat × Nat) : List AV := [.val (.int .i64 (p.1 : Int)), .val (.int .i64 (p.2 : Int))]
instance {p : Nat × Nat} : OneL (pnC p) := inferInstanceAs (OneL [_, _])
instance : OneF pnC := ⟨fun _ => inferInstanceAs (OneL [_, _])⟩
instance : LenF pnC 2 := ⟨fun _ => rfl⟩
theorem mergeH_step {h : List Nat} {a b : Nat} {m : Nat} (hm : m < h.length) : ((h.take m).map (fun v => if v = max a b then min a b else v) ++ h.drop m).set m (if h[m] = max a b then min a b else h[m]) = (h.take (m + 1)).map (fun v => if v = max a b then min a b else v) ++ h.drop (m + 1) := by
  rw [List.set_append_right _ _ (by simp; omega), List.length_map, List.length_take, show m - min m h.length = 0 by omega, List.drop_eq_getElem_cons hm, List.set_cons_zero, List.take_succ_eq_append_getElem hm, List.map_append]
  simp
theorem mergeH_get {h : List Nat} {a b : Nat} {m : Nat} (hm : m < h.length) : ((h.take m).map (fun v => if v = max a b then min a b else v) ++ h.drop m)[m]? = some h[m] := by
  rw [List.getElem?_append_right (by simp; omega), List.length_map, List.length_take, show m - min m h.length = 0 by omega, List.getElem?_drop]
  simp [List.getElem?_eq_getElem hm]
theorem headsR_take {n : Nat} {L : List (Nat × Nat)} {k : Nat} (hk : k < L.length) : headsR n (L.take (k + 1)) = mergeH (headsR n (L.take k)) L[k] := by
  rw [List.take_succ_eq_append_getElem hk]; exact Gr.headsR_snoc _ _ _
theorem headsR_len (n : Nat) : ∀ L, (headsR n L).length = n := by
  have : ∀ (L : List (Nat × Nat)) (h : List Nat), (L.foldl mergeH h).length = h.length := by
    intro L
    induction L with
    | nil => intro h; rfl
    | cons p L ih => intro h; rw [List.foldl_cons, ih]; simp [mergeH]
  intro L
  unfold headsR
  rw [this]; simp
theorem nat_max (a b : Nat) : (max (a : Int) (b : Int)) = ((max a b : Nat) : Int) := by omega
theorem nat_min (a b : Nat) : (min (a : Int) (b : Int)) = ((min a b : Nat) : Int) := by omega
set_option maxRecDepth 20000 in
set_option maxHeartbeats 4000000 in
theorem groups_con (ph ow : Value) (f : Flo) (L : List (Nat × Nat)) (hn : f.ids.length ≤ 1000) (hl : L.length ≤ 1000) (hL : ∀ p ∈ L, p.1 < f.ids.length ∧ p.2 < f.ids.length) : Con Tryd.prog 89 [.val ph, .sl 2 pnC L] [hsB ph f ow] (TokW 3 1 nC (headsR f.ids.length L) [hsB ph f ow]) := by
  refine con_of Tryd.func89 rfl (enters_of Tryd.func89 (by kernel_rfl) rfl) rfl ?_; intro n w0 F0 G0
  (refine goSt ?_; (repeat (refine goAl ?_; intro p hp; refine goSt ?_)))
  (apply wl_make nC; exact inferInstance; exact inferInstance; exact inferInstance; exact inferInstance; exact rfl; exact rfl; exact rfl; (first | omega | (simp; omega)); exact rfl)
  intro v
  (refine goSt ?_; (repeat (refine goAl ?_; intro p hp; refine goSt ?_)))
  have hln : (List.replicate f.ids.length 0 : List Nat).length = f.ids.length := List.length_replicate
  refine W_loopJ (fun (i : Nat) => ⟨[(0, .val ph), (1, .sl 2 pnC L), (5, .val v), (20, .val (.int .i64 f.ids.length)), (21, .val (.int .i64 i))], [.row v 3 1 nC (List.range i ++ List.replicate (f.ids.length - i) 0), hsB ph f ow]⟩) (fun i => i ≤ f.ids.length) (fun i => f.ids.length - i) 0 (fun _ _ st => by rw [hln] at st; exact st_sub2 st goSubr goSubp) (Nat.zero_le _) ?_
  rintro i hi
  (refine goSt ?_; (repeat (refine goAl ?_; intro p hp; refine goSt ?_)))
  refine w_cond rfl (fun hlt => ?_) (fun hlt => ?_)
  · have hi' : i < f.ids.length := by simpa using hlt
    have hil : i < (List.range i ++ List.replicate (f.ids.length - i) 0).length := by simp; omega
    have hst0 : (List.range i ++ List.replicate (f.ids.length - i) 0).set i i = List.range (i + 1) ++ List.replicate (f.ids.length - (i + 1)) 0 := by
      rw [List.set_append_right _ _ (by simp), List.length_range, Nat.sub_self, show f.ids.length - i = (f.ids.length - (i + 1)) + 1 by omega, List.replicate_succ, List.set_cons_zero, List.range_succ]; simp
    (refine goSt ?_; (repeat (refine goAl ?_; intro p hp; refine goSt ?_)))
    rw [hst0]
    (refine ⟨i + 1, fun _ _ st => st_sub2 st ?_ ?_, ?_, ?_⟩; exact goSubr; exact goSubp)
    · omega
    · omega
  · have hii : i = f.ids.length := by simp at hlt; omega
    subst hii
    rw [Nat.sub_self, List.replicate_zero, List.append_nil]
    (refine goSt ?_; (repeat (refine goAl ?_; intro p hp; refine goSt ?_)))
    refine W_loopJ (fun (k : Nat) => ⟨[(0, .val ph), (5, .val v), (29, .sl 2 pnC L), (30, .val (.int .i64 L.length)), (31, .val (.int .i64 k))], [.row v 3 1 nC (headsR f.ids.length (L.take k)), hsB ph f ow]⟩) (fun k => k ≤ L.length) (fun k => L.length - k) 0 (fun _ _ st => st_sub2 st goSubr goSubp) (Nat.zero_le _) ?_
    rintro k hk
    (refine goSt ?_; (repeat (refine goAl ?_; intro p hp; refine goSt ?_)))
    refine w_cond rfl (fun hlt2 => ?_) (fun hlt2 => ?_)
    · have hk' : k < L.length := by simpa using hlt2
      obtain ⟨ha, hb⟩ := hL _ (List.getElem_mem hk')
      have hhl := headsR_len f.ids.length (L.take k)
      have hmg : mergeH (headsR f.ids.length (L.take k)) L[k] = headsR f.ids.length (L.take (k + 1)) := (headsR_take hk').symm
      generalize headsR f.ids.length (L.take k) = h at hhl hmg ⊢
      have hq1 : h[L[k].1]? = some h[L[k].1] := List.getElem?_eq_getElem (by omega)
      have hq2 : h[L[k].2]? = some h[L[k].2] := List.getElem?_eq_getElem (by omega)
      have hg1 : hf h L[k].1 = h[L[k].1] := by simp [hf, List.getD_eq_getElem?_getD, hq1]
      have hg2 : hf h L[k].2 = h[L[k].2] := by simp [hf, List.getD_eq_getElem?_getD, hq2]
      have hmg2 : h.map (fun v => if v = max (hf h L[k].1) (hf h L[k].2) then min (hf h L[k].1) (hf h L[k].2) else v) = headsR f.ids.length (L.take (k + 1)) := hmg
      rw [hg1, hg2] at hmg2
      have hi1 : L[k].1 < h.length := by omega
      have hi2 : L[k].2 < h.length := by omega
      (refine goSt ?_; (repeat (refine goAl ?_; intro p hp; refine goSt ?_)))
      refine W_run 11 [35, 36, 37, 38, 39, 40, 41, 42, 43, 44, 9] [0, 1, 2, 3, 4, 5, 6, 7, 8, 9, 10] Cut.nil rfl goFlt mixedS (by kernel_rfl) rfl ?_
      refine rpv [] [] ?_
      refine rpv [] [] ?_
      refine rpv [1] [] ?_
      refine rpv [0, 2] [] ?_
      refine rpv [3] [] ?_
      refine rpv [] [] ?_
      refine rpv [] [] ?_
      refine rpv [6] [] ?_
      refine rpv [5, 7] [] ?_
      refine rpv [8] [] ?_
      refine rpv [4] [] ?_
      refine ⟨⟨by kernel_rfl, by kernel_rfl⟩, fun vs => ?_⟩
      apply WL_auto [9, 10]
      · exact goPk
      · exact goNrm
      · kernel_rfl
      · kernel_rfl
      (refine goSt ?_; (repeat (refine goAl ?_; intro p hp; refine goSt ?_)))
      generalize h[L[k].1] = a at hmg2 ⊢
      generalize h[L[k].2] = b at hmg2 ⊢
      (refine goSt ?_; (repeat (refine goAl ?_; intro p hp; refine goSt ?_)))
      refine W_loopJ (fun (m : Nat) => ⟨[(0, .val ph), (5, .val v), (29, .sl 2 pnC L), (30, .val (.int .i64 L.length)), (31, .val (.int .i64 k)), (9, .val (.int .i64 a)), (10, .val (.int .i64 b)), (46, .val (.int .i64 h.length)), (47, .val (.int .i64 m))], [.row v 3 1 nC ((h.take m).map (fun v => if v = max a b then min a b else v) ++ h.drop m), hsB ph f ow]⟩) (fun m => m ≤ h.length) (fun m => h.length - m) 0 (fun _ _ st => st_sub2 st goSubr goSubp) (Nat.zero_le _) ?_
      rintro m hm
      (refine goSt ?_; (repeat (refine goAl ?_; intro p hp; refine goSt ?_)))
      refine w_cond rfl (fun hlt3 => ?_) (fun hlt3 => ?_)
      · have hm' : m < h.length := by simpa using hlt3
        have hcl : m < ((h.take m).map (fun v => if v = max a b then min a b else v) ++ h.drop m).length := by simp; omega
        have hce : ((h.take m).map (fun v => if v = max a b then min a b else v) ++ h.drop m)[m] = h[m] := by
          have := mergeH_get (a := a) (b := b) hm'
          rw [List.getElem?_eq_getElem hcl] at this
          exact Option.some.inj this
        have hst := mergeH_step (a := a) (b := b) hm'
        (refine goSt ?_; (repeat (refine goAl ?_; intro p hp; refine goSt ?_)))
        rw [hce, nat_max]
        refine w_cond rfl (fun he => ?_) (fun he => ?_)
        · have he' : h[m] = max a b := by have := of_decide_eq_true he; omega
          rw [if_pos he'] at hst
          (refine goSt ?_; (repeat (refine goAl ?_; intro p hp; refine goSt ?_)))
          rw [nat_min]
          (refine goSt ?_; (repeat (refine goAl ?_; intro p hp; refine goSt ?_)))
          rw [hst]
          (refine ⟨m + 1, fun _ _ st => st_sub2 st ?_ ?_, ?_, ?_⟩; exact goSubr; exact goSubp)
          · omega
          · omega
        · have he' : h[m] ≠ max a b := fun e => by rw [e] at he; simp at he
          rw [if_neg he'] at hst
          have hst2 : ((h.take m).map (fun v => if v = max a b then min a b else v) ++ h.drop m) = (h.take (m + 1)).map (fun v => if v = max a b then min a b else v) ++ h.drop (m + 1) := by
            rw [← hst, ← hce, List.set_getElem_self]
          rw [hst2]
          (refine goSt ?_; (repeat (refine goAl ?_; intro p hp; refine goSt ?_)))
          (refine ⟨m + 1, fun _ _ st => st_sub2 st ?_ ?_, ?_, ?_⟩; exact goSubr; exact goSubp)
          · omega
          · omega
      · have hmm : m = h.length := by simp at hlt3; omega
        subst hmm
        rw [List.drop_length, List.append_nil, List.take_length, hmg2]
        (refine goSt ?_; (repeat (refine goAl ?_; intro p hp; refine goSt ?_)))
        (refine ⟨k + 1, fun _ _ st => st_sub2 st ?_ ?_, ?_, ?_⟩; exact goSubr; exact goSubp)
        · omega
        · omega
    · have hkk : k = L.length := by simp at hlt2; omega
      subst hkk
      rw [List.take_length]
      (refine goSt ?_; (repeat (refine goAl ?_; intro p hp; refine goSt ?_)))
      (apply resK; exact rfl; exact rfl; (apply Cut.cons; exact goRm; apply Cut.cons (h := hsB ph f ow); exact goRm; exact Cut.nil); exact ⟨_, rfl, rfl⟩)
end Go.Proofs.YtihonljdanjfmaaDoor.Sw
/- Elements of several cells of an own slice: reading, writing, their fields. -/
namespace Go.Proofs.YtihonljdanjfmaaDoor.Sw
open Go.RowKit Go
section
variable {P : Program} {rs : List (Nat × AV)} {hsR : List HA} {d : Option Nat} {ty : TypeId} {pos : String} {af : Array Edge} {g : Option (Nat × Bool)}
end
section
variable {c : Cx} {rs : List (Nat × AV)} {hs : List HA} {Q : Exit → S → Prop} {ops : Array Oper} {tl : List Oper} {d : Nat} {ty : TypeId} {pos : String} {af : Array Edge}
end
end Go.Proofs.YtihonljdanjfmaaDoor.Sw
/- What is owned may be lent as if it were frozen, for a call that only reads it. -/
namespace Go.Proofs.YtihonljdanjfmaaDoor.Sw
open Go.RowKit Go
/-- All these blocks frozen, too. -/
def gall (G : Nat → Option Obj) (F : List Nat) (w : World) : Nat → Option Obj := fun b => if b ∈ F then w.heap[b]? else G b
/-- With these things owned, a value reads so if they are taken for frozen. -/
structure Thaw (h : HA) (av av' : AV) : Prop where
  out : ∀ (G : Nat → Option Obj) (F : List Nat) (w : World), h.P G F w → Gle G (gall G F w) → ∀ v, av.P G v → av'.P (gall G F w) v
/-- Things that own no block. -/
structure Pers (hs : List HA) : Prop where
  out : ∀ G F w, hsP hs G F w → F = []
theorem Pers.nil : Pers [] := ⟨fun _ _ _ h => h⟩
theorem Pers.cons {h : HA} {t : List HA} (h1 : ∀ G F w, h.P G F w → F = []) (k : Pers t) : Pers (h :: t) := ⟨fun G F w ⟨F1, F2, e, a, b⟩ => by
  have := h1 _ _ _ a; have := k.out _ _ _ b; subst_vars; simpa using e⟩
theorem Pers.glob {g : Nat} {cs : List AV} {t : List HA} (k : Pers t) : Pers (.glob g cs :: t) := .cons (fun _ _ _ h => h.1) k
end Go.Proofs.YtihonljdanjfmaaDoor.Sw
/- A slice against nil; rows by another word; results of several cells, beside what is kept. -/
namespace Go.Proofs.YtihonljdanjfmaaDoor.Sw
open Go.RowKit Go
section
variable {P : Program} {rs : List (Nat × AV)} {d : Option Nat} {ty : TypeId} {pos : String} {af : Array Edge} {g : Option (Nat × Bool)}
theorem lt_eqlNil {α : Type} {x : Operand} {t t' e : TypeId} {n m : Nat} (hT : TyS P t e m) {f : α → List AV} {xs : List α} (hx : opv rs x = some (.sl n f xs)) : LT P ⟨d, .binOp .eql t x (.const (.slice none 0 0)) t', ty, pos, af, g⟩ rs [] (fun av y => ∃ b : Bool, av = .val (.bool b) ∧ y = [] ∧ (b = true → xs = [])) :=
  LT_eff (fun _ e => by cases e) fun a w G F hR hI => by
    obtain ⟨p, cap, e1, hc, hs⟩ : (AV.sl n f xs).P G (a.eval x) := opv_ok hR hx
    refine ⟨.value (.bool p.isNone), w, .bool p.isNone, _, [], G, F, ?_, .inl rfl, ⟨p.isNone, rfl, rfl, fun hb => ?_⟩, Fr.refl _ _ _, hI, rfl⟩
    · simp only [execOp, e1]
      have h1 : (eqGuard .eql t x (.const (.slice none 0 0)) (.slice p xs.length cap) (a.eval (.const (.slice none 0 0)))).run P w = .ok () w := by simp [eqGuard, Act.eval, go_sem]
      have h2 : (binOp .eql t (.slice p xs.length cap) (a.eval (.const (.slice none 0 0)))).run P w = .ok (.bool p.isNone) w := run_eql_slice_nil w t e p _ _ hT.und
      simp only [Sem.run_bind, h1, h2, Result.andThen_ok]
      rfl
    · cases xs with
      | nil => rfl
      | cons y ys =>
        obtain ⟨b, o, e2, _⟩ := hs 0 (by simp)
        rw [e2] at hb; cases hb
end
section
variable {c : Cx} {rs : List (Nat × AV)} {hs : List HA} {Q : Exit → S → Prop} {ops : Array Oper} {tl : List Oper} {d : Nat} {ty : TypeId} {pos : String} {af : Array Edge}
theorem wl_eqlNil {α : Type} {x : Operand} {t t' e : TypeId} {n m : Nat} {f : α → List AV} {xs : List α} (hx : opv rs x = some (.sl n f xs)) (hT : TyS c.P t e m) (hd : Nat.blt d c.nt = true) (k : ∀ b : Bool, (b = true → xs = []) → WL c ops tl ⟨(d, .val (.bool b)) :: rs, hs⟩ Q) : WL c ops (⟨some d, .binOp .eql t x (.const (.slice none 0 0)) t', ty, pos, af, none⟩ :: tl) ⟨rs, hs⟩ Q :=
  WL_lt (cons := []) (rest := hs) hd rfl (fun _ _ _ h => h) (lt_eqlNil hT hx) fun av pr ⟨b, e1, e2, hb⟩ => by subst e1; subst e2; exact k b hb
end
end Go.Proofs.YtihonljdanjfmaaDoor.Sw
namespace Go.Proofs.YtihonljdanjfmaaDoor.Sw
open Go.RowKit Go
/-- A block of so many cells: the first ones, and whatever behind them. -/
def HA.cells (b : Nat) (e : TypeId) (cs : List AV) (tot : Nat) : HA :=
  ⟨fun G F w => ∃ vs rest : List Value, F = [b] ∧ Fits G cs vs ∧ (∀ u ∈ vs, u.oneCell' = true) ∧ w.heap[b]? = some (.cells (vs ++ rest).toArray e (0, 0)) ∧ (vs ++ rest).length = tot,
   fun h ⟨vs, rest, e1, e2, e3⟩ => ⟨vs, rest, e1, e2.mono h, e3⟩,
   fun h ⟨vs, rest, e1, e2, e3, e4, e5⟩ => ⟨vs, rest, e1, e2, e3, (h b (by rw [e1]; simp)).trans e4, e5⟩⟩
section
variable {P : Program} {rs : List (Nat × AV)} {d : Option Nat} {ty : TypeId} {pos : String} {af : Array Edge} {g : Option (Nat × Bool)}
end
section
variable {c : Cx} {rs : List (Nat × AV)} {hs : List HA} {Q : Exit → S → Prop} {ops : Array Oper} {tl : List Oper} {d : Nat} {ty : TypeId} {pos : String} {af : Array Edge}
end
end Go.Proofs.YtihonljdanjfmaaDoor.Sw
namespace Go.Proofs.YtihonljdanjfmaaDoor.Sw
open Go.RowKit Go
open Go.WideElems (Fit)
open Go.ChangeMaps (setBlock heap_setBlock_same heap_setBlock_other)
abbrev anyM : Value → Option (DataW Nat × List MemPlace) := fun _ => some (.nil, [])
/-- Keys of a type: by which values they stand. -/
structure KeyT (P : Program) (t : TypeId) {κ : Type} (kv : κ → Value) (ok : κ → Prop) : Prop where
  keyed : Go.Maps.Keyed P t
  key : ∀ k, ok k → ∃ l, keyOf P t (kv k) = some l
  inj : ∀ k k', kv k = kv k' → k = k'
def getM {κ α : Type} [DecidableEq κ] : List (κ × α) → κ → Option α
  | [], _ => none
  | p :: t, k => if p.1 = k then some p.2 else getM t k
def delM {κ α : Type} [DecidableEq κ] (l : List (κ × α)) (k : κ) : List (κ × α) := l.filter fun p => !decide (p.1 = k)
def putM {κ α : Type} [DecidableEq κ] (l : List (κ × α)) (k : κ) (a : α) : List (κ × α) := (k, a) :: delM l k
section
variable {κ α : Type} [DecidableEq κ]
theorem getM_iff {k : κ} {a : α} : ∀ {l : List (κ × α)}, l.Pairwise (fun p q => p.1 ≠ q.1) → (getM l k = some a ↔ (k, a) ∈ l)
  | [], _ => by simp [getM]
  | p :: t, h => by
    obtain ⟨h1, h2⟩ := List.pairwise_cons.1 h
    have ih := getM_iff (k := k) (a := a) h2
    unfold getM
    split
    · rename_i e
      subst e
      constructor
      · intro e; cases e; simp
      · intro e
        rcases List.mem_cons.1 e with e | e
        · rw [← e]
        · exact absurd rfl (h1 (p.1, a) e)
    · rename_i e
      rw [ih]
      constructor
      · intro e; exact List.mem_cons_of_mem _ e
      · intro e'
        rcases List.mem_cons.1 e' with e' | e'
        · exact absurd (by rw [← e']) e
        · exact e'
theorem getM_none {k : κ} : ∀ {l : List (κ × α)}, getM l k = none ↔ ∀ p ∈ l, p.1 ≠ k
  | [] => by simp [getM]
  | p :: t => by
    unfold getM
    split
    · rename_i e; simp [e]
    · rename_i e; rw [getM_none]; simp [e]
theorem getM_del {l : List (κ × α)} {k k' : κ} : getM (delM l k) k' = if k' = k then none else getM l k' := by
  unfold delM
  induction l with
  | nil => simp [getM]
  | cons p t ih =>
    by_cases h : p.1 = k
    · rw [List.filter_cons_of_neg (by simp [h]), ih]
      subst h
      split
      · rfl
      · rename_i h2; rw [getM, if_neg (fun e => h2 e.symm)]
    · rw [List.filter_cons_of_pos (by simp [h])]
      by_cases h2 : p.1 = k'
      · subst h2; rw [if_neg h]; simp [getM]
      · rw [getM, if_neg h2, ih]
        split
        · rfl
        · rw [getM, if_neg h2]
theorem getM_put {l : List (κ × α)} {k k' : κ} {a : α} : getM (putM l k a) k' = if k' = k then some a else getM l k' := by
  unfold putM
  rw [getM]
  by_cases h : k' = k
  · subst h; simp
  · rw [if_neg (fun e => h e.symm), if_neg h, getM_del, if_neg h]
theorem delM_len (l : List (κ × α)) (k : κ) : (delM l k).length ≤ l.length := List.length_filter_le _ _
theorem putM_len (l : List (κ × α)) (k : κ) (a : α) : (putM l k a).length ≤ l.length + 1 := by
  have := delM_len l k
  simp only [putM, List.length_cons]; omega
end
section
variable {κ α : Type} (kv : κ → Value) (g : α → AV)
def MpL (G : Nat → Option Obj) : List (κ × α) → List MapEntry → Prop
  | [], [] => True
  | p :: l, x :: xs => (x.key = kv p.1 ∧ (g p.2).P G x.val) ∧ MpL G l xs
  | _, _ => False
variable {kv g}
theorem MpL.mono {G G' : Nat → Option Obj} (h : Gle G G') : ∀ {l : List (κ × α)} {xs : List MapEntry}, MpL kv g G l xs → MpL kv g G' l xs
  | [], [], _ => trivial
  | _ :: _, _ :: _, k => ⟨⟨k.1.1, (g _).mono h k.1.2⟩, MpL.mono h k.2⟩
  | [], _ :: _, k => k.elim
  | _ :: _, [], k => k.elim
theorem MpL.perm {G : Nat → Option Obj} {xs ys : List MapEntry} (hp : xs.Perm ys) : ∀ {l : List (κ × α)}, MpL kv g G l xs → ∃ l', l.Perm l' ∧ MpL kv g G l' ys := by
  induction hp with
  | nil => exact fun {l} h => ⟨l, .refl _, h⟩
  | cons x hp ih =>
    intro l h
    match l, h with
    | p :: l, ⟨h1, h2⟩ =>
      obtain ⟨l', e, h3⟩ := ih h2
      exact ⟨p :: l', e.cons p, h1, h3⟩
    | [], h => exact h.elim
  | swap x y t =>
    intro l h
    match l, h with
    | p :: q :: l, ⟨h1, h2, h3⟩ => exact ⟨q :: p :: l, List.Perm.swap _ _ _, h2, h1, h3⟩
    | [_], h => exact h.2.elim
    | [], h => exact h.elim
  | trans _ _ ih1 ih2 =>
    intro l h
    obtain ⟨l1, e1, h1⟩ := ih1 h
    obtain ⟨l2, e2, h2⟩ := ih2 h1
    exact ⟨l2, e1.trans e2, h2⟩
theorem MpL.keys {G : Nat → Option Obj} : ∀ {l : List (κ × α)} {xs : List MapEntry}, MpL kv g G l xs → xs.map (·.key) = l.map fun p => kv p.1
  | [], [], _ => rfl
  | _ :: _, _ :: _, k => by simp only [List.map_cons]; rw [k.1.1, MpL.keys k.2]
  | [], _ :: _, k => k.elim
  | _ :: _, [], k => k.elim
variable (kv g)
def MpP (G : Nat → Option Obj) (l : List (κ × α)) (xs : List MapEntry) : Prop := ∃ l', l.Perm l' ∧ MpL kv g G l' xs
variable {kv g}
theorem MpP.perm {G : Nat → Option Obj} {l : List (κ × α)} {xs ys : List MapEntry} (h : MpP kv g G l xs) (hp : xs.Perm ys) : MpP kv g G l ys := by
  obtain ⟨l1, e1, h1⟩ := h
  obtain ⟨l2, e2, h2⟩ := h1.perm hp
  exact ⟨l2, e1.trans e2, h2⟩
theorem MpP.permL {G : Nat → Option Obj} {l k : List (κ × α)} {xs : List MapEntry} (h : MpP kv g G l xs) (hp : k.Perm l) : MpP kv g G k xs := by
  obtain ⟨l1, e1, h1⟩ := h
  exact ⟨l1, hp.trans e1, h1⟩
theorem MpP.cons {G : Nat → Option Obj} {l : List (κ × α)} {xs : List MapEntry} (h : MpP kv g G l xs) {p : κ × α} {x : MapEntry} (h1 : x.key = kv p.1) (h2 : (g p.2).P G x.val) : MpP kv g G (p :: l) (x :: xs) := by
  obtain ⟨l1, e1, h3⟩ := h
  exact ⟨p :: l1, e1.cons p, ⟨h1, h2⟩, h3⟩
theorem MpP.uncons {G : Nat → Option Obj} {l : List (κ × α)} {x : MapEntry} {xs : List MapEntry} (h : MpP kv g G l (x :: xs)) : ∃ p l3, l.Perm (p :: l3) ∧ x.key = kv p.1 ∧ (g p.2).P G x.val ∧ MpP kv g G l3 xs := by
  obtain ⟨l1, e1, h1⟩ := h
  match l1, h1 with
  | p :: l3, ⟨⟨h2, h3⟩, h4⟩ => exact ⟨p, l3, e1, h2, h3, l3, .refl _, h4⟩
  | [], h1 => exact h1.elim
theorem MpP.len {G : Nat → Option Obj} {l : List (κ × α)} {xs : List MapEntry} (h : MpP kv g G l xs) : l.length = xs.length := by
  obtain ⟨l1, e1, h1⟩ := h
  have := congrArg List.length h1.keys
  simp only [List.length_map] at this
  rw [e1.length_eq, this]
theorem MpP.nodup {G : Nat → Option Obj} {l : List (κ × α)} {xs : List MapEntry} (h : MpP kv g G l xs) (hn : (xs.map (·.key)).Nodup) : l.Pairwise (fun p q => p.1 ≠ q.1) := by
  obtain ⟨l1, e1, h1⟩ := h
  rw [h1.keys] at hn
  have hn2 : (l.map fun p => kv p.1).Nodup := (e1.map _).nodup_iff.2 hn
  have := List.pairwise_map.1 hn2
  exact this.imp fun h e => h (by rw [e])
end
/-- A map of these entries. -/
def HA.mp {κ α : Type} (P : Program) (v : Value) (t : TypeId) (kv : κ → Value) (g : α → AV) (l : List (κ × α)) : HA :=
  ⟨fun G F w => ∃ b es clock, v = .map (some b) ∧ F = [b] ∧ w.heap[b]? = some (.map es clock) ∧ Fit P t anyM es clock ∧ MpP kv g G l es.toList,
   fun h ⟨b, es, clock, e1, e2, e3, e4, l', e5, e6⟩ => ⟨b, es, clock, e1, e2, e3, e4, l', e5, e6.mono h⟩,
   fun h ⟨b, es, clock, e1, e2, e3, e4⟩ => ⟨b, es, clock, e1, e2, (h b (by rw [e2]; simp)).trans e3, e4⟩⟩
section
variable {P : Program} {κ α : Type} [DecidableEq κ] {t : TypeId} {kv : κ → Value} {ok : κ → Prop} {g : α → AV} {l : List (κ × α)} {G : Nat → Option Obj} {F : List Nat} {w : World} {v : Value}
def lkA (g : α → AV) (z : Value) : Option α → AV
  | some a => g a
  | none => .val z
theorem mp_look (K : KeyT P t kv ok) {tm e : TypeId} (ht : P.underlying tm = some (.map t e)) {z : Value} (hz : ∀ w, (zeroValue e).run P w = .ok z w) (c : Bool) {k : κ} (hk : ok k) (h : (HA.mp P v t kv g l).P G F w) :
    ∃ u, (lkA g z (getM l k)).P G u ∧ (Instr.lookup tm v (kv k) c).run P w = .ok (if c then .tuple #[u, .bool (getM l k).isSome] else u) w := by
  obtain ⟨b, es, clock, rfl, _, hb, hF, hm⟩ := h
  obtain ⟨kl, hkey⟩ := K.key k hk
  have hn := hm.nodup hF.stamped.2.2
  rcases Go.Maps.fit_look c K.keyed ht (hz w) hb hF hkey with ⟨hr, hno, _⟩ | ⟨e0, y, hm0, hk0, hr, _⟩
  · have : getM l k = none := getM_none.2 fun p hp e => by
      obtain ⟨l', e1, h1⟩ := hm
      have h2 : kv p.1 ∈ es.toList.map (·.key) := by rw [h1.keys]; exact List.mem_map.2 ⟨p, e1.mem_iff.1 hp, rfl⟩
      obtain ⟨x, hx, ex⟩ := List.mem_map.1 h2
      exact hno x hx (by rw [ex, e])
    rw [this]
    exact ⟨z, rfl, hr⟩
  · obtain ⟨s, r, es2⟩ := List.append_of_mem hm0
    obtain ⟨p, l3, h1, h2, h3, _⟩ := (hm.perm (by rw [es2]; exact List.perm_middle)).uncons
    have : p.1 = k := K.inj _ _ (h2.symm.trans hk0)
    have hg : getM l k = some p.2 := (getM_iff hn).2 (h1.mem_iff.2 (by rw [← this]; simp))
    rw [hg]
    exact ⟨e0.val, h3, hr⟩
theorem MpP.del {xs r : List MapEntry} {e0 : MapEntry} (hinj : ∀ k k' : κ, kv k = kv k' → k = k') (h : MpP kv g G l xs) (hn : l.Pairwise (fun p q => p.1 ≠ q.1)) (hp : xs.Perm (e0 :: r)) {k : κ} (hk : e0.key = kv k) : MpP kv g G (delM l k) r := by
  obtain ⟨p, l3, h1, h2, h3, h4⟩ := (h.perm hp).uncons
  have hpk : p.1 = k := hinj _ _ (h2.symm.trans hk)
  have hn2 : (p :: l3).Pairwise (fun p q => p.1 ≠ q.1) := h1.pairwise hn (fun h e => h e.symm)
  refine h4.permL ?_
  have h5 := h1.filter (fun q : κ × α => !decide (q.1 = k))
  rw [List.filter_cons_of_neg (by simp [hpk])] at h5
  refine h5.trans (.of_eq (List.filter_eq_self.2 fun q hq => ?_))
  have := (List.pairwise_cons.1 hn2).1 q hq
  rw [hpk] at this
  simpa using fun e : q.1 = k => this e.symm
theorem MpP.del0 {xs : List MapEntry} (h : MpP kv g G l xs) {k : κ} (hno : ∀ x ∈ xs, x.key ≠ kv k) : delM l k = l := List.filter_eq_self.2 fun q hq => by
  obtain ⟨l', e1, h1⟩ := h
  have h2 : kv q.1 ∈ xs.map (·.key) := by rw [h1.keys]; exact List.mem_map.2 ⟨q, e1.mem_iff.1 hq, rfl⟩
  obtain ⟨x, hx, ex⟩ := List.mem_map.1 h2
  simpa using fun e : q.1 = k => hno x hx (by rw [ex, e])
theorem set_permM {x : MapEntry} : ∀ {xs : List MapEntry} {j : Nat} {e0 : MapEntry}, xs[j]? = some e0 → ∃ r, xs.Perm (e0 :: r) ∧ (xs.set j x).Perm (x :: r) ∧ xs.eraseIdx j = r
  | y :: ys, 0, e0, h => by simp at h; subst h; exact ⟨ys, .refl _, .refl _, rfl⟩
  | y :: ys, j + 1, e0, h => by
    obtain ⟨r, h1, h2, h3⟩ := set_permM (x := x) (xs := ys) (j := j) (by simpa using h)
    exact ⟨y :: r, (h1.cons y).trans (List.Perm.swap _ _ _), (h2.cons y).trans (List.Perm.swap _ _ _), by simp [h3]⟩
  | [], _, _, h => by simp at h
theorem mp_store (K : KeyT P t kv ok) {tm e : TypeId} (ht : P.underlying tm = some (.map t e)) {k : κ} (hk : ok k) (hl : l.length ≤ 1000000) {a : α} {u : Value} (hu : (g a).P G u) (h : (HA.mp P v t kv g l).P G F w) :
    ∃ b o o0, v = .map (some b) ∧ F = [b] ∧ w.heap[b]? = some o0 ∧ (∃ es cl, o0 = .map es cl) ∧ (Instr.mapUpdate tm v (kv k) u).run P w = .ok () (setBlock w b o) ∧ (HA.mp P v t kv g (putM l k a)).P G F (setBlock w b o) := by
  obtain ⟨b, es, clock, rfl, rfl, hb, hF, hm⟩ := h
  obtain ⟨kl, hkey⟩ := K.key k hk
  have hn := hm.nodup hF.stamped.2.2
  have hlen := hm.len
  have hmax : maxLen = 9223372036854775807 := rfl
  have hsz : es.size < maxLen := by rw [hmax]; simp at hlen; omega
  obtain ⟨es', clock', hr, hF', _⟩ := Go.Maps.fit_store (R' := anyM) (val := u) K.keyed ht hb hF hsz (fun _ _ _ z hz => hz) hkey (yv := (.nil, [])) rfl
  refine ⟨b, .map es' clock', _, rfl, rfl, hb, ⟨_, _, rfl⟩, hr, b, es', clock', rfl, rfl, heap_setBlock_same hb _, hF', ?_⟩
  have same : ∀ {o o' : Obj}, (Result.ok () (setBlock w b o) : Result Unit) = .ok () (setBlock w b o') → o = o' := fun {o o'} e => by
    injection e with _ e
    have h1 := heap_setBlock_same hb o
    rw [e, heap_setBlock_same hb o'] at h1
    exact (Option.some.inj h1).symm
  rcases K.keyed.find w hkey es.toList hF.keys with ⟨h1, h2⟩ | ⟨j, e0, h1, h2, h3⟩
  · have hr2 : (Instr.mapUpdate tm (.map (some b)) (kv k) u).run P w = .ok () (setBlock w b (.map (es.push ⟨kv k, u, clock⟩) (clock + 1))) := by
      simp [Instr.mapUpdate, run_underlying ht, MapKept.run_getObj_map hb, K.keyed.check w false hkey, h1, MapKept.run_setObj_map _ hb, Result.andThen, setBlock]
    have e1 := same (hr.symm.trans hr2)
    injection e1 with e1 e2
    subst e1
    unfold putM
    rw [hm.del0 h2, Array.toList_push]
    exact (hm.cons (p := (k, a)) (x := ⟨kv k, u, clock⟩) rfl hu).perm (List.perm_append_singleton _ _).symm
  · have hj : es[j]? = some e0 := by simpa using h2
    have hr2 : (Instr.mapUpdate tm (.map (some b)) (kv k) u).run P w = .ok () (setBlock w b (.map (es.modify j (fun e' => { e' with key := kv k, val := u })) clock)) := by
      simp [Instr.mapUpdate, run_underlying ht, MapKept.run_getObj_map hb, K.keyed.check w false hkey, h1, hj, h3, K.keyed.stays w hkey, MapKept.run_setObj_map _ hb, Result.andThen, setBlock]
    have e1 := same (hr.symm.trans hr2)
    injection e1 with e1 e2
    subst e1
    rw [Array.toList_modify, Go.ChangeMaps.modify_eq_set _ _ _ _ h2]
    obtain ⟨r, p1, p2, _⟩ := set_permM (x := { e0 with key := kv k, val := u }) h2
    exact ((hm.del K.inj hn p1 h3).cons (p := (k, a)) (x := { e0 with key := kv k, val := u }) rfl hu).perm p2.symm
theorem mp_drop (K : KeyT P t kv ok) {tm e ty : TypeId} (ht : P.underlying tm = some (.map t e)) {k : κ} (hk : ok k) (h : (HA.mp P v t kv g l).P G F w) :
    ∃ b o o0, v = .map (some b) ∧ F = [b] ∧ w.heap[b]? = some o0 ∧ (∃ es cl, o0 = .map es cl) ∧ (Builtin.delete_ #[tm, t] ty #[v, kv k]).run P w = .ok (.tuple #[]) (setBlock w b o) ∧ (HA.mp P v t kv g (delM l k)).P G F (setBlock w b o) := by
  obtain ⟨b, es, clock, rfl, rfl, hb, hF, hm⟩ := h
  obtain ⟨kl, hkey⟩ := K.key k hk
  have hn := hm.nodup hF.stamped.2.2
  obtain ⟨es', hr, hF', _⟩ := Go.Maps.fit_drop (ty := ty) K.keyed ht hb hF hkey
  refine ⟨b, .map es' clock, _, rfl, rfl, hb, ⟨_, _, rfl⟩, hr, b, es', clock, rfl, rfl, heap_setBlock_same hb _, hF', ?_⟩
  have same : ∀ {o o' : Obj}, (Result.ok (Value.tuple #[]) (setBlock w b o) : Result Value) = .ok (.tuple #[]) (setBlock w b o') → o = o' := fun {o o'} e => by
    injection e with _ e
    have h1 := heap_setBlock_same hb o
    rw [e, heap_setBlock_same hb o'] at h1
    exact (Option.some.inj h1).symm
  rcases K.keyed.find w hkey es.toList hF.keys with ⟨h1, h2⟩ | ⟨j, e0, h1, h2, h3⟩
  · have hr2 : (Builtin.delete_ #[tm, t] ty #[.map (some b), kv k]).run P w = .ok (.tuple #[]) (setBlock w b (.map es clock)) := by
      simp [Builtin.delete_, run_underlying ht, MapKept.run_getObj_map hb, K.keyed.check w _ hkey, h1, MapKept.run_setObj_map _ hb, Result.andThen, setBlock]
    have e1 := same (hr.symm.trans hr2)
    injection e1 with e1 e2
    subst e1
    rw [hm.del0 h2]
    exact hm
  · have hjs : j < es.size := by have := (List.getElem?_eq_some_iff.1 h2).1; simpa using this
    have hr2 : (Builtin.delete_ #[tm, t] ty #[.map (some b), kv k]).run P w = .ok (.tuple #[]) (setBlock w b (.map (es.eraseIdxIfInBounds j) clock)) := by
      simp [Builtin.delete_, run_underlying ht, MapKept.run_getObj_map hb, K.keyed.check w _ hkey, h1, MapKept.run_setObj_map _ hb, Result.andThen, setBlock]
    have e1 := same (hr.symm.trans hr2)
    injection e1 with e1 e2
    subst e1
    have hsub : (es.eraseIdxIfInBounds j).toList = es.toList.eraseIdx j := by
      unfold Array.eraseIdxIfInBounds
      rw [dif_pos hjs]
      simp
    rw [hsub]
    obtain ⟨r, p1, _, p3⟩ := set_permM (x := e0) h2
    rw [p3]
    exact hm.del K.inj hn p1 h3
theorem inv_setB {b : Nat} {o o0 : Obj} {h : HA} (hI : Inv G [b] [h] w) (hb : w.heap[b]? = some o0) (ho : ∃ es cl, o0 = .map es cl) {h' : HA} (hh : h'.P G [b] (setBlock w b o)) : Fr w (setBlock w b o) [b] [b] G G ∧ Inv G [b] [h'] (setBlock w b o) := by
  have hg := (hI.own b (by simp)).2
  obtain ⟨es, cl, rfl⟩ := ho
  refine ⟨⟨rfl, rfl, rfl, by simp [setBlock], fun j _ hj => heap_setBlock_other hb _ (fun e => hj (by rw [e]; simp)), fun _ h => .inl h, Gle.refl _, fun _ _ h => .inl h⟩, ⟨fun b' o' e => ?_, by simp, fun b' hb' => ?_, [b], [], by simp, hh, rfl⟩⟩
  · have hne : b' ≠ b := fun e' => by subst e'; rw [hg] at e; cases e
    exact (heap_setBlock_other hb _ hne).trans (hI.gin b' o' e)
  · have := hI.own b' hb'
    exact ⟨by simpa [setBlock] using this.1, this.2⟩
variable {rs : List (Nat × AV)} {d : Option Nat} {ty : TypeId} {pos : String} {af : Array Edge} {gd : Option (Nat × Bool)}
/-- This value, and no other one. -/
structure KeyV (av : AV) (u : Value) : Prop where
  out : ∀ G v, av.P G v → v = u
omit [DecidableEq κ] in
theorem KeyV.val {u : Value} : KeyV (.val u) u := ⟨fun _ _ h => h⟩
theorem lt_look1 (K : KeyT P t kv ok) {tm e : TypeId} (ht : P.underlying tm = some (.map t e)) {z : Value} (hz : ∀ w, (zeroValue e).run P w = .ok z w) {x y : Operand} {av : AV} (k : κ) (hx : opv rs x = some (.val v)) (hy : opv rs y = some av) (hv : KeyV av (kv k)) (hk : ok k) :
    LT P ⟨d, .lookup tm x y false, ty, pos, af, gd⟩ rs [.mp P v t kv g l] (Is (lkA g z (getM l k)) [.mp P v t kv g l]) :=
  LT_read (fun _ e => by cases e) fun a w G F hR _ hh => by
    have e1 : a.eval x = v := opv_ok hR hx
    have e2 := hv.out G _ (opv_ok hR hy)
    obtain ⟨u, h1, h2⟩ := mp_look K ht hz false hk hh
    rw [if_neg (by simp)] at h2
    exact ⟨u, h1, by simp [execOp, e1, e2, h2, Result.andThen]⟩
theorem lt_mput (K : KeyT P t kv ok) {tm e : TypeId} (ht : P.underlying tm = some (.map t e)) {x y z : Operand} {av : AV} (k : κ) (a : α) (hx : opv rs x = some (.val v)) (hy : opv rs y = some av) (hv : KeyV av (kv k)) (hk : ok k) (hz : opv rs z = some (g a)) (hl : l.length ≤ 1000000) :
    LT P ⟨d, .mapUpdate tm x y z, ty, pos, af, gd⟩ rs [.mp P v t kv g l] (Is (.val undef) [.mp P v t kv g (putM l k a)]) :=
  LT_eff (fun _ e => by cases e) fun ac w G F hR hI => by
    obtain ⟨F1, F2, e, hm, h2⟩ := hI.hs
    have h2' : F2 = [] := h2
    subst h2'
    have e1 : ac.eval x = v := opv_ok hR hx
    have e2 := hv.out G _ (opv_ok hR hy)
    obtain ⟨b, o, o0, hvb, hF1, hb, ho, hr, hm'⟩ := mp_store K ht hk hl (opv_ok hR hz) hm
    subst hF1
    have hF : F = [b] := List.perm_singleton.1 (by simpa using e)
    subst hF
    obtain ⟨f1, f2⟩ := inv_setB hI hb ho hm'
    exact ⟨_, setBlock w b o, undef, _, _, G, [b], by simp [execOp, e1, e2, hr, Result.andThen], .inr ⟨rfl, rfl⟩, ⟨rfl, rfl⟩, f1, f2, rfl⟩
theorem lt_mdel (K : KeyT P t kv ok) {tm e : TypeId} (ht : P.underlying tm = some (.map t e)) {x y : Operand} {av : AV} (k : κ) (hx : opv rs x = some (.val v)) (hy : opv rs y = some av) (hv : KeyV av (kv k)) (hk : ok k) :
    LT P ⟨d, .call { callee := .builtin .delete, args := #[x, y], argTypes := #[tm, t] }, ty, pos, af, gd⟩ rs [.mp P v t kv g l] (Is (.tup []) [.mp P v t kv g (delM l k)]) :=
  LT_eff (fun _ e => by cases e) fun ac w G F hR hI => by
    obtain ⟨F1, F2, e, hm, h2⟩ := hI.hs
    have h2' : F2 = [] := h2
    subst h2'
    have e1 : ac.eval x = v := opv_ok hR hx
    have e2 := hv.out G _ (opv_ok hR hy)
    obtain ⟨b, o, o0, hvb, hF1, hb, ho, hr, hm'⟩ := mp_drop (ty := ty) K ht hk hm
    subst hF1
    have hF : F = [b] := List.perm_singleton.1 (by simpa using e)
    subst hF
    obtain ⟨f1, f2⟩ := inv_setB hI hb ho hm'
    exact ⟨_, setBlock w b o, .tuple #[], _, _, G, [b], by simp [execOp, resolve, invoke, builtin, e1, e2, hr, Result.andThen], .inl rfl, ⟨rfl, rfl⟩, f1, f2, [], rfl, trivial⟩
omit [DecidableEq κ] in
theorem lt_mlen {tm e : TypeId} (ht : P.underlying tm = some (.map t e)) {x : Operand} (hx : opv rs x = some (.val v)) :
    LT P ⟨d, .call { callee := .builtin .len, args := #[x], argTypes := #[tm] }, ty, pos, af, gd⟩ rs [.mp P v t kv g l] (Is (.val (.int .i64 l.length)) [.mp P v t kv g l]) :=
  LT_read (fun _ e => by cases e) fun a w G F hR _ ⟨b, es, clock, e1, _, hb, _, hm⟩ => by
    have e2 : a.eval x = v := opv_ok hR hx
    have e3 : a.eval x = .map (some b) := e2.trans e1
    have hl := hm.len
    refine ⟨_, rfl, ?_⟩
    simp [execOp, resolve, e3, invoke, builtin, Builtin.len_, run_underlying ht, MapKept.run_getObj_map hb, goInt, Result.andThen, hl]
omit [DecidableEq κ] in
theorem lt_mmake (K : KeyT P t kv ok) {tm : TypeId} : LT P ⟨d, .makeMap tm none, ty, pos, af, gd⟩ rs [] (fun x y => ∃ u, One (.val u) ∧ x = .val u ∧ y = [.mp P u t kv g []]) :=
  LT_eff (fun _ e => by cases e) fun a w G F hR hI => by
    obtain rfl := inv_nil hI
    obtain ⟨es, clock, h1, h2, h3, _⟩ := World.ownsMap_made w P t anyM
    have hes : es.toList = [] := by cases es with | mk l => simp at h3; simpa using h3
    refine ⟨_, w.alloc (.map #[] 0), .map (some w.heap.size), _, _, G, [w.heap.size], ?_, .inl rfl, ⟨_, ⟨fun _ _ h => by subst h; rfl⟩, rfl, rfl⟩, fr_alloc _ _ _, ⟨gin_alloc hI.gin _, by simp, fun b hb => ?_, [w.heap.size], [], by simp, ⟨_, es, clock, rfl, rfl, h1, h2, [], .refl _, by rw [hes]; trivial⟩, rfl⟩, rfl⟩
    · simp [execOp, Instr.makeMap, newObj, Result.andThen]; rfl
    · rw [List.mem_singleton] at hb
      subst hb
      refine ⟨by simp, ?_⟩
      cases hg : G w.heap.size with
      | none => rfl
      | some o => exact absurd (hI.gin.lt hg) (Nat.lt_irrefl _)
end
section
variable {c : Cx} {rs : List (Nat × AV)} {hs : List HA} {Q : Exit → S → Prop} {ops : Array Oper} {tl : List Oper} {d : Nat} {ty : TypeId} {pos : String} {af : Array Edge} {κ α : Type} [DecidableEq κ] {t : TypeId} {kv : κ → Value} {ok : κ → Prop} {g : α → AV} {l : List (κ × α)} {v : Value}
theorem wl_look1 {tm e : TypeId} {z : Value} {x y : Operand} {av : AV} {h : HA → List HA} (K : KeyT c.P t kv ok) (k : κ) (ht : c.P.underlying tm = some (.map t e)) (hz : ∀ w, (zeroValue e).run c.P w = .ok z w) (hx : opv rs x = some (.val v)) (hat : At hs (.mp c.P v t kv g l) h) (hy : opv rs y = some av) (hv : KeyV av (kv k)) (hk : ok k) (hd : Nat.blt d c.nt = true)
    (kk : WL c ops tl ⟨(d, lkA g z (getM l k)) :: rs, hs⟩ Q) : WL c ops (⟨some d, .lookup tm x y false, ty, pos, af, none⟩ :: tl) ⟨rs, hs⟩ Q := wl_rd (lt_look1 K ht hz k hx hy hv hk) hat hd kk
omit [DecidableEq κ] in
theorem wl_mlen {tm e : TypeId} {x : Operand} {h : HA → List HA} (ht : c.P.underlying tm = some (.map t e)) (hx : opv rs x = some (.val v)) (hat : At hs (.mp c.P v t kv g l) h) (hd : Nat.blt d c.nt = true)
    (kk : WL c ops tl ⟨(d, .val (.int .i64 l.length)) :: rs, hs⟩ Q) : WL c ops (⟨some d, .call { callee := .builtin .len, args := #[x], argTypes := #[tm] }, ty, pos, af, none⟩ :: tl) ⟨rs, hs⟩ Q := wl_rd (lt_mlen ht hx) hat hd kk
theorem wl_mput {tm e : TypeId} {x y z : Operand} {av : AV} {h : HA → List HA} (K : KeyT c.P t kv ok) (k : κ) (a : α) (ht : c.P.underlying tm = some (.map t e)) (hx : opv rs x = some (.val v)) (hat : At hs (.mp c.P v t kv g l) h) (hy : opv rs y = some av) (hv : KeyV av (kv k)) (hk : ok k) (hz : opv rs z = some (g a)) (hl : l.length ≤ 1000000)
    (kk : WL c ops tl ⟨rs, h (.mp c.P v t kv g (putM l k a))⟩ Q) : WL c ops (⟨none, .mapUpdate tm x y z, ty, pos, af, none⟩ :: tl) ⟨rs, hs⟩ Q := WL_at rfl rfl hat (lt_mput K ht k a hx hy hv hk hz hl) kk
theorem wl_mdel {tm e : TypeId} {x y : Operand} {av : AV} {h : HA → List HA} {dd : Option Nat} (K : KeyT c.P t kv ok) (k : κ) (ht : c.P.underlying tm = some (.map t e)) (hx : opv rs x = some (.val v)) (hat : At hs (.mp c.P v t kv g l) h) (hy : opv rs y = some av) (hv : KeyV av (kv k)) (hk : ok k) (hd : okD dd c.nt = true)
    (kk : WL c ops tl ⟨putR dd (.tup []) rs, h (.mp c.P v t kv g (delM l k))⟩ Q) : WL c ops (⟨dd, .call { callee := .builtin .delete, args := #[x, y], argTypes := #[tm, t] }, ty, pos, af, none⟩ :: tl) ⟨rs, hs⟩ Q := WL_at hd rfl hat (lt_mdel K ht k hx hy hv hk) kk
omit [DecidableEq κ] in
theorem wl_mmake {tm : TypeId} (K : KeyT c.P t kv ok) (g : α → AV) (hd : Nat.blt d c.nt = true) (kk : ∀ v, One (.val v) → WL c ops tl ⟨(d, .val v) :: rs, .mp c.P v t kv g [] :: hs⟩ Q) : WL c ops (⟨some d, .makeMap tm none, ty, pos, af, none⟩ :: tl) ⟨rs, hs⟩ Q :=
  WL_new hd rfl (lt_mmake (g := g) K) fun av pr ⟨u, h1, e1, e2⟩ => by subst e1; subst e2; exact kk u h1
end
/-- Keys that are numbers. -/
theorem keyT_int {P : Program} {t : TypeId} (h : P.underlying t = some (.int .i64)) : KeyT P t (fun n : Int => Value.int .i64 n) (fun n => -9223372036854775808 ≤ n ∧ n ≤ 9223372036854775807) :=
  ⟨Go.Maps.int_keyed h, fun n hn => ⟨_, Go.Maps.keyOf_int_mk h (by simp only [Lit.wf, IntKind.min, IntKind.max, IntKind.signed, IntKind.bits, Bool.and_eq_true, decide_eq_true_eq, if_true]; omega)⟩, fun a b e => by injection e⟩
end Go.Proofs.YtihonljdanjfmaaDoor.Sw
namespace Go.Proofs.YtihonljdanjfmaaDoor.Sw
open Go.RowKit Go Go.Shelf Go.Proofs
theorem rises_of_ok {f : Flo} (h : floOk f = true) : rises 0 f.ids = true := by
  simp only [floOk, Bool.and_eq_true] at h
  exact h.1.1.1.2
end Go.Proofs.YtihonljdanjfmaaDoor.Sw
namespace Go.Proofs.YtihonljdanjfmaaDoor.Sw
open Go.RowKit Go Go.Shelf Go.Proofs
open Go.Proofs.YtihonljdanjfmaaDoor.Gr (headsR hf sumP Zr lf Lab)
/-- What groups come to, label by label: none that comes to nothing. -/
def evS (x : Nat → Int) (h : Nat → Nat) (m : List (Nat × Int)) (i : Nat) : List (Nat × Int) :=
  if (getM m (h i)).getD 0 + x i = 0 then delM (putM m (h i) ((getM m (h i)).getD 0 + x i)) (h i) else putM m (h i) ((getM m (h i)).getD 0 + x i)
def evM (x : Nat → Int) (h : Nat → Nat) : Nat → List (Nat × Int)
  | 0 => []
  | k + 1 => evS x h (evM x h k) k
theorem evM_get {x : Nat → Int} {h : Nat → Nat} : ∀ {k j : Nat}, getM (evM x h k) j = if sumP k x (fun v => decide (h v = j)) = 0 then none else some (sumP k x fun v => decide (h v = j))
  | 0, j => rfl
  | k + 1, j => by
    have hs : sumP (k + 1) x (fun v => decide (h v = j)) = sumP k x (fun v => decide (h v = j)) + (if decide (h k = j) = true then x k else 0) := rfl
    have hd : ∀ j, (getM (evM x h k) j).getD 0 = sumP k x (fun v => decide (h v = j)) := fun j => by
      rw [evM_get]; split
      · rename_i e; rw [e]; rfl
      · rfl
    show getM (evS x h (evM x h k) k) j = _
    unfold evS
    rw [hd, hs]
    by_cases hj : h k = j
    · subst hj
      simp only [decide_true, if_true]
      split
      · rw [getM_del, if_pos rfl]
      · rw [getM_put, if_pos rfl]
    · rw [decide_eq_false hj]
      simp only [Bool.false_eq_true, if_false, Int.add_zero]
      rw [← evM_get]
      split
      · rw [getM_del, if_neg (fun e => hj e.symm), getM_put, if_neg (fun e => hj e.symm)]
      · rw [getM_put, if_neg (fun e => hj e.symm)]
theorem evM_len {x : Nat → Int} {h : Nat → Nat} : ∀ k, (evM x h k).length ≤ k
  | 0 => Nat.le_refl _
  | k + 1 => by
    show (evS x h (evM x h k) k).length ≤ k + 1
    unfold evS
    have h1 := putM_len (evM x h k) (h k) ((getM (evM x h k) (h k)).getD 0 + x k)
    have h2 := evM_len (x := x) (h := h) k
    split
    · exact Nat.le_trans (delM_len _ _) (by omega)
    · omega
theorem evM_nil {x : Nat → Int} {h : Nat → Nat} {k : Nat} : evM x h k = [] ↔ ∀ j, sumP k x (fun v => decide (h v = j)) = 0 := by
  constructor
  · intro e j
    have := evM_get (x := x) (h := h) (k := k) (j := j)
    rw [e] at this
    split at this
    · assumption
    · cases this
  · intro h0
    cases hm : evM x h k with
    | nil => rfl
    | cons p t =>
      have := evM_get (x := x) (h := h) (k := k) (j := p.1)
      rw [hm, if_pos (h0 _), getM, if_pos rfl] at this
      cases this
def evB (n : Nat) (L : List (Nat × Nat)) (cu : List Int) : Bool := decide (evM (lf cu) (hf (headsR n L)) n = [])
theorem evB_iff {n : Nat} {L : List (Nat × Nat)} {cu : List Int} (h : ∀ p ∈ L, p.1 < n ∧ p.2 < n) : evB n L cu = true ↔ Zr n L (lf cu) := by
  unfold evB
  rw [decide_eq_true_iff, evM_nil]
  exact Gr.even_iff (Gr.lab_all h)
theorem sumP_bound {x : Nat → Int} {c : Int} (hc : 0 ≤ c) : ∀ {k : Nat}, (∀ v, v < k → -c ≤ x v ∧ x v ≤ c) → ∀ P, -(k * c) ≤ sumP k x P ∧ sumP k x P ≤ k * c
  | 0, _, P => by simp [sumP]
  | k + 1, h, P => by
    have ih := sumP_bound hc (k := k) (fun v hv => h v (by omega)) P
    have h1 := h k (by omega)
    have hk : ((k + 1 : Nat) : Int) * c = k * c + c := by rw [Int.natCast_add, Int.add_mul]; simp
    rw [hk]
    unfold sumP
    split <;> omega
def nk (n : Nat) : Value := .int .i64 (n : Int)
def iG (n : Int) : AV := .val (.int .i64 n)
theorem keyN : KeyT Tryd.prog 3 nk (fun n => n ≤ 1000000) :=
  ⟨(keyT_int Tryd.underlying3).keyed, fun n hn => (keyT_int Tryd.underlying3).key n (by omega), fun a b e => by unfold nk at e; injection e with _ e; omega⟩
theorem lkA_int (o : Option Int) : lkA iG (.int .i64 0) o = .val (.int .i64 (o.getD 0)) := by cases o <;> rfl
theorem LT_av {P : Program} {o : Oper} {rs : List (Nat × AV)} {cons prod : List HA} {av av' : AV} (k : LT P o rs cons (Is av prod)) (h : av = av') : LT P o rs cons (Is av' prod) := h ▸ k
abbrev mpI (v : Value) (l : List (Nat × Int)) : HA := .mp Tryd.prog v 3 nk iG l
theorem lf_at {cu : List Int} {i : Nat} (h : i < cu.length) : lf cu i = cu[i] := by simp [lf, List.getD_eq_getElem?_getD, List.getElem?_eq_getElem h]
theorem hf_at {h : List Nat} {i : Nat} (hi : i < h.length) : hf h i = h[i] := by simp [hf, List.getD_eq_getElem?_getD, List.getElem?_eq_getElem hi]
set_option maxRecDepth 20000 in
set_option maxHeartbeats 4000000 in
theorem even_con (ph ow : Value) (f : Flo) (cu : List Int) (L : List (Nat × Nat)) (hn : f.ids.length ≤ 1000) (hl : L.length ≤ 1000) (hL : ∀ p ∈ L, p.1 < f.ids.length ∧ p.2 < f.ids.length) (hcl : cu.length = f.ids.length) (hbt : Btw (-1000000000) 1000000000 cu) : Con Tryd.prog 113 [.val ph, .sl 2 pnC L] [hsB ph f ow, .row ow 3 1 iC cu] (Is (.val (.bool (evB f.ids.length L cu))) [hsB ph f ow, .row ow 3 1 iC cu]) := by
  have hhl := headsR_len f.ids.length L
  have hlab := (Gr.lab_all hL).lt
  refine con_of Tryd.func113 rfl (enters_of Tryd.func113 (by kernel_rfl) rfl) rfl ?_; intro n w0 F0 G0
  (refine goSt ?_; (repeat (refine goAl ?_; intro p hp; refine goSt ?_)))
  (apply wl_mmake keyN iG; exact rfl; intro v hv)
  (refine goSt ?_; (repeat (refine goAl ?_; intro p hp; refine goSt ?_)))
  (apply wl_callP (groups_con ph ow f L hn hl hL); exact rfl; exact goCutl; exact rfl)
  rintro _ _ ⟨u, rfl, rfl⟩
  unfold evB
  generalize headsR f.ids.length L = h at hhl hlab ⊢
  (refine goSt ?_; (repeat (refine goAl ?_; intro p hp; refine goSt ?_)))
  refine W_loopJ (fun (i : Nat) => ⟨[(0, .val ph), (5, .val v), (11, .val u), (12, .val (.int .i64 h.length)), (13, .val (.int .i64 i))], [mpI v (evM (lf cu) (hf h) i), .row u 3 1 nC h, hsB ph f ow, .row ow 3 1 iC cu]⟩) (fun i => i ≤ h.length) (fun i => h.length - i) 0 (fun _ _ st => st_sub2 st goSubr goSubp) (Nat.zero_le _) ?_
  rintro i hi
  (refine goSt ?_; (repeat (refine goAl ?_; intro p hp; refine goSt ?_)))
  refine w_cond rfl (fun hlt => ?_) (fun hlt => ?_)
  · have hi' : i < h.length := by simpa using hlt
    have hic : i < cu.length := by omega
    have hq1 : cu[i]? = some cu[i] := List.getElem?_eq_getElem hic
    have hb := hbt.at hic
    have hhi : h[i] ≤ 1000000 := by have := hlab i (by omega); rw [hf_at hi'] at this; omega
    have hml := evM_len (x := lf cu) (h := hf h) i
    have hg := evM_get (x := lf cu) (h := hf h) (k := i) (j := h[i])
    have hbb : ∀ q, q < i → -1000000000 ≤ lf cu q ∧ lf cu q ≤ 1000000000 := fun q hq => by
      have hqc : q < cu.length := by omega
      rw [lf_at hqc]; exact hbt.at hqc
    have hsb := sumP_bound (x := lf cu) (c := 1000000000) (by omega) (k := i) hbb (fun v => decide (hf h v = h[i]))
    have hgb : -1000000000000 ≤ (getM (evM (lf cu) (hf h) i) h[i]).getD 0 ∧ (getM (evM (lf cu) (hf h) i) h[i]).getD 0 ≤ 1000000000000 := by
      rw [hg]; split <;> simp <;> omega
    have hstep : evM (lf cu) (hf h) (i + 1) = evS (lf cu) (hf h) (evM (lf cu) (hf h) i) i := rfl
    unfold evS at hstep
    rw [hf_at hi', lf_at hic] at hstep
    generalize evM (lf cu) (hf h) i = m at hml hgb hstep ⊢
    clear hg hsb hbb
    (refine goSt ?_; (repeat (refine goAl ?_; intro p hp; refine goSt ?_)))
    refine W_run 10 [18, 19, 20, 21, 22, 23, 24, 25, 26, 27] [0, 1, 2, 3, 4, 5, 6, 7, 8, 9] Cut.nil rfl goFlt mixedS (by kernel_rfl) rfl ?_
    refine rpv [] [] ?_
    refine rpv [] [] ?_
    refine Run.pv [0, 1] [] rfl (fun vs => by apply ltr_pk; exact goPk; exact ltr_rd (h := mpI v m) (LT_av (lt_look1 keyN Tryd.underlying143 (fun w => by kernel_rfl) h[i] rfl rfl KeyV.val hhi) (lkA_int _)) goAtm) goApp ?_
    refine rpv [] [] ?_
    refine rpv [3] [] ?_
    refine rpv [4] [] ?_
    refine rpv [5] [] ?_
    refine rpv [] [] ?_
    refine rpv [6, 7] [] ?_
    refine rpv [8] [] ?_
    refine ⟨⟨by kernel_rfl, by kernel_rfl⟩, fun vs => ?_⟩
    apply WL_auto [0, 1, 2, 9]
    · exact goPk
    · exact goNrm
    · kernel_rfl
    · kernel_rfl
    (refine goSt ?_; (repeat (refine goAl ?_; intro p hp; refine goSt ?_)))
    (apply wl_mput keyN h[i] ((getM m h[i]).getD 0 + cu[i]) Tryd.underlying143; exact rfl; exact goAtm; exact rfl; exact KeyV.val; exact hhi; exact rfl; omega)
    (refine goSt ?_; (repeat (refine goAl ?_; intro p hp; refine goSt ?_)))
    (apply wl_look1 keyN h[i] Tryd.underlying143 (fun w => by kernel_rfl); exact rfl; exact goAtm; exact rfl; exact KeyV.val; exact hhi; exact rfl)
    rw [lkA_int, getM_put, if_pos rfl, Option.getD_some]
    (refine goSt ?_; (repeat (refine goAl ?_; intro p hp; refine goSt ?_)))
    refine w_cond rfl (fun he => ?_) (fun he => ?_)
    · rw [if_pos (of_decide_eq_true he)] at hstep
      (refine goSt ?_; (repeat (refine goAl ?_; intro p hp; refine goSt ?_)))
      (apply wl_mdel keyN h[i] Tryd.underlying143; exact rfl; exact goAtm; exact rfl; exact KeyV.val; exact hhi; exact rfl)
      rw [← hstep]
      (refine goSt ?_; (repeat (refine goAl ?_; intro p hp; refine goSt ?_)))
      (refine ⟨i + 1, fun _ _ st => st_sub2 st ?_ ?_, ?_, ?_⟩; exact goSubr; exact goSubp)
      · omega
      · omega
    · rw [if_neg (of_decide_eq_false he)] at hstep
      rw [← hstep]
      (refine goSt ?_; (repeat (refine goAl ?_; intro p hp; refine goSt ?_)))
      (refine ⟨i + 1, fun _ _ st => st_sub2 st ?_ ?_, ?_, ?_⟩; exact goSubr; exact goSubp)
      · omega
      · omega
  · have hii : i = h.length := by simp at hlt; omega
    subst hii
    rw [hhl]
    (refine goSt ?_; (repeat (refine goAl ?_; intro p hp; refine goSt ?_)))
    (apply wl_mlen; exact Tryd.underlying143; exact rfl; exact goAtm; exact rfl)
    (refine goSt ?_; (repeat (refine goAl ?_; intro p hp; refine goSt ?_)))
    have he : decide (((evM (lf cu) (hf h) f.ids.length).length : Int) = 0) = decide (evM (lf cu) (hf h) f.ids.length = []) := by
      refine decide_eq_decide.2 ?_
      rw [← List.length_eq_zero_iff]; omega
    rw [he]
    (apply resK1; exact rfl; exact rfl; exact ⟨rfl, rfl⟩; exact goCutl)
end Go.Proofs.YtihonljdanjfmaaDoor.Sw
namespace Go.Proofs.YtihonljdanjfmaaDoor.Sw
open Go.RowKit Go Go.Shelf Go.Proofs
open Go.Proofs.YtihonljdanjfmaaDoor.Gr (headsR hf sumP Zr lf Lab)
/-- Pairs that speak, the greater index first. -/
def prI (sp : Nat → Nat → Bool) (i k : Nat) : List (Nat × Nat) := ((List.range k).filter fun k => sp k i).map fun k => (k, i)
def prP (sp : Nat → Nat → Bool) (n : Nat) : List (Nat × Nat) := (List.range n).flatMap fun i => prI sp i i
theorem prI_succ (sp : Nat → Nat → Bool) (i k : Nat) : prI sp i (k + 1) = if sp k i = true then prI sp i k ++ [(k, i)] else prI sp i k := by
  unfold prI
  rw [List.range_succ, List.filter_append]
  split
  · rename_i h; simp [h]
  · rename_i h; simp [h]
theorem prP_succ (sp : Nat → Nat → Bool) (n : Nat) : prP sp (n + 1) = prP sp n ++ prI sp n n := by
  unfold prP
  rw [List.range_succ, List.flatMap_append]; simp
theorem prI_mem {sp : Nat → Nat → Bool} {i k : Nat} {p : Nat × Nat} : p ∈ prI sp i k ↔ p.1 < k ∧ p.2 = i ∧ sp p.1 i = true := by
  unfold prI
  rw [List.mem_map]
  constructor
  · rintro ⟨a, ha, rfl⟩
    have := List.mem_filter.1 ha
    exact ⟨List.mem_range.1 this.1, rfl, this.2⟩
  · rintro ⟨h1, h2, h3⟩
    exact ⟨p.1, List.mem_filter.2 ⟨List.mem_range.2 h1, h3⟩, by rw [← h2]⟩
theorem prP_mem {sp : Nat → Nat → Bool} {n : Nat} {p : Nat × Nat} : p ∈ prP sp n ↔ p.1 < p.2 ∧ p.2 < n ∧ sp p.1 p.2 = true := by
  unfold prP
  rw [List.mem_flatMap]
  constructor
  · rintro ⟨i, hi, hp⟩
    obtain ⟨h1, h2, h3⟩ := prI_mem.1 hp
    have := List.mem_range.1 hi
    exact ⟨by omega, by omega, by rw [h2]; exact h3⟩
  · rintro ⟨h1, h2, h3⟩
    exact ⟨p.2, List.mem_range.2 h2, prI_mem.2 ⟨h1, rfl, h3⟩⟩
theorem prI_len (sp : Nat → Nat → Bool) (i k : Nat) : (prI sp i k).length ≤ k := by
  unfold prI
  rw [List.length_map]
  exact Nat.le_trans (List.length_filter_le _ _) (by simp)
theorem prP_len (sp : Nat → Nat → Bool) : ∀ n, (prP sp n).length ≤ n * n
  | 0 => by simp [prP]
  | n + 1 => by
    rw [prP_succ, List.length_append]
    have h1 := prP_len sp n
    have h2 := prI_len sp n n
    rw [Nat.succ_mul, Nat.mul_succ]; omega
/-- Whether two floors speak, by their indices. -/
def spk (f : Flo) (a b : Nat) : Bool := speakR f.qs (f.ids.getD a 0) (f.ids.getD b 0)
def canB (f : Flo) (cu : List Int) : Bool := evB f.ids.length (prP (spk f) f.ids.length) cu
set_option maxRecDepth 20000 in
set_option maxHeartbeats 4000000 in
theorem can_con (ph ow : Value) (f : Flo) (cu : List Int) (hn : f.ids.length ≤ 10) (hql : f.qs.length ≤ 1000) (hr : rises 0 f.ids = true) (hcl : cu.length = f.ids.length) (hbt : Btw (-1000000000) 1000000000 cu) : Con Tryd.prog 70 [.val ph] [hsB ph f ow, .row ow 3 1 iC cu] (Is (.val (.bool (canB f cu))) [hsB ph f ow, .row ow 3 1 iC cu]) := by
  have hll : ∀ n, n ≤ 10 → (prP (spk f) n).length ≤ 100 := fun n hn => Nat.le_trans (prP_len _ n) (Nat.mul_le_mul hn hn)
  refine con_of Tryd.func70 rfl (enters_of Tryd.func70 (by kernel_rfl) rfl) rfl ?_; intro n w0 F0 G0
  (refine goSt ?_; (repeat (refine goAl ?_; intro p hp; refine goSt ?_)))
  refine W_loopJ (fun (b : Nat × Value) => ⟨[(0, .val ph), (3, .val b.2), (12, .val (.int .i64 f.ids.length)), (13, .val (.int .i64 b.1))], [.row b.2 105 2 pnC (prP (spk f) b.1), hsB ph f ow, .row ow 3 1 iC cu]⟩) (fun b => b.1 ≤ f.ids.length) (fun b => f.ids.length - b.1) (0, .slice none 0 0) (fun _ _ st => st_sub2 (st_nil 105 2 pnC st) goSubr goSubp) (Nat.zero_le _) ?_
  rintro ⟨i, v⟩ hi
  dsimp only at hi ⊢
  (refine goSt ?_; (repeat (refine goAl ?_; intro p hp; refine goSt ?_)))
  refine w_cond rfl (fun hlt => ?_) (fun hlt => ?_)
  · have hi' : i < f.ids.length := by simpa using hlt
    have hl1 := hll i (by omega)
    (refine goSt ?_; (repeat (refine goAl ?_; intro p hp; refine goSt ?_)))
    refine W_loopJ (fun (b : Nat × Value) => ⟨[(0, .val ph), (3, .val b.2), (12, .val (.int .i64 f.ids.length)), (13, .val (.int .i64 i)), (4, .val (.int .i64 i)), (16, .val (.int .i64 i)), (17, .val (.int .i64 b.1))], [.row b.2 105 2 pnC (prP (spk f) i ++ prI (spk f) i b.1), hsB ph f ow, .row ow 3 1 iC cu]⟩) (fun b => b.1 ≤ i) (fun b => i - b.1) (0, v) (fun _ _ st => st_sub2 st goSubr (by rw [show prI (spk f) i 0 = [] from rfl, List.append_nil]; exact goSubp)) (Nat.zero_le _) ?_
    rintro ⟨k, u⟩ hk
    dsimp only at hk ⊢
    (refine goSt ?_; (repeat (refine goAl ?_; intro p hp; refine goSt ?_)))
    refine w_cond rfl (fun hlt2 => ?_) (fun hlt2 => ?_)
    · have hk' : k < i := by simpa using hlt2
      have hl2 := prI_len (spk f) i k
      have hks : k < f.ids.length := by omega
      have S := speak_con ph ow f k i hks hi' hr (by omega) hql
      rw [show speakR f.qs f.ids[k] f.ids[i] = spk f k i from by simp [spk, List.getD_eq_getElem?_getD, hks, hi']] at S
      have hsu := prI_succ (spk f) i k
      (refine goSt ?_; (repeat (refine goAl ?_; intro p hp; refine goSt ?_)))
      (first | (apply wl_call (S); exact rfl; exact rfl) | (apply wl_callR (S); exact rfl; exact goAtm; exact rfl))
      (refine goSt ?_; (repeat (refine goAl ?_; intro p hp; refine goSt ?_)))
      refine w_cond rfl (fun hs => ?_) (fun hs => ?_)
      · rw [if_pos hs] at hsu
        (refine goSt ?_; (repeat (refine goAl ?_; intro p hp; refine goSt ?_)))
        refine WL_as 27 (.agg (pnC (k, i))) rfl ?_
        (apply wl_litF pnC; exact inferInstance; exact inferInstance; exact inferInstance; (repeat (first | exact Elems.nil | (apply Elems.cons; exact rfl; exact inferInstance; exact rfl))); exact rfl; (first | exact (of_decide_eq_true rfl) | decide | (simp; done) | (simp; omega)); exact rfl)
        (first | (apply wl_append; exact rfl; exact rfl; exact goRm; exact inferInstance; exact inferInstance; (first | omega | (simp; omega)); exact rfl) | (apply wl_appendN; exact rfl; exact rfl; exact inferInstance; exact inferInstance; (first | omega | (simp; omega)); exact rfl))
        intro v2
        rw [List.append_assoc, ← hsu]
        (refine goSt ?_; (repeat (refine goAl ?_; intro p hp; refine goSt ?_)))
        (refine ⟨(k + 1, v2), fun _ _ st => st_sub2 st ?_ ?_, ?_, ?_⟩; exact goSubr; exact goSubp)
        · dsimp only; omega
        · dsimp only; omega
      · rw [if_neg (by rw [hs]; simp)] at hsu
        rw [← hsu]
        (refine goSt ?_; (repeat (refine goAl ?_; intro p hp; refine goSt ?_)))
        (refine ⟨(k + 1, u), fun _ _ st => st_sub2 st ?_ ?_, ?_, ?_⟩; exact goSubr; exact goSubp)
        · dsimp only; omega
        · dsimp only; omega
    · have hkk : k = i := by simp at hlt2; omega
      subst hkk
      rw [← prP_succ]
      (refine goSt ?_; (repeat (refine goAl ?_; intro p hp; refine goSt ?_)))
      (refine ⟨(k + 1, u), fun _ _ st => st_sub2 st ?_ ?_, ?_, ?_⟩; exact goSubr; exact goSubp)
      · dsimp only; omega
      · dsimp only; omega
  · have hii : i = f.ids.length := by simp at hlt; omega
    subst hii
    have hl3 := hll _ hn
    (refine goSt ?_; (repeat (refine goAl ?_; intro p hp; refine goSt ?_)))
    (apply WL_frz 33; exact rfl; exact goRm)
    (apply wl_callP (even_con ph ow f cu (prP (spk f) f.ids.length) (by omega) (by omega) (fun p hp => ⟨Nat.lt_trans (prP_mem.1 hp).1 (prP_mem.1 hp).2.1, (prP_mem.1 hp).2.1⟩) hcl hbt); exact rfl; exact goCutl; exact rfl)
    rintro _ _ ⟨rfl, rfl⟩
    (refine goSt ?_; (repeat (refine goAl ?_; intro p hp; refine goSt ?_)))
    (apply resK1; exact rfl; exact rfl; exact ⟨rfl, rfl⟩; exact goCutl)
/-- What 'Can' answers. -/
def canR (f : Flo) : Bool × Int := if floOk f = true then (canB f (owed8 f), 0) else (false, 80)
set_option maxRecDepth 20000 in
theorem Can_con (f : Flo) (hS : Sml f) : Con Tryd.prog 20 [.agg (flC f)] [tab8] (Is (.tup [.val (.bool (canR f).1), .val (.int .i64 (canR f).2)]) [tab8]) := by
  cases hok : floOk f with
  | false =>
    have C := openedNo_con f hS hok
    unfold canR
    rw [if_neg (by rw [hok]; simp)]
    refine con_of Tryd.func20 rfl (enters_of Tryd.func20 (by kernel_rfl) rfl) rfl ?_; intro n w0 F0 G0
    (refine goSt ?_; (repeat (refine goAl ?_; intro p hp; refine goSt ?_)))
    (first | (apply wl_call (C); exact rfl; exact rfl) | (apply wl_callR (C); exact rfl; exact goAtm; exact rfl))
    (refine goSt ?_; (repeat (refine goAl ?_; intro p hp; refine goSt ?_)))
    (apply resK2; exact rfl; exact rfl; exact rfl; exact ⟨rfl, rfl⟩; exact goCutl)
  | true =>
    have C := opened_con f hS hok
    have hF := flo_f hok
    have hr := rises_of_ok hok
    have hidl := hF.ids
    have hqsl := hS.qs
    unfold canR
    rw [if_pos hok]
    refine con_of Tryd.func20 rfl (enters_of Tryd.func20 (by kernel_rfl) rfl) rfl ?_; intro n w0 F0 G0
    (refine goSt ?_; (repeat (refine goAl ?_; intro p hp; refine goSt ?_)))
    (apply wl_callP (C); exact rfl; exact goCutl; exact rfl)
    rintro _ _ ⟨ph, ow, rfl, rfl⟩
    (refine goSt ?_; (repeat (refine goAl ?_; intro p hp; refine goSt ?_)))
    (apply wl_callP (can_con ph ow f (owed8 f) (by omega) (by omega) hr (owed8_len f) ((owed8_btw hF hS).mono (by omega) (by omega))); exact rfl; exact goCutl; exact rfl)
    rintro _ _ ⟨rfl, rfl⟩
    (refine goSt ?_; (repeat (refine goAl ?_; intro p hp; refine goSt ?_)))
    (apply resK2; exact rfl; exact rfl; exact rfl; exact ⟨rfl, rfl⟩; exact goCutl)
def netR (f : Flo) : List Int × Int := if floOk f = true then (owed8 f, 0) else ([], 80)
set_option maxRecDepth 20000 in
theorem Net_con (f : Flo) (hS : Sml f) : Con Tryd.prog 18 [.agg (flC f)] [tab8] (Is (.tup [.sl 1 iC (netR f).1, .val (.int .i64 (netR f).2)]) [tab8]) := by
  cases hok : floOk f with
  | false =>
    have C := openedNo_con f hS hok
    unfold netR
    rw [if_neg (by rw [hok]; simp)]
    refine con_of Tryd.func18 rfl (enters_of Tryd.func18 (by kernel_rfl) rfl) rfl ?_; intro n w0 F0 G0
    (refine goSt ?_; (repeat (refine goAl ?_; intro p hp; refine goSt ?_)))
    (first | (apply wl_call (C); exact rfl; exact rfl) | (apply wl_callR (C); exact rfl; exact goAtm; exact rfl))
    (refine goSt ?_; (repeat (refine goAl ?_; intro p hp; refine goSt ?_)))
    refine Res_nil 2 1 iC rfl ?_
    (apply resK2; exact rfl; exact rfl; exact rfl; exact ⟨rfl, rfl⟩; exact goCutl)
  | true =>
    have C := opened_con f hS hok
    unfold netR
    rw [if_pos hok]
    refine con_of Tryd.func18 rfl (enters_of Tryd.func18 (by kernel_rfl) rfl) rfl ?_; intro n w0 F0 G0
    (refine goSt ?_; (repeat (refine goAl ?_; intro p hp; refine goSt ?_)))
    (apply wl_callP (C); exact rfl; exact goCutl; exact rfl)
    rintro _ _ ⟨ph, ow, rfl, rfl⟩
    (refine goSt ?_; (repeat (refine goAl ?_; intro p hp; refine goSt ?_)))
    (apply Res_frz 2; exact rfl; exact goRm)
    (apply resK2; exact rfl; exact rfl; exact rfl; exact ⟨rfl, rfl⟩; exact goCutl)
end Go.Proofs.YtihonljdanjfmaaDoor.Sw
namespace Go.Proofs.YtihonljdanjfmaaDoor.Sw
open Go.RowKit Go Go.Shelf Go.Proofs
set_option maxRecDepth 20000 in
theorem indexFuncB_con (xs : List Bil) (k : FuncId) (caps : List AV) (p : Bil → Bool) (hl : xs.length ≤ 1000000) (hc : ∀ x ∈ xs, Con Tryd.prog k ([.agg (biC x)] ++ caps) [] (Is (.val (.bool (p x))) [])) : Con Tryd.prog 66 [.sl 4 biC xs, .clo k caps] [] (Is (.val (.int .i64 (fiX p xs))) []) := by
  refine con_of Tryd.func66 rfl (enters_of Tryd.func66 (by kernel_rfl) rfl) rfl ?_; intro n w0 F0 G0
  (refine goSt ?_; (repeat (refine goAl ?_; intro p hp; refine goSt ?_)))
  refine W_loopJ (fun (m : Nat) => ⟨[(0, .sl 4 biC xs), (1, .clo k caps), (7, .val (.int .i64 xs.length)), (8, .val (.int .i64 m))], []⟩) (fun m => m ≤ xs.length ∧ (xs.take m).any p = false) (fun m => xs.length - m) 0 (fun _ _ st => st_sub2 st goSubr goSubp) ?hj0 ?round
  case hj0 => simp
  case round =>
    rintro m ⟨hk, hno⟩
    (refine goSt ?_; (repeat (refine goAl ?_; intro p hp; refine goSt ?_)))
    refine w_cond rfl (fun hlt => ?_) (fun hlt => ?_)
    · have hlt' : m < xs.length := by simpa using hlt
      (refine goSt ?_; (repeat (refine goAl ?_; intro p hp; refine goSt ?_)))
      (apply wl_callV (hc xs[m] (List.getElem_mem hlt')); exact rfl; exact rfl; exact rfl)
      (refine goSt ?_; (repeat (refine goAl ?_; intro p hp; refine goSt ?_)))
      refine w_cond rfl (fun he => ?_) (fun he => ?_)
      · (refine goSt ?_; (repeat (refine goAl ?_; intro p hp; refine goSt ?_)))
        (apply res1; exact rfl; exact rfl; exact ⟨(congrArg (fun b => AV.val (Value.int .i64 b)) (fiX_at hlt' hno he).symm), rfl⟩)
      · (refine goSt ?_; (repeat (refine goAl ?_; intro p hp; refine goSt ?_)))
        (refine ⟨m + 1, fun _ _ st => st_sub2 st ?_ ?_, ?_, ?_⟩; exact goSubr; exact goSubp)
        · refine ⟨by omega, ?_⟩
          rw [List.take_succ_eq_append_getElem hlt', List.any_append, hno]
          simpa using he
        · omega
    · (refine goSt ?_; (repeat (refine goAl ?_; intro p hp; refine goSt ?_)))
      have hkk : m = xs.length := by simp at hlt; omega
      subst hkk
      rw [List.take_length] at hno
      (apply res1; exact rfl; exact rfl; exact ⟨(congrArg (fun b => AV.val (Value.int .i64 b)) (fiX_none hno).symm), rfl⟩)
set_option maxRecDepth 20000 in
theorem shares1_con (x : Bil) (m : Int) : Con Tryd.prog 67 [.agg (biC x), .fp 1 [.val (.int .i64 m)]] [] (Is (.val (.bool (decide (x.no = m)))) []) := by
  refine con_of Tryd.func67 rfl (enters_of Tryd.func67 (by kernel_rfl) rfl) rfl ?_; intro n w0 F0 G0
  (refine goSt ?_; (repeat (refine goAl ?_; intro p hp; refine goSt ?_)))
  (apply res1; exact rfl; exact rfl; exact ⟨rfl, rfl⟩)
/-- What 'Shares' answers. -/
def shaR (f : Flo) (m : Int) : List Int × Int :=
  if floOk f = true then (match f.bs.find? fun x => decide (x.no = m) with | some x => (sharesR f.ids x, 0) | none => ([], 6)) else ([], 80)
theorem find_fiX {α : Type} {p : α → Bool} {xs : List α} : (fiX p xs < 0 ∧ xs.find? p = none) ∨ ∃ (k : Nat) (hk : k < xs.length), fiX p xs = k ∧ xs.find? p = some xs[k] := by
  by_cases h : xs.any p = true
  · right
    have hk : xs.findIdx p < xs.length := List.findIdx_lt_length_of_exists (by simpa using h)
    refine ⟨xs.findIdx p, hk, by unfold fiX; rw [if_pos h], ?_⟩
    rw [List.find?_eq_some_iff_getElem]
    refine ⟨List.findIdx_getElem (w := hk), _, hk, rfl, fun j hj => ?_⟩
    have := List.not_of_lt_findIdx hj
    simpa using this
  · left
    have h' : xs.any p = false := by simpa using h
    refine ⟨by rw [fiX_none h']; decide, ?_⟩
    rw [List.find?_eq_none]
    intro x hx hp
    exact h (List.any_eq_true.2 ⟨x, hx, hp⟩)
set_option maxRecDepth 20000 in
set_option maxHeartbeats 4000000 in
theorem Shares_con (f : Flo) (m : Int) (hS : Sml f) : Con Tryd.prog 16 [.agg (flC f), .val (.int .i64 m)] [tab8] (Is (.tup [.sl 1 iC (shaR f m).1, .val (.int .i64 (shaR f m).2)]) [tab8]) := by
  have hbsl := hS.bs
  cases hok : floOk f with
  | false =>
    have C := openedNo_con f hS hok
    unfold shaR
    rw [if_neg (by rw [hok]; simp)]
    refine con_of Tryd.func16 rfl (enters_of Tryd.func16 (by kernel_rfl) rfl) rfl ?_; intro n w0 F0 G0
    (refine goSt ?_; (repeat (refine goAl ?_; intro p hp; refine goSt ?_)))
    (first | (apply wl_call (C); exact rfl; exact rfl) | (apply wl_callR (C); exact rfl; exact goAtm; exact rfl))
    (refine goSt ?_; (repeat (refine goAl ?_; intro p hp; refine goSt ?_)))
    refine Res_nil 4 1 iC rfl ?_
    (apply resK2; exact rfl; exact rfl; exact rfl; exact ⟨rfl, rfl⟩; exact goCutl)
  | true =>
    have C := opened_con f hS hok
    have hF := flo_f hok
    have hidl := hF.ids
    unfold shaR
    rw [if_pos hok]
    refine con_of Tryd.func16 rfl (enters_of Tryd.func16 (by kernel_rfl) rfl) rfl ?_; intro n w0 F0 G0
    (refine goSt ?_; (repeat (refine goAl ?_; intro p hp; refine goSt ?_)))
    (apply wl_callP (C); exact rfl; exact goCutl; exact rfl)
    rintro _ _ ⟨ph, ow, rfl, rfl⟩
    (refine goSt ?_; (repeat (refine goAl ?_; intro p hp; refine goSt ?_)))
    (apply WL_frzC 19 0 1; exact rfl; exact rfl; exact goRm)
    (first | (apply wl_call (indexFuncB_con f.bs 67 [.fp 1 [.val (.int .i64 m)]] (fun x => decide (x.no = m)) (by omega) (fun x _ => shares1_con x m)); exact rfl; exact rfl) | (apply wl_callR (indexFuncB_con f.bs 67 [.fp 1 [.val (.int .i64 m)]] (fun x => decide (x.no = m)) (by omega) (fun x _ => shares1_con x m)); exact rfl; exact goAtm; exact rfl))
    (refine goSt ?_; (repeat (refine goAl ?_; intro p hp; refine goSt ?_)))
    rcases find_fiX (p := fun x : Bil => decide (x.no = m)) (xs := f.bs) with ⟨h1, h2⟩ | ⟨k, hk, h1, h2⟩
    · rw [h2, decide_eq_true h1]
      (refine goSt ?_; (repeat (refine goAl ?_; intro p hp; refine goSt ?_)))
      refine Res_nil 4 1 iC rfl ?_
      (apply resK2; exact rfl; exact rfl; exact rfl; exact ⟨rfl, rfl⟩; exact goCutl)
    · rw [h2, h1, decide_eq_false (by omega)]
      have hB := hF.bil _ (List.getElem_mem hk)
      have hsl := hS.st _ (List.getElem_mem hk)
      (refine goSt ?_; (repeat (refine goAl ?_; intro p hp; refine goSt ?_)))
      (apply wl_callP (shares_con ph ow f f.bs[k] hidl hsl hB); exact rfl; exact goCutl; exact rfl)
      rintro _ _ ⟨u, rfl, rfl⟩
      (refine goSt ?_; (repeat (refine goAl ?_; intro p hp; refine goSt ?_)))
      (apply Res_frz 4; exact rfl; exact goRm)
      (apply resK2; exact rfl; exact rfl; exact rfl; exact ⟨rfl, rfl⟩; exact goCutl)
set_option maxRecDepth 20000 in
theorem Net8_con (f : Flo) (hS : Sml f) : Con Tryd.prog 19 [.agg (flC f)] [] (Is (.tup [.sl 1 iC (netR f).1, .val (.int .i64 (netR f).2)]) []) := by
  have C := floors_con f hS
  cases hok : floOk f with
  | false =>
    rw [hok] at C
    unfold netR
    rw [if_neg (by rw [hok]; simp)]
    refine con_of Tryd.func19 rfl (enters_of Tryd.func19 (by kernel_rfl) rfl) rfl ?_; intro n w0 F0 G0
    (refine goSt ?_; (repeat (refine goAl ?_; intro p hp; refine goSt ?_)))
    (first | (apply wl_call (C); exact rfl; exact rfl) | (apply wl_callR (C); exact rfl; exact goAtm; exact rfl))
    (refine goSt ?_; (repeat (refine goAl ?_; intro p hp; refine goSt ?_)))
    refine Res_nil 2 1 iC rfl ?_
    (apply resK2; exact rfl; exact rfl; exact rfl; exact ⟨rfl, rfl⟩; exact goCutl)
  | true =>
    rw [hok] at C
    unfold netR
    rw [if_pos hok]
    refine con_of Tryd.func19 rfl (enters_of Tryd.func19 (by kernel_rfl) rfl) rfl ?_; intro n w0 F0 G0
    (refine goSt ?_; (repeat (refine goAl ?_; intro p hp; refine goSt ?_)))
    (first | (apply wl_call (C); exact rfl; exact rfl) | (apply wl_callR (C); exact rfl; exact goAtm; exact rfl))
    (refine goSt ?_; (repeat (refine goAl ?_; intro p hp; refine goSt ?_)))
    (apply wl_callP (owed8_con f (flo_f hok) hS); exact rfl; exact goCutl; exact rfl)
    rintro _ _ ⟨u, rfl, rfl⟩
    (refine goSt ?_; (repeat (refine goAl ?_; intro p hp; refine goSt ?_)))
    (apply Res_frz 2; exact rfl; exact goRm)
    (apply resK2; exact rfl; exact rfl; exact rfl; exact ⟨rfl, rfl⟩; exact goCutl)
set_option maxRecDepth 20000 in
set_option maxHeartbeats 4000000 in
theorem Shares8_con (f : Flo) (m : Int) (hS : Sml f) : Con Tryd.prog 17 [.agg (flC f), .val (.int .i64 m)] [] (Is (.tup [.sl 1 iC (shaR f m).1, .val (.int .i64 (shaR f m).2)]) []) := by
  have hbsl := hS.bs
  have C := floors_con f hS
  cases hok : floOk f with
  | false =>
    rw [hok] at C
    unfold shaR
    rw [if_neg (by rw [hok]; simp)]
    refine con_of Tryd.func17 rfl (enters_of Tryd.func17 (by kernel_rfl) rfl) rfl ?_; intro n w0 F0 G0
    (refine goSt ?_; (repeat (refine goAl ?_; intro p hp; refine goSt ?_)))
    (first | (apply wl_call (C); exact rfl; exact rfl) | (apply wl_callR (C); exact rfl; exact goAtm; exact rfl))
    (refine goSt ?_; (repeat (refine goAl ?_; intro p hp; refine goSt ?_)))
    refine Res_nil 4 1 iC rfl ?_
    (apply resK2; exact rfl; exact rfl; exact rfl; exact ⟨rfl, rfl⟩; exact goCutl)
  | true =>
    have hF := flo_f hok
    have hidl := hF.ids
    rw [hok] at C
    unfold shaR
    rw [if_pos hok]
    refine con_of Tryd.func17 rfl (enters_of Tryd.func17 (by kernel_rfl) rfl) rfl ?_; intro n w0 F0 G0
    (refine goSt ?_; (repeat (refine goAl ?_; intro p hp; refine goSt ?_)))
    (first | (apply wl_call (C); exact rfl; exact rfl) | (apply wl_callR (C); exact rfl; exact goAtm; exact rfl))
    (refine goSt ?_; (repeat (refine goAl ?_; intro p hp; refine goSt ?_)))
    refine W_loopJ (fun (k : Nat) => ⟨[(1, .val (.int .i64 m)), (2, .val p), (12, .sl 4 biC f.bs), (13, .val (.int .i64 f.bs.length)), (14, .val (.int .i64 k))], [.box p (flC f) 27]⟩)
      (fun k => k ≤ f.bs.length ∧ (f.bs.drop k).find? (fun x => decide (x.no = m)) = f.bs.find? (fun x => decide (x.no = m))) (fun k => f.bs.length - k) 0 (fun _ _ st => st_sub2 st goSubr goSubp) ⟨Nat.zero_le _, rfl⟩ ?_
    rintro k ⟨hk, hno⟩
    (refine goSt ?_; (repeat (refine goAl ?_; intro p hp; refine goSt ?_)))
    refine w_cond rfl (fun hlt => ?_) (fun hlt => ?_)
    · have hlt' : k < f.bs.length := by simpa using hlt
      have hB := hF.bil _ (List.getElem_mem hlt')
      have hsl := hS.st _ (List.getElem_mem hlt')
      rw [drop_step hlt', List.find?_cons] at hno
      (refine goSt ?_; (repeat (refine goAl ?_; intro p hp; refine goSt ?_)))
      refine w_cond rfl (fun he => ?_) (fun he => ?_)
      · rw [he] at hno
        rw [← hno]
        (refine goSt ?_; (repeat (refine goAl ?_; intro p hp; refine goSt ?_)))
        (first | (apply wl_call (shares8_con f f.bs[k] hidl hsl hB); exact rfl; exact rfl) | (apply wl_callR (shares8_con f f.bs[k] hidl hsl hB); exact rfl; exact goAtm; exact rfl))
        (refine goSt ?_; (repeat (refine goAl ?_; intro p hp; refine goSt ?_)))
        (apply resK2; exact rfl; exact rfl; exact rfl; exact ⟨rfl, rfl⟩; exact goCutl)
      · rw [he] at hno
        (refine goSt ?_; (repeat (refine goAl ?_; intro p hp; refine goSt ?_)))
        (refine ⟨k + 1, fun _ _ st => st_sub2 st ?_ ?_, ?_, ?_⟩; exact goSubr; exact goSubp)
        · exact ⟨hlt', hno⟩
        · omega
    · have hkk : k = f.bs.length := by simp at hlt; omega
      subst hkk
      rw [List.drop_length, List.find?_nil] at hno
      rw [← hno]
      (refine goSt ?_; (repeat (refine goAl ?_; intro p hp; refine goSt ?_)))
      refine Res_nil 4 1 iC rfl ?_
      (apply resK2; exact rfl; exact rfl; exact rfl; exact ⟨rfl, rfl⟩; exact goCutl)
end Go.Proofs.YtihonljdanjfmaaDoor.Sw
namespace Go.Proofs.YtihonljdanjfmaaDoor.Sw
open Go.RowKit Go Go.Shelf Go.Proofs
open Go.Proofs.YtihonljdanjfmaaDoor.Gr (payLt atP addP)
/-- Pairs that speak, the lesser index first. -/
def prJ (sp : Nat → Nat → Bool) (i k m : Nat) : List (Nat × Nat) := ((List.range' k m).filter fun k => sp i k).map fun k => (i, k)
def prR (sp : Nat → Nat → Bool) (n : Nat) : Nat → List (Nat × Nat)
  | 0 => []
  | i + 1 => prR sp n i ++ prJ sp i (i + 1) (n - (i + 1))
theorem prJ_succ (sp : Nat → Nat → Bool) (i k m : Nat) : prJ sp i k (m + 1) = if sp i (k + m) = true then prJ sp i k m ++ [(i, k + m)] else prJ sp i k m := by
  unfold prJ
  rw [List.range'_concat, Nat.one_mul, List.filter_append]
  split
  · rename_i h; simp [h]
  · rename_i h; simp [h]
theorem prJ_mem {sp : Nat → Nat → Bool} {i k m : Nat} {p : Nat × Nat} : p ∈ prJ sp i k m ↔ p.1 = i ∧ k ≤ p.2 ∧ p.2 < k + m ∧ sp i p.2 = true := by
  unfold prJ
  rw [List.mem_map]
  constructor
  · rintro ⟨a, ha, rfl⟩
    have := List.mem_filter.1 ha
    have h2 := List.mem_range'_1.1 this.1
    exact ⟨rfl, h2.1, h2.2, this.2⟩
  · rintro ⟨h1, h2, h3, h4⟩
    exact ⟨p.2, List.mem_filter.2 ⟨List.mem_range'_1.2 ⟨h2, h3⟩, h4⟩, by rw [← h1]⟩
theorem prR_mem {sp : Nat → Nat → Bool} {n : Nat} {p : Nat × Nat} : ∀ {i}, i ≤ n → (p ∈ prR sp n i ↔ p.1 < i ∧ p.1 < p.2 ∧ p.2 < n ∧ sp p.1 p.2 = true)
  | 0, _ => by simp [prR]
  | i + 1, hi => by
    rw [prR, List.mem_append, prR_mem (by omega), prJ_mem]
    constructor
    · rintro (⟨h1, h2⟩ | ⟨h1, h2, h3, h4⟩)
      · exact ⟨by omega, h2⟩
      · exact ⟨by omega, by omega, by omega, by rw [h1]; exact h4⟩
    · rintro ⟨h1, h2, h3, h4⟩
      by_cases he : p.1 = i
      · exact .inr ⟨he, by omega, by omega, by rw [← he]; exact h4⟩
      · exact .inl ⟨by omega, h2, h3, h4⟩
theorem prJ_len (sp : Nat → Nat → Bool) (i k m : Nat) : (prJ sp i k m).length ≤ m := by
  unfold prJ
  rw [List.length_map]
  exact Nat.le_trans (List.length_filter_le _ _) (by simp)
theorem prR_len (sp : Nat → Nat → Bool) (n : Nat) : ∀ i, (prR sp n i).length ≤ i * n
  | 0 => by simp [prR]
  | i + 1 => by
    rw [prR, List.length_append]
    have h1 := prR_len sp n i
    have h2 := prJ_len sp i (i + 1) (n - (i + 1))
    rw [Nat.succ_mul]; omega
set_option maxRecDepth 20000 in
set_option maxHeartbeats 4000000 in
theorem pairs8_con (f : Flo) (hn : f.ids.length ≤ 10) (hql : f.qs.length ≤ 1000) : Con Tryd.prog 92 [.agg (flC f)] [] (Tok 149 2 pnC (prR (spk f) f.ids.length f.ids.length)) := by
  have hll : ∀ i, i ≤ 10 → (prR (spk f) f.ids.length i).length ≤ 100 := fun i hi => Nat.le_trans (prR_len _ _ i) (Nat.mul_le_mul hi hn)
  refine con_of Tryd.func92 rfl (enters_of Tryd.func92 (by kernel_rfl) rfl) rfl ?_; intro n w0 F0 G0
  (refine goSt ?_; (repeat (refine goAl ?_; intro p hp; refine goSt ?_)))
  refine W_loopJ (fun (b : Nat × Value) => ⟨[(1, .val p), (3, .val b.2), (4, .val (.int .i64 b.1))], [.row b.2 149 2 pnC (prR (spk f) f.ids.length b.1), .box p (flC f) 27]⟩) (fun b => b.1 ≤ f.ids.length) (fun b => f.ids.length - b.1) (0, .slice none 0 0) (fun _ _ st => st_sub2 (st_nil 149 2 pnC st) goSubr goSubp) (Nat.zero_le _) ?_
  rintro ⟨i, v⟩ hi
  dsimp only at hi ⊢
  (refine goSt ?_; (repeat (refine goAl ?_; intro p hp; refine goSt ?_)))
  refine w_cond rfl (fun hlt => ?_) (fun hlt => ?_)
  · have hi' : i < f.ids.length := by simpa using hlt
    have hl1 := hll i (by omega)
    have hq1 : f.ids[i]? = some f.ids[i] := List.getElem?_eq_getElem hi'
    (refine goSt ?_; (repeat (refine goAl ?_; intro p hp; refine goSt ?_)))
    refine W_loopJ (fun (b : Nat × Value) => ⟨[(1, .val p), (3, .val b.2), (4, .val (.int .i64 i)), (5, .val (.int .i64 ((i + 1 + b.1 : Nat) : Int)))], [.row b.2 149 2 pnC (prR (spk f) f.ids.length i ++ prJ (spk f) i (i + 1) b.1), .box p (flC f) 27]⟩) (fun b => i + 1 + b.1 ≤ f.ids.length) (fun b => f.ids.length - b.1) (0, v) (fun _ _ st => st_sub2 st goSubr (by rw [show prJ (spk f) i (i + 1) 0 = [] from rfl, List.append_nil]; exact goSubp)) hi' ?_
    rintro ⟨m, u⟩ hm
    dsimp only at hm ⊢
    (refine goSt ?_; (repeat (refine goAl ?_; intro p hp; refine goSt ?_)))
    refine w_cond rfl (fun hlt2 => ?_) (fun hlt2 => ?_)
    · have hk' : i + 1 + m < f.ids.length := by simp at hlt2; omega
      have hq2 : f.ids[i + 1 + m]? = some f.ids[i + 1 + m] := List.getElem?_eq_getElem hk'
      have hl2 := prJ_len (spk f) i (i + 1) m
      have S := speak8_con f f.ids[i] f.ids[i + 1 + m] hql
      rw [show speakR f.qs f.ids[i] f.ids[i + 1 + m] = spk f i (i + 1 + m) from by simp [spk, List.getD_eq_getElem?_getD, hk', hi']] at S
      have hsu := prJ_succ (spk f) i (i + 1) m
      (refine goSt ?_; (repeat (refine goAl ?_; intro p hp; refine goSt ?_)))
      refine W_run 11 [22, 23, 24, 25, 26, 27, 28, 29, 30, 31, 32] [0, 1, 2, 3, 4, 5, 6, 7, 8, 9, 10] Cut.nil rfl goFlt mixedS (by kernel_rfl) rfl ?_
      refine rpv [] [] ?_
      refine rpv [] [] ?_
      refine rpv [1] [] ?_
      refine rpv [] [] ?_
      refine rpv [2, 3] [] ?_
      refine rpv [4] [] ?_
      refine rpv [] [] ?_
      refine rpv [6] [] ?_
      refine rpv [] [] ?_
      refine rpv [7, 8] [] ?_
      refine rpv [9] [] ?_
      refine ⟨⟨by kernel_rfl, by kernel_rfl⟩, fun vs => ?_⟩
      apply WL_auto [0, 5, 10]
      · exact goPk
      · exact goNrm
      · kernel_rfl
      · kernel_rfl
      (refine goSt ?_; (repeat (refine goAl ?_; intro p hp; refine goSt ?_)))
      (first | (apply wl_call (S); exact rfl; exact rfl) | (apply wl_callR (S); exact rfl; exact goAtm; exact rfl))
      (refine goSt ?_; (repeat (refine goAl ?_; intro p hp; refine goSt ?_)))
      refine w_cond rfl (fun hs => ?_) (fun hs => ?_)
      · rw [if_pos hs] at hsu
        (refine goSt ?_; (repeat (refine goAl ?_; intro p hp; refine goSt ?_)))
        refine WL_as 37 (.agg (pnC (i, i + 1 + m))) rfl ?_
        (apply wl_litF pnC; exact inferInstance; exact inferInstance; exact inferInstance; (repeat (first | exact Elems.nil | (apply Elems.cons; exact rfl; exact inferInstance; exact rfl))); exact rfl; (first | exact (of_decide_eq_true rfl) | decide | (simp; done) | (simp; omega)); exact rfl)
        (first | (apply wl_append; exact rfl; exact rfl; exact goRm; exact inferInstance; exact inferInstance; (first | omega | (simp; omega)); exact rfl) | (apply wl_appendN; exact rfl; exact rfl; exact inferInstance; exact inferInstance; (first | omega | (simp; omega)); exact rfl))
        intro v2
        rw [List.append_assoc, ← hsu]
        (refine goSt ?_; (repeat (refine goAl ?_; intro p hp; refine goSt ?_)))
        (refine ⟨(m + 1, v2), fun _ _ st => st_sub2 st ?_ ?_, ?_, ?_⟩; exact goSubr; exact goSubp)
        · dsimp only; omega
        · dsimp only; omega
      · rw [if_neg (by rw [hs]; simp)] at hsu
        rw [← hsu]
        (refine goSt ?_; (repeat (refine goAl ?_; intro p hp; refine goSt ?_)))
        (refine ⟨(m + 1, u), fun _ _ st => st_sub2 st ?_ ?_, ?_, ?_⟩; exact goSubr; exact goSubp)
        · dsimp only; omega
        · dsimp only; omega
    · have hkk : m = f.ids.length - (i + 1) := by simp at hlt2; omega
      have e1 : prR (spk f) f.ids.length i ++ prJ (spk f) i (i + 1) m = prR (spk f) f.ids.length (i + 1) := by rw [hkk]; rfl
      rw [e1]
      (refine goSt ?_; (repeat (refine goAl ?_; intro p hp; refine goSt ?_)))
      (refine ⟨(i + 1, u), fun _ _ st => st_sub2 st ?_ ?_, ?_, ?_⟩; exact goSubr; exact goSubp)
      · dsimp only; omega
      · dsimp only; omega
  · have hii : i = f.ids.length := by simp at hlt; omega
    subst hii
    (refine goSt ?_; (repeat (refine goAl ?_; intro p hp; refine goSt ?_)))
    (apply resK; exact rfl; exact rfl; (apply Cut.cons; exact goRm; exact Cut.nil); exact ⟨_, rfl, rfl⟩)
set_option maxRecDepth 20000 in
theorem less8_con (a b : Pay) : Con Tryd.prog 137 [.agg (payC a), .agg (payC b)] [] (Is (.val (.bool (payLt a b))) []) := by
  unfold payLt
  refine con_of Tryd.func137 rfl (enters_of Tryd.func137 (by kernel_rfl) rfl) rfl ?_; intro n w0 F0 G0
  (refine goSt ?_; (repeat (refine goAl ?_; intro p hp; refine goSt ?_)))
  refine w_cond rfl (fun h1 => ?_) (fun h1 => ?_)
  · rw [if_pos (by simpa using h1)]
    (refine goSt ?_; (repeat (refine goAl ?_; intro p hp; refine goSt ?_)))
    (apply res1; exact rfl; exact rfl; exact ⟨rfl, rfl⟩)
  · rw [if_neg (by simpa using h1)]
    (refine goSt ?_; (repeat (refine goAl ?_; intro p hp; refine goSt ?_)))
    refine w_cond rfl (fun h2 => ?_) (fun h2 => ?_)
    · rw [if_pos (by simpa using h2)]
      (refine goSt ?_; (repeat (refine goAl ?_; intro p hp; refine goSt ?_)))
      (apply res1; exact rfl; exact rfl; exact ⟨rfl, rfl⟩)
    · rw [if_neg (by simpa using h2)]
      (refine goSt ?_; (repeat (refine goAl ?_; intro p hp; refine goSt ?_)))
      (apply res1; exact rfl; exact rfl; exact ⟨rfl, rfl⟩)
def sumPay (l : List Pay) : Int := (l.map Pay.p).sum
theorem sumPay_cons (x : Pay) (l : List Pay) : sumPay (x :: l) = x.p + sumPay l := by simp [sumPay]
theorem sumPay_snoc (l : List Pay) (x : Pay) : sumPay (l ++ [x]) = sumPay l + x.p := by simp [sumPay]
theorem sumPay_bound {c : Int} (hc : 0 ≤ c) : ∀ {l : List Pay}, (∀ x ∈ l, -c ≤ x.p ∧ x.p ≤ c) → -(l.length * c) ≤ sumPay l ∧ sumPay l ≤ l.length * c
  | [], _ => by simp [sumPay]
  | x :: t, h => by
    have h1 := h x (by simp)
    have h2 := sumPay_bound hc (l := t) fun y hy => h y (by simp [hy])
    rw [sumPay_cons, List.length_cons]
    have hk : ((t.length + 1 : Nat) : Int) * c = t.length * c + c := by rw [Int.natCast_add, Int.add_mul]; simp
    rw [hk]; omega
set_option maxRecDepth 20000 in
set_option maxHeartbeats 4000000 in
theorem Sum8_con (l : List Pay) (hl : l.length ≤ 1000) (hb : ∀ x ∈ l, -1000000000000 ≤ x.p ∧ x.p ≤ 1000000000000) : Con Tryd.prog 115 [.sl 3 payC l] [] (Is (.val (.int .i64 (sumPay l))) []) := by
  refine con_of Tryd.func115 rfl (enters_of Tryd.func115 (by kernel_rfl) rfl) rfl ?_; intro n w0 F0 G0
  (refine goSt ?_; (repeat (refine goAl ?_; intro p hp; refine goSt ?_)))
  refine W_loopJ (fun (k : Nat) => ⟨[(6, .sl 3 payC l), (7, .val (.int .i64 l.length)), (8, .val (.int .i64 k)), (3, .val (.int .i64 (sumPay (l.take k))))], []⟩) (fun k => k ≤ l.length) (fun k => l.length - k) 0 (fun _ _ st => st_sub2 st goSubr goSubp) (Nat.zero_le _) ?_
  rintro k hk
  (refine goSt ?_; (repeat (refine goAl ?_; intro p hp; refine goSt ?_)))
  refine w_cond rfl (fun hlt => ?_) (fun hlt => ?_)
  · have hlt' : k < l.length := by simpa using hlt
    have h1 := hb _ (List.getElem_mem hlt')
    have h2 := sumPay_bound (c := 1000000000000) (by omega) (l := l.take k) fun y hy => hb y (List.mem_of_mem_take hy)
    have h3 : (l.take k).length = k := by rw [List.length_take]; omega
    rw [h3] at h2
    have h4 : sumPay (l.take (k + 1)) = sumPay (l.take k) + l[k].p := by rw [List.take_succ_eq_append_getElem hlt', sumPay_snoc]
    (refine goSt ?_; (repeat (refine goAl ?_; intro p hp; refine goSt ?_)))
    rw [← h4]
    (refine ⟨k + 1, fun _ _ st => st_sub2 st ?_ ?_, ?_, ?_⟩; exact goSubr; exact goSubp)
    · omega
    · omega
  · have hkk : k = l.length := by simp at hlt; omega
    subst hkk
    rw [List.take_length]
    (refine goSt ?_; (repeat (refine goAl ?_; intro p hp; refine goSt ?_)))
    (apply res1; exact rfl; exact rfl; exact ⟨rfl, rfl⟩)
set_option maxRecDepth 20000 in
set_option maxHeartbeats 4000000 in
theorem add8P_con (l : List Pay) (x : Pay) (hl : l.length ≤ 1000) : Con Tryd.prog 132 [.sl 3 payC l, .agg (payC x)] [] (Is (.sl 3 payC (addP l x)) []) := by
  refine con_of Tryd.func132 rfl (enters_of Tryd.func132 (by kernel_rfl) rfl) rfl ?_; intro n w0 F0 G0
  (refine goSt ?_; (repeat (refine goAl ?_; intro p hp; refine goSt ?_)))
  refine W_loopJ (fun (k : Nat) => ⟨[(0, .sl 3 payC l), (3, .val p), (5, .val (.int .i64 k))], [.box p (payC x) 53]⟩) (fun k => k ≤ l.length ∧ k + atP (l.drop k) x = atP l x) (fun k => l.length - k) 0 (fun _ _ st => st_sub2 st goSubr goSubp) ⟨Nat.zero_le _, by simp⟩ ?_
  rintro k ⟨hk, hno⟩
  (refine goSt ?_; (repeat (refine goAl ?_; intro p hp; refine goSt ?_)))
  by_cases hlt : k < l.length
  · have hq1 : l[k]? = some l[k] := List.getElem?_eq_getElem hlt
    rw [drop_step hlt] at hno
    refine W_run 10 [6, 7, 8, 9, 10, 11, 12, 13, 14, 15] [0, 1, 2, 3, 4, 5, 6, 7, 8, 9] Cut.nil rfl goFlt mixedS (by kernel_rfl) rfl ?_
    refine rpv [] [] ?_
    refine rpv [] [] ?_
    refine rpv [1] [] ?_
    refine Run.pv [0, 2] [] rfl (fun vs => by apply ltr_pk; exact goPk; (refine ltr ?_; apply LT_bool true; apply lt_lss; exact rfl; exact rfl; (simp; omega))) goApp ?_
    refine rpv [3] [] ?_
    refine Run.yes [4] [] rfl rfl (fun vs => by apply look_pk; exact goPk; exact rfl) (fun vs => by apply ltr_pk; exact goPk; exact goLtr) goApp ?_
    refine Run.yes [4] [] rfl rfl (fun vs => by apply look_pk; exact goPk; exact rfl) (fun vs => by apply ltr_pk; exact goPk; exact goLtr) goApp ?_
    refine Run.yes [4, 5, 6] [] rfl rfl (fun vs => by apply look_pk; exact goPk; exact rfl) (fun vs => by apply ltr_pk; exact goPk; exact goLtr) goApp ?_
    refine Run.yes [4, 7] [] rfl rfl (fun vs => by apply look_pk; exact goPk; exact rfl) (fun vs => by apply ltr_pk; exact goPk; exact goLtr) goApp ?_
    refine Run.yes [4] [] rfl rfl (fun vs => by apply look_pk; exact goPk; exact rfl) (fun vs => by apply ltr_pk; exact goPk; exact goLtr) goApp ?_
    refine ⟨⟨by kernel_rfl, by kernel_rfl⟩, fun vs => ?_⟩
    apply WL_auto [4, 8, 9]
    · exact goPk
    · exact goNrm
    · kernel_rfl
    · kernel_rfl
    (refine goSt ?_; (repeat (refine goAl ?_; intro p hp; refine goSt ?_)))
    (first | (apply wl_call (less8_con l[k] x); exact rfl; exact rfl) | (apply wl_callR (less8_con l[k] x); exact rfl; exact goAtm; exact rfl))
    (refine goSt ?_; (repeat (refine goAl ?_; intro p hp; refine goSt ?_)))
    refine w_cond rfl (fun hs => ?_) (fun hs => ?_)
    · have hno2 : atP (l[k] :: l.drop (k + 1)) x = atP (l.drop (k + 1)) x + 1 := by
        unfold atP; rw [List.takeWhile_cons_of_pos (p := fun y => payLt y x) hs, List.length_cons]
      (refine goSt ?_; (repeat (refine goAl ?_; intro p hp; refine goSt ?_)))
      (refine ⟨k + 1, fun _ _ st => st_sub2 st ?_ ?_, ?_, ?_⟩; exact goSubr; exact goSubp)
      · exact ⟨hlt, by omega⟩
      · omega
    · have hno2 : atP (l[k] :: l.drop (k + 1)) x = 0 := by
        unfold atP; rw [List.takeWhile_cons_of_neg (p := fun y => payLt y x) (by rw [hs]; simp)]; rfl
      have hkk : k = atP l x := by omega
      unfold addP
      rw [← hkk]
      (refine goSt ?_; (repeat (refine goAl ?_; intro p hp; refine goSt ?_)))
      refine W_run 11 [20, 21, 22, 23, 24, 25, 26, 27, 28, 29, 30] [1, 2, 3, 5, 6, 7, 8, 9, 10] Cut.nil rfl goFlt mixedS (by kernel_rfl) rfl ?_
      refine Run.tok [] [] rfl (fun vs => by apply ltr_pk; exact goPk; (refine ltr ?_; apply lt_lit (f := payC); (repeat (first | exact Elems.nil | (apply Elems.cons; exact rfl; exact inferInstance; exact rfl))); exact rfl; (first | exact (of_decide_eq_true rfl) | decide | (simp; done) | (simp; omega)))) goApp ?_
      refine rpv [] [] ?_
      refine rpv [] [] ?_
      refine Run.pv [1, 2] [] rfl (fun vs => by apply ltr_pk; exact goPk; (refine ltr ?_; refine lt_slice (l := 0) (h := k) (li := 0) rfl (.inr ⟨rfl, rfl⟩) rfl (.inl rfl) rfl (Nat.zero_le _) (by omega))) goApp ?_
      refine Run.tok [0, 3] [0] rfl (fun vs => by apply ltr_pk; exact goPk; (refine ltr ?_; apply lt_append; exact rfl; exact rfl; (first | omega | (simp; omega)))) goApp ?_
      refine rpv [] [] ?_
      refine Run.pv [5] [] rfl (fun vs => by apply ltr_pk; exact goPk; (refine ltr ?_; apply LT_frz; apply lt_lit (f := payC); (repeat (first | exact Elems.nil | (apply Elems.cons; exact rfl; exact inferInstance; exact rfl))); exact rfl; (first | exact (of_decide_eq_true rfl) | decide | (simp; done) | (simp; omega)))) goApp ?_
      refine Run.tok [4, 6] [4] rfl (fun vs => by apply ltr_pk; exact goPk; (refine ltr ?_; apply lt_append; exact rfl; exact rfl; (first | omega | (simp; omega)))) goApp ?_
      refine rpv [] [] ?_
      refine rpv [] [] ?_
      refine Run.pv [8, 9] [] rfl (fun vs => by apply ltr_pk; exact goPk; (refine ltr ?_; refine lt_slice (l := k) (h := l.length) (hi' := (l.length : Int)) rfl (.inl rfl) rfl (.inr ⟨rfl, rfl⟩) rfl (by omega) (Nat.le_refl _))) goApp ?_
      refine ⟨⟨by kernel_rfl, by kernel_rfl⟩, fun vs => ?_⟩
      apply WL_auto [7, 10]
      · exact goPk
      · exact goNrm
      · kernel_rfl
      · kernel_rfl
      (refine goSt ?_; (repeat (refine goAl ?_; intro p hp; refine goSt ?_)))
      (first | (apply wl_append; exact rfl; exact rfl; exact goRm; exact inferInstance; exact inferInstance; (first | omega | (simp; omega)); exact rfl) | (apply wl_appendN; exact rfl; exact rfl; exact inferInstance; exact inferInstance; (first | omega | (simp; omega)); exact rfl))
      intro v1
      rw [List.take_length]
      (apply WL_frz 31; exact rfl; exact goRm)
      (refine goSt ?_; (repeat (refine goAl ?_; intro p hp; refine goSt ?_)))
      (apply res1; exact rfl; exact rfl; exact ⟨rfl, rfl⟩)
  · have hkk : k = l.length := by omega
    subst hkk
    rw [List.drop_length] at hno
    have hkk : l.length = atP l x := by simpa [atP] using hno
    unfold addP
    rw [← hkk]
    refine W_run 10 [6, 7, 8, 9, 10, 11, 12, 13, 14, 15] [0, 1, 2, 3, 4, 5, 6, 7, 8, 9] Cut.nil rfl goFlt mixedS (by kernel_rfl) rfl ?_
    refine rpv [] [] ?_
    refine rpv [] [] ?_
    refine rpv [1] [] ?_
    refine Run.pv [0, 2] [] rfl (fun vs => by apply ltr_pk; exact goPk; (refine ltr ?_; apply LT_bool false; apply lt_lss; exact rfl; exact rfl; simp)) goApp ?_
    refine rpv [3] [] ?_
    refine Run.no [4] [] rfl rfl (fun vs => by apply look_pk; exact goPk; exact rfl) (by exact rfl) goApp ?_
    refine Run.no [4] [] rfl rfl (fun vs => by apply look_pk; exact goPk; exact rfl) (by exact rfl) goApp ?_
    refine Run.no [4, 5, 6] [] rfl rfl (fun vs => by apply look_pk; exact goPk; exact rfl) (by exact rfl) goApp ?_
    refine Run.no [4, 7] [] rfl rfl (fun vs => by apply look_pk; exact goPk; exact rfl) (by exact rfl) goApp ?_
    refine Run.no [4] [] rfl rfl (fun vs => by apply look_pk; exact goPk; exact rfl) (by exact rfl) goApp ?_
    refine ⟨⟨by kernel_rfl, by kernel_rfl⟩, fun vs => ?_⟩
    apply WL_auto [4, 8, 9]
    · exact goPk
    · exact goNrm
    · kernel_rfl
    · kernel_rfl
    (refine goSt ?_; (repeat (refine goAl ?_; intro p hp; refine goSt ?_)))
    refine W_run 11 [20, 21, 22, 23, 24, 25, 26, 27, 28, 29, 30] [1, 2, 3, 5, 6, 7, 8, 9, 10] Cut.nil rfl goFlt mixedS (by kernel_rfl) rfl ?_
    refine Run.tok [] [] rfl (fun vs => by apply ltr_pk; exact goPk; (refine ltr ?_; apply lt_lit (f := payC); (repeat (first | exact Elems.nil | (apply Elems.cons; exact rfl; exact inferInstance; exact rfl))); exact rfl; (first | exact (of_decide_eq_true rfl) | decide | (simp; done) | (simp; omega)))) goApp ?_
    refine rpv [] [] ?_
    refine rpv [] [] ?_
    refine Run.pv [1, 2] [] rfl (fun vs => by apply ltr_pk; exact goPk; (refine ltr ?_; refine lt_slice (l := 0) (h := l.length) (li := 0) rfl (.inr ⟨rfl, rfl⟩) rfl (.inl rfl) rfl (Nat.zero_le _) (by omega))) goApp ?_
    refine Run.tok [0, 3] [0] rfl (fun vs => by apply ltr_pk; exact goPk; (refine ltr ?_; apply lt_append; exact rfl; exact rfl; (first | omega | (simp; omega)))) goApp ?_
    refine rpv [] [] ?_
    refine Run.pv [5] [] rfl (fun vs => by apply ltr_pk; exact goPk; (refine ltr ?_; apply LT_frz; apply lt_lit (f := payC); (repeat (first | exact Elems.nil | (apply Elems.cons; exact rfl; exact inferInstance; exact rfl))); exact rfl; (first | exact (of_decide_eq_true rfl) | decide | (simp; done) | (simp; omega)))) goApp ?_
    refine Run.tok [4, 6] [4] rfl (fun vs => by apply ltr_pk; exact goPk; (refine ltr ?_; apply lt_append; exact rfl; exact rfl; (first | omega | (simp; omega)))) goApp ?_
    refine rpv [] [] ?_
    refine rpv [] [] ?_
    refine Run.pv [8, 9] [] rfl (fun vs => by apply ltr_pk; exact goPk; (refine ltr ?_; refine lt_slice (l := l.length) (h := l.length) (hi' := (l.length : Int)) rfl (.inl rfl) rfl (.inr ⟨rfl, rfl⟩) rfl (by omega) (Nat.le_refl _))) goApp ?_
    refine ⟨⟨by kernel_rfl, by kernel_rfl⟩, fun vs => ?_⟩
    apply WL_auto [7, 10]
    · exact goPk
    · exact goNrm
    · kernel_rfl
    · kernel_rfl
    (refine goSt ?_; (repeat (refine goAl ?_; intro p hp; refine goSt ?_)))
    (first | (apply wl_append; exact rfl; exact rfl; exact goRm; exact inferInstance; exact inferInstance; (first | omega | (simp; omega)); exact rfl) | (apply wl_appendN; exact rfl; exact rfl; exact inferInstance; exact inferInstance; (first | omega | (simp; omega)); exact rfl))
    intro v1
    rw [List.take_length]
    (apply WL_frz 31; exact rfl; exact goRm)
    (refine goSt ?_; (repeat (refine goAl ?_; intro p hp; refine goSt ?_)))
    (apply res1; exact rfl; exact rfl; exact ⟨rfl, rfl⟩)
end Go.Proofs.YtihonljdanjfmaaDoor.Sw
