/- A map whose keys are places (two indices), at work in memory: what a look-up and a store do. -/
import Derived.Test.YthddoikmgpgakaaDoorProg
import Derived.Test.YthddoikmgpgakaaDoorBase
import Derived.Outline
import Derived.RangeFuncNested
import Derived.Shelf.Abstract
import Derived.Deep.QuietTactic
import Derived.BigQuiet
import Derived.Deep.RegionHeld3
import Derived.WalkSmall
import Derived.Laws.EntriesVeiled
import Derived.DeepKeys4
import Derived.Maps.OwnIn
import Derived.Test.YthddoikmgpgakaaDoorBase
namespace Go.Proofs.YthddoikmgpgakaaDoor
open Go.RowKit Go.Proofs Go.Shelf
open Go.WideElems (Fit)
open Go.ChangeMaps (setBlock heap_setBlock_same heap_setBlock_other)

/-- A place as a value. -/
def plc (i k : Nat) : Value := .agg #[.int .i64 i, .int .i64 k]
/-- The literal of a place. -/
def klit (i k : Nat) : Lit := .string (keyBytes [.int .i64 i, .int .i64 k])
/-- An element that may be whatever. -/
abbrev anyE : Value → Option (DataW Nat × List MemPlace) := fun _ => some (.nil, [])

theorem plc_inj {i k i' k' : Nat} (h : plc i k = plc i' k') : i = i' ∧ k = k' := by
  simp [plc] at h
  omega

theorem row_place : 137 < (Tryd.prog).types.size := of_decide_eq_true (by kernel_rfl)
theorem laid_place : laidOutB Tryd.prog = true := by kernel_rfl
theorem deep_place : (Tryd.prog).keyTypeAt 2 137 = true := by kernel_rfl
theorem law_place : Go.WideMaps.KeyLaw Tryd.prog 137 := deep_law_laid laid_place (m := 2) (by omega) row_place deep_place (by rw [Tryd.underlying137])
theorem wf_nat {i : Nat} (h : i ≤ 4000) : (Lit.int .i64 (i : Int)).wf = true := by
  simp only [Lit.wf, IntKind.min, IntKind.max, IntKind.signed, IntKind.bits, Bool.and_eq_true, decide_eq_true_eq, if_true]
  omega
theorem keytype_place : (Tryd.prog).keyType 137 = true := by kernel_rfl
theorem cells_place : (Tryd.prog).cellsOf 137 = 2 := by kernel_rfl
theorem cells_int : (Tryd.prog).cellsOf 3 = 1 := by kernel_rfl
theorem keyed_place : Go.Maps.Keyed Tryd.prog 137 := Go.Maps.Keyed.of_law law_place

theorem key_place {i k : Nat} (hi : i ≤ 4000) (hk : k ≤ 4000) : keyOf Tryd.prog 137 (plc i k) = some (klit i k) := by
  have w1 := wf_nat hi
  have w2 := wf_nat hk
  have u1 : (Tryd.prog).underlying 137 = some (.array 2 3) := Tryd.underlying137
  have u2 : (Tryd.prog).underlying 3 = some (.int .i64) := Tryd.underlying3
  have c1 := cells_place
  have c2 := cells_int
  have kt := keytype_place
  have hs : ∃ m, (Tryd.prog).types.size = m + 1 := ⟨(Tryd.prog).types.size - 1, by have := row_place; omega⟩
  obtain ⟨m, hm⟩ := hs
  obtain ⟨d, hd⟩ : ∃ d, d = (Tryd.prog).types.size + 1 := ⟨_, rfl⟩
  have kl : (Tryd.prog).keyLits d 137 [.int .i64 i, .int .i64 k] = some [.int .i64 i, .int .i64 k] := by
    rw [hd, hm]
    unfold Program.keyLits
    simp only [u1]
    simp [c1, c2, Program.keyLits, u2, w1, w2, List.range, List.range.loop]
  unfold keyOf
  rw [← hd]
  simp only [u1]
  rw [if_pos (by simp [kt, plc, Value.formed, u1, c1])]
  show ((Tryd.prog).keyLits d 137 [.int .i64 i, .int .i64 k]).map _ = _
  rw [kl]
  rfl

/-- Block b is a map from places (up to A, B) to values that are as V says. -/
def PMap (w : World) (b A B : Nat) (V : Nat → Nat → Value → Prop) : Prop :=
  ∃ es clock, w.heap[b]? = some (.map es clock) ∧ Fit Tryd.prog 137 anyE es clock ∧ ∀ x ∈ es.toList, ∃ i k, i ≤ A ∧ k ≤ B ∧ x.key = plc i k ∧ V i k x.val

theorem PMap.made (w : World) (A B : Nat) (V : Nat → Nat → Value → Prop) : PMap (w.alloc (.map #[] 0)) w.heap.size A B V := by
  have h : (w.alloc (.map #[] 0)).ownsMap Tryd.prog 137 anyE w.heap.size 0 (.map []) := World.ownsMap_made _ _ _ _
  obtain ⟨es, clock, h1, h2, h3, _⟩ := h
  refine ⟨es, clock, h1, h2, fun x hx => ?_⟩
  have : es.toList = [] := by cases es with | mk l => simp at h3; simpa using h3
  rw [this] at hx
  cases hx

theorem PMap.lt {w : World} {b A B : Nat} {V : Nat → Nat → Value → Prop} (h : PMap w b A B V) : b < w.heap.size := by
  obtain ⟨es, clock, h1, _⟩ := h
  exact (Array.getElem?_eq_some_iff.1 h1).1
theorem PMap.kept {w w' : World} {b A B : Nat} {V : Nat → Nat → Value → Prop} (h : PMap w b A B V) (hb : w'.heap[b]? = w.heap[b]?) : PMap w' b A B V := by
  obtain ⟨es, clock, h1, h2, h3⟩ := h
  exact ⟨es, clock, hb.trans h1, h2, h3⟩
theorem PMap.mono {w : World} {b A B : Nat} {V V' : Nat → Nat → Value → Prop} (h : PMap w b A B V) (hv : ∀ i k v, V i k v → V' i k v) : PMap w b A B V' := by
  obtain ⟨es, clock, h1, h2, h3⟩ := h
  exact ⟨es, clock, h1, h2, fun x hx => by obtain ⟨i, k, g1, g2, g3, g4⟩ := h3 x hx; exact ⟨i, k, g1, g2, g3, hv _ _ _ g4⟩⟩

/-- Distinct keys among so many places are no more than these. -/
theorem le_of_keys {es : List Value} (hn : es.Nodup) {ks : List Value} (hs : ∀ x ∈ es, x ∈ ks) : es.length ≤ ks.length := by
  induction es generalizing ks with
  | nil => simp
  | cons x r ih =>
    have hx : x ∈ ks := hs x (by simp)
    obtain ⟨s, t, rfl⟩ := List.append_of_mem hx
    have hn' := List.nodup_cons.1 hn
    have := ih hn'.2 (ks := s ++ t) (fun y hy => by
      have h1 := hs y (by simp [hy])
      rcases List.mem_append.1 h1 with h | h
      · exact List.mem_append.2 (.inl h)
      · rcases List.mem_cons.1 h with rfl | h
        · exact absurd hy hn'.1
        · exact List.mem_append.2 (.inr h))
    simp at this ⊢
    omega

theorem PMap.size {w : World} {b A B : Nat} {V : Nat → Nat → Value → Prop} {es : Array MapEntry} {clock : Nat} (F : Fit Tryd.prog 137 anyE es clock) (h : ∀ x ∈ es.toList, ∃ i k, i ≤ A ∧ k ≤ B ∧ x.key = plc i k ∧ V i k x.val) : es.size ≤ (A + 1) * (B + 1) := by
  have hn := F.stamped.2.2
  have h1 := le_of_keys hn (ks := (List.range (A + 1)).flatMap fun i => (List.range (B + 1)).map fun k => plc i k) (fun y hy => by
    obtain ⟨x, hx, rfl⟩ := List.mem_map.1 hy
    obtain ⟨i, k, hi, hk, e, _⟩ := h x hx
    exact List.mem_flatMap.2 ⟨i, List.mem_range.2 (by omega), List.mem_map.2 ⟨k, List.mem_range.2 (by omega), e.symm⟩⟩)
  have h2 : ((List.range (A + 1)).flatMap fun i => (List.range (B + 1)).map fun k => plc i k).length = (A + 1) * (B + 1) := by
    rw [List.length_flatMap]
    simp only [List.length_map, List.length_range, List.map_const', List.sum_replicate_nat]
  rw [h2] at h1
  simpa using h1

theorem PMap.look {w : World} {b A B : Nat} {V : Nat → Nat → Value → Prop} (h : PMap w b A B V) {t e : TypeId} (ht : (Tryd.prog).underlying t = some (.map 137 e)) {z : Value} (hz : (zeroValue e).run Tryd.prog w = .ok z w) {i k : Nat} (hi : i ≤ 4000) (hk : k ≤ 4000) :
    (Instr.lookup t (.map (some b)) (plc i k) true).run Tryd.prog w = .ok (.tuple #[z, .bool false]) w ∨ ∃ v, V i k v ∧ (Instr.lookup t (.map (some b)) (plc i k) true).run Tryd.prog w = .ok (.tuple #[v, .bool true]) w := by
  obtain ⟨es, clock, h1, h2, h3⟩ := h
  rcases Go.Maps.fit_look true keyed_place ht hz h1 h2 (key_place hi hk) with ⟨hr, _, _⟩ | ⟨e0, y, hm, hk0, hr, _⟩
  · exact .inl hr
  · obtain ⟨i', k', _, _, g1, g2⟩ := h3 e0 hm
    rw [hk0] at g1
    obtain ⟨rfl, rfl⟩ := plc_inj g1
    exact .inr ⟨e0.val, g2, hr⟩

theorem PMap.store {w : World} {b A B : Nat} {V : Nat → Nat → Value → Prop} (h : PMap w b A B V) {t e : TypeId} (ht : (Tryd.prog).underlying t = some (.map 137 e)) {i k : Nat} (hA : A ≤ 4000) (hB : B ≤ 4000) (hi : i ≤ A) (hk : k ≤ B) {v : Value} (hv : V i k v) :
    ∃ w', (Instr.mapUpdate t (.map (some b)) (plc i k) v).run Tryd.prog w = .ok () w' ∧ PMap w' b A B V ∧ w.grownBy w' (some b) ∧ w'.heap.size = w.heap.size := by
  obtain ⟨es, clock, h1, h2, h3⟩ := h
  have hsz := PMap.size (w := w) (b := b) h2 h3
  have hm : (A + 1) * (B + 1) ≤ 4001 * 4001 := Nat.mul_le_mul (by omega) (by omega)
  have hmax : maxLen = 9223372036854775807 := by rfl
  obtain ⟨es', clock', hr, F', _, _, _, hw⟩ := Go.Maps.fit_store (R' := anyE) (val := v) keyed_place ht h1 h2 (by omega) (fun _ _ _ z hz => hz) (key_place (i := i) (k := k) (by omega) (by omega)) (yv := (.nil, [])) rfl
  refine ⟨_, hr, ⟨es', clock', heap_setBlock_same h1 _, F', fun x hx => ?_⟩, ⟨rfl, rfl, rfl, by simp [setBlock], fun j _ hj => heap_setBlock_other h1 _ (fun e => hj (by rw [e]))⟩, by simp [setBlock]⟩
  rcases hw x hx with ⟨hx', _⟩ | ⟨hk', hv'⟩
  · exact h3 x hx'
  · exact ⟨i, k, hi, hk, hk', by rw [hv']; exact hv⟩

end Go.Proofs.YthddoikmgpgakaaDoor
