/- A store into a map of places, and what a look-up tells behind it. -/
import Derived.Test.YthddoikmgpgakaaDoorProg
import Derived.Test.YthddoikmgpgakaaDoorBase
import Derived.Outline
import Derived.RangeFuncNested
import Derived.Shelf.Abstract
import Derived.Deep.QuietTactic
import Derived.BigQuiet
import Derived.Deep.RegionHeld3
import Derived.WalkSmall
import Derived.Laws.EntriesVeiled
import Derived.Maps.Views
import Derived.Test.YthddoikmgpgakaaDoorPmap
namespace Go.Proofs.YthddoikmgpgakaaDoor
open Go.RowKit Go.Proofs Go.Shelf
open Go.WideElems (Fit)
open Go.ChangeMaps (setBlock heap_setBlock_same heap_setBlock_other)

theorem PMap.store2 {w : World} {b A B : Nat} {V : Nat → Nat → Value → Prop} (h : PMap w b A B V) {t e : TypeId} (ht : (Tryd.prog).underlying t = some (.map 137 e)) {z : Value} (hz : ∀ w, (zeroValue e).run Tryd.prog w = .ok z w) {i k : Nat} (hA : A ≤ 4000) (hB : B ≤ 4000) (hi : i ≤ A) (hk : k ≤ B) {v : Value} (hv : V i k v) :
    ∃ w', (Instr.mapUpdate t (.map (some b)) (plc i k) v).run Tryd.prog w = .ok () w' ∧ PMap w' b A B V ∧ w.grownBy w' (some b) ∧ w'.heap.size = w.heap.size ∧ ∀ w2, w2.heap[b]? = w'.heap[b]? → (Instr.lookup t (.map (some b)) (plc i k) false).run Tryd.prog w2 = .ok v w2 := by
  obtain ⟨es, clock, h1, h2, h3⟩ := h
  have hsz := PMap.size (w := w) (b := b) h2 h3
  have hm : (A + 1) * (B + 1) ≤ 4001 * 4001 := Nat.mul_le_mul (by omega) (by omega)
  have hmax : maxLen = 9223372036854775807 := by rfl
  have hkey := key_place (i := i) (k := k) (by omega) (by omega)
  obtain ⟨es', clock', hr, F', hput, _, _, hw⟩ := Go.Maps.fit_store (R' := anyE) (val := v) keyed_place ht h1 h2 (by omega) (fun _ _ _ z hz => hz) hkey (yv := (.nil, [])) rfl
  refine ⟨_, hr, ⟨es', clock', heap_setBlock_same h1 _, F', fun x hx => ?_⟩, ⟨rfl, rfl, rfl, by simp [setBlock], fun j _ hj => heap_setBlock_other h1 _ (fun e => hj (by rw [e]))⟩, by simp [setBlock], fun w2 hw2 => ?_⟩
  · rcases hw x hx with ⟨hx', _⟩ | ⟨hk', hv'⟩
    · exact h3 x hx'
    · exact ⟨i, k, hi, hk, hk', by rw [hv']; exact hv⟩
  · rw [heap_setBlock_same h1] at hw2
    rcases Go.Maps.fit_look false keyed_place ht (hz w2) hw2 F' hkey with ⟨_, _, hno⟩ | ⟨e0, y, hm0, hk0, hr0, _⟩
    · exfalso
      rw [hput] at hno
      have h0 := hno (.lit (.bool true))
      have h4 := Go.Maps.atKey_put_same (D := DataW.map ((es.toList.map (Go.WideElems.rg Tryd.prog 137 anyE)).foldr DataW.insert [])) (k := klit i k) ⟨_, rfl⟩ (keyed_place.key hkey) .nil (.lit (.bool true))
      rw [show DataW.put (DataW.map ((es.toList.map (Go.WideElems.rg Tryd.prog 137 anyE)).foldr DataW.insert [])) (klit i k) .nil = DataW.map (Go.ChangeMaps.putKey (klit i k) .nil ((es.toList.map (Go.WideElems.rg Tryd.prog 137 anyE)).foldr DataW.insert [])) from rfl] at h4
      rw [h4] at h0
      cases h0
    · rcases hw e0 hm0 with ⟨_, hne⟩ | ⟨_, hv'⟩
      · exact absurd hk0 hne
      · rw [hr0, ← hv']; rfl

theorem PMap.look0 {w : World} {b A B : Nat} {V : Nat → Nat → Value → Prop} (h : PMap w b A B V) {t e : TypeId} (ht : (Tryd.prog).underlying t = some (.map 137 e)) {z : Value} (hz : (zeroValue e).run Tryd.prog w = .ok z w) {i k : Nat} (hi : i ≤ 4000) (hk : k ≤ 4000) :
    (Instr.lookup t (.map (some b)) (plc i k) false).run Tryd.prog w = .ok z w ∨ ∃ v, V i k v ∧ (Instr.lookup t (.map (some b)) (plc i k) false).run Tryd.prog w = .ok v w := by
  obtain ⟨es, clock, h1, h2, h3⟩ := h
  rcases Go.Maps.fit_look false keyed_place ht hz h1 h2 (key_place hi hk) with ⟨hr, _, _⟩ | ⟨e0, y, hm, hk0, hr, _⟩
  · exact .inl hr
  · obtain ⟨i', k', _, _, g1, g2⟩ := h3 e0 hm
    rw [hk0] at g1
    obtain ⟨rfl, rfl⟩ := plc_inj g1
    exact .inr ⟨e0.val, g2, hr⟩

end Go.Proofs.YthddoikmgpgakaaDoor
