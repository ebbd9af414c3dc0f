/- What a piece of work leaves as it lay: `Keep Z`: the blocks that meet Z. -/
import Derived.RangeFuncNested
import Derived.Test.YthddoikmgpgakaaDoorPmap
namespace Go.Proofs.YthddoikmgpgakaaDoor
open Go.RowKit Go

/-- The blocks that meet Z lie as they lay. -/
structure Keep (Z : Nat → Prop) (w w' : World) : Prop where
  os : w'.os = w.os
  tape : w'.tape = w.tape
  output : w'.output = w.output
  size : w.heap.size ≤ w'.heap.size
  block : ∀ k, k < w.heap.size → Z k → w'.heap[k]? = w.heap[k]?

theorem Keep.refl (Z : Nat → Prop) (w : World) : Keep Z w w := ⟨rfl, rfl, rfl, Nat.le_refl _, fun _ _ _ => rfl⟩
theorem Keep.trans {Z : Nat → Prop} {a b c : World} (h : Keep Z a b) (k : Keep Z b c) : Keep Z a c :=
  ⟨k.os.trans h.os, k.tape.trans h.tape, k.output.trans h.output, Nat.le_trans h.size k.size, fun i hi hz => (k.block i (Nat.lt_of_lt_of_le hi h.size) hz).trans (h.block i hi hz)⟩
theorem Keep.mono {Z Z' : Nat → Prop} {w w' : World} (h : Keep Z w w') (hz : ∀ k, k < w.heap.size → Z' k → Z k) : Keep Z' w w' :=
  ⟨h.os, h.tape, h.output, h.size, fun k hk hz' => h.block k hk (hz k hk hz')⟩
theorem Keep.alloc {Z : Nat → Prop} {a b : World} (h : Keep Z a b) (o : Obj) : Keep Z a (b.alloc o) :=
  h.trans ⟨rfl, rfl, rfl, by simp, fun k hk _ => Below.heap_alloc b o k hk⟩
theorem Keep.drew {Z : Nat → Prop} {a b : World} (h : Keep Z a b) : Keep Z a b.drew := ⟨h.os, h.tape, h.output, h.size, h.block⟩
theorem Keep.setCell {Z : Nat → Prop} {a b : World} (h : Keep Z a b) (p : Addr) (v : Value) (hp : p.block < a.heap.size → ¬ Z p.block) : Keep Z a (b.setCell p v) :=
  ⟨h.os, h.tape, h.output, by show a.heap.size ≤ (b.heap.modify _ _).size; rw [Array.size_modify]; exact h.size, fun k hk hz => (Below.heap_setCell b p v k (fun e => hp (e ▸ hk) (e ▸ hz))).trans (h.block k hk hz)⟩
theorem Keep.grown {Z : Nat → Prop} {a b c : World} {row : Option Nat} (h : Keep Z a b) (hg : b.grownBy c row) (hr : ∀ r, row = some r → r < a.heap.size → ¬ Z r) : Keep Z a c :=
  ⟨hg.os.trans h.os, hg.tape.trans h.tape, hg.output.trans h.output, Nat.le_trans h.size hg.size, fun k hk hz => (hg.block k (Nat.lt_of_lt_of_le hk h.size) (fun e => hr k e.symm hk hz)).trans (h.block k hk hz)⟩
theorem Keep.putObj {Z : Nat → Prop} {a b : World} (h : Keep Z a b) (l : Nat) (o : Obj) (hl : l < a.heap.size → ¬ Z l) : Keep Z a (b.putObj l o) := h.grown (grownBy_putObj' b l o) (fun r e => by cases e; exact hl)
theorem Keep.of_below {Z : Nat → Prop} {a b : World} {B : Nat} (h : Below B a b) (hz : ∀ k, k < a.heap.size → Z k → k < B) : Keep Z a b := ⟨h.os, h.tape, h.output, h.size, fun k hk hz' => h.block k (hz k hk hz')⟩
theorem Keep.below {Z : Nat → Prop} {a b : World} {B : Nat} (h : Keep Z a b) (hz : ∀ k, k < B → Z k) (hB : B ≤ a.heap.size) : Below B a b := ⟨h.os, h.tape, h.output, h.size, fun k hk => h.block k (Nat.lt_of_lt_of_le hk hB) (hz k hk)⟩

theorem Keep.cell {Z : Nat → Prop} {w w' : World} (h : Keep Z w w') {b o : Nat} {v : Value} (hz : Z b) (hc : w.cell? ⟨b, o, none⟩ = some v) : w'.cell? ⟨b, o, none⟩ = some v :=
  (World.cell?_of_block (a := ⟨b, o, none⟩) (h.block b (cell_lt hc) hz)).trans hc
theorem Keep.box {Z : Nat → Prop} {w w' : World} (h : Keep Z w w') {b : Nat} {cs : Array Value} {t : TypeId} (hz : Z b) (hb : Box w b cs t) : Box w' b cs t := (h.block b hb.lt hz).trans hb
theorem Keep.pmap {Z : Nat → Prop} {w w' : World} (h : Keep Z w w') {b A B : Nat} {V : Nat → Nat → Value → Prop} (hz : Z b) (hb : PMap w b A B V) : PMap w' b A B V := hb.kept (h.block b hb.lt hz)
theorem Keep.rdI {Z : Nat → Prop} {w w' : World} (h : Keep Z w w') {a : Option Addr} {xs : List Int} (hz : xs ≠ [] → ∀ p, a = some p → Z p.block) (hr : RdI w a xs) : RdI w' a xs := fun i hi => by
  obtain ⟨b, o, ha, hc⟩ := hr i hi
  exact ⟨b, o, ha, h.cell (hz (List.ne_nil_of_length_pos (Nat.lt_of_le_of_lt (Nat.zero_le _) hi)) _ ha) hc⟩

/-- A block that holds a cell is none of a map. -/
theorem PMap.ne_cell {w : World} {b A B : Nat} {V : Nat → Nat → Value → Prop} (h : PMap w b A B V) {p : Addr} {v : Value} (hc : w.cell? p = some v) : p.block ≠ b := fun e => by
  obtain ⟨es, clock, h1, _⟩ := h
  unfold World.cell? at hc
  rw [e, h1] at hc
  cases hc
theorem PMap.ne_box {w : World} {b A B : Nat} {V : Nat → Nat → Value → Prop} (h : PMap w b A B V) {c : Nat} {cs : Array Value} {t : TypeId} (hb : Box w c cs t) : c ≠ b := fun e => by
  obtain ⟨es, clock, h1, _⟩ := h
  unfold Box at hb
  rw [e, h1] at hb
  cases hb
/-- The rows' blocks are none of the map. -/
theorem PMap.ne_row {w : World} {b A B : Nat} {V : Nat → Nat → Value → Prop} (h : PMap w b A B V) {a : Option Addr} {xs : List Int} (hr : RdI w a xs) (hx : xs ≠ []) {p : Addr} (hp : a = some p) : p.block ≠ b := by
  have hl : 0 < xs.length := List.length_pos_iff.2 hx
  obtain ⟨b', o, ha, hc⟩ := hr 0 hl
  rw [hp] at ha
  cases ha
  exact h.ne_cell hc

end Go.Proofs.YthddoikmgpgakaaDoor
