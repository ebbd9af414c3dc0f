/- Lemmas on worlds and slices that are read: no condition. -/
import Derived.WalkKit
import Derived.Handy
import Derived.Deep.AppendSrc
namespace Go.Proofs.YtbkellknlcageaaDoor
open Go.RowKit Go

theorem hid {p : Prop} (h : p) : Hid p := h

theorem cell_lt {w : World} {p : Addr} {v : Value} (h : w.cell? p = some v) : p.block < w.heap.size := by
  unfold World.cell? at h
  split at h
  · rename_i c e f hb
    exact (Array.getElem?_eq_some_iff.1 hb).1
  · cases h

/-- The slice reads as these numbers. -/
def RdI (w : World) (a : Option Addr) (xs : List Int) : Prop := ∀ i (h : i < xs.length), ∃ b o, a = some ⟨b, o, none⟩ ∧ w.cell? ⟨b, o + i, none⟩ = some (.int .i64 xs[i])

theorem RdI.nil (w : World) (a : Option Addr) : RdI w a [] := fun i h => absurd h (Nat.not_lt_zero i)

theorem RdI.below {w w' : World} {a : Option Addr} {xs : List Int} (h : RdI w a xs) (hb : Below w.heap.size w w') : RdI w' a xs := fun i hi => by
  obtain ⟨b, o, ha, hc⟩ := h i hi
  exact ⟨b, o, ha, (hb.cell (cell_lt hc)).trans hc⟩

theorem RdI.alloc {w : World} {a : Option Addr} {xs : List Int} (h : RdI w a xs) (o : Obj) : RdI (w.alloc o) a xs :=
  h.below ((Below.refl _ _).alloc (Nat.le_refl _) _)

theorem RdI.drew {w : World} {a : Option Addr} {xs : List Int} (h : RdI w a xs) : RdI w.drew a xs := h

theorem bcell {W w1 : World} (hb : Below W.heap.size W w1) : (∀ b o, b < W.heap.size → w1.cell? ⟨b, o, none⟩ = W.cell? ⟨b, o, none⟩) ∧ (∀ b o, b < W.heap.size → w1.frozen? ⟨b, o, none⟩ = W.frozen? ⟨b, o, none⟩) :=
  ⟨fun b o h => hb.cell (p := ⟨b, o, none⟩) h, fun b o h => hb.frozen (p := ⟨b, o, none⟩) h⟩

/-- A box of the call's own reads as it was laid while nothing below the next block turns. -/
theorem box_cell {w wr : World} {cs : Array Value} {t : TypeId} (h : Below (w.heap.size + 1) (w.alloc (.cells cs t)) wr) (j : Nat) : wr.cell? ⟨w.heap.size, j, none⟩ = cs[j]? := by
  rw [h.cell (p := ⟨w.heap.size, j, none⟩) (Nat.lt_succ_self _)]
  exact cell_of_row _ _ _ _ _ _ (heap_alloc_new w _)

/-- A block of the call's own holds these cells. -/
def Box (w : World) (b : Nat) (cs : Array Value) (t : TypeId) : Prop := w.heap[b]? = some (.cells cs t (0, 0))
theorem Box.lt {w : World} {b : Nat} {cs : Array Value} {t : TypeId} (h : Box w b cs t) : b < w.heap.size := (Array.getElem?_eq_some_iff.1 h).1
theorem Box.cell {w : World} {b : Nat} {cs : Array Value} {t : TypeId} (h : Box w b cs t) (j : Nat) : w.cell? ⟨b, j, none⟩ = cs[j]? := cell_of_row _ _ _ _ _ _ h
theorem Box.frozen {w : World} {b : Nat} {cs : Array Value} {t : TypeId} (h : Box w b cs t) (j : Nat) : w.frozen? ⟨b, j, none⟩ = false := frozen_of_row _ _ _ _ _ h
theorem Box.new (w : World) (cs : Array Value) (t : TypeId) : Box (w.alloc (.cells cs t)) w.heap.size cs t := heap_alloc_new w _
theorem Box.at {w : World} {n : Nat} (cs : Array Value) (t : TypeId) (hn : n = w.heap.size) : Box (w.alloc (.cells cs t)) n cs t := hn ▸ heap_alloc_new w _
theorem Box.alloc {w : World} {b : Nat} {cs : Array Value} {t : TypeId} (h : Box w b cs t) (o : Obj) : Box (w.alloc o) b cs t := (Below.heap_alloc w o b h.lt).trans h
theorem Box.drew {w : World} {b : Nat} {cs : Array Value} {t : TypeId} (h : Box w b cs t) : Box w.drew b cs t := h
theorem Box.below {w w' : World} {B b : Nat} {cs : Array Value} {t : TypeId} (h : Box w b cs t) (hb : Below B w w') (hlt : b < B) : Box w' b cs t := (hb.block b hlt).trans h
theorem Box.grown {w w' : World} {row : Option Nat} {b : Nat} {cs : Array Value} {t : TypeId} (h : Box w b cs t) (hg : w.grownBy w' row) (hne : row ≠ some b) : Box w' b cs t := (hg.block b h.lt (fun e => hne e.symm)).trans h
theorem Box.set {w : World} {b : Nat} {cs : Array Value} {t : TypeId} (h : Box w b cs t) (j : Nat) (v : Value) : Box (w.setCell ⟨b, j, none⟩ v) b (cs.setIfInBounds j v) t := by
  unfold Box at *
  simp only [World.setCell, Array.getElem?_modify, if_true, h]
  simp
theorem Box.other {w : World} {b : Nat} {cs : Array Value} {t : TypeId} (h : Box w b cs t) (b' j : Nat) (v : Value) (hne : b ≠ b') : Box (w.setCell ⟨b', j, none⟩ v) b cs t := (heap_setCell_other _ _ _ _ hne).trans h

end Go.Proofs.YtbkellknlcageaaDoor
