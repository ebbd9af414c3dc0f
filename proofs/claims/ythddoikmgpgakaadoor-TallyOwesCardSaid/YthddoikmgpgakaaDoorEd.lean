/- Edits as data; 'SameEdits' of what is the same. -/
import Derived.Test.YthddoikmgpgakaaDoorProg
import Derived.Test.YthddoikmgpgakaaDoorBase
import Derived.Outline
import Derived.RangeFuncNested
import Derived.Shelf.Abstract
import Derived.Deep.QuietTactic
import Derived.BigQuiet
import Derived.Deep.RegionHeld3
import Derived.WalkSmall
import Derived.Laws.EntriesVeiled
import Derived.Test.YthddoikmgpgakaaDoorLeft
namespace Go.Proofs.YthddoikmgpgakaaDoor
open Go.RowKit Go.Proofs Go.Shelf

/-- An edit: kind, at, notch. -/
structure Ed where
  kd : Int
  at' : Int
  nt : Int
def Ed.cells (e : Ed) : List Value := [.int .i64 e.kd, .int .i64 e.at', .int .i64 e.nt]
def edCells (es : List Ed) : List Value := es.flatMap Ed.cells
theorem edCells_len (es : List Ed) : (edCells es).length = es.length * 3 := by
  induction es with
  | nil => rfl
  | cons e es ih => simp only [edCells, List.flatMap_cons, List.length_append, Ed.cells, List.length_cons, List.length_nil] at *; omega
theorem edCells_append (es fs : List Ed) : edCells (es ++ fs) = edCells es ++ edCells fs := List.flatMap_append
theorem edCells_get (es : List Ed) (i : Nat) (hi : i < es.length) : (edCells es)[i * 3]? = some (.int .i64 es[i].kd) ∧ (edCells es)[i * 3 + 1]? = some (.int .i64 es[i].at') ∧ (edCells es)[i * 3 + 2]? = some (.int .i64 es[i].nt) := by
  induction es generalizing i with
  | nil => cases hi
  | cons e es ih =>
    cases i with
    | zero => exact ⟨rfl, rfl, rfl⟩
    | succ i =>
      have h := ih i (by simpa using hi)
      have e3 : (i + 1) * 3 = i * 3 + 1 + 1 + 1 := by omega
      rw [e3]
      exact h

/-- The slice reads as these edits. -/
def RdE (w : World) (a : Option Addr) (es : List Ed) : Prop := ∀ i (h : i < es.length), ∃ b o, a = some ⟨b, o, none⟩ ∧
  w.cell? ⟨b, o + i * 3, none⟩ = some (.int .i64 es[i].kd) ∧ w.cell? ⟨b, o + i * 3 + 1, none⟩ = some (.int .i64 es[i].at') ∧ w.cell? ⟨b, o + i * 3 + 2, none⟩ = some (.int .i64 es[i].nt)
theorem RdE.nil (w : World) (a : Option Addr) : RdE w a [] := fun i hi => absurd hi (Nat.not_lt_zero _)
theorem RdE.below {w w' : World} {a : Option Addr} {es : List Ed} (h : RdE w a es) (hb : Below w.heap.size w w') : RdE w' a es := fun i hi => by
  obtain ⟨b, o, ha, h0, h1, h2⟩ := h i hi
  exact ⟨b, o, ha, (hb.cell (cell_lt h0)).trans h0, (hb.cell (cell_lt h1)).trans h1, (hb.cell (cell_lt h2)).trans h2⟩
theorem RdE.of_own {w : World} {B : Nat} {e : TypeId} {a : Option Addr} {n c : Nat} {es : List Ed} (h : w.ownsRow B e 3 (.slice a n c) n (edCells es)) : RdE w a es := fun i hi => by
  have hl : es.length * 3 = n * 3 := by rw [← edCells_len]; exact h.1
  rcases h.2 with ⟨h', h0⟩ | ⟨g, cap, cur, h', _, hg, _, _, _, htake⟩
  · omega
  · simp only [Value.slice.injEq] at h'
    obtain ⟨rfl, _, rfl⟩ := h'
    have hc : ∀ j v, (edCells es)[j]? = some v → j < n * 3 → w.cell? ⟨g, 0 + j, none⟩ = some v := fun j v hj hjn => by
      rw [cell_of_row w g (0 + j) cur e (0, 0) hg]
      have h1 : (cur.toList.take (n * 3))[j]? = some v := by rw [htake]; exact hj
      rw [List.getElem?_take, if_pos hjn] at h1
      simpa using h1
    obtain ⟨g0, g1, g2⟩ := edCells_get es i hi
    exact ⟨g, 0, rfl, hc _ _ g0 (by omega), by have := hc _ _ g1 (by omega); rwa [← Nat.add_assoc] at this, by have := hc _ _ g2 (by omega); rwa [← Nat.add_assoc] at this⟩

set_option maxRecDepth 20000 in
set_option maxHeartbeats 1000000 in
theorem sameEdits_me (a b : Option Addr) (c d : Nat) (es : List Ed) (w : World) (hl : es.length ≤ 4000) (h1 : RdE w a es) (h2 : RdE w b es) :
    Calls Tryd.prog 38 #[.slice a es.length c, .slice b es.length d] w fun e w' => e = .returned (.bool true) ∧ Below w.heap.size w w' := by
  have hm := mixedS
  have H1 := hid h1; have H2 := hid h2; clear h1 h2
  go_enter Tryd.func38, Tryd.ntmps38
  go_wp2_with fail
  go_loopw [5] (fun i wr => ∃ k : Nat, k ≤ es.length ∧ i = .int .i64 k ∧ Below w.heap.size w wr) (fun i _ => (es.length - (intOf i).toNat))
  case atStart => exact ⟨0, by omega, rfl, Below.refl _ _⟩
  case round =>
    obtain ⟨k, hk, rfl, hb⟩ := hrel
    by_cases hlt : k < es.length
    · obtain ⟨p, o, rfl, g0, g1, g2⟩ := H1.out.below hb k hlt
      obtain ⟨q, u, rfl, f0, f1, f2⟩ := H2.out.below hb k hlt
      have l1 := cell_lt g0; have l2 := cell_lt f0
      go_wp2_with fail
      go_big_quiet (fail)
      go_wp2_with fail
      exact ⟨⟨k + 1, by omega, by go_num, below_drewN hb _⟩, by simp [intOf]; omega⟩
    · go_wp2_with fail
      go_ret
      exact ⟨rfl, hb⟩

end Go.Proofs.YthddoikmgpgakaaDoor
