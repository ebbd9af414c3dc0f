/- What the walk of 'TallyChanges' leans on. -/
import Derived.Test.YthddoikmgpgakaaDoorProg
import Derived.Test.YthddoikmgpgakaaDoorBase
import Derived.Outline
import Derived.RangeFuncNested
import Derived.Shelf.Abstract
import Derived.Deep.QuietTactic
import Derived.BigQuiet
import Derived.Deep.RegionHeld3
import Derived.WalkSmall
import Derived.Laws.EntriesVeiled
import Derived.Test.YthddoikmgpgakaaDoorRefNotch
import Derived.Test.YthddoikmgpgakaaDoorSpoil
import Derived.Test.YthddoikmgpgakaaDoorLeaf2
namespace Go.Proofs.YthddoikmgpgakaaDoor
open Go.RowKit Go.Proofs Go.Shelf

theorem notch_is {a : Tl} {k : Int} {N : Tl} {n : Int} (hN : notchF a k = (N, n)) (sa fa : Option Addr) (sc fc : Nat) (w : World) (ht : Tab w) (ha : a.small) (h1 : RdI w sa a.st) (h2 : RdI w fa a.fo) :
    Calls Tryd.prog 20 #[.agg #[.int .i64 a.id, .int .i64 a.hs, .slice sa a.st.length sc, .slice fa a.fo.length fc], .int .i64 k] w
      fun e w' => ∃ v, e = .returned (.tuple #[v, .int .i64 n]) ∧ Below w.heap.size w w' ∧ NewT w.heap.size w' v N := by
  have h := notch_any a k sa fa sc fc w ht ha h1 h2
  rw [hN] at h
  exact h

theorem refNotch_is {a : Tl} {k : Int} {N : Tl} {n : Int} (hN : notchF a k = (N, n)) (sa fa : Option Addr) (sc fc : Nat) (w : World) (ha : a.small) (h1 : RdI w sa a.st) (h2 : RdI w fa a.fo) :
    Calls Tryd.prog 21 #[.agg #[.int .i64 a.id, .int .i64 a.hs, .slice sa a.st.length sc, .slice fa a.fo.length fc], .int .i64 k] w
      fun e w' => ∃ v, e = .returned (.tuple #[v, .int .i64 n]) ∧ Below w.heap.size w w' ∧ NewT w.heap.size w' v N := by
  have h := refNotch_any a k sa fa sc fc w ha h1 h2
  rw [hN] at h
  exact h

theorem join_is {a b : Tl} {N : Tl} {n : Int} (hN : joinF a b = (N, n)) (sa fa sb fb : Option Addr) (sc fc sd fd : Nat) (w : World) (ht : Tab w)
    (ha : a.small) (hb : b.small) (h1 : RdI w sa a.st) (h2 : RdI w fa a.fo) (h3 : RdI w sb b.st) (h4 : RdI w fb b.fo) :
    Calls Tryd.prog 22 #[.agg #[.int .i64 a.id, .int .i64 a.hs, .slice sa a.st.length sc, .slice fa a.fo.length fc], .agg #[.int .i64 b.id, .int .i64 b.hs, .slice sb b.st.length sd, .slice fb b.fo.length fd]] w
      fun e w' => ∃ v, e = .returned (.tuple #[v, .int .i64 n]) ∧ Below w.heap.size w w' ∧ NewT w.heap.size w' v N := by
  have h := join_any a b sa fa sb fb sc fc sd fd w ht ha hb h1 h2 h3 h4
  rw [hN] at h
  exact h

theorem refJoin_is {a b : Tl} {N : Tl} {n : Int} (hN : joinF a b = (N, n)) (sa fa sb fb : Option Addr) (sc fc sd fd : Nat) (w : World)
    (ha : a.small) (hb : b.small) (h1 : RdI w sa a.st) (h2 : RdI w fa a.fo) (h3 : RdI w sb b.st) (h4 : RdI w fb b.fo) :
    Calls Tryd.prog 23 #[.agg #[.int .i64 a.id, .int .i64 a.hs, .slice sa a.st.length sc, .slice fa a.fo.length fc], .agg #[.int .i64 b.id, .int .i64 b.hs, .slice sb b.st.length sd, .slice fb b.fo.length fd]] w
      fun e w' => ∃ v, e = .returned (.tuple #[v, .int .i64 n]) ∧ Below w.heap.size w w' ∧ NewT w.heap.size w' v N := by
  have h := refJoin_any a b sa fa sb fb sc fc sd fd w ha hb h1 h2 h3 h4
  rw [hN] at h
  exact h

theorem zero_small : zeroT.small := ⟨by simp [zeroT], by simp [zeroT]⟩

theorem joinF_small (a b : Tl) : (joinF a b).1.small := by
  unfold joinF
  split
  · split
    · rename_i h
      simp [Tl.ok, okT] at h
      exact ⟨by dsimp only; omega, by dsimp only; omega⟩
    · exact zero_small
  · exact zero_small

theorem notchF_small (a : Tl) (k : Int) : (notchF a k).1.small := by
  rw [notchF_ref]
  split
  · exact zero_small
  · rename_i h
    simp [Tl.ok, okT] at h
    split
    · exact zero_small
    · split
      · exact zero_small
      · split
        · exact zero_small
        · exact ⟨by simp; omega, by simp; omega⟩

theorem sameT_self (id hs : Int) (st fo : List Int) : sameT id hs id hs st fo st fo = true := by simp [sameT]

theorem same_self (N : Tl) (sa fa sa' fa' : Option Addr) (sc fc sc' fc' : Nat) (w : World) (hN : N.small) (h1 : RdI w sa N.st) (h2 : RdI w fa N.fo) (h3 : RdI w sa' N.st) (h4 : RdI w fa' N.fo) :
    Calls Tryd.prog 24 #[.agg #[.int .i64 N.id, .int .i64 N.hs, .slice sa N.st.length sc, .slice fa N.fo.length fc], .agg #[.int .i64 N.id, .int .i64 N.hs, .slice sa' N.st.length sc', .slice fa' N.fo.length fc']] w fun e w' => e = .returned (.bool true) ∧ Below w.heap.size w w' := by
  have h := same_any N.id N.hs N.id N.hs N.st N.fo N.st N.fo sa fa sa' fa' sc fc sc' fc' w hN.1 hN.2 h1 h2 h3 h4
  rw [sameT_self] at h
  exact h

/-- A tally written into a new block. -/
theorem Box.put4 {w : World} {b : Nat} {t : TypeId} {u0 u1 u2 u3 : Value} (v0 v1 v2 v3 : Value) (h : Box w b #[u0, u1, u2, u3] t) : Box ((((w.setCell ⟨b, 0, none⟩ v0).setCell ⟨b, 1, none⟩ v1).setCell ⟨b, 2, none⟩ v2).setCell ⟨b, 3, none⟩ v3) b #[v0, v1, v2, v3] t := by
  have := (((h.set 0 v0).set 1 v1).set 2 v2).set 3 v3
  simpa using this

theorem Box.four {w : World} {b : Nat} {t : TypeId} {v0 v1 v2 v3 : Value} (h : Box w b #[v0, v1, v2, v3] t) : w.cell? ⟨b, 0, none⟩ = some v0 ∧ w.cell? ⟨b, 1, none⟩ = some v1 ∧ w.cell? ⟨b, 2, none⟩ = some v2 ∧ w.cell? ⟨b, 3, none⟩ = some v3 := ⟨h.cell 0, h.cell 1, h.cell 2, h.cell 3⟩

theorem Box.all {w : World} {b : Nat} {t : TypeId} {v0 v1 v2 v3 : Value} (h : Box w b #[v0, v1, v2, v3] t) : w.cell? ⟨b, 0, none⟩ = some v0 ∧ w.cell? ⟨b, 1, none⟩ = some v1 ∧ w.cell? ⟨b, 2, none⟩ = some v2 ∧ w.cell? ⟨b, 3, none⟩ = some v3 ∧
    w.frozen? ⟨b, 0, none⟩ = false ∧ w.frozen? ⟨b, 1, none⟩ = false ∧ w.frozen? ⟨b, 2, none⟩ = false ∧ w.frozen? ⟨b, 3, none⟩ = false ∧ b < w.heap.size := ⟨h.cell 0, h.cell 1, h.cell 2, h.cell 3, h.frozen 0, h.frozen 1, h.frozen 2, h.frozen 3, h.lt⟩

theorem rdI_set {w : World} {a : Option Addr} {xs : List Int} (h : RdI w a xs) (b j : Nat) (u : Value) (hne : ∀ g o, a = some ⟨g, o, none⟩ → g ≠ b) : RdI (w.setCell ⟨b, j, none⟩ u) a xs := fun i hi => by
  obtain ⟨g, o, ha, hc⟩ := h i hi
  refine ⟨g, o, ha, ?_⟩
  rw [← hc]
  exact by rw [World.cell?, World.cell?, heap_setCell_other _ _ _ _ (hne g o ha)]

theorem rdI_owned {w : World} {B : Nat} {e : TypeId} {a : Option Addr} {n c : Nat} {xs : List Int} (h : w.ownsRow B e 1 (.slice a n c) n (xs.map (Value.int .i64))) : ∀ g o, a = some ⟨g, o, none⟩ → B ≤ g ∧ g < w.heap.size := fun g o ha => h.lt g (by rw [ha]; rfl)

end Go.Proofs.YthddoikmgpgakaaDoor
