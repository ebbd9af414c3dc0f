/- Tallies as data; tallies in new memory. -/
import Derived.Test.YthddoikmgpgakaaDoorProg
import Derived.Test.YthddoikmgpgakaaDoorBase
import Derived.Outline
import Derived.RangeFuncNested
import Derived.Shelf.Abstract
import Derived.Deep.QuietTactic
import Derived.BigQuiet
import Derived.Deep.RegionHeld3
import Derived.WalkSmall
import Derived.Laws.EntriesVeiled
import Derived.Test.YthddoikmgpgakaaDoorCheck2
import Derived.Test.YthddoikmgpgakaaDoorApp
namespace Go.Proofs.YthddoikmgpgakaaDoor
open Go.RowKit Go.Proofs Go.Shelf

/-- A tally. -/
structure Tl where
  id : Int
  hs : Int
  st : List Int
  fo : List Int

/-- The slice reads as these tallies. -/
def RdT (w : World) (a : Option Addr) (ts : List Tl) : Prop := ∀ i (h : i < ts.length), ∃ b o sa sc fa fc, a = some ⟨b, o, none⟩ ∧
  w.cell? ⟨b, o + i * 4, none⟩ = some (.int .i64 ts[i].id) ∧ w.cell? ⟨b, o + i * 4 + 1, none⟩ = some (.int .i64 ts[i].hs) ∧ w.cell? ⟨b, o + i * 4 + 2, none⟩ = some (.slice sa ts[i].st.length sc) ∧ w.cell? ⟨b, o + i * 4 + 3, none⟩ = some (.slice fa ts[i].fo.length fc) ∧
  RdI w sa ts[i].st ∧ RdI w fa ts[i].fo

theorem RdT.below {w w' : World} {a : Option Addr} {ts : List Tl} (h : RdT w a ts) (hb : Below w.heap.size w w') : RdT w' a ts := fun i hi => by
  obtain ⟨b, o, sa, sc, fa, fc, ha, h0, h1, h2, h3, h4, h5⟩ := h i hi
  exact ⟨b, o, sa, sc, fa, fc, ha, (hb.cell (cell_lt h0)).trans h0, (hb.cell (cell_lt h1)).trans h1, (hb.cell (cell_lt h2)).trans h2, (hb.cell (cell_lt h3)).trans h3, h4.below hb, h5.below hb⟩

def Tl.ok (t : Tl) : Bool := okT t.id t.hs t.st t.fo
/-- The lists are not great. -/
def Tl.small (t : Tl) : Prop := t.st.length ≤ 4000 ∧ t.fo.length ≤ 4000
def zeroT : Tl := ⟨0, 0, [], []⟩
def Tl.cat (a b : Tl) : Tl := ⟨a.id, a.hs, a.st ++ b.st, a.fo ++ b.fo⟩
/-- Two rows that are the call's own lie apart. -/
def ApartV (v u : Value) : Prop := ∀ g, v.ownBlock = some g → u.ownBlock ≠ some g

/-- A tally in new memory, from block B on. -/
def NewT (B : Nat) (w : World) (v : Value) (t : Tl) : Prop := ∃ sa sc fa fc, v = .agg #[.int .i64 t.id, .int .i64 t.hs, .slice sa t.st.length sc, .slice fa t.fo.length fc] ∧
  w.ownsRow B 3 1 (.slice sa t.st.length sc) t.st.length (t.st.map (Value.int .i64)) ∧ w.ownsRow B 3 1 (.slice fa t.fo.length fc) t.fo.length (t.fo.map (Value.int .i64)) ∧ ApartV (.slice sa t.st.length sc) (.slice fa t.fo.length fc)

theorem NewT.zero (B : Nat) (w : World) : NewT B w (.agg #[.int .i64 0, .int .i64 0, .slice none 0 0, .slice none 0 0]) zeroT :=
  ⟨none, 0, none, 0, rfl, World.ownsRow_nil _ _ _ _, World.ownsRow_nil _ _ _ _, fun g h => by cases h⟩
theorem NewT.below {B B' : Nat} {w w' : World} {v : Value} {t : Tl} (h : NewT B w v t) (hb : Below B' w w') (hB : w.heap.size ≤ B') : NewT B w' v t := by
  obtain ⟨sa, sc, fa, fc, hv, h1, h2, h3⟩ := h
  exact ⟨sa, sc, fa, fc, hv, own_below h1 hb hB, own_below h2 hb hB, h3⟩
theorem NewT.base {B B' : Nat} {w : World} {v : Value} {t : Tl} (h : NewT B w v t) (hB : B' ≤ B) : NewT B' w v t := by
  obtain ⟨sa, sc, fa, fc, hv, h1, h2, h3⟩ := h
  exact ⟨sa, sc, fa, fc, hv, own_base h1 hB, own_base h2 hB, h3⟩

theorem own_apart {w w' : World} {B B' : Nat} {e : TypeId} {size size' : Nat} {v u : Value} {n m : Nat} {xs ys : List Value} (h : w.ownsRow B e size v n xs) (h2 : w'.ownsRow B' e size' u m ys) (hB : w.heap.size ≤ B') : ApartV v u := fun g hg hu => by
  have h3 := (h.lt g hg).2
  have h4 := (h2.lt g hu).1
  omega


end Go.Proofs.YthddoikmgpgakaaDoor
