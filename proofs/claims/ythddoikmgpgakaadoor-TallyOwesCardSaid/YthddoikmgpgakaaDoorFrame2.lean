/- A tally that came in, with its capacities. -/
import Derived.Test.YthddoikmgpgakaaDoorFrame
namespace Go.Proofs.YthddoikmgpgakaaDoor
open Go Go.ChangeShapes Go.WideShapes Go.ChangeAt Go.RowKit

/-- A slice of ints that came in reads as ints. -/
theorem open_rdI2 {H : Type} {enc : TypeId × Value → H} {W : World} {n : Nat} {v : Value} {x : DataW H × List MemPlace} (h : DataW.trod enc Tryd.prog W 0 (fun _ => true) true n 22 [v] = some x) :
    ∃ (a : Option Addr) (c : Nat) (xs : List Int), v = .slice a xs.length c ∧ RdI W a xs ∧ xs.length ≤ c := by
  rcases open_ints Tryd.underlying22 Tryd.underlying3 (by kernel_rfl) h with ⟨hcs, _⟩ | ⟨x, l, c, zs, hcs, _, hl, _, hz, _, hcell, _⟩
  · simp only [List.cons.injEq, and_true] at hcs
    subst hcs
    exact ⟨none, 0, [], rfl, RdI.nil _ _, Nat.le_refl _⟩
  · simp only [List.cons.injEq, and_true] at hcs
    subst hcs
    simp only [if_true] at hz
    have hlen : (zs.take l).length = l := by rw [List.length_take]; omega
    refine ⟨some x, c, zs.take l, by rw [hlen], fun i hi => ?_, by rw [hlen]; exact hl⟩
    rw [hlen] at hi
    have hc := hcell i (by omega)
    obtain ⟨b, o, spot⟩ := x
    have hspot : spot = none := by simpa [Addr.add] using World.cell?_spot (hcell 0 (by omega))
    subst hspot
    refine ⟨b, o, rfl, ?_⟩
    have ea : (⟨b, o, none⟩ : Addr).add i = ⟨b, o + i, none⟩ := by unfold Addr.add; split <;> simp_all
    rw [ea] at hc
    rw [List.getElem_take, hc, List.getD, List.getElem?_eq_getElem (by omega)]; rfl

set_option maxRecDepth 100000 in
/-- A tally that came in. -/
theorem open_tally2 {H : Type} {enc : TypeId × Value → H} {W : World} {base : Nat} {v : Value} {d : DataW H} {p : List MemPlace} (hv : Value.okWide Tryd.prog W .any base 24 v) (h : DataW.Trod enc Tryd.prog W 0 (fun _ => true) true 24 v d p) :
    ∃ (a : Tl) (sa fa : Option Addr) (sc fc : Nat), v = .agg #[.int .i64 a.id, .int .i64 a.hs, .slice sa a.st.length sc, .slice fa a.fo.length fc] ∧ RdI W sa a.st ∧ RdI W fa a.fo ∧ a.st.length ≤ sc ∧ a.fo.length ≤ fc := by
  obtain ⟨v0, v1, v2, v3, y0, y1, y2, y3, n, rfl, _, _, h0, h1, h2, h3⟩ := Go.Joins.open_agg4 Tryd.underlying24 (by kernel_rfl) (by kernel_rfl) hv h
  obtain ⟨i0, e0, _, _⟩ := DataW.trod_int Tryd.underlying3 h0
  obtain ⟨i1, e1, _, _⟩ := DataW.trod_int Tryd.underlying3 h1
  obtain ⟨sa, sc, st, e2, r2, l2⟩ := open_rdI2 h2
  obtain ⟨fa, fc, fo, e3, r3, l3⟩ := open_rdI2 h3
  simp only [List.cons.injEq, and_true] at e0 e1
  subst e0; subst e1; subst e2; subst e3
  exact ⟨⟨i0, i1, st, fo⟩, sa, fa, sc, fc, rfl, r2, r3, l2, l3⟩

set_option maxRecDepth 100000 in
/-- A slice of ints that came in as an argument. -/
theorem open_ints2 {H : Type} {enc : TypeId × Value → H} {W : World} {base : Nat} {v : Value} {d : DataW H} {p : List MemPlace} (hv : Value.okWide Tryd.prog W .any base 22 v) (h : DataW.Trod enc Tryd.prog W 0 (fun _ => true) true 22 v d p) :
    ∃ (a : Option Addr) (c : Nat) (xs : List Int), v = .slice a xs.length c ∧ RdI W a xs ∧ xs.length ≤ c := by
  obtain ⟨a, n, c, rfl⟩ := okWide_slice Tryd.underlying22 hv
  obtain ⟨m, hm⟩ := h
  obtain ⟨a', c', xs, e, r⟩ := open_rdI2 (v := .slice a n c) hm
  exact ⟨a', c', xs, e, r⟩

end Go.Proofs.YthddoikmgpgakaaDoor
