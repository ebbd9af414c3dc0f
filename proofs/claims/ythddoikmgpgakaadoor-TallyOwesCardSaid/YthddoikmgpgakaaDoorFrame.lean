/- What every card of this seat leans on: the table of checks out of the door's own laying, and a tally that came in. -/
import Derived.Test.YthddoikmgpgakaaDoorCards
import Derived.Test.YthddoikmgpgakaaDoorTie
import Derived.Test.YthddoikmgpgakaaDoorTl
import Derived.WalkKit
import Derived.ProofKit
import Derived.OpenShut
import Derived.LaidMore
import Derived.LaidOnce
import Derived.ChangeOld
import Derived.Below
import Derived.Stop.Joined
import Derived.Lib.SmallJoins
namespace Go.Proofs.YthddoikmgpgakaaDoor
open Go Go.ChangeShapes Go.WideShapes Go.ChangeAt Go.RowKit

theorem own : ownKnob Tryd.prog.godebug = none := by kernel_rfl
theorem laidOut : laidOutB Tryd.prog = true := by kernel_rfl
def laidL : List (String × DataW Unit) := [("aguador/tally.checks", Rows.laid_aguador_tally_checks)]

set_option maxRecDepth 100000 in
theorem door_met (os : Os) (args : Array Value) : laidMetH Tryd.prog laidL ((World.doorLaid Tryd.prog 400 os).forCall (fun _ _ => 0) ⟨#[], args, []⟩).memory :=
  laidMetH_of_parts3 (fuel := 8) (laidMet_of_run' 8 (by kernel_rfl) (by kernel_rfl)) (by kernel_rfl) (by kernel_rfl)

set_option maxRecDepth 100000 in
theorem tab_of {W : World} (h : laidMetH Tryd.prog laidL W) : Tab W := by
  obtain ⟨g, t, cs, fuel, p, hg, ht, hv, hd⟩ := h.funcs (n := "aguador/tally.checks") (List.mem_cons_self ..)
  obtain rfl := Option.some.inj ((show Tryd.prog.globalNamed "aguador/tally.checks" = some 0 by kernel_rfl).symm.trans hg)
  obtain rfl := Option.some.inj ((show (Tryd.prog.globals[0]?).map (·.type) = some 146 by kernel_rfl).symm.trans ht)
  have hd' : DataW.trod (funcToken Tryd.prog) Tryd.prog W 0 (fun _ => true) true fuel 146 cs.toList = some (.agg [.agg [.held [97, 103, 117, 97, 100, 111, 114, 47, 116, 97, 108, 108, 121, 46, 99, 104, 101, 99, 107, 115, 36, 49]], .agg [.held [97, 103, 117, 97, 100, 111, 114, 47, 116, 97, 108, 108, 121, 46, 99, 104, 101, 99, 107, 115, 36, 50]], .agg [.held [97, 103, 117, 97, 100, 111, 114, 47, 116, 97, 108, 108, 121, 46, 99, 104, 101, 99, 107, 115, 36, 51]]], p) := hd
  obtain ⟨xs, m, rfl, hx, hlen, hn, hel⟩ := DataW.trod_array Tryd.underlying146 hd'
  rw [show Tryd.prog.cellsOf 145 = 1 by kernel_rfl] at hel
  rw [show Tryd.prog.cellsOf 146 = 3 by kernel_rfl] at hlen
  obtain ⟨cl⟩ := cs
  match cl, hlen, xs, hn with
  | [v0, v1, v2], _, [x0, x1, x2], _ =>
    simp only [Prod.mk.injEq, DataW.agg.injEq, List.map_cons, List.map_nil, List.cons.injEq] at hx
    have h0 := hel 0 (by decide); have h1 := hel 1 (by decide); have h2 := hel 2 (by decide)
    simp at h0 h1 h2
    have go : ∀ (v : Value) (x : DataW (List UInt8) × List MemPlace) (b : UInt8) (r : List UInt8) (f0 : FuncId), ((List.range Tryd.prog.funcs.size).filter fun f => (Tryd.prog.funcs[f]?).any (·.name.toUTF8.data.toList == b :: r)) = [f0] →
        DataW.trod (funcToken Tryd.prog) Tryd.prog W 0 (fun _ => true) true m 145 [v] = some x → x.1 = .agg [.held (b :: r)] → v = .func (.func f0) #[] #[] := by
      intro v x b r f0 hone h hx
      obtain ⟨y, n, rfl, _, hy⟩ := trod_struct1 Tryd.underlying145 h
      simp only [DataW.agg.injEq, List.cons.injEq, and_true] at hx
      obtain ⟨y1, y2⟩ := y
      simp only at hx
      subst hx
      exact func_of_trod (P := Tryd.prog) Tryd.underlying25 hone (by simpa [show Tryd.prog.cellsOf 25 = 1 by kernel_rfl] using hy)
    have e0 := go v0 x0 _ _ 164 (by kernel_rfl) h0 hx.1.1.symm
    have e1 := go v1 x1 _ _ 165 (by kernel_rfl) h1 hx.1.2.1.symm
    have e2 := go v2 x2 _ _ 166 (by kernel_rfl) h2 hx.1.2.2.1.symm
    subst e0; subst e1; subst e2
    have c0 := World.var?_cell hg hv 0; have c1 := World.var?_cell hg hv 1; have c2 := World.var?_cell hg hv 2
    exact ⟨by simpa using c0, by simpa using c1, by simpa using c2⟩

/-- A slice of ints that came in reads as ints. -/
theorem open_rdI {H : Type} {enc : TypeId × Value → H} {W : World} {n : Nat} {v : Value} {x : DataW H × List MemPlace} (h : DataW.trod enc Tryd.prog W 0 (fun _ => true) true n 22 [v] = some x) :
    ∃ (a : Option Addr) (c : Nat) (xs : List Int), v = .slice a xs.length c ∧ RdI W a xs := by
  rcases open_ints Tryd.underlying22 Tryd.underlying3 (by kernel_rfl) h with ⟨hcs, _⟩ | ⟨x, l, c, zs, hcs, _, hl, _, hz, _, hcell, _⟩
  · simp only [List.cons.injEq, and_true] at hcs
    subst hcs
    exact ⟨none, 0, [], rfl, RdI.nil _ _⟩
  · simp only [List.cons.injEq, and_true] at hcs
    subst hcs
    simp only [if_true] at hz
    have hlen : (zs.take l).length = l := by rw [List.length_take]; omega
    refine ⟨some x, c, zs.take l, by rw [hlen], fun i hi => ?_⟩
    rw [hlen] at hi
    have hc := hcell i (by omega)
    obtain ⟨b, o, spot⟩ := x
    have hspot : spot = none := by simpa [Addr.add] using World.cell?_spot (hcell 0 (by omega))
    subst hspot
    refine ⟨b, o, rfl, ?_⟩
    have ea : (⟨b, o, none⟩ : Addr).add i = ⟨b, o + i, none⟩ := by unfold Addr.add; split <;> simp_all
    rw [ea] at hc
    rw [List.getElem_take, hc, List.getD, List.getElem?_eq_getElem (by omega)]; rfl

set_option maxRecDepth 100000 in
/-- A tally that came in. -/
theorem open_tally {H : Type} {enc : TypeId × Value → H} {W : World} {base : Nat} {v : Value} {d : DataW H} {p : List MemPlace} (hv : Value.okWide Tryd.prog W .any base 24 v) (h : DataW.Trod enc Tryd.prog W 0 (fun _ => true) true 24 v d p) :
    ∃ (a : Tl) (sa fa : Option Addr) (sc fc : Nat), v = .agg #[.int .i64 a.id, .int .i64 a.hs, .slice sa a.st.length sc, .slice fa a.fo.length fc] ∧ RdI W sa a.st ∧ RdI W fa a.fo := by
  obtain ⟨v0, v1, v2, v3, y0, y1, y2, y3, n, rfl, _, _, h0, h1, h2, h3⟩ := Go.Joins.open_agg4 Tryd.underlying24 (by kernel_rfl) (by kernel_rfl) hv h
  obtain ⟨i0, e0, _, _⟩ := DataW.trod_int Tryd.underlying3 h0
  obtain ⟨i1, e1, _, _⟩ := DataW.trod_int Tryd.underlying3 h1
  obtain ⟨sa, sc, st, e2, r2⟩ := open_rdI h2
  obtain ⟨fa, fc, fo, e3, r3⟩ := open_rdI h3
  simp only [List.cons.injEq, and_true] at e0 e1
  subst e0; subst e1; subst e2; subst e3
  exact ⟨⟨i0, i1, st, fo⟩, sa, fa, sc, fc, rfl, r2, r3⟩

/-- What the law leaves: true, and all old memory as it was. -/
def Kept (w : World) (e : Ending) (w' : World) : Prop := e = .returned (.bool true) ∧ Below w.heap.size w w'
end Go.Proofs.YthddoikmgpgakaaDoor
