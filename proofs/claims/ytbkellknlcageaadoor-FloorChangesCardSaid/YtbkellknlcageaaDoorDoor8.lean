/- Seat 08: the table of checks out of the door's own laying; this seat's types, as they come in. -/
import Derived.Test.YtbkellknlcageaaDoorDoorG
import Derived.Test.YtbkellknlcageaaDoorFloorL
import Derived.ChangeSame
import Derived.Deep.Strs
namespace Go.Proofs.YtbkellknlcageaaDoor
open Go Go.ChangeShapes Go.WideShapes Go.ChangeAt Go.RowKit
def laidL : List (String × DataW Unit) := [("aguador/floor.checks", Rows.laid_aguador_floor_checks)]
set_option maxRecDepth 100000 in
theorem door_met (os : Os) (args : Array Value) : laidMetH Tryd.prog laidL ((World.doorLaid Tryd.prog 400 os).forCall (fun _ _ => 0) ⟨#[], args, []⟩).memory :=
  laidMetH_of_parts3 (fuel := 8) (laidMet_of_run' 8 (by kernel_rfl) (by kernel_rfl)) (by kernel_rfl) (by kernel_rfl)
end Go.Proofs.YtbkellknlcageaaDoor
namespace Go.Proofs.YtbkellknlcageaaDoor.Sw
open Go Go.RowKit Go.ChangeShapes Go.WideShapes Go.ChangeAt
set_option maxRecDepth 100000
theorem tab_of8 {W : World} {L : List (String × DataW Unit)} (hm : ("aguador/floor.checks", Rows.laid_aguador_floor_checks) ∈ L) (h : laidMetH Tryd.prog L W) : hsP [tab8] (gh W) [] W := by
  obtain ⟨g, t, cs, fuel, p, hg, ht, hv, hd⟩ := h.funcs (n := "aguador/floor.checks") hm
  obtain rfl := Option.some.inj ((show Tryd.prog.globalNamed "aguador/floor.checks" = some 0 by kernel_rfl).symm.trans hg)
  obtain rfl := Option.some.inj ((show (Tryd.prog.globals[0]?).map (·.type) = some 123 by kernel_rfl).symm.trans ht)
  have hd' : DataW.trod (funcToken Tryd.prog) Tryd.prog W 0 (fun _ => true) true fuel 123 cs.toList = some (.agg [.agg [.held [97, 103, 117, 97, 100, 111, 114, 47, 102, 108, 111, 111, 114, 46, 99, 104, 101, 99, 107, 115, 36, 49]], .agg [.held [97, 103, 117, 97, 100, 111, 114, 47, 102, 108, 111, 111, 114, 46, 99, 104, 101, 99, 107, 115, 36, 50]], .agg [.held [97, 103, 117, 97, 100, 111, 114, 47, 102, 108, 111, 111, 114, 46, 99, 104, 101, 99, 107, 115, 36, 51]], .agg [.held [97, 103, 117, 97, 100, 111, 114, 47, 102, 108, 111, 111, 114, 46, 99, 104, 101, 99, 107, 115, 36, 52]]], p) := hd
  obtain ⟨xs, m, rfl, hx, hlen, hn, hel⟩ := DataW.trod_array Tryd.underlying123 hd'
  rw [show Tryd.prog.cellsOf 122 = 1 by kernel_rfl] at hel
  rw [show Tryd.prog.cellsOf 123 = 4 by kernel_rfl] at hlen
  obtain ⟨cl⟩ := cs
  match cl, hlen, xs, hn with
  | [v0, v1, v2, v3], _, [x0, x1, x2, x3], _ =>
    simp only [Prod.mk.injEq, DataW.agg.injEq, List.map_cons, List.map_nil, List.cons.injEq] at hx
    have h0 := hel 0 (by decide); have h1 := hel 1 (by decide); have h2 := hel 2 (by decide); have h3 := hel 3 (by decide)
    simp at h0 h1 h2 h3
    have go : ∀ (v : Value) (x : DataW (List UInt8) × List MemPlace) (b : UInt8) (r : List UInt8) (f0 : FuncId), ((List.range Tryd.prog.funcs.size).filter fun f => (Tryd.prog.funcs[f]?).any (·.name.toUTF8.data.toList == b :: r)) = [f0] →
        DataW.trod (funcToken Tryd.prog) Tryd.prog W 0 (fun _ => true) true m 122 [v] = some x → x.1 = .agg [.held (b :: r)] → v = .func (.func f0) #[] #[] := by
      intro v x b r f0 hone h hx
      obtain ⟨y, n, rfl, _, hy⟩ := trod_struct1 Tryd.underlying122 h
      simp only [DataW.agg.injEq, List.cons.injEq, and_true] at hx
      obtain ⟨y1, y2⟩ := y
      simp only at hx
      subst hx
      exact func_of_trod (P := Tryd.prog) Tryd.underlying28 hone (by simpa [show Tryd.prog.cellsOf 28 = 1 by kernel_rfl] using hy)
    have e0 := go v0 x0 _ _ 215 (by kernel_rfl) h0 hx.1.1.symm
    have e1 := go v1 x1 _ _ 216 (by kernel_rfl) h1 hx.1.2.1.symm
    have e2 := go v2 x2 _ _ 217 (by kernel_rfl) h2 hx.1.2.2.1.symm
    have e3 := go v3 x3 _ _ 221 (by kernel_rfl) h3 hx.1.2.2.2.1.symm
    subst e0; subst e1; subst e2; subst e3
    have hc := World.var?_cell hg hv
    have hfit : Fits (gh W) chk8 [.func (.func 215) #[] #[], .func (.func 216) #[] #[], .func (.func 217) #[] #[], .func (.func 221) #[] #[]] :=
      show Fits (gh W) [_, _, _, _] _ from ⟨⟨[], rfl, trivial⟩, ⟨[], rfl, trivial⟩, ⟨[], rfl, trivial⟩, ⟨[], rfl, trivial⟩, trivial⟩
    refine ⟨[], [], .refl _, ⟨rfl, _, hfit, fun j u e => ?_⟩, rfl⟩
    have := hc j
    exact cellG_gh (by simpa [e] using this)
theorem reads_2 {t : TypeId} {f0 f1 : Field} {α β : Type} {g0 : α → AV} {g1 : β → AV} (ht : Tryd.prog.underlying t = some (.struct #[f0, f1])) (hone : Go.Deep.oneCellFields Tryd.prog #[f0, f1] = true) (hC : Tryd.prog.cellsOf t = 2)
    (h0 : Reads f0.type fun x => [g0 x]) (h1 : Reads f1.type fun x => [g1 x]) : Reads t fun x : α × β => [g0 x.1, g1 x.2] := fun {H enc W n cs y} h => by
  obtain ⟨y0, y1, n, _, hl, k0, k1⟩ := trod_struct2 ht h
  rw [hC] at hl
  obtain ⟨o0, c0⟩ := Go.Deep.hone_of hone 0 f0 rfl
  obtain ⟨o1, c1⟩ := Go.Deep.hone_of hone 1 f1 rfl
  match cs, hl with
  | [v0, v1], _ =>
    obtain ⟨x0, e0, _⟩ := h0 (by simpa [o0, c0] using k0)
    obtain ⟨x1, e1, _⟩ := h1 (by simpa [o1, c1] using k1)
    exact ⟨⟨x0, x1⟩, e0, e1, trivial⟩
theorem reads_3 {t : TypeId} {f0 f1 f2 : Field} {α β γ : Type} {g0 : α → AV} {g1 : β → AV} {g2 : γ → AV} (ht : Tryd.prog.underlying t = some (.struct #[f0, f1, f2])) (hone : Go.Deep.oneCellFields Tryd.prog #[f0, f1, f2] = true) (hC : Tryd.prog.cellsOf t = 3)
    (h0 : Reads f0.type fun x => [g0 x]) (h1 : Reads f1.type fun x => [g1 x]) (h2 : Reads f2.type fun x => [g2 x]) : Reads t fun x : α × β × γ => [g0 x.1, g1 x.2.1, g2 x.2.2] := fun {H enc W n cs y} h => by
  obtain ⟨y0, y1, y2, n, _, hl, k0, k1, k2⟩ := Go.Deep.trod_struct3 ht h
  rw [hC] at hl
  obtain ⟨o0, c0⟩ := Go.Deep.hone_of hone 0 f0 rfl
  obtain ⟨o1, c1⟩ := Go.Deep.hone_of hone 1 f1 rfl
  obtain ⟨o2, c2⟩ := Go.Deep.hone_of hone 2 f2 rfl
  match cs, hl with
  | [v0, v1, v2], _ =>
    obtain ⟨x0, e0, _⟩ := h0 (by simpa [o0, c0] using k0)
    obtain ⟨x1, e1, _⟩ := h1 (by simpa [o1, c1] using k1)
    obtain ⟨x2, e2, _⟩ := h2 (by simpa [o2, c2] using k2)
    exact ⟨⟨x0, x1, x2⟩, e0, e1, e2, trivial⟩
theorem reads_q : Reads 55 quC := fun {H enc W n cs y} h =>
  let ⟨x, hx⟩ := reads_2 Tryd.underlying55 (by kernel_rfl) (by kernel_rfl) reads_i reads_i h
  ⟨⟨x.1, x.2⟩, hx⟩
theorem reads_st : Reads 113 stC := fun {H enc W n cs y} h =>
  let ⟨x, hx⟩ := reads_2 Tryd.underlying113 (by kernel_rfl) (by kernel_rfl) reads_i reads_i h
  ⟨⟨x.1, x.2⟩, hx⟩
theorem reads_p : Reads 53 payC := fun {H enc W n cs y} h =>
  let ⟨x, hx⟩ := reads_3 Tryd.underlying53 (by kernel_rfl) (by kernel_rfl) reads_i reads_i reads_i h
  ⟨⟨x.1, x.2.1, x.2.2⟩, hx⟩
theorem reads_qs : Reads 23 fun xs : List Qu => [AV.sl 2 quC xs] := reads_sl Tryd.underlying23 (n := 2) (by kernel_rfl) (by decide) (fun _ => rfl) reads_q
theorem reads_sts : Reads 64 fun xs : List Stk => [AV.sl 2 stC xs] := reads_sl Tryd.underlying64 (n := 2) (by kernel_rfl) (by decide) (fun _ => rfl) reads_st
theorem reads_ps : Reads 25 fun xs : List Pay => [AV.sl 3 payC xs] := reads_sl Tryd.underlying25 (n := 3) (by kernel_rfl) (by decide) (fun _ => rfl) reads_p
theorem reads_b : Reads 66 biC := fun {H enc W n cs y} h =>
  let ⟨x, hx⟩ := reads_4 Tryd.underlying66 (by kernel_rfl) (by kernel_rfl) reads_i reads_i reads_i reads_sts h
  ⟨⟨x.1, x.2.1, x.2.2.1, x.2.2.2⟩, hx⟩
theorem reads_bs : Reads 24 fun xs : List Bil => [AV.sl 4 biC xs] := reads_sl Tryd.underlying24 (n := 4) (by kernel_rfl) (by decide) (fun _ => rfl) reads_b
theorem reads_f : Reads 27 flC := fun {H enc W n cs y} h =>
  let ⟨x, hx⟩ := reads_4 Tryd.underlying27 (by kernel_rfl) (by kernel_rfl) reads_is reads_qs reads_bs reads_ps h
  ⟨⟨x.1, x.2.1, x.2.2.1, x.2.2.2⟩, hx⟩
end Go.Proofs.YtbkellknlcageaaDoor.Sw
