/- From what a card hands over to what a walk's contract asks: the arguments as they read, the world as it stands. -/
import Derived.Test.YtbkellknlcageaaDoorSwH
import Derived.Test.YtbkellknlcageaaDoorTy8
import Derived.Test.YtbkellknlcageaaDoorCards
import Derived.Test.YtbkellknlcageaaDoorTie
import Derived.WalkKit
import Derived.ProofKit
import Derived.OpenShut
import Derived.LaidMore
import Derived.LaidOnce
import Derived.ChangeOld
import Derived.Below
import Derived.Stop.Joined
import Derived.Lib.SmallJoins
import Derived.Deep.Slices
namespace Go.Proofs.YtbkellknlcageaaDoor.Sw
open Go Go.RowKit Go.ChangeShapes Go.WideShapes Go.ChangeAt

/-- All blocks of a world, frozen. -/
def gh (w : World) : Nat → Option Obj := fun b => w.heap[b]?
theorem cellG_gh {w : World} {b i : Nat} {v : Value} (h : w.cell? ⟨b, i, none⟩ = some v) : cellG (gh w) b i = some v := by
  unfold World.cell? at h
  unfold cellG gh
  cases hb : w.heap[b]? with
  | none => rw [hb] at h; cases h
  | some o => rw [hb] at h; cases o <;> first | exact h | cases h
theorem law_of {P : Program} {k : FuncId} {args : List AV} {pre : List HA} (hc : Con P k args pre (Is (.val (.bool true)) [])) {vs : List Value} {w : World} (hp : hsP pre (gh w) [] w) (hf : Fits (gh w) args vs) :
    Calls P k vs.toArray w fun e w' => e = .returned (.bool true) ∧ Below w.heap.size w w' := by
  refine (hc.calls (gh w) [] vs w hf ⟨fun b o h => h, List.nodup_nil, fun b hb => absurd hb (by simp), hp⟩).mono fun e w' ⟨v, av, prod, G', F', h1, h2, h3, _, h5⟩ => ?_
  obtain ⟨rfl, rfl⟩ := h2
  have h5' : v = _ := h5
  subst h5'
  exact ⟨h1, { os := h3.os, tape := h3.tape, output := h3.output, size := h3.size, block := fun b hb => h3.same b hb (by simp) }⟩
theorem no_hs {w : World} : hsP [] (gh w) [] w := rfl

/-- A type whose cells read so, wherever they stand. -/
def Reads (t : TypeId) {α : Type} (f : α → List AV) : Prop := ∀ {H : Type} {enc : TypeId × Value → H} {W : World} {n : Nat} {cs : List Value} {y : DataW H × List MemPlace}, DataW.trod enc Tryd.prog W 0 (fun _ => true) true n t cs = some y → ∃ x, Fits (gh W) (f x) cs
theorem reads_int {t : TypeId} {k : IntKind} (ht : Tryd.prog.underlying t = some (.int k)) : Reads t fun i : Int => [AV.val (.int k i)] := fun h => by
  obtain ⟨n, rfl, _, _⟩ := DataW.trod_int ht h
  exact ⟨n, rfl, trivial⟩
theorem fits_of_cells {G : Nat → Option Obj} : ∀ {cs : List AV} {vs : List Value}, vs.length = cs.length → (∀ (j : Nat) (av : AV), cs[j]? = some av → ∃ u, vs[j]? = some u ∧ av.P G u) → Fits G cs vs
  | [], [], _, _ => trivial
  | c :: cs, v :: vs, hl, h => ⟨(by obtain ⟨u, h1, h2⟩ := h 0 c rfl; simp at h1; exact h1 ▸ h2), fits_of_cells (by simpa using hl) fun j av e => by simpa using h (j + 1) av (by simpa using e)⟩
theorem reads_sl {t e : TypeId} {α : Type} {f : α → List AV} {n : Nat} (ht : Tryd.prog.underlying t = some (.slice e)) (hn : Tryd.prog.cellsOf e = n) (h0 : 0 < n) (hf : ∀ x, (f x).length = n) (he : Reads e f) : Reads t fun xs : List α => [AV.sl n f xs] := fun {H enc W m cs y} h => by
  rcases Go.Deep.open_slice ht h with ⟨rfl, _⟩ | ⟨a, len, cap, m', n', D, Pl, rfl, hb, hl, hm, hmm, _, hx⟩
  · exact ⟨[], ⟨none, 0, rfl, Nat.le_refl _, fun i hi => (by cases hi)⟩, trivial⟩
  · simp only [if_true] at hmm
    have key : ∀ i, i < len → ∃ x, Fits (gh W) (f x) ((W.cells? 0 (a.add (i * n)) n).getD []) ∧ (W.cells? 0 (a.add (i * n)) n).isSome = true := fun i hi => by
      obtain ⟨cs', h1, h2⟩ := hx i (by omega)
      rw [hn] at h1
      obtain ⟨x, hxx⟩ := he h2
      exact ⟨x, by rw [h1]; exact hxx, by rw [h1]; rfl⟩
    let F : Fin len → α := fun i => (key i.1 i.2).choose
    have hF : ∀ i (hi : i < len), Fits (gh W) (f (F ⟨i, hi⟩)) ((W.cells? 0 (a.add (i * n)) n).getD []) ∧ (W.cells? 0 (a.add (i * n)) n).isSome = true := fun i hi => (key i hi).choose_spec
    refine ⟨List.ofFn F, ⟨some a, cap, by rw [List.length_ofFn], by rw [List.length_ofFn]; exact hl, fun i hi => ?_⟩, trivial⟩
    rw [List.length_ofFn] at hi
    obtain ⟨g1, g2⟩ := hF i hi
    obtain ⟨cs', hcs⟩ := Option.isSome_iff_exists.1 g2
    rw [hcs] at g1
    simp only [Option.getD_some] at g1
    obtain ⟨_, hlen, hcell⟩ := World.cells?_some hcs
    obtain ⟨b, o, spot⟩ := a
    have hspot : spot = none := by
      obtain ⟨k1, k2⟩ := hF 0 (by omega)
      obtain ⟨cs0, hc0⟩ := Option.isSome_iff_exists.1 k2
      obtain ⟨_, hl0, hcell0⟩ := World.cells?_some hc0
      have h1 := hcell0 0 h0
      rw [List.getElem?_eq_getElem (by omega), Go.Deep.add_add] at h1
      simpa [Addr.add] using World.cell?_spot h1
    subst hspot
    refine ⟨b, o, rfl, fun j av hj => ?_⟩
    rw [List.getElem_ofFn] at hj
    obtain ⟨u, h1, h2⟩ := g1.get hj
    have hjn : j < n := by have := (List.getElem?_eq_some_iff.1 hj).1; rw [hf] at this; exact this
    have h3 := hcell j hjn
    rw [h1, Go.Deep.add_add] at h3
    have ea : (⟨b, o, none⟩ : Addr).add (i * n + j) = ⟨b, o + i * n + j, none⟩ := by unfold Addr.add; split <;> simp <;> omega
    rw [ea] at h3
    exact ⟨u, cellG_gh h3, h2⟩
set_option maxRecDepth 100000 in
theorem arg_one {H : Type} {enc : TypeId × Value → H} {W : World} {t : TypeId} {α : Type} {g : α → AV} (hr : Reads t fun x => [g x]) {v : Value} {d : DataW H} {p : List MemPlace} (hc : v.cells.toList = [v]) (h : DataW.Trod enc Tryd.prog W 0 (fun _ => true) true t v d p) : ∃ x, (g x).P (gh W) v := by
  obtain ⟨m, hm⟩ := h
  rw [hc] at hm
  obtain ⟨x, h1, _⟩ := hr hm
  exact ⟨x, h1⟩
set_option maxRecDepth 100000 in
theorem arg_sl {H : Type} {enc : TypeId × Value → H} {W : World} {t e : TypeId} {α : Type} {g : α → AV} (hr : Reads t fun x => [g x]) {v : Value} {d : DataW H} {p : List MemPlace} {base : Nat} (ht : Tryd.prog.underlying t = some (.slice e)) (hv : Value.okWide Tryd.prog W .any base t v) (h : DataW.Trod enc Tryd.prog W 0 (fun _ => true) true t v d p) : ∃ x, (g x).P (gh W) v := by
  obtain ⟨a, n, c, rfl⟩ := okWide_slice ht hv
  exact arg_one hr rfl h
set_option maxRecDepth 100000 in
theorem arg_int {H : Type} {enc : TypeId × Value → H} {W : World} {t : TypeId} {k : IntKind} {v : Value} {d : DataW H} {p : List MemPlace} {base : Nat} (ht : Tryd.prog.underlying t = some (.int k)) (hv : Value.okWide Tryd.prog W .any base t v) (h : DataW.Trod enc Tryd.prog W 0 (fun _ => true) true t v d p) : ∃ i : Int, (AV.val (.int k i)).P (gh W) v ∧ (Lit.int k i).wf = true := by
  obtain ⟨n, rfl, _, _, hw⟩ := open_int ht hv h
  exact ⟨n, rfl, hw⟩
set_option maxRecDepth 100000 in
theorem arg_agg {H : Type} {enc : TypeId × Value → H} {W : World} {t : TypeId} {fs : Array Field} {α : Type} {g : α → List AV} (hr : Reads t g) {v : Value} {d : DataW H} {p : List MemPlace} {base : Nat} (ht : Tryd.prog.underlying t = some (.struct fs)) (hv : Value.okWide Tryd.prog W .any base t v) (h : DataW.Trod enc Tryd.prog W 0 (fun _ => true) true t v d p) : ∃ x, (AV.agg (g x)).P (gh W) v := by
  obtain ⟨cs, rfl, _⟩ := okWide_struct ht hv
  obtain ⟨m, hm⟩ := h
  obtain ⟨x, h1⟩ := hr hm
  exact ⟨x, cs.toList, rfl, h1⟩
end Go.Proofs.YtbkellknlcageaaDoor.Sw
namespace Go.Proofs.YtbkellknlcageaaDoor
open Go Go.ChangeShapes Go.WideShapes Go.ChangeAt Go.RowKit
theorem own : ownKnob Tryd.prog.godebug = none := by kernel_rfl
theorem laidOut : laidOutB Tryd.prog = true := by kernel_rfl
end Go.Proofs.YtbkellknlcageaaDoor
namespace Go.Proofs.YtbkellknlcageaaDoor.Sw
open Go Go.RowKit Go.ChangeShapes Go.WideShapes Go.ChangeAt
set_option maxRecDepth 100000
theorem reads_i : Reads 3 iC := reads_int Tryd.underlying3
theorem reads_is : Reads 22 fun xs : List Int => [AV.sl 1 iC xs] := reads_sl Tryd.underlying22 (n := 1) (by kernel_rfl) Nat.one_pos (fun _ => rfl) reads_i
theorem reads_4 {t : TypeId} {f0 f1 f2 f3 : Field} {α β γ δ : Type} {g0 : α → AV} {g1 : β → AV} {g2 : γ → AV} {g3 : δ → AV} (ht : Tryd.prog.underlying t = some (.struct #[f0, f1, f2, f3])) (hone : Go.Deep.oneCellFields Tryd.prog #[f0, f1, f2, f3] = true) (hC : Tryd.prog.cellsOf t = 4)
    (h0 : Reads f0.type fun x => [g0 x]) (h1 : Reads f1.type fun x => [g1 x]) (h2 : Reads f2.type fun x => [g2 x]) (h3 : Reads f3.type fun x => [g3 x]) : Reads t fun x : α × β × γ × δ => [g0 x.1, g1 x.2.1, g2 x.2.2.1, g3 x.2.2.2] := fun {H enc W n cs y} h => by
  obtain ⟨y0, y1, y2, y3, n, _, hl, k0, k1, k2, k3⟩ := Go.Joins.trod_struct4 ht h
  rw [hC] at hl
  obtain ⟨o0, c0⟩ := Go.Deep.hone_of hone 0 f0 rfl
  obtain ⟨o1, c1⟩ := Go.Deep.hone_of hone 1 f1 rfl
  obtain ⟨o2, c2⟩ := Go.Deep.hone_of hone 2 f2 rfl
  obtain ⟨o3, c3⟩ := Go.Deep.hone_of hone 3 f3 rfl
  match cs, hl with
  | [v0, v1, v2, v3], _ =>
    obtain ⟨x0, e0, _⟩ := h0 (by simpa [o0, c0] using k0)
    obtain ⟨x1, e1, _⟩ := h1 (by simpa [o1, c1] using k1)
    obtain ⟨x2, e2, _⟩ := h2 (by simpa [o2, c2] using k2)
    obtain ⟨x3, e3, _⟩ := h3 (by simpa [o3, c3] using k3)
    exact ⟨⟨x0, x1, x2, x3⟩, e0, e1, e2, e3, trivial⟩

end Go.Proofs.YtbkellknlcageaaDoor.Sw
