/- Operations over what is known of a frame. No condition. -/
import Derived.IntWalk
import Derived.WalkSpells
import Derived.Test.YtbkellknlcageaaDoorSw
namespace Go.Proofs.YtbkellknlcageaaDoor.Sw
open Go.RowKit Go

section
variable {P : Program} {rs : List (Nat × AV)} {d : Option Nat} {ty : TypeId} {pos : String} {af : Array Edge} {g : Option (Nat × Bool)}

theorem LT_val {o : Oper} {av : AV} (hdf : ∀ cl, o.op ≠ .defer cl) (h : ∀ a w G, RegOK rs G a → Gin G w → ∃ v, av.P G v ∧ (execOp a.eval o).run P w = .ok (.value v) w) : LT P o rs [] (Is av []) := by
  refine ⟨?_⟩
  intro F n hF a w G Fp K Q hR hI hk
  obtain ⟨v, hv, hr⟩ := h a w G hR hI.gin
  unfold Oper.wpIn
  refine ⟨fun f _ => hF.fn f, ?_⟩
  rw [Oper.semAt_eq _ _ _ hdf, hr]
  exact hk v av [] G Fp w ⟨rfl, rfl⟩ (Fr.refl _ _ _) hI hv
theorem LT_read {o : Oper} {av : AV} {h : HA} (hdf : ∀ cl, o.op ≠ .defer cl) (hh : ∀ a w G F, RegOK rs G a → Gin G w → h.P G F w → ∃ v, av.P G v ∧ (execOp a.eval o).run P w = .ok (.value v) w) : LT P o rs [h] (Is av [h]) := by
  refine ⟨?_⟩
  intro F n hF a w G Fp K Q hR hI hk
  obtain ⟨F1, F2, e, h1, h2⟩ := hI.hs
  obtain ⟨v, hv, hr⟩ := hh a w G F1 hR hI.gin h1
  unfold Oper.wpIn
  refine ⟨fun f _ => hF.fn f, ?_⟩
  rw [Oper.semAt_eq _ _ _ hdf, hr]
  exact hk v av [h] G Fp w ⟨rfl, rfl⟩ (Fr.refl _ _ _) hI hv

theorem lt_move {x : Operand} {av : AV} (h : opv rs x = some av) : LT P ⟨d, .move x, ty, pos, af, g⟩ rs [] (Is av []) :=
  LT_val (fun _ e => by cases e) fun a w G hR _ => ⟨a.eval x, opv_ok hR h, rfl⟩
theorem lt_assign {x : Operand} {av : AV} (h : opv rs x = some av) : LT P ⟨d, .assign x, ty, pos, af, g⟩ rs [] (Is av []) :=
  LT_val (fun _ e => by cases e) fun a w G hR _ => ⟨a.eval x, opv_ok hR h, rfl⟩
theorem lt_add {x y : Operand} {m n : Int} {t t' : TypeId} (hx : opv rs x = some (.val (.int .i64 m))) (hy : opv rs y = some (.val (.int .i64 n))) (h1 : -9223372036854775808 ≤ m + n) (h2 : m + n ≤ 9223372036854775807) :
    LT P ⟨d, .binOp .add t x y t', ty, pos, af, g⟩ rs [] (Is (.val (.int .i64 (m + n))) []) :=
  LT_val (fun _ e => by cases e) fun a w G hR _ => ⟨_, rfl, by
    have e1 : a.eval x = _ := opv_ok hR hx
    have e2 : a.eval y = _ := opv_ok hR hy
    simp only [execOp, e1, e2]
    simp [go_sem, IntWalk.i64_in (m + n) (by omega)]⟩
theorem lt_sub {x y : Operand} {m n : Int} {t t' : TypeId} (hx : opv rs x = some (.val (.int .i64 m))) (hy : opv rs y = some (.val (.int .i64 n))) (h1 : -9223372036854775808 ≤ m - n) (h2 : m - n ≤ 9223372036854775807) :
    LT P ⟨d, .binOp .sub t x y t', ty, pos, af, g⟩ rs [] (Is (.val (.int .i64 (m - n))) []) :=
  LT_val (fun _ e => by cases e) fun a w G hR _ => ⟨_, rfl, by
    have e1 : a.eval x = _ := opv_ok hR hx
    have e2 : a.eval y = _ := opv_ok hR hy
    simp only [execOp, e1, e2]
    simp [go_sem, IntWalk.i64_in (m - n) (by omega)]⟩
theorem lt_mul {x y : Operand} {m n : Int} {t t' : TypeId} (hx : opv rs x = some (.val (.int .i64 m))) (hy : opv rs y = some (.val (.int .i64 n))) (h1 : -9223372036854775808 ≤ m * n) (h2 : m * n ≤ 9223372036854775807) :
    LT P ⟨d, .binOp .mul t x y t', ty, pos, af, g⟩ rs [] (Is (.val (.int .i64 (m * n))) []) :=
  LT_val (fun _ e => by cases e) fun a w G hR _ => ⟨_, rfl, by
    have e1 : a.eval x = _ := opv_ok hR hx
    have e2 : a.eval y = _ := opv_ok hR hy
    simp only [execOp, e1, e2]
    simp [go_sem, IntWalk.i64_in (m * n) ⟨h1, h2⟩]⟩
theorem lt_lss {x y : Operand} {m n : Int} {k : IntKind} {t t' : TypeId} (hx : opv rs x = some (.val (.int k m))) (hy : opv rs y = some (.val (.int k n))) :
    LT P ⟨d, .binOp .lss t x y t', ty, pos, af, g⟩ rs [] (Is (.val (.bool (decide (m < n)))) []) :=
  LT_val (fun _ e => by cases e) fun a w G hR _ => ⟨_, rfl, by
    have e1 : a.eval x = _ := opv_ok hR hx
    have e2 : a.eval y = _ := opv_ok hR hy
    simp only [execOp, e1, e2]
    first | (simp [go_sem]; done) | (simp [go_sem]; rfl)⟩
theorem lt_leq {x y : Operand} {m n : Int} {k : IntKind} {t t' : TypeId} (hx : opv rs x = some (.val (.int k m))) (hy : opv rs y = some (.val (.int k n))) :
    LT P ⟨d, .binOp .leq t x y t', ty, pos, af, g⟩ rs [] (Is (.val (.bool (decide (m ≤ n)))) []) :=
  LT_val (fun _ e => by cases e) fun a w G hR _ => ⟨_, rfl, by
    have e1 : a.eval x = _ := opv_ok hR hx
    have e2 : a.eval y = _ := opv_ok hR hy
    simp only [execOp, e1, e2]
    first | (simp [go_sem]; done) | (simp [go_sem]; rfl)⟩
theorem lt_gtr {x y : Operand} {m n : Int} {k : IntKind} {t t' : TypeId} (hx : opv rs x = some (.val (.int k m))) (hy : opv rs y = some (.val (.int k n))) :
    LT P ⟨d, .binOp .gtr t x y t', ty, pos, af, g⟩ rs [] (Is (.val (.bool (decide (n < m)))) []) :=
  LT_val (fun _ e => by cases e) fun a w G hR _ => ⟨_, rfl, by
    have e1 : a.eval x = _ := opv_ok hR hx
    have e2 : a.eval y = _ := opv_ok hR hy
    simp only [execOp, e1, e2]
    first | (simp [go_sem]; done) | (simp [go_sem]; rfl)⟩
theorem lt_geq {x y : Operand} {m n : Int} {k : IntKind} {t t' : TypeId} (hx : opv rs x = some (.val (.int k m))) (hy : opv rs y = some (.val (.int k n))) :
    LT P ⟨d, .binOp .geq t x y t', ty, pos, af, g⟩ rs [] (Is (.val (.bool (decide (n ≤ m)))) []) :=
  LT_val (fun _ e => by cases e) fun a w G hR _ => ⟨_, rfl, by
    have e1 : a.eval x = _ := opv_ok hR hx
    have e2 : a.eval y = _ := opv_ok hR hy
    simp only [execOp, e1, e2]
    first | (simp [go_sem]; done) | (simp [go_sem]; rfl)⟩
theorem lt_eql {x y : Operand} {m n : Int} {k : IntKind} {t t' : TypeId} (hx : opv rs x = some (.val (.int k m))) (hy : opv rs y = some (.val (.int k n))) :
    LT P ⟨d, .binOp .eql t x y t', ty, pos, af, g⟩ rs [] (Is (.val (.bool (decide (m = n)))) []) :=
  LT_val (fun _ e => by cases e) fun a w G hR _ => ⟨_, rfl, by
    have e1 : a.eval x = _ := opv_ok hR hx
    have e2 : a.eval y = _ := opv_ok hR hy
    simp only [execOp, e1, e2]
    first | (simp [go_sem]; done) | (simp [go_sem]; rfl)⟩
theorem lt_neq {x y : Operand} {m n : Int} {k : IntKind} {t t' : TypeId} (hx : opv rs x = some (.val (.int k m))) (hy : opv rs y = some (.val (.int k n))) :
    LT P ⟨d, .binOp .neq t x y t', ty, pos, af, g⟩ rs [] (Is (.val (.bool (!decide (m = n)))) []) :=
  LT_val (fun _ e => by cases e) fun a w G hR _ => ⟨_, rfl, by
    have e1 : a.eval x = _ := opv_ok hR hx
    have e2 : a.eval y = _ := opv_ok hR hy
    simp only [execOp, e1, e2]
    first | (simp [go_sem]; done) | (simp [go_sem]; rfl)⟩
theorem lt_not {x : Operand} {b : Bool} {t : TypeId} (hx : opv rs x = some (.val (.bool b))) : LT P ⟨d, .unOp .not t x, ty, pos, af, g⟩ rs [] (Is (.val (.bool (!b))) []) :=
  LT_val (fun _ e => by cases e) fun a w G hR _ => ⟨_, rfl, by
    have e1 : a.eval x = _ := opv_ok hR hx
    simp only [execOp, e1]
    simp [go_sem]⟩
theorem lt_neg {x : Operand} {m : Int} {t : TypeId} (hx : opv rs x = some (.val (.int .i64 m))) (h1 : -9223372036854775807 ≤ m) (h2 : m ≤ 9223372036854775807) : LT P ⟨d, .unOp .neg t x, ty, pos, af, g⟩ rs [] (Is (.val (.int .i64 (-m))) []) :=
  LT_val (fun _ e => by cases e) fun a w G hR _ => ⟨_, rfl, by
    have e1 : a.eval x = _ := opv_ok hR hx
    simp only [execOp, e1]
    simp [go_sem, IntWalk.i64_in (-m) (by omega)]⟩
theorem lt_pick_t {x y z : Operand} {av : AV} (hx : opv rs x = some (.val (.bool true))) (hy : opv rs y = some av) : LT P ⟨d, .pick x y z, ty, pos, af, g⟩ rs [] (Is av []) :=
  LT_val (fun _ e => by cases e) fun a w G hR _ => ⟨a.eval y, opv_ok hR hy, by
    have e1 : a.eval x = _ := opv_ok hR hx
    simp only [execOp, e1]
    simp [go_sem, asBool]⟩
theorem lt_pick_f {x y z : Operand} {av : AV} (hx : opv rs x = some (.val (.bool false))) (hy : opv rs z = some av) : LT P ⟨d, .pick x y z, ty, pos, af, g⟩ rs [] (Is av []) :=
  LT_val (fun _ e => by cases e) fun a w G hR _ => ⟨a.eval z, opv_ok hR hy, by
    have e1 : a.eval x = _ := opv_ok hR hx
    simp only [execOp, e1]
    simp [go_sem, asBool]⟩
theorem lt_extract {x : Operand} {cs : List AV} {i : Nat} {av : AV} (hx : opv rs x = some (.tup cs)) (hi : cs[i]? = some av) : LT P ⟨d, .extract x i, ty, pos, af, g⟩ rs [] (Is av []) :=
  LT_val (fun _ e => by cases e) fun a w G hR _ => by
    obtain ⟨vs, e1, hf⟩ : (AV.tup cs).P G (a.eval x) := opv_ok hR hx
    obtain ⟨v, hv, hp⟩ := hf.get hi
    refine ⟨v, hp, ?_⟩
    simp only [execOp, e1]
    simp [go_sem, Instr.extract, hv]

/-- A type of one cell. -/
class Ty1 (P : Program) (t : TypeId) : Prop where
  agg : ∀ w, (isAgg t).run P w = .ok false w
  size : ∀ w, (sizeOf t).run P w = .ok 1 w
/-- A struct or an array, of n cells. -/
class TyN (P : Program) (t : TypeId) (n : outParam Nat) : Prop where
  agg : ∀ w, (isAgg t).run P w = .ok true w
  size : ∀ w, (sizeOf t).run P w = .ok n w
/-- A slice type. -/
class TyS (P : Program) (t : TypeId) (e : outParam TypeId) (n : outParam Nat) : Prop where
  und : P.underlying t = some (.slice e)
  size : ∀ w, (sizeOf e).run P w = .ok n w
/-- A field. -/
class TyF (P : Program) (t : TypeId) (f : Nat) (off : outParam Nat) : Prop where
  run : ∀ a w, (Instr.fieldAt t (.pointer (some a)) f).run P w = .ok (.pointer (some (a.add off))) w
/-- The zero value. -/
class TyZ (P : Program) (t : TypeId) (zs : outParam (List Value)) : Prop where
  run : ∀ w, ∃ z, (zeroValue t).run P w = .ok z w ∧ z.cells = zs.toArray
/-- What is read is one cell. -/
class One (av : AV) : Prop where
  out : ∀ G v, av.P G v → v.oneCell' = true
instance {k : IntKind} {n : Int} : One (.val (.int k n)) := ⟨fun _ _ h => by subst h; rfl⟩
instance {b : Bool} : One (.val (.bool b)) := ⟨fun _ _ h => by subst h; rfl⟩
instance {a : Option Addr} {n c : Nat} : One (.val (.slice a n c)) := ⟨fun _ _ h => by subst h; rfl⟩
instance {a : Option Addr} : One (.val (.pointer a)) := ⟨fun _ _ h => by subst h; rfl⟩
instance {f : Fn} {x y : Array Value} : One (.val (.func f x y)) := ⟨fun _ _ h => by subst h; rfl⟩
instance : One (.val .nilFunc) := ⟨fun _ _ h => by subst h; rfl⟩
instance {α : Type} {n : Nat} {f : α → List AV} {xs : List α} : One (.sl n f xs) := ⟨fun _ _ ⟨_, _, h, _⟩ => by subst h; rfl⟩
instance {p : Value} {j : Nat} : One (.at p j) := ⟨fun _ _ ⟨_, _, h⟩ => by subst h; rfl⟩

theorem add_plain (b o k : Nat) : (⟨b, o, none⟩ : Addr).add k = ⟨b, o + k, none⟩ := by unfold Addr.add; split <;> simp_all
/-- An operand points to cell j of the box p. -/
def Pt (rs : List (Nat × AV)) (x : Operand) (p : Value) (j : Nat) : Prop := opv rs x = some (.at p j) ∨ (opv rs x = some (.val p) ∧ j = 0)
theorem Pt.ok {rs : List (Nat × AV)} {x : Operand} {p : Value} {j b : Nat} (h : Pt rs x p j) {G : Nat → Option Obj} {a : Act} (hR : RegOK rs G a) (hp : p = .pointer (some ⟨b, 0, none⟩)) : a.eval x = .pointer (some ⟨b, j, none⟩) := by
  rcases h with h | ⟨h, rfl⟩
  · obtain ⟨b', e1, e2⟩ : (AV.at p j).P G (a.eval x) := opv_ok hR h
    rw [e1] at hp
    simp only [Value.pointer.injEq, Option.some.injEq, Addr.mk.injEq, and_true] at hp
    subst hp; exact e2
  · have e : a.eval x = p := opv_ok hR h
    rw [e, hp]

theorem run_loadCells {P : Program} {w : World} {b : Nat} : ∀ (vs : List Value) (j : Nat) (i : Nat) (acc : Array Value), (∀ k u, vs[k]? = some u → w.cell? ⟨b, j + (i + k), none⟩ = some u) → (loadCellsFrom ⟨b, j, none⟩ i vs.length acc).run P w = .ok (acc ++ vs.toArray) w
  | [], _, _, acc, _ => by simp [loadCellsFrom]
  | v :: vs, j, i, acc, h => by
    have h0 := h 0 v rfl
    have ih := run_loadCells (P := P) (w := w) (b := b) vs j (i + 1) (acc.push v) fun k u e => by
      have := h (k + 1) u (by simpa using e)
      rw [show j + (i + 1 + k) = j + (i + (k + 1)) by omega]; exact this
    simp only [Nat.add_zero] at h0
    simp only [List.length_cons, loadCellsFrom, add_plain, Sem.run_bind]
    rw [show (load ⟨b, j + i, none⟩).run P w = .ok v w by simp [load, Sem.run, h0]]
    simp only [Result.andThen_ok, ih]
    simp
theorem run_load1 {P : Program} {t : TypeId} [h : Ty1 P t] {w : World} {ad : Addr} {v : Value} (hc : w.cell? ad = some v) : (Instr.loadAt t (.pointer (some ad))).run P w = .ok v w := by
  simp only [Instr.loadAt, Instr.sureAddr, loadVar, Sem.run_bind, Sem.run_pure, Result.andThen_ok, h.agg w]
  simp [load, Sem.run, hc]
theorem run_loadN {P : Program} {t : TypeId} {n : Nat} [h : TyN P t n] {w : World} {b j : Nat} {vs : List Value} (hn : vs.length = n) (hc : ∀ k u, vs[k]? = some u → w.cell? ⟨b, j + k, none⟩ = some u) : (Instr.loadAt t (.pointer (some ⟨b, j, none⟩))).run P w = .ok (.agg vs.toArray) w := by
  have := run_loadCells (P := P) (w := w) (b := b) vs j 0 #[] (fun k u e => by rw [Nat.zero_add]; exact hc k u e)
  simp only [Instr.loadAt, Instr.sureAddr, loadVar, Sem.run_bind, Sem.run_pure, Result.andThen_ok, h.agg w, h.size w, if_true, loadCells]
  rw [← hn, this]
  simp
theorem lt_load1 {x : Operand} {t tb : TypeId} [Ty1 P t] {p : Value} {j : Nat} {cs : List AV} {av : AV} (hx : Pt rs x p j) (hc : cs[j]? = some av) : LT P ⟨d, .load t x, ty, pos, af, g⟩ rs [.box p cs tb] (Is av [.box p cs tb]) :=
  LT_read (fun _ e => by cases e) fun a w G F hR _ ⟨b, vs, hp, _, hf, hb⟩ => by
    obtain ⟨v, hv, hav⟩ := hf.get hc
    refine ⟨v, hav, ?_⟩
    simp only [execOp, hx.ok hR hp, Sem.run_bind]
    rw [run_load1 (v := v) (by rw [cell_of_row w b j _ _ _ hb]; simpa using hv)]
    rfl
/-- A whole box. -/
theorem lt_loadN {x : Operand} {t tb : TypeId} {n : Nat} [TyN P t n] {p : Value} {cs : List AV} (hx : Pt rs x p 0) (hc : cs.length = n) : LT P ⟨d, .load t x, ty, pos, af, g⟩ rs [.box p cs tb] (Is (.agg cs) [.box p cs tb]) :=
  LT_read (fun _ e => by cases e) fun a w G F hR _ ⟨b, vs, hp, _, hf, hb⟩ => by
    refine ⟨.agg vs.toArray, ⟨vs, rfl, hf⟩, ?_⟩
    simp only [execOp, hx.ok hR hp, Sem.run_bind]
    rw [run_loadN (n := n) (vs := vs) (by rw [hf.length, hc]) (fun k u e => by rw [cell_of_row w b _ _ _ _ hb]; simpa using e)]
    rfl
theorem lt_loadE1 {α : Type} {x : Operand} {t : TypeId} [Ty1 P t] {n k j : Nat} {f : α → List AV} {xs : List α} {av : AV} (hx : opv rs x = some (.el n f xs k j)) (hk : k < xs.length) (hc : (f xs[k])[j]? = some av) : LT P ⟨d, .load t x, ty, pos, af, g⟩ rs [] (Is av []) :=
  LT_val (fun _ e => by cases e) fun a w G hR hG => by
    obtain ⟨b, o, e1, hs⟩ : (AV.el n f xs k j).P G (a.eval x) := opv_ok hR hx
    obtain ⟨b', o', e2, hs⟩ := hs k hk
    cases e2
    obtain ⟨u, hu, hp⟩ := hs j av hc
    refine ⟨u, hp, ?_⟩
    simp only [execOp, e1, Sem.run_bind]
    rw [run_load1 (cellG.cell hG hu)]
    rfl
theorem lt_loadEN {α : Type} {x : Operand} {t : TypeId} {n k : Nat} [TyN P t n] {f : α → List AV} {xs : List α} (hx : opv rs x = some (.el n f xs k 0)) (hk : k < xs.length) (hc : (f xs[k]).length = n) : LT P ⟨d, .load t x, ty, pos, af, g⟩ rs [] (Is (.agg (f xs[k])) []) :=
  LT_val (fun _ e => by cases e) fun a w G hR hG => by
    obtain ⟨b, o, e1, hs⟩ : (AV.el n f xs k 0).P G (a.eval x) := opv_ok hR hx
    obtain ⟨b', o', e2, hs⟩ := hs k hk
    cases e2
    obtain ⟨vs, hf, hv⟩ : ∃ vs : List Value, Fits G (f xs[k]) vs ∧ ∀ j u, vs[j]? = some u → cellG G b (o + k * n + j) = some u := by
      clear e1 hc
      revert hs
      generalize f xs[k] = cs
      generalize o + k * n = q
      intro hs
      induction cs generalizing q with
      | nil => exact ⟨[], trivial, fun j u e => by simp at e⟩
      | cons c cs ih =>
        obtain ⟨u, hu, hp⟩ := hs 0 c rfl
        obtain ⟨us, h1, h2⟩ := ih (q + 1) (fun j av e => by rw [show q + 1 + j = q + (j + 1) by omega]; exact hs (j + 1) av (by simpa using e))
        refine ⟨u :: us, ⟨hp, h1⟩, fun j v e => ?_⟩
        cases j with
        | zero => simp at e; subst e; exact hu
        | succ j => rw [show q + (j + 1) = q + 1 + j by omega]; exact h2 j v (by simpa using e)
    refine ⟨.agg vs.toArray, ⟨vs, rfl, hf⟩, ?_⟩
    simp only [execOp, e1, Nat.add_zero, Sem.run_bind]
    rw [run_loadN (n := n) (vs := vs) (by rw [hf.length, hc]) (fun j u e => cellG.cell hG (hv j u e))]
    rfl
theorem lt_loadE1' {α : Type} {x : Operand} {t : TypeId} [Ty1 P t] {n k j : Nat} {f : α → List AV} {xs : List α} {y : α} {av : AV} (hx : opv rs x = some (.el n f xs k j)) (hk : xs[k]? = some y) (hc : (f y)[j]? = some av) : LT P ⟨d, .load t x, ty, pos, af, g⟩ rs [] (Is av []) := by
  obtain ⟨h, e⟩ := List.getElem?_eq_some_iff.1 hk
  exact lt_loadE1 hx h (by rw [e]; exact hc)
theorem lt_loadEN' {α : Type} {x : Operand} {t : TypeId} {n k : Nat} [TyN P t n] {f : α → List AV} {xs : List α} {y : α} (hx : opv rs x = some (.el n f xs k 0)) (hk : xs[k]? = some y) (hc : (f y).length = n) : LT P ⟨d, .load t x, ty, pos, af, g⟩ rs [] (Is (.agg (f y)) []) := by
  obtain ⟨h, e⟩ := List.getElem?_eq_some_iff.1 hk
  have := lt_loadEN (P := P) (rs := rs) (d := d) (ty := ty) (pos := pos) (af := af) (g := g) (t := t) hx h (by rw [e]; exact hc)
  rwa [e] at this
theorem lt_fieldAt {x : Operand} {t : TypeId} {f off : Nat} [h : TyF P t f off] {p : Value} {j j' : Nat} (hx : opv rs x = some (.at p j)) (hj : j + off = j') : LT P ⟨d, .fieldAddr t x f, ty, pos, af, g⟩ rs [] (Is (.at p j') []) :=
  LT_val (fun _ e => by cases e) fun a w G hR hG => by
    obtain ⟨b, e1, e2⟩ : (AV.at p j).P G (a.eval x) := opv_ok hR hx
    refine ⟨.pointer (some ⟨b, j', none⟩), ⟨b, e1, rfl⟩, ?_⟩
    simp only [execOp, e2, Sem.run_bind]
    rw [h.run, add_plain, hj]
    rfl
/-- The field of a box: what p points to is known by the box itself. -/
theorem lt_fieldVal {x : Operand} {t : TypeId} {f off : Nat} [h : TyF P t f off] {p : Value} {cs : List AV} {tb : TypeId} (hx : opv rs x = some (.val p)) : LT P ⟨d, .fieldAddr t x f, ty, pos, af, g⟩ rs [.box p cs tb] (Is (.at p off) [.box p cs tb]) :=
  LT_read (fun _ e => by cases e) fun a w G F hR _ ⟨b, vs, hp, _, hf, hb⟩ => by
    have e : a.eval x = p := opv_ok hR hx
    refine ⟨.pointer (some ⟨b, off, none⟩), ⟨b, hp, rfl⟩, ?_⟩
    simp only [execOp, e, hp, Sem.run_bind]
    rw [h.run, add_plain, Nat.zero_add]
    rfl
theorem lt_fieldEl {α : Type} {x : Operand} {t : TypeId} {n k f' off : Nat} [h : TyF P t f' off] {f : α → List AV} {xs : List α} {j j' : Nat} (hx : opv rs x = some (.el n f xs k j)) (hj : j + off = j') : LT P ⟨d, .fieldAddr t x f', ty, pos, af, g⟩ rs [] (Is (.el n f xs k j') []) :=
  LT_val (fun _ e => by cases e) fun a w G hR hG => by
    obtain ⟨b, o, e1, hs⟩ : (AV.el n f xs k j).P G (a.eval x) := opv_ok hR hx
    refine ⟨.pointer (some ⟨b, o + k * n + j', none⟩), ⟨b, o, rfl, hs⟩, ?_⟩
    simp only [execOp, e1, Sem.run_bind]
    rw [h.run, add_plain, Nat.add_assoc, hj]
    rfl
theorem lt_indexSl {α : Type} {x y : Operand} {t e : TypeId} {n : Nat} [h : TyS P t e n] {f : α → List AV} {xs : List α} {i : Int} {k : Nat} {kd : IntKind} (hx : opv rs x = some (.sl n f xs)) (hy : opv rs y = some (.val (.int kd i))) (hi : i = (k : Int)) (hk : k < xs.length) :
    LT P ⟨d, .indexAddr t x y, ty, pos, af, g⟩ rs [] (Is (.el n f xs k 0) []) :=
  LT_val (fun _ e => by cases e) fun a w G hR hG => by
    obtain ⟨ad, c, e1, hc, hs⟩ : (AV.sl n f xs).P G (a.eval x) := opv_ok hR hx
    have e2 : a.eval y = _ := opv_ok hR hy
    obtain ⟨b, o, rfl, _⟩ := hs k hk
    refine ⟨.pointer (some ⟨b, o + k * n, none⟩), ⟨b, o, rfl, hs⟩, ?_⟩
    subst hi
    simp only [execOp, e1, e2, Sem.run_bind]
    have h2 : (Instr.indexAt t (.slice (some ⟨b, o, none⟩) xs.length c) (.int kd k)).run P w = .ok (.pointer (some ⟨b, o + k * n, none⟩)) w := by
      have hk' : (0 : Int) ≤ (k : Int) ∧ (k : Int) < (xs.length : Int) := by omega
      simp [Instr.indexAt, asIntOf, run_underlying h.und, hk', h.size w, add_plain]
      intro h'; omega
    rw [h2]
    rfl
theorem lt_lenSl {α : Type} {x : Operand} {t e : TypeId} {m n : Nat} [h : TyS P t e m] {f : α → List AV} {xs : List α} (hx : opv rs x = some (.sl n f xs)) :
    LT P ⟨d, .call { callee := .builtin .len, args := #[x], argTypes := #[t] }, ty, pos, af, g⟩ rs [] (Is (.val (.int .i64 xs.length)) []) :=
  LT_val (fun _ e => by cases e) fun a w G hR hG => by
    obtain ⟨ad, c, e1, hc, hs⟩ : (AV.sl n f xs).P G (a.eval x) := opv_ok hR hx
    refine ⟨_, rfl, ?_⟩
    simp [execOp, resolve, e1, invoke, builtin, Builtin.len_, run_underlying h.und, goInt]
theorem lt_min2 {x y : Operand} {m n : Int} {ts : Array TypeId} (hx : opv rs x = some (.val (.int .i64 m))) (hy : opv rs y = some (.val (.int .i64 n))) :
    LT P ⟨d, .call { callee := .builtin .min, args := #[x, y], argTypes := ts }, ty, pos, af, g⟩ rs [] (Is (.val (.int .i64 (min m n))) []) :=
  LT_val (fun _ e => by cases e) fun a w G hR hG => by
    have e1 : a.eval x = _ := opv_ok hR hx
    have e2 : a.eval y = _ := opv_ok hR hy
    refine ⟨_, rfl, ?_⟩
    have : (if n < m then n else m) = min m n := by split <;> omega
    simp [execOp, resolve, e1, e2, invoke, builtin, Builtin.min_, Builtin.min2, this]
theorem lt_max2 {x y : Operand} {m n : Int} {ts : Array TypeId} (hx : opv rs x = some (.val (.int .i64 m))) (hy : opv rs y = some (.val (.int .i64 n))) :
    LT P ⟨d, .call { callee := .builtin .max, args := #[x, y], argTypes := ts }, ty, pos, af, g⟩ rs [] (Is (.val (.int .i64 (max m n))) []) :=
  LT_val (fun _ e => by cases e) fun a w G hR hG => by
    have e1 : a.eval x = _ := opv_ok hR hx
    have e2 : a.eval y = _ := opv_ok hR hy
    refine ⟨_, rfl, ?_⟩
    have : (if m < n then n else m) = max m n := by split <;> omega
    simp [execOp, resolve, e1, e2, invoke, builtin, Builtin.max_, Builtin.max2, this]
theorem lt_makeFunc {f : FuncId} {xs : Array Operand} {vs : List AV} {us : List Value} (hx : opvs rs xs.toList = some vs) (hv : vs = us.map AV.val) : LT P ⟨d, .makeFunc (.func f) #[] xs, ty, pos, af, g⟩ rs [] (Is (.val (.func (.func f) #[] us.toArray)) []) :=
  LT_val (fun _ e => by cases e) fun a w G hR hG => by
    have h := opvs_ok hR hx
    subst hv
    have e : xs.toList.map a.eval = us := by
      revert h
      generalize xs.toList.map a.eval = ws
      intro h
      clear hx
      induction us generalizing ws with
      | nil => cases ws with | nil => rfl | cons _ _ => exact h.elim
      | cons u us ih =>
        cases ws with
        | nil => exact h.elim
        | cons v ws => rw [show v = u from h.1, ih ws h.2]
    refine ⟨_, rfl, ?_⟩
    have e' : xs.map a.eval = us.toArray := by apply Array.ext'; rw [Array.toList_map, e]
    simp [execOp, Instr.makeFunc, e']

/-- The world turns: something of the call's own. -/
theorem LT_eff {o : Oper} {cons : List HA} {post : AV → List HA → Prop} (hdf : ∀ cl, o.op ≠ .defer cl) (h : ∀ a w G F, RegOK rs G a → Inv G F cons w → ∃ x w' v av prod G' F', (execOp a.eval o).run P w = .ok x w' ∧ (x = .value v ∨ (x = .skip ∧ v = undef)) ∧ post av prod ∧ Fr w w' F F' G G' ∧ Inv G' F' prod w' ∧ av.P G' v) : LT P o rs cons post := by
  refine ⟨?_⟩
  intro F n hF a w G Fp K Q hR hI hk
  obtain ⟨x, w', v, av, prod, G', F', hr, hx, hp, hf, hi, hv⟩ := h a w G Fp hR hI
  unfold Oper.wpIn
  refine ⟨fun f _ => hF.fn f, ?_⟩
  rw [Oper.semAt_eq _ _ _ hdf, hr]
  rcases hx with rfl | ⟨rfl, rfl⟩
  · exact hk v av prod G' F' w' hp hf hi hv
  · exact hk undef av prod G' F' w' hp hf hi hv
theorem fr_alloc {w : World} (F : List Nat) (G : Nat → Option Obj) (o : Obj) : Fr w (w.alloc o) F (w.heap.size :: F) G G :=
  ⟨rfl, rfl, rfl, by simp, fun b hb _ => Below.heap_alloc _ _ _ hb, fun b hb => by rcases List.mem_cons.1 hb with rfl | h; exact .inr (Nat.le_refl _); exact .inl h, Gle.refl _, fun _ _ h => .inl h⟩
theorem gin_alloc {w : World} {G : Nat → Option Obj} (h : Gin G w) (o : Obj) : Gin G (w.alloc o) := fun b o' e => (Below.heap_alloc _ _ _ (h.lt e)).trans (h b o' e)
theorem inv_nil {G : Nat → Option Obj} {F : List Nat} {w : World} (h : Inv G F [] w) : F = [] := h.hs
theorem run_newVar {w : World} (t : TypeId) (v : Value) : (newVar t v).run P w = .ok ⟨w.heap.size, 0, none⟩ (w.alloc (.cells v.cells t)) := rfl
/-- A new box. -/
theorem new_box {w : World} {G : Nat → Option Obj} {F : List Nat} (h : Inv G F [] w) {cs : List AV} {vs : List Value} (hf : Fits G cs vs) (t : TypeId) :
    Inv G [w.heap.size] [.box (.pointer (some ⟨w.heap.size, 0, none⟩)) cs t] (w.alloc (.cells vs.toArray t)) := by
  refine ⟨gin_alloc h.gin _, by simp, fun b hb => ?_, [w.heap.size], [], by simp, ⟨w.heap.size, vs, rfl, rfl, hf, heap_alloc_new w _⟩, rfl⟩
  rw [List.mem_singleton] at hb
  subst hb
  refine ⟨by simp, ?_⟩
  cases hg : G w.heap.size with
  | none => rfl
  | some o => exact absurd (h.gin.lt hg) (Nat.lt_irrefl _)
/-- A pointer to a box of its own. -/
def NewBox (cs : List AV) (t : TypeId) : AV → List HA → Prop := fun x y => ∃ p, One (.val p) ∧ x = .val p ∧ y = [.box p cs t]
theorem lt_alloc {t : TypeId} {zs : List Value} [h : TyZ P t zs] : LT P ⟨d, .alloc t, ty, pos, af, g⟩ rs [] (NewBox (zs.map AV.val) t) :=
  LT_eff (fun _ e => by cases e) fun a w G F hR hI => by
    obtain rfl := inv_nil hI
    obtain ⟨z, hz, hc⟩ := h.run w
    have hf : Fits G (zs.map AV.val) zs := by
      clear hz hc h
      induction zs with
      | nil => trivial
      | cons z zs ih => exact ⟨rfl, ih⟩
    refine ⟨_, w.alloc (.cells zs.toArray t), .pointer (some ⟨w.heap.size, 0, none⟩), _, _, G, _, ?_, .inl rfl, ⟨_, inferInstance, rfl, rfl⟩, fr_alloc _ _ _, new_box hI hf t, rfl⟩
    simp only [execOp, Instr.alloc, Sem.run_bind, hz, Result.andThen_ok, run_newVar, hc, Sem.run_pure]
class OneL (cs : List AV) : Prop where
  out : ∀ c ∈ cs, One c
instance : OneL [] := ⟨fun _ h => by cases h⟩
instance {c : AV} {cs : List AV} [h : One c] [k : OneL cs] : OneL (c :: cs) := ⟨fun x hx => by rcases List.mem_cons.1 hx with rfl | h'; exact h; exact k.out x h'⟩
instance {x : Int} : OneL (iC x) := inferInstanceAs (OneL [_])
theorem fits_one {G : Nat → Option Obj} : ∀ {cs : List AV} {vs : List Value}, OneL cs → Fits G cs vs → ∀ u ∈ vs, u.oneCell' = true
  | [], [], _, _, _, h => by cases h
  | c :: cs, v :: vs, ho, hf, u, h => by
    rcases List.mem_cons.1 h with rfl | h
    · exact (ho.out c (by simp)).out _ _ hf.1
    · exact fits_one ⟨fun x hx => ho.out x (by simp [hx])⟩ hf.2 u h
  | [], _ :: _, _, k, _, _ => k.elim
  | _ :: _, [], _, k, _, _ => k.elim
/-- What a value's cells read as. -/
class CellsOf (av : AV) (cs : outParam (List AV)) : Prop where
  out : ∀ G v, av.P G v → ∃ vs : List Value, v.cells = vs.toArray ∧ Fits G cs vs
instance {cs : List AV} : CellsOf (.agg cs) cs := ⟨fun _ _ ⟨vs, e, h⟩ => ⟨vs, by subst e; rfl, h⟩⟩
class TySz (P : Program) (t : TypeId) (n : outParam Nat) : Prop where
  size : ∀ w, (sizeOf t).run P w = .ok n w
instance {P : Program} {t : TypeId} [h : Ty1 P t] : TySz P t 1 := ⟨h.size⟩
instance {P : Program} {t : TypeId} {n : Nat} [h : TyN P t n] : TySz P t n := ⟨h.size⟩
theorem cells_one {v : Value} (h : v.oneCell' = true) : v.cells = #[v] := by
  cases v <;> first | rfl | (simp [Value.oneCell'] at h)
instance (priority := low) {av : AV} [h : One av] : CellsOf av [av] := ⟨fun G v hv => ⟨[v], cells_one (h.out G v hv), hv, trivial⟩⟩
theorem lt_box {x : Operand} {t : TypeId} {av : AV} {cs : List AV} [h : CellsOf av cs] (hx : opv rs x = some av) : LT P ⟨d, .box t x, ty, pos, af, g⟩ rs [] (NewBox cs t) :=
  LT_eff (fun _ e => by cases e) fun a w G F hR hI => by
    obtain rfl := inv_nil hI
    obtain ⟨vs, hc, hf⟩ := h.out G _ (opv_ok hR hx)
    refine ⟨_, w.alloc (.cells vs.toArray t), .pointer (some ⟨w.heap.size, 0, none⟩), _, _, G, _, ?_, .inl rfl, ⟨_, inferInstance, rfl, rfl⟩, fr_alloc _ _ _, new_box hI hf t, rfl⟩
    simp only [execOp, Instr.box, Sem.run_bind, Result.andThen_ok, run_newVar, hc, Sem.run_pure]
/-- Cells put over others. -/
def spl (cs : List AV) (j : Nat) (ds : List AV) : List AV := cs.take j ++ ds ++ cs.drop (j + ds.length)
instance {cs ds : List AV} {j : Nat} [h : OneL cs] [k : OneL ds] : OneL (spl cs j ds) := ⟨fun c hc => by
  unfold spl at hc
  rcases List.mem_append.1 hc with h1 | h1
  · rcases List.mem_append.1 h1 with h2 | h2
    · exact h.out c (List.mem_of_mem_take h2)
    · exact k.out c h2
  · exact h.out c (List.mem_of_mem_drop h1)⟩
instance : OneL (List.map AV.val []) := ⟨fun _ h => by simp at h⟩
instance {v : Value} {vs : List Value} [h : One (.val v)] [k : OneL (vs.map AV.val)] : OneL ((v :: vs).map AV.val) := ⟨fun c hc => by
  rw [List.map_cons] at hc
  rcases List.mem_cons.1 hc with rfl | h1
  · exact h
  · exact k.out c h1⟩
theorem fr_setRow {w : World} {G : Nat → Option Obj} {b : Nat} (hG : Gin G w) (hb : G b = none) (cs : Array Value) : Fr w (w.setRow b cs) [b] [b] G G ∧ Gin G (w.setRow b cs) := by
  have hne : ∀ k, k ≠ b → (w.setRow b cs).heap[k]? = w.heap[k]? := fun k hk => setRow_other w b k cs hk
  refine ⟨⟨rfl, rfl, rfl, by simp, fun k _ hk => hne k (fun e => hk (by simp [e])), fun _ h => .inl h, Gle.refl _, fun _ _ h => .inl h⟩, fun k o e => (hne k fun e' => ?_).trans (hG k o e)⟩
  subst e'; rw [hb] at e; cases e
theorem lt_store {x y : Operand} {t tb : TypeId} {n j : Nat} [hs : TySz P t n] {p : Value} {cs : List AV} {av : AV} {ds : List AV} [hc : CellsOf av ds] [ho : OneL ds] (hx : Pt rs x p j) (hy : opv rs y = some av) (hn : ds.length = n) (hj : j + n ≤ cs.length) :
    LT P ⟨d, .store t x y, ty, pos, af, g⟩ rs [.box p cs tb] (Is (.val undef) [.box p (spl cs j ds) tb]) :=
  LT_eff (fun _ e => by cases e) fun a w G F hR hI => by
    obtain ⟨F1, F2, e, ⟨b, vs, hp, hF1, hf, hb⟩, h2⟩ := hI.hs
    have h2' : F2 = [] := h2
    subst h2' hF1
    have hF : F = [b] := List.perm_singleton.1 (by simpa using e)
    subst hF
    obtain ⟨us, huc, huf⟩ := hc.out G _ (opv_ok hR hy)
    have hg := (hI.own b (by simp)).2
    obtain ⟨f1, f2⟩ := fr_setRow hI.gin hg (vs.take j ++ us ++ vs.drop (j + us.length)).toArray
    have hl := huf.length
    have hl2 := hf.length
    refine ⟨_, w.setRow b (vs.take j ++ us ++ vs.drop (j + us.length)).toArray, undef, _, _, G, [b], ?_, .inr ⟨rfl, rfl⟩, ⟨rfl, rfl⟩, f1, ⟨f2, by simp, fun k hk => ?_, [b], [], by simp, ⟨b, _, hp, rfl, ?_, setRow_heap w b _ _ tb _ hb⟩, rfl⟩, rfl⟩
    · simp only [execOp, hx.ok hR hp, Instr.storeAt, Instr.sureAddr, storeVar, Sem.run_bind, Sem.run_pure, Result.andThen_ok, huc, hs.size w]
      have h1 : us.toArray.size = n := by simp [hl, hn]
      have h3 := run_storeCells_at P b j tb us 0 vs.toArray w hb (by simp; omega) (fits_one ho huf)
      simp only [Nat.add_zero] at h3
      simp [h1, h3]
    · rw [List.mem_singleton] at hk; subst hk; simp only [setRow_size]; exact hI.own _ (by simp)
    · unfold spl
      rw [← hl]
      exact ((hf.take j).append huf).append (hf.drop _)
end

/-! Calls. -/
/-- What a call does. -/
structure Con (P : Program) (k : FuncId) (args : List AV) (pre : List HA) (post : AV → List HA → Prop) : Prop where
  enters : ∀ args w, (callFunc k args).run P w = .ok (.enter k args) w
  calls : ∀ (G : Nat → Option Obj) (Fp : List Nat) (vs : List Value) (w : World), Fits G args vs → Inv G Fp pre w →
    Calls P k vs.toArray w fun e w' => ∃ v av prod G' F', e = .returned v ∧ post av prod ∧ Fr w w' Fp F' G G' ∧ Inv G' F' prod w' ∧ av.P G' v
theorem lt_call {P : Program} {rs : List (Nat × AV)} {d : Option Nat} {ty : TypeId} {pos : String} {af : Array Edge} {g : Option (Nat × Bool)} {k : FuncId} {xs : List Operand} {ts : Array TypeId} {avs : List AV} {pre : List HA} {post : AV → List HA → Prop} (hx : opvs rs xs = some avs) (hc : Con P k avs pre post) :
    LT P ⟨d, .call { callee := .value (.func k), args := xs.toArray, argTypes := ts }, ty, pos, af, g⟩ rs pre post := by
  refine ⟨?_⟩
  intro F n hF a w G Fp K Q hR hI hk
  have hf := opvs_ok hR hx
  have hcalls := hc.calls G Fp _ w hf hI
  unfold Oper.wpIn
  refine ⟨fun f _ => hF.fn f, ?_⟩
  rw [Oper.semAt_eq _ _ _ (fun _ e => by cases e)]
  have hr : (execOp a.eval ⟨d, .call { callee := .value (.func k), args := xs.toArray, argTypes := ts }, ty, pos, af, g⟩).run P w = .ok (.enter k (xs.map a.eval).toArray) w := by
    simp [execOp, resolve, Act.eval, Deferred.ofValue, invoke, hc.enters]
  rw [hr]
  refine ⟨fun h => (by rw [hF.depth] at h; cases h), hF.calls (hcalls.mono ?_)⟩
  rintro e w' ⟨v, av, prod, G', F', rfl, hp, hfr, hi, hv⟩
  exact hk v av prod G' F' w' hp hfr hi hv
/-- What an unmoved world and a known value make. -/
theorem con_same {P : Program} {k : FuncId} {args : List AV} {av : AV} (he : ∀ args w, (callFunc k args).run P w = .ok (.enter k args) w)
    (h : ∀ (G : Nat → Option Obj) (vs : List Value) (w : World), Fits G args vs → Gin G w → Calls P k vs.toArray w fun e w' => ∃ v, e = .returned v ∧ av.P G v ∧ Below w.heap.size w w') : Con P k args [] (Is av []) :=
  ⟨he, fun G Fp vs w hf hi => (h G vs w hf hi.gin).mono fun e w' ⟨v, h1, h2, h3⟩ => by
    obtain rfl := inv_nil hi
    refine ⟨v, av, [], G, [], h1, ⟨rfl, rfl⟩, ⟨h3.os, h3.tape, h3.output, h3.size, fun b hb _ => h3.block b hb, fun _ h => .inl h, Gle.refl _, fun _ _ h => .inl h⟩, ⟨fun b o e => (h3.block b (hi.gin.lt e)).trans (hi.gin b o e), by simp, fun b hb => (by cases hb), rfl⟩, h2⟩⟩

def enumR : Nat → List AV → List (Nat × AV)
  | _, [] => []
  | k, x :: xs => (k, x) :: enumR (k + 1) xs
/-- What a body's end hands back. -/
def Res (P : Program) (fn : Func) (post : AV → List HA → Prop) (s : S) : Prop := ∃ av prod, post av prod ∧ ∀ (a : Act) (w : World) (G : Nat → Option Obj) (F : List Nat), RegOK s.rs G a → Inv G F s.hs w →
  ∃ v G' F', (results fn a.tmps).run P w = .ok v w ∧ Fr w w F F' G G' ∧ Inv G' F' prod w ∧ av.P G' v
theorem fits_enum {G : Nat → Option Obj} : ∀ {args : List AV} {vs : List Value} (k : Nat), Fits G args vs → ∀ i av, look (enumR k args) i = some av → k ≤ i ∧ ∃ v, vs[i - k]? = some v ∧ av.P G v
  | [], [], _, _, _, _, e => by simp [enumR, look] at e
  | x :: xs, v :: vs, k, hf, i, av, e => by
    simp only [enumR, look] at e
    cases hb : Nat.beq k i with
    | true =>
      rw [hb] at e
      obtain rfl := Nat.eq_of_beq_eq_true hb
      simp only [cond_true, Option.some.injEq] at e
      subst e
      exact ⟨Nat.le_refl _, v, by simp, hf.1⟩
    | false =>
      rw [hb] at e
      obtain ⟨h1, u, h2, h3⟩ := fits_enum (k + 1) hf.2 i av (by simpa using e)
      refine ⟨by omega, u, ?_, h3⟩
      rw [show i - k = (i - (k + 1)) + 1 by omega]
      simpa using h2
  | [], _ :: _, _, k, _, _, _ => k.elim
  | _ :: _, [], _, k, _, _, _ => k.elim
/-- What marks leave as it lay. -/
theorem leaves_mk {F : Fence} {n : Nat} {P : Program} {fn : Func} {tmps : Array Value} {R : Ending → World → Prop} : ∀ (Ds : List Nat) (w : World), Ds.Nodup → (∀ D ∈ Ds, w.heap[D]? = some (.deferred (some []))) →
    (∀ w', w'.os = w.os → w'.tape = w.tape → w'.output = w.output → w'.heap.size = w.heap.size → (∀ b, b ∉ Ds → w'.heap[b]? = w.heap[b]?) → LeavesIn F n P fn tmps R [] .returning w') → LeavesInM F n P fn tmps R (Ds.map mark) .returning w
  | [], w, _, _, h => h w rfl rfl rfl rfl fun _ _ => rfl
  | D :: Ds, w, nd, a, h => by
    have nd' := List.nodup_cons.1 nd
    refine ⟨fun h => (by cases h), .inl ⟨D, _, rfl, run_takeDeferred (a D (by simp)), leaves_mk Ds _ nd'.2 (fun D' hm => ?_) fun w' h1 h2 h3 h4 h5 => h w' h1 h2 h3 (h4.trans World.putObj_size) fun b hb => ?_⟩⟩
    · exact (World.putObj_heap_other (fun (e : D' = D) => nd'.1 (by rw [← e]; exact hm))).trans (a D' (by simp [hm]))
    · rw [List.mem_cons, not_or] at hb
      exact (h5 b hb.2).trans (World.putObj_heap_other hb.1)
/-- From a body's walk to the contract. -/
theorem con_of {P : Program} {k : FuncId} {fn : Func} {body : Code} {args : List AV} {pre : List HA} {post : AV → List HA → Prop} (hf : P.funcs[k]? = some fn) (hb : fn.body = some body) (he : ∀ args w, (callFunc k args).run P w = .ok (.enter k args) w) (hn : Nat.ble args.length fn.ntmps = true)
    (h : ∀ (n : Nat) (w0 : World) (F0 : List Nat) (G0 : Nat → Option Obj), W (Cx.mk Fence.wide n P w0 F0 G0 fn.ntmps (.inl rfl)) body ⟨enumR 0 args, pre⟩ (retQ (Res P fn post))) : Con P k args pre post := by
  refine ⟨he, fun G Fp vs w hfit hi => (callsIn_wide (n := 0)).1 (callsIn_of_wp_marks hf hb trivial ?_ rfl)⟩
  have hl := hfit.length
  rw [Nat.ble_eq] at hn
  refine Go.wpIn_mono ((h 0 w Fp G).out _ w ⟨G, Fp, hi, Fr.refl _ _ _, fun i av e => ?_, by simp; omega, Mk.nil _ _ _ _⟩) ?_
  · obtain ⟨_, v, h2, h3⟩ := fits_enum 0 hfit i av e
    have hlt := (List.getElem?_eq_some_iff.1 h2).1
    simp only [Nat.sub_zero] at hlt h2
    have : (vs.toArray ++ Array.replicate (fn.ntmps - vs.toArray.size) undef).getD i undef = v := by
      simp [Array.getD_eq_getD_getElem?, Array.getElem?_append, hlt]
      rw [List.getElem?_eq_getElem hlt] at h2
      exact Option.some.inj h2
    show av.P G (Array.getD _ i undef)
    rw [this]; exact h3
  · rintro e a' w' ⟨s', ⟨G', F', hI, hF, hR, hsz, hd⟩, q⟩
    have fin : Res P fn post s' → LeavesInM Fence.wide 0 P fn a'.tmps (fun e w' => ∃ v av prod G' F', e = .returned v ∧ post av prod ∧ Fr w w' Fp F' G G' ∧ Inv G' F' prod w' ∧ av.P G' v) a'.defers .returning w' := by
      rintro ⟨av, prod, hp, hr⟩
      obtain ⟨Ds, e, nd, hD, _⟩ := hd
      rw [e]
      refine leaves_mk Ds w' nd (fun D h => (hD D h).2.2.2) fun w2 h1 h2 h3 h4 h5 => ?_
      have hin : ∀ b, (G' b ≠ none ∨ b ∈ F') → w2.heap[b]? = w'.heap[b]? := fun b hb => h5 b fun hm => by
        obtain ⟨_, k2, k3, _⟩ := hD b hm
        rcases hb with hb | hb
        · exact hb k3
        · exact k2 hb
      have hI2 : Inv G' F' s'.hs w2 := ⟨fun b o ho => (hin b (.inl (by rw [ho]; simp))).trans (hI.gin b o ho), hI.nd, fun b hb => by rw [h4]; exact hI.own b hb, hI.hs.loc fun b hb => hin b (.inr hb)⟩
      have hF2 : Fr w w2 Fp F' G G' := ⟨h1.trans hF.os, h2.trans hF.tape, h3.trans hF.output, by rw [h4]; exact hF.size, fun b hb hn => (h5 b fun hm => by have h9 : w.heap.size ≤ b := (hD b hm).1; omega).trans (hF.same b hb hn), hF.newF, hF.gle, hF.newG⟩
      obtain ⟨v, G'', F'', k1, k2, k3, k4⟩ := hr a' w2 G' F' hR hI2
      exact ⟨v, k1, v, av, prod, G'', F'', rfl, hp, hF2.trans k2, k3, k4⟩
    cases e with
    | normal => exact fin q
    | ret => exact fin q
    | _ => exact q.elim
/-- What is owned is let go. -/
theorem inv_drop {G : Nat → Option Obj} {F : List Nat} {hs : List HA} {w : World} (h : Inv G F hs w) : Inv G [] [] w ∧ Fr w w F [] G G :=
  ⟨⟨h.gin, by simp, fun _ hb => (by cases hb), rfl⟩, ⟨rfl, rfl, rfl, Nat.le_refl _, fun _ _ _ => rfl, fun _ hb => (by cases hb), Gle.refl _, fun _ _ h => .inl h⟩⟩
/-- One result, in a register. -/
theorem res1 {P : Program} {fn : Func} {t : Tmp} {post : AV → List HA → Prop} {s : S} {av : AV} (hr : fn.results = #[.tmp t]) (hl : look s.rs t = some av) (hp : post av []) : Res P fn post s :=
  ⟨av, [], hp, fun a w G F hR hI => ⟨_, G, [], results_tmp hr _ _ _, (inv_drop hI).2, (inv_drop hI).1, hR _ _ hl⟩⟩
theorem res2 {P : Program} {fn : Func} {t u : Tmp} {post : AV → List HA → Prop} {s : S} {av bv : AV} (hr : fn.results = #[.tmp t, .tmp u]) (hl : look s.rs t = some av) (hl2 : look s.rs u = some bv) (hp : post (.tup [av, bv]) []) : Res P fn post s :=
  ⟨_, [], hp, fun a w G F hR hI => ⟨_, G, [], results_tmp2 hr _ _ _, (inv_drop hI).2, (inv_drop hI).1, ⟨[_, _], rfl, hR _ _ hl, hR _ _ hl2, trivial⟩⟩⟩
/-- A struct that lies in a box, and a register. -/
theorem resN1 {P : Program} {fn : Func} {x u : Tmp} {t tb : TypeId} {n : Nat} {post : AV → List HA → Prop} {s : S} {p : Value} {cs : List AV} {bv : AV} {f : HA → List HA} (hr : fn.results = #[.cell x t, .tmp u]) (hx : look s.rs x = some (.val p)) (hat : At s.hs (.box p cs tb) f) (hT : TyN P t n) (hn : cs.length = n) (hl2 : look s.rs u = some bv) (hp : post (.tup [.agg cs, bv]) []) : Res P fn post s := by
  refine ⟨_, [], hp, fun a w G F hR hI => ?_⟩
  obtain ⟨rest, hs⟩ := hat.sel
  obtain ⟨F1, F2, e, ⟨b, vs, hpb, hF1, hf, hb⟩, h2⟩ := (hs _ _ _ _).1 (by rw [hat.self]; exact hI.hs)
  refine ⟨.tuple #[.agg vs.toArray, a.tmps.getD u undef], G, [], ?_, (inv_drop hI).2, (inv_drop hI).1, ⟨[.agg vs.toArray, _], rfl, ⟨vs, rfl, hf⟩, hR _ _ hl2, trivial⟩⟩
  have hxv : a.tmps.getD x undef = p := hR _ _ hx
  rw [Array.getD_eq_getD_getElem?] at hxv
  have h1 := run_loadN (P := P) (t := t) (n := n) (w := w) (b := b) (j := 0) (vs := vs) (by rw [hf.length, hn]) (fun k u e => by rw [cell_of_row w b _ _ _ _ hb]; simpa using e)
  simp only [Instr.loadAt, Instr.sureAddr, Sem.run_bind, Sem.run_pure, Result.andThen_ok] at h1
  simp [results, hr, hxv, hpb, asAddr, h1]
theorem resN {P : Program} {fn : Func} {x : Tmp} {t tb : TypeId} {n : Nat} {post : AV → List HA → Prop} {s : S} {p : Value} {cs : List AV} {f : HA → List HA} (hr : fn.results = #[.cell x t]) (hx : look s.rs x = some (.val p)) (hat : At s.hs (.box p cs tb) f) (hT : TyN P t n) (hn : cs.length = n) (hp : post (.agg cs) []) : Res P fn post s := by
  refine ⟨_, [], hp, fun a w G F hR hI => ?_⟩
  obtain ⟨rest, hs⟩ := hat.sel
  obtain ⟨F1, F2, e, ⟨b, vs, hpb, hF1, hf, hb⟩, h2⟩ := (hs _ _ _ _).1 (by rw [hat.self]; exact hI.hs)
  refine ⟨.agg vs.toArray, G, [], ?_, (inv_drop hI).2, (inv_drop hI).1, ⟨vs, rfl, hf⟩⟩
  have hxv : a.tmps.getD x undef = p := hR _ _ hx
  rw [Array.getD_eq_getD_getElem?] at hxv
  have h1 := run_loadN (P := P) (t := t) (n := n) (w := w) (b := b) (j := 0) (vs := vs) (by rw [hf.length, hn]) (fun k u e => by rw [cell_of_row w b _ _ _ _ hb]; simpa using e)
  simp only [Instr.loadAt, Instr.sureAddr, Sem.run_bind, Sem.run_pure, Result.andThen_ok] at h1
  simp [results, hr, hxv, hpb, asAddr, h1]

section
variable {c : Cx} {s : S} {Q : Exit → S → Prop} {ops : Array Oper} {tl : List Oper}
/-- The register that a guard asks. -/
def gdst (ops : Array Oper) (j : Nat) : Option Nat := (ops[j]?).bind (·.dst)
theorem yielded_of {a : Act} {G : Nat → Option Obj} (hR : RegOK s.rs G a) {nt : Nat} (hn : a.tmps.size = nt) {j dj : Nat} {b : Bool} (hj : gdst ops j = some dj) (hd : okD (some dj) nt = true) (hl : look s.rs dj = some (.val (.bool b))) : yielded ops a.tmps j = some b := by
  have h1 : a.tmps.getD dj undef = .bool b := hR _ _ hl
  have hlt : dj < a.tmps.size := by rw [hn]; simp only [okD, Nat.blt, Nat.ble_eq] at hd; omega
  unfold gdst at hj
  have h2 : a.tmps[dj]? = some (.bool b) := by
    rw [Array.getD_eq_getD_getElem?, Array.getElem?_eq_getElem hlt] at h1
    rw [Array.getElem?_eq_getElem hlt]
    exact congrArg some h1
  simp [yielded, hj, h2]
/-- A guarded operation whose guard says yes. -/
theorem WL_yes {o : Oper} {j dj : Nat} {b : Bool} (hg : o.guard = some (j, b)) (hj : gdst ops j = some dj) (hd : okD (some dj) c.nt = true) (hl : look s.rs dj = some (.val (.bool b))) (h : WL c ops (⟨o.dst, o.op, o.type, o.pos, o.after, none⟩ :: tl) s Q) : WL c ops (o :: tl) s Q := ⟨fun a w st => by
  have st' := st
  obtain ⟨G, F, hI, hF, hR, hn, hd'⟩ := st'
  have hy := yielded_of hR hn hj hd hl
  have h1 := h.out a w st
  unfold wpListIn at h1 ⊢
  rw [if_pos (by simp [Region.wanted])] at h1
  rw [if_pos (by simp [Region.wanted, hg, hy])]
  exact h1⟩
/-- A guarded operation whose guard says no. -/
theorem WL_no {o : Oper} {j dj : Nat} {b b' : Bool} (hd2 : okD o.dst c.nt = true) (hg : o.guard = some (j, b)) (hj : gdst ops j = some dj) (hd : okD (some dj) c.nt = true) (hl : look s.rs dj = some (.val (.bool b'))) (hb : (b' == b) = false) (h : WL c ops tl ⟨putR o.dst (.val undef) s.rs, s.hs⟩ Q) : WL c ops (o :: tl) s Q := ⟨fun a w st => by
  obtain ⟨G, F, hI, hF, hR, hn, hd'⟩ := st
  have hy := yielded_of hR hn hj hd hl
  have hbn : b' ≠ b := fun e => by subst e; simp at hb
  unfold wpListIn
  rw [if_neg (by simp [Region.wanted, hg, hy, hbn])]
  refine ⟨fun f _ => c.wd.fn f, h.out _ _ ⟨G, F, hI, hF, hR.put hn hd2 rfl, ?_, ?_⟩⟩
  · rw [(size_put a _ _).1, hn]
  · rw [(size_put a _ _).2]; exact hd'⟩
/-- A register is a truth value: part on it. -/
theorem WL_part {i : Nat} {b : Bool} {l : List Oper} (hl : look s.rs i = some (.val (.bool b))) (h1 : b = true → WL c ops l ⟨(i, .val (.bool true)) :: s.rs, s.hs⟩ Q) (h2 : b = false → WL c ops l ⟨(i, .val (.bool false)) :: s.rs, s.hs⟩ Q) : WL c ops l s Q := ⟨fun a w st => by
  have key : b = b → WL c ops l ⟨(i, .val (.bool b)) :: s.rs, s.hs⟩ Q := fun _ => by cases b; exact h2 rfl; exact h1 rfl
  obtain ⟨G, F, hI, hF, hR, hn, hd'⟩ := st
  refine (key rfl).out a w ⟨G, F, hI, hF, fun k av e => ?_, hn, hd'⟩
  simp only [look] at e
  cases hb : Nat.beq i k with
  | true =>
    rw [hb] at e
    obtain rfl := Nat.eq_of_beq_eq_true hb
    simp only [cond_true, Option.some.injEq] at e
    subst e
    exact hR _ _ hl
  | false => rw [hb] at e; exact hR k av (by simpa using e)⟩
end

/-! The rules in the shape in which a walk takes them. -/
section
variable {c : Cx} {rs : List (Nat × AV)} {hs : List HA} {Q : Exit → S → Prop} {ops : Array Oper} {tl : List Oper} {d : Nat} {op : Op} {ty : TypeId} {pos : String} {af : Array Edge}
theorem wl_ex {av : AV} (h : LT c.P ⟨some d, op, ty, pos, af, none⟩ rs [] (Is av [])) (hd : Nat.blt d c.nt = true) (k : WL c ops tl ⟨(d, av) :: rs, hs⟩ Q) : WL c ops (⟨some d, op, ty, pos, af, none⟩ :: tl) ⟨rs, hs⟩ Q := WL_ex hd rfl h k
theorem wl_ex0 {av : AV} (h : LT c.P ⟨none, op, ty, pos, af, none⟩ rs [] (Is av [])) (k : WL c ops tl ⟨rs, hs⟩ Q) : WL c ops (⟨none, op, ty, pos, af, none⟩ :: tl) ⟨rs, hs⟩ Q := WL_ex rfl rfl h k
theorem wl_at {av : AV} {h h' : HA} {f : HA → List HA} (hl : LT c.P ⟨some d, op, ty, pos, af, none⟩ rs [h] (Is av [h'])) (hat : At hs h f) (hd : Nat.blt d c.nt = true) (k : WL c ops tl ⟨(d, av) :: rs, f h'⟩ Q) : WL c ops (⟨some d, op, ty, pos, af, none⟩ :: tl) ⟨rs, hs⟩ Q := WL_at hd rfl hat hl k
/-- An operation that reads what is owned. -/
theorem wl_rd {av : AV} {h : HA} {f : HA → List HA} (hl : LT c.P ⟨some d, op, ty, pos, af, none⟩ rs [h] (Is av [h])) (hat : At hs h f) (hd : Nat.blt d c.nt = true) (k : WL c ops tl ⟨(d, av) :: rs, hs⟩ Q) : WL c ops (⟨some d, op, ty, pos, af, none⟩ :: tl) ⟨rs, hs⟩ Q :=
  WL_at hd rfl hat hl (by rw [hat.self]; exact k)
theorem wl_at0 {av : AV} {h h' : HA} {f : HA → List HA} (hl : LT c.P ⟨none, op, ty, pos, af, none⟩ rs [h] (Is av [h'])) (hat : At hs h f) (k : WL c ops tl ⟨rs, f h'⟩ Q) : WL c ops (⟨none, op, ty, pos, af, none⟩ :: tl) ⟨rs, hs⟩ Q := WL_at rfl rfl hat hl k
theorem wl_new {post : AV → List HA → Prop} (h : LT c.P ⟨some d, op, ty, pos, af, none⟩ rs [] post) (hd : Nat.blt d c.nt = true) (k : ∀ av prod, post av prod → WL c ops tl ⟨(d, av) :: rs, prod ++ hs⟩ Q) : WL c ops (⟨some d, op, ty, pos, af, none⟩ :: tl) ⟨rs, hs⟩ Q := WL_new hd rfl h k
theorem wl_box {cs : List AV} {t : TypeId} (h : LT c.P ⟨some d, op, ty, pos, af, none⟩ rs [] (NewBox cs t)) (hd : Nat.blt d c.nt = true) (k : ∀ p, One (.val p) → WL c ops tl ⟨(d, .val p) :: rs, .box p cs t :: hs⟩ Q) : WL c ops (⟨some d, op, ty, pos, af, none⟩ :: tl) ⟨rs, hs⟩ Q :=
  WL_new hd rfl h fun av prod ⟨p, h1, e1, e2⟩ => by subst e1; subst e2; exact k p h1
theorem wl_yes {j dj : Nat} {b : Bool} (hj : gdst ops j = some dj) (hl : look rs dj = some (.val (.bool b))) (hd : Nat.blt dj c.nt = true) {dd : Option Nat} (h : WL c ops (⟨dd, op, ty, pos, af, none⟩ :: tl) ⟨rs, hs⟩ Q) : WL c ops (⟨dd, op, ty, pos, af, some (j, b)⟩ :: tl) ⟨rs, hs⟩ Q := WL_yes rfl hj hd hl h
theorem wl_no {j dj : Nat} {b b' : Bool} (hj : gdst ops j = some dj) (hl : look rs dj = some (.val (.bool b'))) (hb : (b' == b) = false) (hd : Nat.blt dj c.nt = true) (hd2 : Nat.blt d c.nt = true) (h : WL c ops tl ⟨(d, .val undef) :: rs, hs⟩ Q) : WL c ops (⟨some d, op, ty, pos, af, some (j, b)⟩ :: tl) ⟨rs, hs⟩ Q := WL_no hd2 rfl hj hd hl hb h
theorem wl_part {j dj : Nat} {b g : Bool} {dd : Option Nat} (hj : gdst ops j = some dj) (hl : look rs dj = some (.val (.bool b))) (h1 : b = true → WL c ops (⟨dd, op, ty, pos, af, some (j, g)⟩ :: tl) ⟨(dj, .val (.bool true)) :: rs, hs⟩ Q) (h2 : b = false → WL c ops (⟨dd, op, ty, pos, af, some (j, g)⟩ :: tl) ⟨(dj, .val (.bool false)) :: rs, hs⟩ Q) : WL c ops (⟨dd, op, ty, pos, af, some (j, g)⟩ :: tl) ⟨rs, hs⟩ Q := WL_part hl h1 h2
theorem th_norm {N : S → Prop} {s : S} (h : N s) : thenQ N Q .normal s := h
theorem th_exit {N : S → Prop} {s : S} {i : Nat} (h : Q (.exit i) s) : thenQ N Q (.exit i) s := h
theorem th_ret {N : S → Prop} {s : S} (h : Q .ret s) : thenQ N Q .ret s := h
theorem bl_norm {s : S} {i : Nat} (h : Q .normal s) : blockQ i Q .normal s := h
theorem bl_ret {s : S} {i : Nat} (h : Q .ret s) : blockQ i Q .ret s := h
theorem bl_eq {s : S} {i : Nat} (h : Q .normal s) : blockQ i Q (.exit i) s := by show (if i = i then Q .normal s else Q (.exit i) s); rw [if_pos rfl]; exact h
theorem bl_ne {s : S} {i j : Nat} (hne : Nat.beq j i = false) (h : Q (.exit j) s) : blockQ i Q (.exit j) s := by
  show (if j = i then Q .normal s else Q (.exit j) s)
  rw [if_neg (fun e => by subst e; rw [Nat.beq_refl] at hne; cases hne)]; exact h
theorem rt_norm {R : S → Prop} {s : S} (h : R s) : retQ R .normal s := h
theorem rt_ret {R : S → Prop} {s : S} (h : R s) : retQ R .ret s := h
end
/-- Registers that read as these among others. -/
def SubR : List (Nat × AV) → List (Nat × AV) → Prop
  | [], _ => True
  | (i, av) :: t, rs => look rs i = some av ∧ SubR t rs
theorem SubR.ok {rs : List (Nat × AV)} : ∀ {rs' : List (Nat × AV)}, SubR rs' rs → ∀ i av, look rs' i = some av → look rs i = some av
  | [], _, _, _, e => by simp [look] at e
  | (j, x) :: t, h, i, av, e => by
    simp only [look] at e
    cases hb : Nat.beq j i with
    | true =>
      rw [hb] at e
      obtain rfl := Nat.eq_of_beq_eq_true hb
      simp only [cond_true, Option.some.injEq] at e
      subst e; exact h.1
    | false => rw [hb] at e; exact SubR.ok h.2 i av (by simpa using e)
theorem st_sub {c : Cx} {rs rs' : List (Nat × AV)} {hs : List HA} {a : Act} {w : World} (st : St c ⟨rs, hs⟩ a w) (h : SubR rs' rs) : St c ⟨rs', hs⟩ a w := by
  obtain ⟨G, F, hI, hF, hR, r⟩ := st
  exact ⟨G, F, hI, hF, fun i av e => hR i av (h.ok i av e), r⟩
theorem W_sub {c : Cx} {rs rs' : List (Nat × AV)} {hs : List HA} {Q : Exit → S → Prop} {x : Code} (h : SubR rs' rs) (k : W c x ⟨rs', hs⟩ Q) : W c x ⟨rs, hs⟩ Q := ⟨fun a w st => k.out a w (st_sub st h)⟩
/-- A loop with what is known besides. -/
theorem W_loopJ {c : Cx} {rs : List (Nat × AV)} {hs : List HA} {Q : Exit → S → Prop} {β : Type} {x : Code} (I : β → S) (J : β → Prop) (μ : β → Nat) (b0 : β) (h0 : ∀ a w, St c ⟨rs, hs⟩ a w → St c (I b0) a w) (hj : J b0)
    (h : ∀ b, J b → W c x (I b) (thenQ (fun s' => ∃ b', (∀ a w, St c s' a w → St c (I b') a w) ∧ J b' ∧ μ b' < μ b) Q)) : W c (.loop x) ⟨rs, hs⟩ Q :=
  W_loop (β := {b // J b}) (fun b => I b.1) (fun b => μ b.1) ⟨b0, hj⟩ h0 fun b => W_mono (h b.1 b.2) fun e s q => by
    cases e with
    | normal => obtain ⟨b', h1, h2, h3⟩ := q; exact ⟨⟨b', h2⟩, h1, h3⟩
    | _ => exact q
/-- The end of a round. -/
theorem round_end {c : Cx} {rs rs' : List (Nat × AV)} {hs : List HA} {β : Type} {I : β → S} {J : β → Prop} {μ : β → Nat} {b : β} (b' : β) (hI : I b' = ⟨rs', hs⟩) (h : SubR rs' rs) (hj : J b') (hm : μ b' < μ b) : ∃ b', (∀ a w, St c ⟨rs, hs⟩ a w → St c (I b') a w) ∧ J b' ∧ μ b' < μ b :=
  ⟨b', fun _ _ st => by rw [hI]; exact st_sub st h, hj, hm⟩
section
variable {c : Cx} {rs : List (Nat × AV)} {hs : List HA} {Q : Exit → S → Prop} {ops : Array Oper} {tl : List Oper} {d : Nat} {ty : TypeId} {pos : String} {af : Array Edge} {x y : Operand} {t tb : TypeId} {p : Value} {j : Nat} {cs : List AV} {f : HA → List HA}
theorem wl_load1 {av : AV} (hx : Pt rs x p j) (hat : At hs (.box p cs tb) f) (hc : cs[j]? = some av) [Ty1 c.P t] (hd : Nat.blt d c.nt = true) (k : WL c ops tl ⟨(d, av) :: rs, hs⟩ Q) : WL c ops (⟨some d, .load t x, ty, pos, af, none⟩ :: tl) ⟨rs, hs⟩ Q := wl_rd (lt_load1 hx hc) hat hd k
theorem wl_loadN {n : Nat} (hx : Pt rs x p 0) (hat : At hs (.box p cs tb) f) [TyN c.P t n] (hc : cs.length = n) (hd : Nat.blt d c.nt = true) (k : WL c ops tl ⟨(d, .agg cs) :: rs, hs⟩ Q) : WL c ops (⟨some d, .load t x, ty, pos, af, none⟩ :: tl) ⟨rs, hs⟩ Q := wl_rd (lt_loadN hx hc) hat hd k
theorem wl_field {fd off : Nat} (hx : opv rs x = some (.val p)) (hat : At hs (.box p cs tb) f) [TyF c.P t fd off] (hd : Nat.blt d c.nt = true) (k : WL c ops tl ⟨(d, .at p off) :: rs, hs⟩ Q) : WL c ops (⟨some d, .fieldAddr t x fd, ty, pos, af, none⟩ :: tl) ⟨rs, hs⟩ Q := wl_rd (lt_fieldVal hx) hat hd k
theorem wl_store {n : Nat} {av : AV} {ds : List AV} (hx : Pt rs x p j) (hat : At hs (.box p cs tb) f) (hy : opv rs y = some av) (h1 : TySz c.P t n) (h2 : CellsOf av ds) (h3 : OneL ds) (hn : ds.length = n) (hj : j + n ≤ cs.length) (k : WL c ops tl ⟨rs, f (.box p (spl cs j ds) tb)⟩ Q) : WL c ops (⟨none, .store t x y, ty, pos, af, none⟩ :: tl) ⟨rs, hs⟩ Q := wl_at0 (lt_store hx hy hn hj) hat k
end
/-- hs holds these, whatever else. -/
inductive SubP : List HA → List HA → Prop
  | nil {hs : List HA} : SubP [] hs
  | cons {h : HA} {t hs r : List HA} (k : Rm hs h r) (m : SubP t r) : SubP (h :: t) hs
theorem SubP.ok {hs' hs : List HA} (k : SubP hs' hs) : ∀ {G F w}, hsP hs G F w → ∃ F1 F2, F.Perm (F1 ++ F2) ∧ hsP hs' G F1 w := by
  induction k with
  | nil => exact fun {G F w} _ => ⟨[], F, .refl _, rfl⟩
  | cons k m ih =>
    intro G F w h
    obtain ⟨F1, F2, e, h1, h2⟩ := k.sel h
    obtain ⟨F3, F4, e2, h3⟩ := ih h2
    exact ⟨F1 ++ F3, F4, e.trans ((e2.append_left F1).trans (by rw [List.append_assoc])), F1, F3, .refl _, h1, h3⟩
theorem st_sub2 {c : Cx} {rs rs' : List (Nat × AV)} {hs hs' : List HA} {a : Act} {w : World} (st : St c ⟨rs, hs⟩ a w) (h : SubR rs' rs) (k : SubP hs' hs) : St c ⟨rs', hs'⟩ a w := by
  obtain ⟨G, F, hI, hF, hR, r⟩ := st
  obtain ⟨F1, F2, e, h1⟩ := k.ok hI.hs
  exact ⟨G, F1, ⟨hI.gin, (List.nodup_append.1 (e.nodup_iff.1 hI.nd)).1, fun b hb => hI.own b (e.mem_iff.2 (by simp [hb])), h1⟩,
    ⟨hF.os, hF.tape, hF.output, hF.size, hF.same, fun b hb => hF.newF b (e.mem_iff.2 (by simp [hb])), hF.gle, hF.newG⟩, fun i av e => hR i av (h.ok i av e), r.1, r.2.sub fun b hb => e.mem_iff.2 (by simp [hb])⟩
theorem W_sub2 {c : Cx} {rs rs' : List (Nat × AV)} {hs hs' : List HA} {Q : Exit → S → Prop} {x : Code} (h : SubR rs' rs) (h2 : SubP hs' hs) (k : W c x ⟨rs', hs'⟩ Q) : W c x ⟨rs, hs⟩ Q := ⟨fun a w st => k.out a w (st_sub2 st h h2)⟩
end Go.Proofs.YtbkellknlcageaaDoor.Sw
