/- Proofs for one card: DoorB, FloorV, FloorY, FloorM, SwI, FloorCa, FloorCd, SwL, FloorCe, FloorDa, FloorCg, FloorDb, FloorS, FloorT, FloorU, FloorCj, FloorDc, FloorCm, FloorDf, FloorBa, FloorCi, FloorJudges, FloorChanges, FloorBb. No condition of its own. -/
import Derived.WalkKit
import Derived.Lib.LazyBuf
import Derived.Deep.AppendSrc
import Derived.Test.YtihonljdanjfmaaDoorZb5
namespace Go.Proofs.YtihonljdanjfmaaDoor
open Go Go.ChangeShapes Go.WideShapes Go.ChangeAt Go.RowKit
def laidB : List (String × DataW Unit) := [("aguador/tally.checks", Rows.laid_aguador_tally_checks), ("aguador/floor.checks", Rows.laid_aguador_floor_checks)]
set_option maxRecDepth 100000 in
theorem door_metB (os : Os) (args : Array Value) : laidMetH Tryd.prog laidB ((World.doorLaid Tryd.prog 400 os).forCall (fun _ _ => 0) ⟨#[], args, []⟩).memory :=
  laidMetH_of_parts3 (fuel := 8) (laidMet_of_run' 8 (by kernel_rfl) (by kernel_rfl)) (by kernel_rfl) (by kernel_rfl)
set_option maxRecDepth 100000 in
theorem tab_ofT {W : World} {L : List (String × DataW Unit)} (hm : ("aguador/tally.checks", Rows.laid_aguador_tally_checks) ∈ L) (h : laidMetH Tryd.prog L W) : Tab W := by
  obtain ⟨g, t, cs, fuel, p, hg, ht, hv, hd⟩ := h.funcs (n := "aguador/tally.checks") hm
  obtain rfl := Option.some.inj ((show Tryd.prog.globalNamed "aguador/tally.checks" = some 1 by kernel_rfl).symm.trans hg)
  obtain rfl := Option.some.inj ((show (Tryd.prog.globals[1]?).map (·.type) = some 248 by kernel_rfl).symm.trans ht)
  have hd' : DataW.trod (funcToken Tryd.prog) Tryd.prog W 0 (fun _ => true) true fuel 248 cs.toList = some (.agg [.agg [.held [97, 103, 117, 97, 100, 111, 114, 47, 116, 97, 108, 108, 121, 46, 99, 104, 101, 99, 107, 115, 36, 49]], .agg [.held [97, 103, 117, 97, 100, 111, 114, 47, 116, 97, 108, 108, 121, 46, 99, 104, 101, 99, 107, 115, 36, 50]], .agg [.held [97, 103, 117, 97, 100, 111, 114, 47, 116, 97, 108, 108, 121, 46, 99, 104, 101, 99, 107, 115, 36, 51]]], p) := hd
  obtain ⟨xs, m, rfl, hx, hlen, hn, hel⟩ := DataW.trod_array Tryd.underlying248 hd'
  rw [show Tryd.prog.cellsOf 247 = 1 by kernel_rfl] at hel
  rw [show Tryd.prog.cellsOf 248 = 3 by kernel_rfl] at hlen
  obtain ⟨cl⟩ := cs
  match cl, hlen, xs, hn with
  | [v0, v1, v2], _, [x0, x1, x2], _ =>
    simp only [Prod.mk.injEq, DataW.agg.injEq, List.map_cons, List.map_nil, List.cons.injEq] at hx
    have h0 := hel 0 (by decide); have h1 := hel 1 (by decide); have h2 := hel 2 (by decide)
    simp at h0 h1 h2
    have go : ∀ (v : Value) (x : DataW (List UInt8) × List MemPlace) (b : UInt8) (r : List UInt8) (f0 : FuncId), ((List.range Tryd.prog.funcs.size).filter fun f => (Tryd.prog.funcs[f]?).any (·.name.toUTF8.data.toList == b :: r)) = [f0] →
        DataW.trod (funcToken Tryd.prog) Tryd.prog W 0 (fun _ => true) true m 247 [v] = some x → x.1 = .agg [.held (b :: r)] → v = .func (.func f0) #[] #[] := by
      intro v x b r f0 hone h hx
      obtain ⟨y, n, rfl, _, hy⟩ := trod_struct1 Tryd.underlying247 h
      simp only [DataW.agg.injEq, List.cons.injEq, and_true] at hx
      obtain ⟨y1, y2⟩ := y
      simp only at hx
      subst hx
      exact func_of_trod (P := Tryd.prog) Tryd.underlying71 hone (by simpa [show Tryd.prog.cellsOf 71 = 1 by kernel_rfl] using hy)
    have e0 := go v0 x0 _ _ 226 (by kernel_rfl) h0 hx.1.1.symm
    have e1 := go v1 x1 _ _ 227 (by kernel_rfl) h1 hx.1.2.1.symm
    have e2 := go v2 x2 _ _ 228 (by kernel_rfl) h2 hx.1.2.2.1.symm
    subst e0; subst e1; subst e2
    have c0 := World.var?_cell hg hv 0; have c1 := World.var?_cell hg hv 1; have c2 := World.var?_cell hg hv 2
    exact ⟨by simpa using c0, by simpa using c1, by simpa using c2⟩
end Go.Proofs.YtihonljdanjfmaaDoor
namespace Go.Proofs.YtihonljdanjfmaaDoor.Sw
open Go Go.RowKit Go.ChangeShapes Go.WideShapes Go.ChangeAt
set_option maxRecDepth 100000
theorem tab_hsT {w : World} (h : Tab w) : hsP [HA.tab] (gh w) [] w := ⟨[], [], .refl _, ⟨rfl, cellG_gh h.1, cellG_gh h.2.1, cellG_gh h.2.2⟩, rfl⟩
theorem tabs_of {W : World} (h : laidMetH Tryd.prog laidB W) : hsP [tab8, HA.tab] (gh W) [] W :=
  hsP.append (tab_of8 (List.mem_cons_of_mem _ (List.mem_cons_self ..)) h) (tab_hsT (tab_ofT (List.mem_cons_self ..) h))
theorem reads_t : Reads 68 tC := fun {H enc W n cs y} h =>
  let ⟨x, hx⟩ := reads_4 Tryd.underlying68 (by kernel_rfl) (by kernel_rfl) reads_i reads_i reads_is reads_is h
  ⟨⟨x.1, x.2.1, x.2.2.1, x.2.2.2⟩, hx⟩
theorem reads_r : Reads 70 rC := fun {H enc W n cs y} h =>
  let ⟨x, hx⟩ := reads_4 Tryd.underlying70 (by kernel_rfl) (by kernel_rfl) reads_i reads_i reads_i reads_i h
  ⟨⟨x.1, x.2.1, x.2.2.1, x.2.2.2⟩, hx⟩
end Go.Proofs.YtihonljdanjfmaaDoor.Sw
namespace Go.Proofs.YtihonljdanjfmaaDoor.Sw
open Go.RowKit Go Go.Shelf Go.Proofs
/-- What a valid bill gives. -/
theorem stks_all {ids : List Int} : ∀ {t : List Stk} {last : Int}, stksOk ids last t = true → ∀ s ∈ t, s.fl ∈ ids ∧ 1 ≤ s.pt ∧ s.pt ≤ 9
  | [], _, _, s, hs => by cases hs
  | x :: t, last, h, s, hs => by
    simp only [stksOk, Bool.and_eq_true, decide_eq_true_eq] at h
    rcases List.mem_cons.1 hs with rfl | hs
    · exact ⟨h.1.1.2, h.1.2.1, h.1.2.2⟩
    · exact stks_all h.2 s hs
structure BilF (ids : List Int) (x : Bil) : Prop where
  py : x.py ∈ ids
  pe0 : 1 ≤ x.pe
  pe1 : x.pe ≤ 1000000
  ne : x.st ≠ []
  st : ∀ s ∈ x.st, s.fl ∈ ids ∧ 1 ≤ s.pt ∧ s.pt ≤ 9
theorem bil_f {ids : List Int} {x : Bil} (h : bilOk ids x = true) : BilF ids x := by
  simp only [bilOk, Bool.and_eq_true, decide_eq_true_eq] at h
  exact ⟨h.1.1.1, h.1.1.2.1, h.1.1.2.2, h.1.2, stks_all h.2⟩
theorem bils_all {ids : List Int} : ∀ {t : List Bil} {last : Int}, bilsOk ids last t = true → ∀ x ∈ t, BilF ids x
  | [], _, _, s, hs => by cases hs
  | x :: t, last, h, s, hs => by
    simp only [bilsOk, Bool.and_eq_true, decide_eq_true_eq] at h
    rcases List.mem_cons.1 hs with rfl | hs
    · exact bil_f h.1.2
    · exact bils_all h.2 s hs
theorem pay_f {ids : List Int} {x : Pay} (h : payOk ids x = true) : x.a ∈ ids ∧ x.b ∈ ids ∧ x.a ≠ x.b ∧ 1 ≤ x.p ∧ x.p ≤ 1000000 := by
  simp only [payOk, Bool.and_eq_true, decide_eq_true_eq] at h
  exact ⟨h.1.1.1, h.1.1.2, h.1.2, h.2.1, h.2.2⟩
theorem pays_all {ids : List Int} : ∀ {t : List Pay}, paysOk ids t = true → ∀ x ∈ t, x.a ∈ ids ∧ x.b ∈ ids ∧ x.a ≠ x.b ∧ 1 ≤ x.p ∧ x.p ≤ 1000000
  | [], _, s, hs => by cases hs
  | x :: t, h, s, hs => by
    simp only [paysOk, Bool.and_eq_true] at h
    rcases List.mem_cons.1 hs with rfl | hs
    · exact pay_f h.1
    · exact pays_all h.2 s hs
structure FloF (f : Flo) : Prop where
  ids : f.ids.length ≤ 6
  bs : f.bs.length ≤ 10
  ps : f.ps.length ≤ 12
  bil : ∀ x ∈ f.bs, BilF f.ids x
  pay : ∀ x ∈ f.ps, x.a ∈ f.ids ∧ x.b ∈ f.ids ∧ x.a ≠ x.b ∧ 1 ≤ x.p ∧ x.p ≤ 1000000
theorem flo_f {f : Flo} (h : floOk f = true) : FloF f := by
  simp only [floOk, Bool.and_eq_true, decide_eq_true_eq] at h
  exact ⟨h.1.1.1.1.1.1, h.1.1.1.1.1.2, h.1.1.1.1.2, bils_all h.1.2, pays_all h.2⟩
/-- All entries lie between these. -/
def Btw (lo hi : Int) (l : List Int) : Prop := ∀ e ∈ l, lo ≤ e ∧ e ≤ hi
theorem Btw.set {lo hi : Int} {l : List Int} (h : Btw lo hi l) (i : Nat) {v : Int} (h1 : lo ≤ v) (h2 : v ≤ hi) : Btw lo hi (l.set i v) := fun e he => by
  rcases List.mem_or_eq_of_mem_set he with he | rfl
  · exact h e he
  · exact ⟨h1, h2⟩
theorem Btw.mono {lo hi lo' hi' : Int} {l : List Int} (h : Btw lo hi l) (h1 : lo' ≤ lo) (h2 : hi ≤ hi') : Btw lo' hi' l := fun e he => by have := h e he; omega
theorem Btw.getD {lo hi : Int} {l : List Int} (h : Btw lo hi l) (h1 : lo ≤ 0) (h2 : 0 ≤ hi) (i : Nat) : lo ≤ l[i]?.getD 0 ∧ l[i]?.getD 0 ≤ hi := by
  cases e : l[i]? with
  | none => exact ⟨h1, h2⟩
  | some v => exact h v (List.mem_of_getElem? e)
theorem Btw.at {lo hi : Int} {l : List Int} (h : Btw lo hi l) {i : Nat} (hi' : i < l.length) : lo ≤ l[i] ∧ l[i] ≤ hi := h _ (List.getElem_mem hi')
end Go.Proofs.YtihonljdanjfmaaDoor.Sw
namespace Go.Proofs.YtihonljdanjfmaaDoor.Sw
open Go.RowKit Go Go.Shelf Go.Proofs
def hits (a b : Int) (q : Qu) : Bool := decide (q.a = min a b) && decide (q.b = max a b)
end Go.Proofs.YtihonljdanjfmaaDoor.Sw
/- The program's house at work: 'index', 'shares', 'paid'. -/
namespace Go.Proofs.YtihonljdanjfmaaDoor.Sw
open Go.RowKit Go Go.Shelf Go.Proofs
end Go.Proofs.YtihonljdanjfmaaDoor.Sw
/- The program's 'shares'. -/
namespace Go.Proofs.YtihonljdanjfmaaDoor.Sw
open Go.RowKit Go Go.Shelf Go.Proofs
end Go.Proofs.YtihonljdanjfmaaDoor.Sw
/- The program's 'paid'. -/
namespace Go.Proofs.YtihonljdanjfmaaDoor.Sw
open Go.RowKit Go Go.Shelf Go.Proofs
end Go.Proofs.YtihonljdanjfmaaDoor.Sw
/- Elements of several cells of an own slice: reading, writing, their fields. -/
namespace Go.Proofs.YtihonljdanjfmaaDoor.Sw
open Go.RowKit Go
theorem flat_cut {α : Type} {f : α → List AV} {n : Nat} {xs : List α} (h : ∀ x ∈ xs, (f x).length = n) {k : Nat} (hk : k < xs.length) : ((xs.flatMap f).drop (k * n)).take n = f xs[k] := by
  have hlen := h _ (List.getElem_mem hk)
  have hl := lenL h
  have hle : (k + 1) * n ≤ xs.length * n := Nat.mul_le_mul_right n hk
  rw [Nat.succ_mul] at hle
  apply List.ext_getElem? 
  intro j
  by_cases hj : j < n
  · rw [List.getElem?_take, if_pos hj, List.getElem?_drop]
    exact flat_get h k hk j hj
  · rw [List.getElem?_eq_none (by rw [List.length_take]; omega), List.getElem?_eq_none (by omega)]
theorem flat_setN {α : Type} {f : α → List AV} {n : Nat} {x' : α} : ∀ {xs : List α}, (∀ x ∈ xs, (f x).length = n) → ∀ (k : Nat), k < xs.length → (f x').length = n → (xs.set k x').flatMap f = (xs.flatMap f).take (k * n) ++ f x' ++ (xs.flatMap f).drop (k * n + n)
  | x :: xs, h, 0, _, hl => by
    rw [List.set_cons_zero, List.flatMap_cons, List.flatMap_cons, Nat.zero_mul, Nat.zero_add, List.take_zero, List.nil_append, List.drop_append_of_le_length (by rw [h x (by simp)]; exact Nat.le_refl _), List.drop_of_length_le (by rw [h x (by simp)]; exact Nat.le_refl _), List.nil_append]
  | x :: xs, h, k + 1, hk, hl => by
    have hx := h x (by simp)
    have e1 : ∀ R : List AV, (f x ++ R).take (k * n + n) = f x ++ R.take (k * n) := fun R => by
      rw [List.take_append, List.take_of_length_le (by omega), hx, Nat.add_sub_cancel]
    have e2 : ∀ R : List AV, (f x ++ R).drop (k * n + n + n) = R.drop (k * n + n) := fun R => by
      rw [List.drop_append, List.drop_of_length_le (by omega), hx, Nat.add_sub_cancel, List.nil_append]
    rw [List.set_cons_succ, List.flatMap_cons, List.flatMap_cons, flat_setN (fun y hy => h y (by simp [hy])) k (by simpa using hk) hl, Nat.succ_mul, e1, e2]
    simp only [List.append_assoc]
  | [], _, _, hk, _ => absurd hk (Nat.not_lt_zero _)
theorem take_mid {α : Type} {l us : List α} {A L : Nat} (h : A + us.length ≤ L) (hL : L ≤ l.length) : (l.take A ++ us ++ l.drop (A + us.length)).take L = (l.take L).take A ++ us ++ (l.take L).drop (A + us.length) := by
  have hx : (l.take A ++ us).length = A + us.length := by rw [List.length_append, List.length_take]; omega
  rw [List.take_append, List.take_of_length_le (by omega), hx, List.take_take, Nat.min_eq_left (by omega), List.drop_take]
section
variable {P : Program} {rs : List (Nat × AV)} {hsR : List HA} {d : Option Nat} {ty : TypeId} {pos : String} {af : Array Edge} {g : Option (Nat × Bool)}
theorem lt_loadRN {α : Type} {x : Operand} {t e : TypeId} {n k : Nat} [hT : TyN P t n] {v : Value} {f : α → List AV} {xs : List α} (hx : opv rs x = some (.rat v n k 0)) (hk : k < xs.length) : LT P ⟨d, .load t x, ty, pos, af, g⟩ rs [.row v e n f xs] (Is (.agg (f xs[k])) [.row v e n f xs]) :=
  LT_read (fun _ e => by cases e) fun a w G F hR hG hrow => by
    obtain ⟨b', len, cap', ev, e1⟩ : (AV.rat v n k 0).P G (a.eval x) := opv_ok hR hx
    rcases row_val hrow with ⟨_, rfl⟩ | ⟨b, cap, cur, vs, ev', hnc, _, hb, hcs, hl, hf, htake, _⟩
    · exact absurd hk (Nat.not_lt_zero _)
    · rw [ev] at ev'
      simp only [Value.slice.injEq, Option.some.injEq, Addr.mk.injEq] at ev'
      obtain ⟨⟨rfl, _⟩, rfl, rfl⟩ := ev'
      have hfit := (Fits.cut n (Fits.cut (k * n) hf).1).2
      rw [flat_cut hl hk] at hfit
      refine ⟨.agg ((vs.drop (k * n)).take n).toArray, ⟨_, rfl, hfit⟩, ?_⟩
      have hlt : k * n + n ≤ xs.length * n := by
        calc k * n + n = (k + 1) * n := (Nat.succ_mul k n).symm
          _ ≤ xs.length * n := Nat.mul_le_mul_right n hk
      have hlen := hfit.length
      have hln := hl _ (List.getElem_mem hk)
      simp only [execOp, e1, Sem.run_bind]
      rw [Nat.add_zero, run_loadN (n := n) (vs := (vs.drop (k * n)).take n) (by rw [hlen, hln]) (fun j u ej => by
        rw [cell_of_row w b' _ _ _ _ hb]
        rw [List.getElem?_take] at ej
        split at ej
        · rw [List.getElem?_drop, ← htake, List.getElem?_take, if_pos (by omega)] at ej
          simpa using ej
        · cases ej)]
      rfl
theorem lt_storeRN {α : Type} {x y : Operand} {t e : TypeId} {n k : Nat} [hs : TySz P t n] {v : Value} {f : α → List AV} {xs : List α} {x' : α} [hO : OneF f] (hx : opv rs x = some (.rat v n k 0)) (hy : opv rs y = some (.agg (f x'))) (hk : k < xs.length) (hlx : (f x').length = n) :
    LT P ⟨d, .store t x y, ty, pos, af, g⟩ rs [.row v e n f xs] (Is (.val undef) [.row v e n f (xs.set k x')]) :=
  LT_eff (fun _ e => by cases e) fun a w G F hR hI => by
    obtain ⟨F1, F2, ep, hrow, h2⟩ := hI.hs
    have h2' : F2 = [] := h2
    subst h2'
    obtain ⟨b', len, cap', ev, e1⟩ : (AV.rat v n k 0).P G (a.eval x) := opv_ok hR hx
    rcases row_val hrow with ⟨_, rfl⟩ | ⟨b, cap, cur, vs, ev', hnc, hF1, hb, hcs, hl, hf, htake, hone, hcm⟩
    · exact absurd hk (Nat.not_lt_zero _)
    · rw [ev] at ev'
      simp only [Value.slice.injEq, Option.some.injEq, Addr.mk.injEq] at ev'
      obtain ⟨⟨rfl, _⟩, rfl, rfl⟩ := ev'
      subst hF1
      have hF : F = [b'] := List.perm_singleton.1 (by simpa using ep)
      subst hF
      obtain ⟨us, hue, huf⟩ : (AV.agg (f x')).P G (a.eval y) := opv_ok hR hy
      have hul : us.length = n := huf.length.trans hlx
      have huo : ∀ q ∈ us, q.oneCell' = true := fits_one (hO.out x') huf
      have hg := (hI.own b' (by simp)).2
      have hlt : k * n + n ≤ xs.length * n := by
        calc k * n + n = (k + 1) * n := (Nat.succ_mul k n).symm
          _ ≤ xs.length * n := Nat.mul_le_mul_right n hk
      have hlc : xs.length * n ≤ cap' * n := Nat.mul_le_mul_right n hnc
      have hcl : cur.toList.length = cap' * n := by simpa using hcs
      let cur' : Array Value := (cur.toList.take (k * n) ++ us ++ cur.toList.drop (k * n + us.length)).toArray
      obtain ⟨f1, f2⟩ := fr_setRow hI.gin hg cur'
      have hvl : vs.length = xs.length * n := by rw [hf.length, lenL hl]
      have hl' : ∀ y ∈ xs.set k x', (f y).length = n := fun y hy => by
        rcases List.mem_or_eq_of_mem_set hy with h | rfl
        · exact hl y h
        · exact hlx
      refine ⟨_, w.setRow b' cur', undef, _, _, G, [b'], ?_, .inr ⟨rfl, rfl⟩, ⟨rfl, rfl⟩, f1, ⟨f2, by simp, fun q hq => ?_, [b'], [], by simp, ⟨vs.take (k * n) ++ us ++ vs.drop (k * n + us.length), by rw [ev]; rfl, hl', ?_, ?_, ?_⟩, rfl⟩, rfl⟩
      · have hst := run_storeCells_at P b' (k * n) e us 0 cur w hb (by rw [Nat.add_zero, hul, hcs]; omega) huo
        simp only [Nat.add_zero] at hst
        have hc : us.toArray.size = n := by simpa using hul
        simp only [execOp, e1, Instr.storeAt, Instr.sureAddr, storeVar, Sem.run_bind, Sem.run_pure, Result.andThen_ok, hue, Value.cells, hs.size w, Nat.add_zero]
        simp [hc, hst, cur']
      · rw [List.mem_singleton] at hq; subst hq; simp only [setRow_size]; exact hI.own _ (by simp)
      · rw [flat_setN hl k hk hlx, hul]
        exact ((hf.take (k * n)).append huf).append (hf.drop _)
      · intro q hq
        rcases List.mem_append.1 hq with hq | hq
        · rcases List.mem_append.1 hq with hq | hq
          · exact hone q (List.mem_of_mem_take hq)
          · exact huo q hq
        · exact hone q (List.mem_of_mem_drop hq)
      · rw [ev]
        have hsz : (vs.take (k * n) ++ us ++ vs.drop (k * n + us.length)).length = xs.length * n := by
          simp only [List.length_append, List.length_take, List.length_drop]; omega
        refine ⟨by rw [hsz, List.length_set], .inr ⟨b', cap', cur', by rw [List.length_set], Nat.zero_le _, setRow_heap w b' _ _ e _ hb, by rw [List.length_set]; exact hnc, hcm, ?_, ?_⟩⟩
        · simp only [cur', List.size_toArray, List.length_append, List.length_take, List.length_drop]; omega
        · rw [List.length_set]
          simp only [cur']
          rw [← htake]
          exact take_mid (by rw [hul]; omega) (by omega)
theorem lt_fieldRat {x : Operand} {t : TypeId} {fd off : Nat} [h : TyF P t fd off] {v : Value} {n k j j' : Nat} (hx : opv rs x = some (.rat v n k j)) (hj : j + off = j') : LT P ⟨d, .fieldAddr t x fd, ty, pos, af, g⟩ rs [] (Is (.rat v n k j') []) :=
  LT_val (fun _ e => by cases e) fun a w G hR hG => by
    obtain ⟨b, len, cap, ev, e1⟩ : (AV.rat v n k j).P G (a.eval x) := opv_ok hR hx
    refine ⟨.pointer (some ⟨b, k * n + j', none⟩), ⟨b, len, cap, ev, rfl⟩, ?_⟩
    simp only [execOp, e1, Sem.run_bind]
    rw [h.run, add_plain, Nat.add_assoc, hj]
    rfl
theorem ltr_loadRN {α : Type} {x : Operand} {t e : TypeId} {n kk : Nat} [TyN P t n] {v : Value} {f : α → List AV} {xs : List α} {h : HA → List HA} (hx : opv rs x = some (.rat v n kk 0)) (hat : At hsR (.row v e n f xs) h) {y : α} (hk : xs[kk]? = some y) : LTr P ⟨d, .load t x, ty, pos, af, g⟩ rs hsR [] (Is (.agg (f y)) []) := by
  obtain ⟨hl, rfl⟩ := List.getElem?_eq_some_iff.1 hk
  exact ltr_rd (lt_loadRN hx hl) hat
end
section
variable {c : Cx} {rs : List (Nat × AV)} {hs : List HA} {Q : Exit → S → Prop} {ops : Array Oper} {tl : List Oper} {d : Nat} {ty : TypeId} {pos : String} {af : Array Edge}
theorem wl_loadRN {α : Type} {x : Operand} {t e : TypeId} {n kk : Nat} [TyN c.P t n] {v : Value} {f : α → List AV} {xs : List α} {g : HA → List HA} (hx : opv rs x = some (.rat v n kk 0)) (hat : At hs (.row v e n f xs) g) (hk : kk < xs.length) (hd : Nat.blt d c.nt = true) (k : WL c ops tl ⟨(d, .agg (f xs[kk])) :: rs, hs⟩ Q) : WL c ops (⟨some d, .load t x, ty, pos, af, none⟩ :: tl) ⟨rs, hs⟩ Q := wl_rd (lt_loadRN hx hk) hat hd k
theorem wl_fieldRat {x : Operand} {t : TypeId} {fd off : Nat} [TyF c.P t fd off] {v : Value} {n kk j j' : Nat} (hx : opv rs x = some (.rat v n kk j)) (hj : j + off = j') (hd : Nat.blt d c.nt = true) (k : WL c ops tl ⟨(d, .rat v n kk j') :: rs, hs⟩ Q) : WL c ops (⟨some d, .fieldAddr t x fd, ty, pos, af, none⟩ :: tl) ⟨rs, hs⟩ Q := wl_ex (lt_fieldRat hx hj) hd k
end
end Go.Proofs.YtihonljdanjfmaaDoor.Sw
/- What is owned may be lent as if it were frozen, for a call that only reads it. -/
namespace Go.Proofs.YtihonljdanjfmaaDoor.Sw
open Go.RowKit Go
/-- All these blocks frozen, too. -/
def gall (G : Nat → Option Obj) (F : List Nat) (w : World) : Nat → Option Obj := fun b => if b ∈ F then w.heap[b]? else G b
theorem gall_le {G : Nat → Option Obj} {F : List Nat} {w : World} (h : ∀ b ∈ F, G b = none) : Gle G (gall G F w) := fun b o e => by
  unfold gall
  rw [if_neg (fun hb => by rw [h b hb] at e; cases e)]; exact e
theorem gall_in {G : Nat → Option Obj} {F : List Nat} {w : World} (h : Gin G w) : Gin (gall G F w) w := fun b o e => by
  unfold gall at e
  split at e
  · exact e
  · exact h b o e
theorem row_view {α β : Type} {G : Nat → Option Obj} {F F1 : List Nat} {w : World} {v : Value} {e : TypeId} {n : Nat} {f : α → List AV} {f' : β → List AV} {xs : List α} {ys : List β} (h : (HA.row v e n f xs).P G F1 w) (hsub : ∀ b ∈ F1, b ∈ F) (hlen : ys.length = xs.length)
    (hv : ∀ i (h1 : i < xs.length) (h2 : i < ys.length) (j : Nat) (av' : AV), (f' ys[i])[j]? = some av' → ∃ av : AV, (f xs[i])[j]? = some av ∧ ∀ u, av.P G u → av'.P (gall G F w) u) : (AV.sl n f' ys).P (gall G F w) v := by
  rcases row_val h with ⟨rfl, rfl⟩ | ⟨b, cap, cur, vs, rfl, hnc, hF1, hb, hcs, hl, hf, htake, _⟩
  · exact ⟨none, 0, by rw [hlen]; rfl, by rw [hlen]; exact Nat.le_refl _, fun i hi => by rw [hlen] at hi; exact absurd hi (Nat.not_lt_zero _)⟩
  · refine ⟨some ⟨b, 0, none⟩, cap, by rw [hlen], by rw [hlen]; exact hnc, fun i hi => ⟨b, 0, rfl, fun j av' ej => ?_⟩⟩
    have hi' : i < xs.length := by omega
    obtain ⟨av, e1, e2⟩ := hv i hi' hi j av' ej
    have hjn : j < n := by
      have := (List.getElem?_eq_some_iff.1 e1).1
      rwa [hl _ (List.getElem_mem hi')] at this
    obtain ⟨u, hu, hp⟩ := hf.get (i := i * n + j) (av := av) (by rw [flat_get hl i hi' j hjn]; exact e1)
    refine ⟨u, ?_, e2 u hp⟩
    have hlt : i * n + j < xs.length * n := by
      calc i * n + j < i * n + n := by omega
        _ = (i + 1) * n := (Nat.succ_mul i n).symm
        _ ≤ xs.length * n := Nat.mul_le_mul_right n hi'
    have hbF : b ∈ F := hsub b (by rw [hF1]; simp)
    unfold cellG gall
    rw [if_pos hbF, hb]
    simp only [Nat.zero_add]
    rw [← htake, List.getElem?_take, if_pos hlt] at hu
    simpa using hu
/-- An own slice as a frozen one. -/
theorem row_view1 {α : Type} {G : Nat → Option Obj} {F F1 : List Nat} {w : World} {v : Value} {e : TypeId} {n : Nat} {f : α → List AV} {xs : List α} (h : (HA.row v e n f xs).P G F1 w) (hsub : ∀ b ∈ F1, b ∈ F) (hle : Gle G (gall G F w)) : (AV.sl n f xs).P (gall G F w) v :=
  row_view h hsub rfl fun i h1 h2 j av' ej => ⟨av', ej, fun u hu => av'.mono hle hu⟩
/-- With these things owned, a value reads so if they are taken for frozen. -/
structure Thaw (h : HA) (av av' : AV) : Prop where
  out : ∀ (G : Nat → Option Obj) (F : List Nat) (w : World), h.P G F w → Gle G (gall G F w) → ∀ v, av.P G v → av'.P (gall G F w) v
/-- Things that own no block. -/
structure Pers (hs : List HA) : Prop where
  out : ∀ G F w, hsP hs G F w → F = []
theorem Pers.nil : Pers [] := ⟨fun _ _ _ h => h⟩
theorem Pers.cons {h : HA} {t : List HA} (h1 : ∀ G F w, h.P G F w → F = []) (k : Pers t) : Pers (h :: t) := ⟨fun G F w ⟨F1, F2, e, a, b⟩ => by
  have := h1 _ _ _ a; have := k.out _ _ _ b; subst_vars; simpa using e⟩
theorem Pers.glob {g : Nat} {cs : List AV} {t : List HA} (k : Pers t) : Pers (.glob g cs :: t) := .cons (fun _ _ _ h => h.1) k
theorem lt_borrow {P : Program} {o : Oper} {rs : List (Nat × AV)} {h : HA} {pers : List HA} {i : Nat} {av av' : AV} {cv : Value} (hl : look rs i = some av) (ht : Thaw h av av') (hp : Pers pers) (k : LT P o ((i, av') :: rs) pers (Is (.val cv) pers)) : LT P o rs (h :: pers) (Is (.val cv) (h :: pers)) := by
  refine ⟨?_⟩
  intro F n hF a w G Fp K Q hR hI hk
  obtain ⟨F1, F2, ep, hh, hps⟩ := hI.hs
  have h2 := hp.out _ _ _ hps
  subst h2
  rw [List.append_nil] at ep
  have hm : ∀ b, b ∈ F1 ↔ b ∈ Fp := fun b => ep.mem_iff.symm
  have hle : Gle G (gall G F1 w) := gall_le fun b hb => (hI.own b ((hm b).1 hb)).2
  have hle3 : ∀ {G2}, Gle (gall G F1 w) G2 → Gle G (fun b => if b ∈ F1 then none else G2 b) := fun {G2} h2 b o e => by
    have hb : b ∉ F1 := fun hb => by rw [(hI.own b ((hm b).1 hb)).2] at e; cases e
    show (if b ∈ F1 then none else G2 b) = some o
    rw [if_neg hb]; exact h2 b o (hle b o e)
  refine k.go F n hF a w (gall G F1 w) [] K Q (fun j u e => ?_) ⟨gall_in hI.gin, List.nodup_nil, fun _ hb => (by cases hb), hps.mono hle⟩ fun v x prod G2 F2' w' ⟨e1, e2⟩ hfr hi hv => ?_
  · simp only [look] at e
    cases hb : Nat.beq i j with
    | true =>
      rw [hb] at e
      obtain rfl := Nat.eq_of_beq_eq_true hb
      simp only [cond_true, Option.some.injEq] at e
      subst e
      exact ht.out G F1 w hh hle _ (hR _ _ hl)
    | false => rw [hb] at e; exact AV.mono _ hle (hR j u (by simpa using e))
  · subst e1 e2
    have hF2 := hp.out _ _ _ hi.hs
    subst hF2
    have hsame : ∀ b ∈ F1, w'.heap[b]? = w.heap[b]? := fun b hb => by
      have hlt := (hI.own b ((hm b).1 hb)).1
      have : gall G F1 w b = some w.heap[b] := by unfold gall; rw [if_pos hb, Array.getElem?_eq_getElem hlt]
      rw [hi.gin b _ (hfr.gle b _ this), Array.getElem?_eq_getElem hlt]
    refine hk v _ _ (fun b => if b ∈ F1 then none else G2 b) Fp w' ⟨rfl, rfl⟩ ⟨hfr.os, hfr.tape, hfr.output, hfr.size, fun b hb _ => hfr.same b hb (by simp), fun b hb => .inl hb, hle3 hfr.gle, fun b o e => ?_⟩ ⟨fun b o e => ?_, hI.nd, fun b hb => ⟨Nat.lt_of_lt_of_le (hI.own b hb).1 hfr.size, if_pos ((hm b).2 hb)⟩, F1, [], by rw [List.append_nil]; exact ep, HA.mono _ (hle3 hfr.gle) (HA.loc _ hsame hh), (hps.mono (hle3 hfr.gle)).loc fun b hb => (by cases hb)⟩ hv
    · split at e
      · cases e
      · rename_i hb
        rcases hfr.newG b o e with h | h | h
        · unfold gall at h; rw [if_neg hb] at h; exact .inl h
        · cases h
        · exact .inr (.inr h)
    · split at e
      · cases e
      · exact hi.gin b o e
theorem wl_borrow {c : Cx} {rs : List (Nat × AV)} {hs pers r : List HA} {Q : Exit → S → Prop} {ops : Array Oper} {tl : List Oper} {d : Nat} {ty : TypeId} {pos : String} {af : Array Edge} {k : FuncId} {xs : List Operand} {ts : Array TypeId} {avs : List AV} {h : HA} {av av' : AV} {cv : Value} (i : Nat) (ht : Thaw h av av') (hc : Con c.P k avs pers (Is (.val cv) pers)) (hl : look rs i = some av) (hx : opvs ((i, av') :: rs) xs = some avs) (hcut : Cut hs (h :: pers) r) (hp : Pers pers) (hd : Nat.blt d c.nt = true) (kk : WL c ops tl ⟨(d, .val cv) :: rs, h :: (pers ++ r)⟩ Q) : WL c ops (⟨some d, .call { callee := .value (.func k), args := xs.toArray, argTypes := ts }, ty, pos, af, none⟩ :: tl) ⟨rs, hs⟩ Q :=
  WL_lt (cons := h :: pers) (rest := r) hd rfl (fun _ _ _ hh => hcut.sel hh) (lt_borrow hl ht hp (lt_call hx hc)) fun av pr ⟨e1, e2⟩ => by subst e1; subst e2; exact kk
/-- Something that is so. -/
def HA.fact (p : Prop) : HA := ⟨fun _ F _ => F = [] ∧ p, fun _ h => h, fun _ h => h⟩
theorem hsP.fact {p : Prop} {t : List HA} {G : Nat → Option Obj} {F : List Nat} {w : World} : hsP (.fact p :: t) G F w ↔ p ∧ hsP t G F w :=
  ⟨fun ⟨_, _, e, ⟨e1, h⟩, k⟩ => by subst e1; exact ⟨h, k.perm (by simpa using e)⟩, fun ⟨h, k⟩ => ⟨[], F, .refl _, ⟨rfl, h⟩, k⟩⟩
/-- What is owned, opened. -/
theorem W_exs {c : Cx} {rs : List (Nat × AV)} {hs r : List HA} {Q : Exit → S → Prop} {x : Code} {σ : Type} {h : σ → List HA} (hr : Rm hs (.exs h) r) (k : ∀ s, W c x ⟨rs, h s ++ r⟩ Q) : W c x ⟨rs, hs⟩ Q := ⟨fun a w st => by
  obtain ⟨G, F, hI, rr⟩ := st
  obtain ⟨F1, F2, e, ⟨s, h1⟩, h2⟩ := hr.sel hI.hs
  exact (k s).out a w ⟨G, F, ⟨hI.gin, hI.nd, hI.own, (hsP.append h1 h2).perm e⟩, rr⟩⟩
theorem WL_exs {c : Cx} {rs : List (Nat × AV)} {hs r : List HA} {Q : Exit → S → Prop} {ops : Array Oper} {l : List Oper} {σ : Type} {h : σ → List HA} (hr : Rm hs (.exs h) r) (k : ∀ s, WL c ops l ⟨rs, h s ++ r⟩ Q) : WL c ops l ⟨rs, hs⟩ Q := ⟨fun a w st => by
  obtain ⟨G, F, hI, rr⟩ := st
  obtain ⟨F1, F2, e, ⟨s, h1⟩, h2⟩ := hr.sel hI.hs
  exact (k s).out a w ⟨G, F, ⟨hI.gin, hI.nd, hI.own, (hsP.append h1 h2).perm e⟩, rr⟩⟩
theorem W_fact {c : Cx} {rs : List (Nat × AV)} {hs r : List HA} {Q : Exit → S → Prop} {x : Code} {p : Prop} (hr : Rm hs (.fact p) r) (k : p → W c x ⟨rs, r⟩ Q) : W c x ⟨rs, hs⟩ Q := ⟨fun a w st => by
  obtain ⟨G, F, hI, rr⟩ := st
  have := hsP.fact.1 (hr.sel hI.hs)
  exact (k this.1).out a w ⟨G, F, ⟨hI.gin, hI.nd, hI.own, this.2⟩, rr⟩⟩
end Go.Proofs.YtihonljdanjfmaaDoor.Sw
/- A slice against nil; rows by another word; results of several cells, beside what is kept. -/
namespace Go.Proofs.YtihonljdanjfmaaDoor.Sw
open Go.RowKit Go
section
variable {P : Program} {rs : List (Nat × AV)} {d : Option Nat} {ty : TypeId} {pos : String} {af : Array Edge} {g : Option (Nat × Bool)}
theorem lt_eqlNil {α : Type} {x : Operand} {t t' e : TypeId} {n m : Nat} (hT : TyS P t e m) {f : α → List AV} {xs : List α} (hx : opv rs x = some (.sl n f xs)) : LT P ⟨d, .binOp .eql t x (.const (.slice none 0 0)) t', ty, pos, af, g⟩ rs [] (fun av y => ∃ b : Bool, av = .val (.bool b) ∧ y = [] ∧ (b = true → xs = [])) :=
  LT_eff (fun _ e => by cases e) fun a w G F hR hI => by
    obtain ⟨p, cap, e1, hc, hs⟩ : (AV.sl n f xs).P G (a.eval x) := opv_ok hR hx
    refine ⟨.value (.bool p.isNone), w, .bool p.isNone, _, [], G, F, ?_, .inl rfl, ⟨p.isNone, rfl, rfl, fun hb => ?_⟩, Fr.refl _ _ _, hI, rfl⟩
    · simp only [execOp, e1]
      have h1 : (eqGuard .eql t x (.const (.slice none 0 0)) (.slice p xs.length cap) (a.eval (.const (.slice none 0 0)))).run P w = .ok () w := by simp [eqGuard, Act.eval, go_sem]
      have h2 : (binOp .eql t (.slice p xs.length cap) (a.eval (.const (.slice none 0 0)))).run P w = .ok (.bool p.isNone) w := run_eql_slice_nil w t e p _ _ hT.und
      simp only [Sem.run_bind, h1, h2, Result.andThen_ok]
      rfl
    · cases xs with
      | nil => rfl
      | cons y ys =>
        obtain ⟨b, o, e2, _⟩ := hs 0 (by simp)
        rw [e2] at hb; cases hb
end
section
variable {c : Cx} {rs : List (Nat × AV)} {hs : List HA} {Q : Exit → S → Prop} {ops : Array Oper} {tl : List Oper} {d : Nat} {ty : TypeId} {pos : String} {af : Array Edge}
theorem wl_eqlNil {α : Type} {x : Operand} {t t' e : TypeId} {n m : Nat} {f : α → List AV} {xs : List α} (hx : opv rs x = some (.sl n f xs)) (hT : TyS c.P t e m) (hd : Nat.blt d c.nt = true) (k : ∀ b : Bool, (b = true → xs = []) → WL c ops tl ⟨(d, .val (.bool b)) :: rs, hs⟩ Q) : WL c ops (⟨some d, .binOp .eql t x (.const (.slice none 0 0)) t', ty, pos, af, none⟩ :: tl) ⟨rs, hs⟩ Q :=
  WL_lt (cons := []) (rest := hs) hd rfl (fun _ _ _ h => h) (lt_eqlNil hT hx) fun av pr ⟨b, e1, e2, hb⟩ => by subst e1; subst e2; exact k b hb
end
theorem HA.ext' {a b : HA} (h : a.P = b.P) : a = b := by
  cases a; cases b; cases h; rfl
/-- A row by another word for its elements. -/
theorem row_map {α β : Type} {v : Value} {e : TypeId} {n : Nat} {f : β → List AV} {g : α → β} {xs : List α} : HA.row v e n f (xs.map g) = HA.row v e n (fun x => f (g x)) xs := by
  refine HA.ext' ?_
  funext G F w
  simp only [HA.row, List.length_map, List.flatMap_map, List.forall_mem_map]
/-- Several results, the first of several cells, beside what is kept. -/
theorem resKN {P : Program} {fn : Func} {x : Tmp} {t tb : TypeId} {n : Nat} {post : AV → List HA → Prop} {rs : List (Nat × AV)} {hs kept r : List HA} {p : Value} {cs : List AV} {f : HA → List HA} (hr : fn.results = #[.cell x t]) (hx : look rs x = some (.val p)) (hat : At hs (.box p cs tb) f) (hT : TyN P t n) (hn : cs.length = n) (hp : post (.agg cs) kept) (hcut : Cut hs kept r) : Res P fn post ⟨rs, hs⟩ := by
  refine ⟨_, kept, hp, fun a w G F hR hI => ?_⟩
  obtain ⟨rest, hs'⟩ := hat.sel
  obtain ⟨F1, F2, e, ⟨b, vs, hpb, hF1, hf, hb⟩, h2⟩ := (hs' _ _ _ _).1 (by rw [hat.self]; exact hI.hs)
  obtain ⟨F3, h1, h2⟩ := inv_keep (rest := r) ⟨hI.gin, hI.nd, hI.own, hcut.sel hI.hs⟩
  refine ⟨.agg vs.toArray, G, F3, ?_, h2, h1, ⟨vs, rfl, hf⟩⟩
  have hxv : a.tmps.getD x undef = p := hR _ _ hx
  rw [Array.getD_eq_getD_getElem?] at hxv
  have h1 := run_loadN (P := P) (t := t) (n := n) (w := w) (b := b) (j := 0) (vs := vs) (by rw [hf.length, hn]) (fun k u e => by rw [cell_of_row w b _ _ _ _ hb]; simpa using e)
  simp only [Instr.loadAt, Instr.sureAddr, Sem.run_bind, Sem.run_pure, Result.andThen_ok] at h1
  simp [results, hr, hxv, hpb, asAddr, h1]
theorem resKN1 {P : Program} {fn : Func} {x u : Tmp} {t tb : TypeId} {n : Nat} {post : AV → List HA → Prop} {rs : List (Nat × AV)} {hs kept r : List HA} {p : Value} {cs : List AV} {bv : AV} {f : HA → List HA} (hr : fn.results = #[.cell x t, .tmp u]) (hx : look rs x = some (.val p)) (hat : At hs (.box p cs tb) f) (hT : TyN P t n) (hn : cs.length = n) (hl2 : look rs u = some bv) (hp : post (.tup [.agg cs, bv]) kept) (hcut : Cut hs kept r) : Res P fn post ⟨rs, hs⟩ := by
  refine ⟨_, kept, hp, fun a w G F hR hI => ?_⟩
  obtain ⟨rest, hs'⟩ := hat.sel
  obtain ⟨F1, F2, e, ⟨b, vs, hpb, hF1, hf, hb⟩, h2⟩ := (hs' _ _ _ _).1 (by rw [hat.self]; exact hI.hs)
  obtain ⟨F3, h1, h2⟩ := inv_keep (rest := r) ⟨hI.gin, hI.nd, hI.own, hcut.sel hI.hs⟩
  refine ⟨.tuple #[.agg vs.toArray, a.tmps.getD u undef], G, F3, ?_, h2, h1, ⟨[.agg vs.toArray, _], rfl, ⟨vs, rfl, hf⟩, hR _ _ hl2, trivial⟩⟩
  have hxv : a.tmps.getD x undef = p := hR _ _ hx
  rw [Array.getD_eq_getD_getElem?] at hxv
  have h1 := run_loadN (P := P) (t := t) (n := n) (w := w) (b := b) (j := 0) (vs := vs) (by rw [hf.length, hn]) (fun k u e => by rw [cell_of_row w b _ _ _ _ hb]; simpa using e)
  simp only [Instr.loadAt, Instr.sureAddr, Sem.run_bind, Sem.run_pure, Result.andThen_ok] at h1
  simp [results, hr, hxv, hpb, asAddr, h1]
/-- nil, as an own slice without elements. -/
theorem Res_row0 {α : Type} {P : Program} {fn : Func} {post : AV → List HA → Prop} {rs : List (Nat × AV)} {hs : List HA} (e : TypeId) (n : Nat) (f : α → List AV) (k : Res P fn post ⟨rs, .row (.slice none 0 0) e n f [] :: hs⟩) : Res P fn post ⟨rs, hs⟩ := by
  obtain ⟨av, prod, hp, h⟩ := k
  exact ⟨av, prod, hp, fun a w G F hR hI => h a w G F hR ⟨hI.gin, hI.nd, hI.own, [], F, .refl _, ⟨[], rfl, fun _ h => (by cases h), trivial, fun _ h => (by cases h), ⟨by simp, .inl ⟨rfl, rfl⟩⟩⟩, hI.hs⟩⟩
/-- Things put together, and apart. -/
theorem st_pack0 {c : Cx} {rs : List (Nat × AV)} {hs : List HA} {a : Act} {w : World} (st : St c ⟨rs, hs⟩ a w) : St c ⟨rs, .pack [] :: hs⟩ a w := by
  obtain ⟨G, F, hI, r⟩ := st
  exact ⟨G, F, ⟨hI.gin, hI.nd, hI.own, [], F, .refl _, rfl, hI.hs⟩, r⟩
theorem st_snoc {c : Cx} {rs : List (Nat × AV)} {hs r r' l : List HA} {h : HA} {a : Act} {w : World} (hr : Rm hs (.pack l) r) (hr2 : Rm r h r') (st : St c ⟨rs, hs⟩ a w) : St c ⟨rs, .pack (l ++ [h]) :: r'⟩ a w := by
  obtain ⟨G, F, hI, rr⟩ := st
  refine ⟨G, F, ⟨hI.gin, hI.nd, hI.own, ?_⟩, rr⟩
  obtain ⟨A, B, e, hA, hB⟩ := hr.sel hI.hs
  obtain ⟨C, D, e2, hC, hD⟩ := hr2.sel hB
  exact ⟨A ++ C, D, e.trans ((e2.append_left A).trans (by rw [List.append_assoc])), hsP.append hA (show hsP [h] G C w from ⟨C, [], by simp, hC, rfl⟩), hD⟩
theorem WL_snoc {c : Cx} {rs : List (Nat × AV)} {hs r r' l : List HA} {h : HA} {Q : Exit → S → Prop} {ops : Array Oper} {tl : List Oper} (hr : Rm hs (.pack l) r) (hr2 : Rm r h r') (k : WL c ops tl ⟨rs, .pack (l ++ [h]) :: r'⟩ Q) : WL c ops tl ⟨rs, hs⟩ Q := ⟨fun a w st => k.out a w (st_snoc hr hr2 st)⟩
theorem st_exs {c : Cx} {rs : List (Nat × AV)} {hs r : List HA} {σ : Type} {h : σ → List HA} (s : σ) {a : Act} {w : World} (hc : Cut hs (h s) r) (st : St c ⟨rs, hs⟩ a w) : St c ⟨rs, .exs h :: r⟩ a w := by
  obtain ⟨G, F, hI, rr⟩ := st
  refine ⟨G, F, ⟨hI.gin, hI.nd, hI.own, ?_⟩, rr⟩
  obtain ⟨A, B, e, hA, hB⟩ := hsP.split (hc.sel hI.hs)
  exact ⟨A, B, e, ⟨s, hA⟩, hB⟩
theorem W_mkExs {c : Cx} {rs : List (Nat × AV)} {hs r : List HA} {Q : Exit → S → Prop} {x : Code} {σ : Type} {h : σ → List HA} (s : σ) (hc : Cut hs (h s) r) (k : W c x ⟨rs, .exs h :: r⟩ Q) : W c x ⟨rs, hs⟩ Q := ⟨fun a w st => k.out a w (st_exs s hc st)⟩
theorem WL_mkExs {c : Cx} {rs : List (Nat × AV)} {hs r : List HA} {Q : Exit → S → Prop} {ops : Array Oper} {tl : List Oper} {σ : Type} {h : σ → List HA} (s : σ) (hc : Cut hs (h s) r) (k : WL c ops tl ⟨rs, .exs h :: r⟩ Q) : WL c ops tl ⟨rs, hs⟩ Q := ⟨fun a w st => k.out a w (st_exs s hc st)⟩
theorem st_fact {c : Cx} {rs : List (Nat × AV)} {hs : List HA} {p : Prop} (hp : p) {a : Act} {w : World} (st : St c ⟨rs, hs⟩ a w) : St c ⟨rs, .fact p :: hs⟩ a w := by
  obtain ⟨G, F, hI, rr⟩ := st
  exact ⟨G, F, ⟨hI.gin, hI.nd, hI.own, hsP.fact.2 ⟨hp, hI.hs⟩⟩, rr⟩
theorem W_mkFact {c : Cx} {rs : List (Nat × AV)} {hs : List HA} {Q : Exit → S → Prop} {x : Code} {p : Prop} (hp : p) (k : W c x ⟨rs, .fact p :: hs⟩ Q) : W c x ⟨rs, hs⟩ Q := ⟨fun a w st => k.out a w (st_fact hp st)⟩
theorem WL_mkFact {c : Cx} {rs : List (Nat × AV)} {hs : List HA} {Q : Exit → S → Prop} {ops : Array Oper} {tl : List Oper} {p : Prop} (hp : p) (k : WL c ops tl ⟨rs, .fact p :: hs⟩ Q) : WL c ops tl ⟨rs, hs⟩ Q := ⟨fun a w st => k.out a w (st_fact hp st)⟩
theorem wl_storeRx {α : Type} {c : Cx} {rs : List (Nat × AV)} {hs : List HA} {Q : Exit → S → Prop} {ops : Array Oper} {tl : List Oper} {ty : TypeId} {pos : String} {af : Array Edge} {x y : Operand} {t e : TypeId} {n kk j : Nat} {v : Value} {f : α → List AV} {xs : List α} {av : AV} (x' : α) {g : HA → List HA} (hx : opv rs x = some (.rat v n kk j)) (hat : At hs (.row v e n f xs) g) (hy : opv rs y = some av) (hS : TySz c.P t 1) (ho : One av) (hk : kk < xs.length) (hj : j < n) (hf' : f x' = (f xs[kk]).set j av) (k : WL c ops tl ⟨rs, g (.row v e n f (xs.set kk x'))⟩ Q) : WL c ops (⟨none, .store t x y, ty, pos, af, none⟩ :: tl) ⟨rs, hs⟩ Q := wl_at0 (lt_storeR1 hx hy hk hj hf') hat k
theorem wl_storeRNx {α : Type} {c : Cx} {rs : List (Nat × AV)} {hs : List HA} {Q : Exit → S → Prop} {ops : Array Oper} {tl : List Oper} {ty : TypeId} {pos : String} {af : Array Edge} {x y : Operand} {t e : TypeId} {n kk : Nat} {v : Value} {f : α → List AV} {xs : List α} (x' : α) {g : HA → List HA} (hx : opv rs x = some (.rat v n kk 0)) (hat : At hs (.row v e n f xs) g) (hy : opv rs y = some (.agg (f x'))) (hS : TySz c.P t n) (hO : OneF f) (hk : kk < xs.length) (hl : (f x').length = n) (k : WL c ops tl ⟨rs, g (.row v e n f (xs.set kk x'))⟩ Q) : WL c ops (⟨none, .store t x y, ty, pos, af, none⟩ :: tl) ⟨rs, hs⟩ Q := wl_at0 (lt_storeRN hx hy hk hl) hat k
end Go.Proofs.YtihonljdanjfmaaDoor.Sw
/- Slices in new memory. -/
namespace Go.Proofs.YtihonljdanjfmaaDoor.Sw
open Go.RowKit Go Go.Shelf Go.Proofs
set_option maxRecDepth 20000 in
theorem cloneI_con (xs : List Int) (hl : xs.length ≤ 100000) : Con Tryd.prog 116 [.sl 1 iC xs] [] (Tok 3 1 iC xs) := by
  refine con_of Tryd.func116 rfl (enters_of Tryd.func116 (by kernel_rfl) rfl) rfl ?_; intro n w0 F0 G0
  (refine goSt ?_; (repeat (refine goAl ?_; intro p hp; refine goSt ?_)))
  apply wl_eqlNil
  · exact rfl
  · exact inferInstance
  · exact rfl
  intro b hb
  (refine goSt ?_; (repeat (refine goAl ?_; intro p hp; refine goSt ?_)))
  refine w_cond rfl (fun h => ?_) (fun h => ?_)
  · obtain rfl := hb h
    (refine goSt ?_; (repeat (refine goAl ?_; intro p hp; refine goSt ?_)))
    refine Res_row0 3 1 iC ?_
    (apply resK1; exact rfl; exact rfl; exact ⟨_, rfl, rfl⟩; exact goCutl)
  · (refine goSt ?_; (repeat (refine goAl ?_; intro p hp; refine goSt ?_)))
    (apply wl_lit iC; exact inferInstance; exact inferInstance; exact inferInstance; (repeat (first | exact Elems.nil | (apply Elems.cons; exact rfl; exact inferInstance; exact rfl))); exact rfl; (first | exact (of_decide_eq_true rfl) | decide | (simp; done) | (simp; omega)); exact rfl)
    intro v0
    (refine goSt ?_; (repeat (refine goAl ?_; intro p hp; refine goSt ?_)))
    (first | (apply wl_append; exact rfl; exact rfl; exact goRm; exact inferInstance; exact inferInstance; (first | omega | (simp; omega)); exact rfl) | (apply wl_appendN; exact rfl; exact rfl; exact inferInstance; exact inferInstance; (first | omega | (simp; omega)); exact rfl))
    intro v1
    rw [List.nil_append]
    (refine goSt ?_; (repeat (refine goAl ?_; intro p hp; refine goSt ?_)))
    (apply resK1; exact rfl; exact rfl; exact ⟨_, rfl, rfl⟩; exact goCutl)
set_option maxRecDepth 20000 in
theorem cloneQ_con (xs : List Qu) (hl : xs.length ≤ 100000) : Con Tryd.prog 117 [.sl 2 quC xs] [] (Tok 55 2 quC xs) := by
  refine con_of Tryd.func117 rfl (enters_of Tryd.func117 (by kernel_rfl) rfl) rfl ?_; intro n w0 F0 G0
  (refine goSt ?_; (repeat (refine goAl ?_; intro p hp; refine goSt ?_)))
  apply wl_eqlNil
  · exact rfl
  · exact inferInstance
  · exact rfl
  intro b hb
  (refine goSt ?_; (repeat (refine goAl ?_; intro p hp; refine goSt ?_)))
  refine w_cond rfl (fun h => ?_) (fun h => ?_)
  · obtain rfl := hb h
    (refine goSt ?_; (repeat (refine goAl ?_; intro p hp; refine goSt ?_)))
    refine Res_row0 55 2 quC ?_
    (apply resK1; exact rfl; exact rfl; exact ⟨_, rfl, rfl⟩; exact goCutl)
  · (refine goSt ?_; (repeat (refine goAl ?_; intro p hp; refine goSt ?_)))
    (apply wl_lit quC; exact inferInstance; exact inferInstance; exact inferInstance; (repeat (first | exact Elems.nil | (apply Elems.cons; exact rfl; exact inferInstance; exact rfl))); exact rfl; (first | exact (of_decide_eq_true rfl) | decide | (simp; done) | (simp; omega)); exact rfl)
    intro v0
    (refine goSt ?_; (repeat (refine goAl ?_; intro p hp; refine goSt ?_)))
    (first | (apply wl_append; exact rfl; exact rfl; exact goRm; exact inferInstance; exact inferInstance; (first | omega | (simp; omega)); exact rfl) | (apply wl_appendN; exact rfl; exact rfl; exact inferInstance; exact inferInstance; (first | omega | (simp; omega)); exact rfl))
    intro v1
    rw [List.nil_append]
    (refine goSt ?_; (repeat (refine goAl ?_; intro p hp; refine goSt ?_)))
    (apply resK1; exact rfl; exact rfl; exact ⟨_, rfl, rfl⟩; exact goCutl)
set_option maxRecDepth 20000 in
theorem cloneB_con (xs : List Bil) (hl : xs.length ≤ 100000) : Con Tryd.prog 78 [.sl 4 biC xs] [] (Tok 66 4 biC xs) := by
  refine con_of Tryd.func78 rfl (enters_of Tryd.func78 (by kernel_rfl) rfl) rfl ?_; intro n w0 F0 G0
  (refine goSt ?_; (repeat (refine goAl ?_; intro p hp; refine goSt ?_)))
  apply wl_eqlNil
  · exact rfl
  · exact inferInstance
  · exact rfl
  intro b hb
  (refine goSt ?_; (repeat (refine goAl ?_; intro p hp; refine goSt ?_)))
  refine w_cond rfl (fun h => ?_) (fun h => ?_)
  · obtain rfl := hb h
    (refine goSt ?_; (repeat (refine goAl ?_; intro p hp; refine goSt ?_)))
    refine Res_row0 66 4 biC ?_
    (apply resK1; exact rfl; exact rfl; exact ⟨_, rfl, rfl⟩; exact goCutl)
  · (refine goSt ?_; (repeat (refine goAl ?_; intro p hp; refine goSt ?_)))
    (apply wl_lit biC; exact inferInstance; exact inferInstance; exact inferInstance; (repeat (first | exact Elems.nil | (apply Elems.cons; exact rfl; exact inferInstance; exact rfl))); exact rfl; (first | exact (of_decide_eq_true rfl) | decide | (simp; done) | (simp; omega)); exact rfl)
    intro v0
    (refine goSt ?_; (repeat (refine goAl ?_; intro p hp; refine goSt ?_)))
    (first | (apply wl_append; exact rfl; exact rfl; exact goRm; exact inferInstance; exact inferInstance; (first | omega | (simp; omega)); exact rfl) | (apply wl_appendN; exact rfl; exact rfl; exact inferInstance; exact inferInstance; (first | omega | (simp; omega)); exact rfl))
    intro v1
    rw [List.nil_append]
    (refine goSt ?_; (repeat (refine goAl ?_; intro p hp; refine goSt ?_)))
    (apply resK1; exact rfl; exact rfl; exact ⟨_, rfl, rfl⟩; exact goCutl)
set_option maxRecDepth 20000 in
theorem cloneP_con (xs : List Pay) (hl : xs.length ≤ 100000) : Con Tryd.prog 118 [.sl 3 payC xs] [] (Tok 53 3 payC xs) := by
  refine con_of Tryd.func118 rfl (enters_of Tryd.func118 (by kernel_rfl) rfl) rfl ?_; intro n w0 F0 G0
  (refine goSt ?_; (repeat (refine goAl ?_; intro p hp; refine goSt ?_)))
  apply wl_eqlNil
  · exact rfl
  · exact inferInstance
  · exact rfl
  intro b hb
  (refine goSt ?_; (repeat (refine goAl ?_; intro p hp; refine goSt ?_)))
  refine w_cond rfl (fun h => ?_) (fun h => ?_)
  · obtain rfl := hb h
    (refine goSt ?_; (repeat (refine goAl ?_; intro p hp; refine goSt ?_)))
    refine Res_row0 53 3 payC ?_
    (apply resK1; exact rfl; exact rfl; exact ⟨_, rfl, rfl⟩; exact goCutl)
  · (refine goSt ?_; (repeat (refine goAl ?_; intro p hp; refine goSt ?_)))
    (apply wl_lit payC; exact inferInstance; exact inferInstance; exact inferInstance; (repeat (first | exact Elems.nil | (apply Elems.cons; exact rfl; exact inferInstance; exact rfl))); exact rfl; (first | exact (of_decide_eq_true rfl) | decide | (simp; done) | (simp; omega)); exact rfl)
    intro v0
    (refine goSt ?_; (repeat (refine goAl ?_; intro p hp; refine goSt ?_)))
    (first | (apply wl_append; exact rfl; exact rfl; exact goRm; exact inferInstance; exact inferInstance; (first | omega | (simp; omega)); exact rfl) | (apply wl_appendN; exact rfl; exact rfl; exact inferInstance; exact inferInstance; (first | omega | (simp; omega)); exact rfl))
    intro v1
    rw [List.nil_append]
    (refine goSt ?_; (repeat (refine goAl ?_; intro p hp; refine goSt ?_)))
    (apply resK1; exact rfl; exact rfl; exact ⟨_, rfl, rfl⟩; exact goCutl)
set_option maxRecDepth 20000 in
theorem cloneS_con (xs : List Stk) (hl : xs.length ≤ 100000) : Con Tryd.prog 119 [.sl 2 stC xs] [] (Tok 113 2 stC xs) := by
  refine con_of Tryd.func119 rfl (enters_of Tryd.func119 (by kernel_rfl) rfl) rfl ?_; intro n w0 F0 G0
  (refine goSt ?_; (repeat (refine goAl ?_; intro p hp; refine goSt ?_)))
  apply wl_eqlNil
  · exact rfl
  · exact inferInstance
  · exact rfl
  intro b hb
  (refine goSt ?_; (repeat (refine goAl ?_; intro p hp; refine goSt ?_)))
  refine w_cond rfl (fun h => ?_) (fun h => ?_)
  · obtain rfl := hb h
    (refine goSt ?_; (repeat (refine goAl ?_; intro p hp; refine goSt ?_)))
    refine Res_row0 113 2 stC ?_
    (apply resK1; exact rfl; exact rfl; exact ⟨_, rfl, rfl⟩; exact goCutl)
  · (refine goSt ?_; (repeat (refine goAl ?_; intro p hp; refine goSt ?_)))
    (apply wl_lit stC; exact inferInstance; exact inferInstance; exact inferInstance; (repeat (first | exact Elems.nil | (apply Elems.cons; exact rfl; exact inferInstance; exact rfl))); exact rfl; (first | exact (of_decide_eq_true rfl) | decide | (simp; done) | (simp; omega)); exact rfl)
    intro v0
    (refine goSt ?_; (repeat (refine goAl ?_; intro p hp; refine goSt ?_)))
    (first | (apply wl_append; exact rfl; exact rfl; exact goRm; exact inferInstance; exact inferInstance; (first | omega | (simp; omega)); exact rfl) | (apply wl_appendN; exact rfl; exact rfl; exact inferInstance; exact inferInstance; (first | omega | (simp; omega)); exact rfl))
    intro v1
    rw [List.nil_append]
    (refine goSt ?_; (repeat (refine goAl ?_; intro p hp; refine goSt ?_)))
    (apply resK1; exact rfl; exact rfl; exact ⟨_, rfl, rfl⟩; exact goCutl)
end Go.Proofs.YtihonljdanjfmaaDoor.Sw
/- Floors in own memory; 'copied'. -/
namespace Go.Proofs.YtihonljdanjfmaaDoor.Sw
open Go.RowKit Go Go.Shelf Go.Proofs
/-- A bill, its stakes frozen or by a value of the call's own. -/
def mbC (p : Bil × Option Value) : List AV := [.val (.int .i64 p.1.no), .val (.int .i64 p.1.py), .val (.int .i64 p.1.pe), match p.2 with | none => .sl 2 stC p.1.st | some u => .val u]
def mixL : List Bil → List Value → List (Bil × Option Value)
  | [], _ => []
  | x :: t, [] => (x, none) :: mixL t []
  | x :: t, u :: us => (x, some u) :: mixL t us
def stkR : List Bil → List Value → List HA
  | x :: t, u :: us => .row u 113 2 stC x.st :: stkR t us
  | _, _ => []
theorem mixL_nil : ∀ (l : List Bil), mixL l [] = l.map fun x => (x, none)
  | [] => rfl
  | x :: t => by rw [mixL, mixL_nil t]; rfl
theorem mixL_len : ∀ (l : List Bil) (us : List Value), (mixL l us).length = l.length
  | [], _ => rfl
  | x :: t, [] => by rw [mixL, List.length_cons, mixL_len t, List.length_cons]
  | x :: t, u :: us => by rw [mixL, List.length_cons, mixL_len t, List.length_cons]
theorem mixL_at : ∀ (l : List Bil) (us : List Value) (h : us.length < l.length), (mixL l us)[us.length]? = some (l[us.length], none)
  | x :: t, [], h => by rw [mixL]; rfl
  | x :: t, u :: us, h => by
    simp only [mixL, List.length_cons, List.getElem?_cons_succ, List.getElem_cons_succ]
    exact mixL_at t us (by simpa using h)
  | [], us, h => by simp at h
theorem mixL_set : ∀ (l : List Bil) (us : List Value) (h : us.length < l.length) (u : Value), (mixL l us).set us.length (l[us.length], some u) = mixL l (us ++ [u])
  | x :: t, [], h, u => rfl
  | x :: t, y :: us, h, u => by
    simp only [mixL, List.cons_append, List.length_cons, List.set_cons_succ, List.getElem_cons_succ]
    rw [mixL_set t us (by simpa using h) u]
  | [], us, h, u => by simp at h
theorem stkR_snoc : ∀ (l : List Bil) (us : List Value) (h : us.length < l.length) (u : Value), stkR l (us ++ [u]) = stkR l us ++ [.row u 113 2 stC l[us.length].st]
  | x :: t, [], h, u => by cases t <;> rfl
  | x :: t, y :: us, h, u => by
    simp only [stkR, List.cons_append, List.length_cons, List.getElem_cons_succ]
    rw [stkR_snoc t us (by simpa using h) u]
  | [], us, h, u => by simp at h
/-- Floors in memory of the call's own. -/
def floOwn (vi vq vb vp : Value) (f : Flo) : HA := .exs fun us : List Value => [.fact (us.length = f.bs.length), .row vi 3 1 iC f.ids, .row vq 55 2 quC f.qs, .row vb 66 4 mbC (mixL f.bs us), .row vp 53 3 payC f.ps, .pack (stkR f.bs us)]
theorem mixL_full : ∀ (l : List Bil) (us : List Value) (i : Nat) (h1 : i < (mixL l us).length) (h2 : i < l.length), ((mixL l us)[i]).1 = l[i] ∧ ∀ u, us[i]? = some u → ((mixL l us)[i]).2 = some u
  | [], _, i, _, h2 => by simp at h2
  | x :: t, [], 0, _, _ => ⟨rfl, fun u h => by simp at h⟩
  | x :: t, u :: us, 0, _, _ => ⟨rfl, fun u' h => by simpa [mixL] using h⟩
  | x :: t, [], i + 1, h1, h2 => by
    simp only [mixL, List.getElem_cons_succ]
    exact ⟨(mixL_full t [] i _ _).1, fun u h => by simp at h⟩
  | x :: t, u :: us, i + 1, h1, h2 => by
    have k := mixL_full t us i (by simpa [mixL] using h1) (by simpa using h2)
    simp only [mixL, List.getElem_cons_succ]
    exact ⟨k.1, fun u' h => k.2 u' (by simpa using h)⟩
theorem stk_view {G : Nat → Option Obj} {F : List Nat} {w : World} (hle : Gle G (gall G F w)) : ∀ (l : List Bil) (us : List Value) (F1 : List Nat), hsP (stkR l us) G F1 w → (∀ b ∈ F1, b ∈ F) → ∀ i (h : i < l.length) u, us[i]? = some u → (AV.sl 2 stC l[i].st).P (gall G F w) u
  | [], _, _, _, _, i, h, _, _ => by simp at h
  | x :: t, [], _, _, _, i, _, u, e => by simp at e
  | x :: t, y :: us, F1, ⟨A, B, ep, hA, hB⟩, hs, 0, _, u, e => by
    simp at e; subst e
    exact row_view1 hA (fun b hb => hs b (ep.mem_iff.2 (by simp [hb]))) hle
  | x :: t, y :: us, F1, ⟨A, B, ep, hA, hB⟩, hs, i + 1, h, u, e => by
    exact stk_view hle t us B hB (fun b hb => hs b (ep.mem_iff.2 (by simp [hb]))) i (by simpa using h) u (by simpa using e)
theorem flo_thaw (vi vq vb vp : Value) (f : Flo) : Thaw (floOwn vi vq vb vp f) (.agg [.val vi, .val vq, .val vb, .val vp]) (.agg (flC f)) := ⟨fun G F w h hle v hv => by
  obtain ⟨us, h⟩ := h
  obtain ⟨hlen, h⟩ := hsP.fact.1 h
  obtain ⟨A1, R1, e1, a1, A2, R2, e2, a2, A3, R3, e3, a3, A4, R4, e4, a4, A5, R5, e5, a5, hn⟩ := h
  have hR5 : R5 = [] := hn
  subst hR5
  have m1 : ∀ b ∈ A1, b ∈ F := fun b hb => e1.mem_iff.2 (by simp [hb])
  have n1 : ∀ b ∈ R1, b ∈ F := fun b hb => e1.mem_iff.2 (by simp [hb])
  have m2 : ∀ b ∈ A2, b ∈ F := fun b hb => n1 b (e2.mem_iff.2 (by simp [hb]))
  have n2 : ∀ b ∈ R2, b ∈ F := fun b hb => n1 b (e2.mem_iff.2 (by simp [hb]))
  have m3 : ∀ b ∈ A3, b ∈ F := fun b hb => n2 b (e3.mem_iff.2 (by simp [hb]))
  have n3 : ∀ b ∈ R3, b ∈ F := fun b hb => n2 b (e3.mem_iff.2 (by simp [hb]))
  have m4 : ∀ b ∈ A4, b ∈ F := fun b hb => n3 b (e4.mem_iff.2 (by simp [hb]))
  have n4 : ∀ b ∈ R4, b ∈ F := fun b hb => n3 b (e4.mem_iff.2 (by simp [hb]))
  have m5 : ∀ b ∈ A5, b ∈ F := fun b hb => n4 b (e5.mem_iff.2 (by simp [hb]))
  obtain ⟨vs, rfl, hf⟩ := hv
  match vs, hf with
  | [x0, x1, x2, x3], ⟨h0, h1, h2, h3, _⟩ =>
    have h0' : x0 = vi := h0
    have h1' : x1 = vq := h1
    have h2' : x2 = vb := h2
    have h3' : x3 = vp := h3
    subst h0' h1' h2' h3'
    refine ⟨_, rfl, show Fits _ [_, _, _, _] _ from ⟨row_view1 a1 m1 hle, row_view1 a2 m2 hle, ?_, row_view1 a4 m4 hle, trivial⟩⟩
    refine row_view a3 m3 (by rw [mixL_len]) fun i h1 h2 j av' ej => ?_
    obtain ⟨k1, k2⟩ := mixL_full f.bs us i h1 h2
    have hi : i < us.length := by omega
    have k3 := k2 us[i] (List.getElem?_eq_getElem hi)
    have hst := stk_view hle f.bs us A5 a5 m5 i h2 us[i] (List.getElem?_eq_getElem hi)
    match j, ej with
    | 0, ej => simp only [biC, List.getElem?_cons_zero, Option.some.injEq] at ej; subst ej; exact ⟨_, rfl, fun u hu => by rw [k1] at hu; exact hu⟩
    | 1, ej => simp only [biC, List.getElem?_cons_succ, List.getElem?_cons_zero, Option.some.injEq] at ej; subst ej; exact ⟨_, rfl, fun u hu => by rw [k1] at hu; exact hu⟩
    | 2, ej => simp only [biC, List.getElem?_cons_succ, List.getElem?_cons_zero, Option.some.injEq] at ej; subst ej; exact ⟨_, rfl, fun u hu => by rw [k1] at hu; exact hu⟩
    | 3, ej =>
      simp only [biC, List.getElem?_cons_succ, List.getElem?_cons_zero, Option.some.injEq] at ej; subst ej
      refine ⟨_, rfl, fun u hu => ?_⟩
      rw [k3] at hu
      have hu' : u = us[i] := hu
      rw [hu']; exact hst
    | j + 4, ej => simp [biC] at ej⟩
end Go.Proofs.YtihonljdanjfmaaDoor.Sw
/- The program's 'copied'. -/
namespace Go.Proofs.YtihonljdanjfmaaDoor.Sw
open Go.RowKit Go Go.Shelf Go.Proofs
/-- What 'copied' hands back: floors in memory of the call's own. -/
def CopP (f : Flo) : AV → List HA → Prop := fun x y => ∃ vi vq vb vp, (One (.val vi) ∧ One (.val vq) ∧ One (.val vb) ∧ One (.val vp)) ∧ x = .agg [.val vi, .val vq, .val vb, .val vp] ∧ y = [floOwn vi vq vb vp f]
set_option maxRecDepth 20000 in
set_option maxHeartbeats 4000000 in
theorem copied_con (f : Flo) (hS : Sml f) : Con Tryd.prog 72 [.agg (flC f)] [] (CopP f) := by
  have hidsl := hS.ids
  have hqsl := hS.qs
  have hbsl := hS.bs
  have hpsl := hS.ps
  refine con_of Tryd.func72 rfl (enters_of Tryd.func72 (by kernel_rfl) rfl) rfl ?_; intro n w0 F0 G0
  (refine goSt ?_; (repeat (refine goAl ?_; intro p hp; refine goSt ?_)))
  rename_i pf hpf
  refine W_run 13 [4, 5, 6, 7, 8, 9, 10, 11, 12, 13, 14, 15, 16] [0, 1, 2, 3, 4, 5, 6, 7, 8, 9, 10, 11, 12] Cut.nil rfl goFlt mixedS (by kernel_rfl) rfl ?_
  refine rpv [] [] ?_
  refine rpv [0] [] ?_
  refine Run.tok [1] [] rfl (fun vs => by apply ltr_pk; exact goPk; (refine ltr ?_; refine lt_call ?_ (cloneI_con f.ids (by omega)); exact rfl)) goApp ?_
  refine rpv [] [] ?_
  refine rpv [3] [] ?_
  refine Run.tok [4] [] rfl (fun vs => by apply ltr_pk; exact goPk; (refine ltr ?_; refine lt_call ?_ (cloneQ_con f.qs (by omega)); exact rfl)) goApp ?_
  refine rpv [] [] ?_
  refine rpv [6] [] ?_
  refine Run.tok [7] [] rfl (fun vs => by apply ltr_pk; exact goPk; (refine ltr ?_; refine lt_call ?_ (cloneB_con f.bs (by omega)); exact rfl)) goApp ?_
  refine rpv [] [] ?_
  refine rpv [9] [] ?_
  refine Run.tok [10] [] rfl (fun vs => by apply ltr_pk; exact goPk; (refine ltr ?_; refine lt_call ?_ (cloneP_con f.ps (by omega)); exact rfl)) goApp ?_
  refine rpv [] [] ?_
  refine ⟨⟨by kernel_rfl, by kernel_rfl⟩, fun vs => ?_⟩
  apply WL_auto [2, 5, 8, 11, 12]
  · exact goPk
  · exact goNrm
  · kernel_rfl
  · kernel_rfl
  generalize vs 2 = vi
  generalize vs 5 = vq
  generalize vs 8 = vb
  generalize vs 11 = vp
  refine WL_one (v := vi) (by repeat (first | exact At.here | apply At.there)) (fun one1 => ?_)
  refine WL_one (v := vq) (by repeat (first | exact At.here | apply At.there)) (fun one2 => ?_)
  refine WL_one (v := vb) (by repeat (first | exact At.here | apply At.there)) (fun one3 => ?_)
  refine WL_one (v := vp) (by repeat (first | exact At.here | apply At.there)) (fun one4 => ?_)
  (refine goSt ?_; (repeat (refine goAl ?_; intro p hp; refine goSt ?_)))
  have hrow : HA.row vb 66 4 biC f.bs = HA.row vb 66 4 mbC (mixL f.bs []) := by rw [mixL_nil, row_map]; rfl
  rw [hrow]
  refine W_loopJ (fun (us : List Value) => ⟨[(1, .val pf), (2, .val p), (22, .val (.int .i64 f.bs.length)), (23, .val (.int .i64 us.length))], [.pack (stkR f.bs us), .row vi 3 1 iC f.ids, .row vq 55 2 quC f.qs, .row vb 66 4 mbC (mixL f.bs us), .row vp 53 3 payC f.ps, .box pf [.val vi, .val vq, .val vb, .val vp] 27, .box p [.val (.slice none 0 0), .val (.slice none 0 0), .val (.slice none 0 0), .val (.slice none 0 0)] 27]⟩)
    (fun us => us.length ≤ f.bs.length) (fun us => f.bs.length - us.length) [] (fun _ _ st => st_sub2 (st_pack0 st) (by exact goSubr) (by cases f.bs <;> exact goSubp)) (Nat.zero_le _) ?_
  intro us hus
  have hml := mixL_len f.bs us
  (refine goSt ?_; (repeat (refine goAl ?_; intro p hp; refine goSt ?_)))
  refine w_cond rfl (fun hlt => ?_) (fun hlt => ?_)
  · have hlt' : us.length < f.bs.length := by simpa using hlt
    have hm := mixL_at f.bs us hlt'
    have hix : us.length < (mixL f.bs us).length := by omega
    have hget : (mixL f.bs us)[us.length] = (f.bs[us.length], none) := by
      rw [List.getElem?_eq_getElem hix] at hm; exact Option.some.inj hm
    have hsl := hS.st _ (List.getElem_mem hlt')
    (refine goSt ?_; (repeat (refine goAl ?_; intro p hp; refine goSt ?_)))
    refine W_run 10 [26, 27, 28, 29, 30, 31, 32, 33, 34, 35] [0, 1, 2, 3, 4, 5, 6, 7, 8, 9] Cut.nil rfl goFlt mixedS (by kernel_rfl) rfl ?_
    refine rpv [] [] ?_
    refine rpv [0] [] ?_
    refine rpv [] [] ?_
    refine rpv [] [] ?_
    refine rpv [3] [] ?_
    refine rpv [] [] ?_
    refine rpv [4, 5] [] ?_
    refine rpv [6] [] ?_
    refine rpv [7] [] ?_
    refine Run.tok [8] [] rfl (fun vs => by apply ltr_pk; exact goPk; (refine ltr ?_; refine lt_call ?_ (cloneS_con f.bs[us.length].st (by omega)); exact rfl)) goApp ?_
    refine ⟨⟨by kernel_rfl, by kernel_rfl⟩, fun vs => ?_⟩
    apply WL_auto [1, 2, 9]
    · exact goPk
    · exact goNrm
    · kernel_rfl
    · kernel_rfl
    generalize vs 9 = u
    refine WL_one (v := u) (by repeat (first | exact At.here | apply At.there)) (fun oneu => ?_)
    (refine goSt ?_; (repeat (refine goAl ?_; intro p hp; refine goSt ?_)))
    apply wl_storeRx (f.bs[us.length], some u)
    · exact rfl
    · exact goAtm
    · exact rfl
    · exact inferInstance
    · exact inferInstance
    case hk => exact hix
    · decide
    · rw [hget]; rfl
    rw [mixL_set f.bs us hlt' u]
    apply WL_snoc (l := stkR f.bs us) (h := HA.row u 113 2 stC f.bs[us.length].st)
    · exact goRm
    · exact goRm
    rw [← stkR_snoc f.bs us hlt' u]
    (refine goSt ?_; (repeat (refine goAl ?_; intro p hp; refine goSt ?_)))
    refine ⟨us ++ [u], fun _ _ st => st_sub2 st ?_ ?_, ?_, ?_⟩
    · rw [List.length_append, List.length_singleton]; exact goSubr
    · exact goSubp
    · simp; omega
    · simp; omega
  · have hkk : us.length = f.bs.length := by simp at hlt; omega
    refine W_mkFact hkk ?_
    refine W_mkExs (h := fun us : List Value => [.fact (us.length = f.bs.length), .row vi 3 1 iC f.ids, .row vq 55 2 quC f.qs, .row vb 66 4 mbC (mixL f.bs us), .row vp 53 3 payC f.ps, .pack (stkR f.bs us)]) us (by exact goCutl) ?_
    (refine goSt ?_; (repeat (refine goAl ?_; intro p hp; refine goSt ?_)))
    apply resKN
    · exact rfl
    · exact rfl
    · exact goAtm
    · exact inferInstance
    · exact rfl
    · exact ⟨vi, vq, vb, vp, ⟨one1, one2, one3, one4⟩, rfl, rfl⟩
    · exact goCutl
end Go.Proofs.YtihonljdanjfmaaDoor.Sw
namespace Go.Proofs.YtihonljdanjfmaaDoor.Sw
open Go.RowKit Go Go.Shelf Go.Proofs
/-- x in its place behind all that it isn't before, from the end on. -/
def insR {α : Type} (lt : α → α → Bool) (x : α) : List α → List α
  | [] => [x]
  | a :: t => if lt x a = true then a :: insR lt x t else x :: a :: t
def insE {α : Type} (lt : α → α → Bool) (l : List α) (x : α) : List α := (insR lt x l.reverse).reverse
theorem insE_nil {α : Type} (lt : α → α → Bool) (x : α) : insE lt [] x = [x] := rfl
theorem insE_yes {α : Type} {lt : α → α → Bool} {l : List α} {a x : α} (h : lt x a = true) : insE lt (l ++ [a]) x = insE lt l x ++ [a] := by
  unfold insE; rw [List.reverse_append, List.reverse_singleton, List.singleton_append, insR, if_pos h, List.reverse_cons]
theorem insE_no {α : Type} {lt : α → α → Bool} {l : List α} {a x : α} (h : lt x a = false) : insE lt (l ++ [a]) x = l ++ [a] ++ [x] := by
  unfold insE; rw [List.reverse_append, List.reverse_singleton, List.singleton_append, insR, if_neg (by rw [h]; simp)]; simp
def srt {α : Type} (lt : α → α → Bool) (l : List α) : List α := l.foldl (insE lt) []
theorem srt_snoc {α : Type} (lt : α → α → Bool) (l : List α) (x : α) : srt lt (l ++ [x]) = insE lt (srt lt l) x := by unfold srt; rw [List.foldl_append]; rfl
theorem insR_len {α : Type} (lt : α → α → Bool) (x : α) : ∀ l : List α, (insR lt x l).length = l.length + 1
  | [] => rfl
  | a :: t => by rw [insR]; split <;> simp [insR_len lt x t]
theorem insE_len {α : Type} (lt : α → α → Bool) (l : List α) (x : α) : (insE lt l x).length = l.length + 1 := by unfold insE; rw [List.length_reverse, insR_len]; simp
theorem srt_len {α : Type} (lt : α → α → Bool) (l : List α) : (srt lt l).length = l.length := by
  have : ∀ (l acc : List α), (l.foldl (insE lt) acc).length = acc.length + l.length := by
    intro l
    induction l with
    | nil => intro acc; simp
    | cons x t ih => intro acc; rw [List.foldl_cons, ih, insE_len, List.length_cons]; omega
  unfold srt; rw [this]; simp
/-- What lies while x sinks: it stands at j, what was before it from there on is moved by one. -/
def snk {α : Type} (pre suf : List α) (x : α) (j : Nat) : List α := pre.take j ++ x :: (pre.drop j ++ suf)
theorem snk_len {α : Type} {pre suf : List α} {x : α} {j : Nat} (h : j ≤ pre.length) : (snk pre suf x j).length = pre.length + 1 + suf.length := by
  unfold snk; simp only [List.length_append, List.length_take, List.length_cons, List.length_drop]; omega
theorem snk_at {α : Type} {pre suf : List α} {x : α} {j : Nat} (h : j ≤ pre.length) : (snk pre suf x j)[j]? = some x := by
  unfold snk
  rw [List.getElem?_append_right (by rw [List.length_take]; omega), List.length_take, Nat.min_eq_left h, Nat.sub_self]; rfl
theorem snk_before {α : Type} {pre suf : List α} {x : α} {j : Nat} (h : j + 1 ≤ pre.length) : (snk pre suf x (j + 1))[j]? = some pre[j] := by
  unfold snk
  rw [List.getElem?_append_left (by rw [List.length_take]; omega), List.getElem?_take, if_pos (by omega), List.getElem?_eq_getElem (by omega)]
theorem snk_swap {α : Type} {pre suf : List α} {x : α} {j : Nat} (h : j + 1 ≤ pre.length) : ((snk pre suf x (j + 1)).set (j + 1) pre[j]).set j x = snk pre suf x j := by
  unfold snk
  have e : pre.take (j + 1) = pre.take j ++ [pre[j]] := List.take_succ_eq_append_getElem (by omega)
  have l1 : (pre.take j).length = j := by rw [List.length_take]; omega
  rw [e, List.append_assoc, List.singleton_append, List.set_append_right _ _ (by omega), l1, show j + 1 - j = 1 by omega, List.set_cons_succ, List.set_cons_zero, List.set_append_right _ _ (by omega), l1, Nat.sub_self, List.set_cons_zero, List.drop_eq_getElem_cons (show j < pre.length by omega), List.cons_append]
theorem snk_full {α : Type} (pre suf : List α) (x : α) : snk pre suf x pre.length = pre ++ x :: suf := by unfold snk; simp
end Go.Proofs.YtihonljdanjfmaaDoor.Sw
namespace Go.Proofs.YtihonljdanjfmaaDoor.Sw
open Go.RowKit Go
/-- A block of so many cells: the first ones, and whatever behind them. -/
def HA.cells (b : Nat) (e : TypeId) (cs : List AV) (tot : Nat) : HA :=
  ⟨fun G F w => ∃ vs rest : List Value, F = [b] ∧ Fits G cs vs ∧ (∀ u ∈ vs, u.oneCell' = true) ∧ w.heap[b]? = some (.cells (vs ++ rest).toArray e (0, 0)) ∧ (vs ++ rest).length = tot,
   fun h ⟨vs, rest, e1, e2, e3⟩ => ⟨vs, rest, e1, e2.mono h, e3⟩,
   fun h ⟨vs, rest, e1, e2, e3, e4, e5⟩ => ⟨vs, rest, e1, e2, e3, (h b (by rw [e1]; simp)).trans e4, e5⟩⟩
theorem row_open {α : Type} {v : Value} {e : TypeId} {n : Nat} {f : α → List AV} {xs : List α} (hx : xs ≠ []) {G : Nat → Option Obj} {F : List Nat} {w : World} (h : (HA.row v e n f xs).P G F w) : ∃ b cap, v = .slice (some ⟨b, 0, none⟩) xs.length cap ∧ xs.length ≤ cap ∧ cap ≤ maxLen ∧ (∀ x ∈ xs, (f x).length = n) ∧ (HA.cells b e (xs.flatMap f) (cap * n)).P G F w := by
  rcases row_val h with ⟨_, rfl⟩ | ⟨b, cap, cur, vs, rfl, hnc, hF1, hb, hcs, hl, hf, htake, hone, hcm⟩
  · exact absurd rfl hx
  · refine ⟨b, cap, rfl, hnc, hcm, hl, vs, cur.toList.drop (xs.length * n), hF1, hf, hone, ?_, ?_⟩
    · rw [← htake, List.take_append_drop]; simpa using hb
    · rw [← htake, List.take_append_drop]; simpa using hcs
theorem row_shut {α : Type} {e : TypeId} {n : Nat} {f : α → List AV} {xs : List α} {b cap : Nat} (hl : ∀ x ∈ xs, (f x).length = n) (hnc : xs.length ≤ cap) (hcm : cap ≤ maxLen) {G : Nat → Option Obj} {F : List Nat} {w : World} (h : (HA.cells b e (xs.flatMap f) (cap * n)).P G F w) : (HA.row (.slice (some ⟨b, 0, none⟩) xs.length cap) e n f xs).P G F w := by
  obtain ⟨vs, rest, hF, hf, hone, hb, hs⟩ := h
  have hvl : vs.length = xs.length * n := by rw [hf.length, lenL hl]
  exact ⟨vs, by rw [hF]; rfl, hl, hf, hone, hvl, .inr ⟨b, cap, _, rfl, Nat.zero_le _, hb, hnc, hcm, by simpa using hs, by simp [← hvl]⟩⟩
theorem WL_openRow {α : Type} {c : Cx} {rs : List (Nat × AV)} {hs r : List HA} {Q : Exit → S → Prop} {ops : Array Oper} {l : List Oper} {v : Value} {e : TypeId} {n : Nat} {f : α → List AV} {xs : List α} (hx : xs ≠ []) (hr : Rm hs (.row v e n f xs) r)
    (k : ∀ b cap, v = .slice (some ⟨b, 0, none⟩) xs.length cap → xs.length ≤ cap → cap ≤ maxLen → (∀ x ∈ xs, (f x).length = n) → WL c ops l ⟨rs, .cells b e (xs.flatMap f) (cap * n) :: r⟩ Q) : WL c ops l ⟨rs, hs⟩ Q := ⟨fun a w st => by
  obtain ⟨G, F, hI, rr⟩ := st
  obtain ⟨F1, F2, ep, h1, h2⟩ := hr.sel hI.hs
  obtain ⟨b, cap, e1, e2, e3, e4, e5⟩ := row_open hx h1
  exact (k b cap e1 e2 e3 e4).out a w ⟨G, F, ⟨hI.gin, hI.nd, hI.own, F1, F2, ep, e5, h2⟩, rr⟩⟩
theorem WL_shutRow {α : Type} {c : Cx} {rs : List (Nat × AV)} {hs r : List HA} {Q : Exit → S → Prop} {ops : Array Oper} {l : List Oper} {b cap : Nat} {e : TypeId} {n : Nat} {f : α → List AV} (xs : List α) (hl : ∀ x ∈ xs, (f x).length = n) (hnc : xs.length ≤ cap) (hcm : cap ≤ maxLen) (hr : Rm hs (.cells b e (xs.flatMap f) (cap * n)) r) (k : WL c ops l ⟨rs, .row (.slice (some ⟨b, 0, none⟩) xs.length cap) e n f xs :: r⟩ Q) : WL c ops l ⟨rs, hs⟩ Q := ⟨fun a w st => by
  obtain ⟨G, F, hI, rr⟩ := st
  obtain ⟨F1, F2, ep, h1, h2⟩ := hr.sel hI.hs
  exact k.out a w ⟨G, F, ⟨hI.gin, hI.nd, hI.own, F1, F2, ep, row_shut hl hnc hcm h1, h2⟩, rr⟩⟩
section
variable {P : Program} {rs : List (Nat × AV)} {d : Option Nat} {ty : TypeId} {pos : String} {af : Array Edge} {g : Option (Nat × Bool)}
theorem lt_sliceV {x : Operand} {lo hi : Option Operand} {t e : TypeId} {n : Nat} (hT : TyE P t e n) {ad : Option Addr} {len cap l h : Nat} {li hi' : Int} (hx : opv rs x = some (.val (.slice ad len cap)))
    (hlo : lo.map (opv rs) = some (some (.val (.int .i64 li))) ∨ (lo = none ∧ li = 0)) (hl : li = (l : Int))
    (hhi : hi.map (opv rs) = some (some (.val (.int .i64 hi'))) ∨ (hi = none ∧ hi' = (len : Int))) (hh : hi' = (h : Int)) (h1 : l ≤ h) (h2 : h ≤ cap) (h3 : len ≤ cap) :
    LT P ⟨d, .slice t x lo hi none, ty, pos, af, g⟩ rs [] (Is (.val (.slice (if cap = l then ad else ad.map (·.add (l * n))) (h - l) (cap - l))) []) :=
  LT_val (fun _ e => by cases e) fun a w G hR hG => by
    have e1 : a.eval x = _ := opv_ok hR hx
    have hlo' : lo.map a.eval = some (.int .i64 (l : Int)) ∨ (lo.map a.eval = none ∧ l = 0) := by
      rcases hlo with h | ⟨rfl, rfl⟩
      · cases lo with
        | none => simp at h
        | some y =>
          simp only [Option.map_some, Option.some.injEq] at h
          have : a.eval y = _ := opv_ok hR h
          left; rw [Option.map_some, this, hl]
      · right; exact ⟨rfl, by omega⟩
    have hhi' : hi.map a.eval = some (.int .i64 (h : Int)) ∨ (hi.map a.eval = none ∧ h = len) := by
      rcases hhi with h' | ⟨rfl, h'⟩
      · cases hi with
        | none => simp at h'
        | some y =>
          simp only [Option.map_some, Option.some.injEq] at h'
          have : a.eval y = _ := opv_ok hR h'
          left; rw [Option.map_some, this, hh]
      · right; exact ⟨rfl, by omega⟩
    have hr := run_sliceAt (P := P) (t := t) (w := w) (ad := ad) hlo' hhi' h1 h2 h3
    refine ⟨_, rfl, ?_⟩
    simp only [execOp, e1, Option.map_none, Sem.run_bind, hr]
    rfl
/-- What stands behind the first ones is cleared. -/
theorem lt_clearV {x : Operand} {t e : TypeId} {n : Nat} (hT : TyE P t e n) {zs : List Value} (hZ : TyZ P e zs) (hzl : zs.length = n) (hz1 : ∀ u ∈ zs, u.oneCell' = true) {b j m cap c : Nat} {cs : List AV} (hx : opv rs x = some (.val (.slice (if cap = j then some ⟨b, 0, none⟩ else some ⟨b, j * n, none⟩) m c))) (hcs : cs.length = j * n) (hcap : j + m ≤ cap) :
    LT P ⟨d, .call { callee := .builtin .clear, args := #[x], argTypes := #[t] }, ty, pos, af, g⟩ rs [.cells b e cs (cap * n)] (Is (.tup []) [.cells b e cs (cap * n)]) :=
  LT_eff (fun _ e => by cases e) fun a w G F hR hI => by
    obtain ⟨F1, F2, ep, ⟨vs, rest, hF1, hf, hone, hb, htot⟩, h2⟩ := hI.hs
    have h2' : F2 = [] := h2
    subst h2' hF1
    have hF : F = [b] := List.perm_singleton.1 (by simpa using ep)
    subst hF
    have e1 : a.eval x = _ := opv_ok hR hx
    have hvl : vs.length = j * n := by rw [hf.length, hcs]
    have hle : (j + m) * n ≤ cap * n := Nat.mul_le_mul_right n hcap
    have hjm : (j + m) * n = j * n + m * n := Nat.add_mul _ _ _
    cases m with
    | zero =>
      refine ⟨_, w, _, _, _, G, [b], ?_, .inl rfl, ⟨rfl, rfl⟩, Fr.refl _ _ _, hI, ⟨[], rfl, trivial⟩⟩
      by_cases hcj : cap = j <;> simp [execOp, resolve, e1, invoke, builtin, Builtin.clear_, run_underlying hT.und, hcj]
    | succ m =>
      have hcj : cap ≠ j := by omega
      rw [if_neg hcj] at e1
      obtain ⟨z, hz, hzc⟩ := hZ.run w
      obtain ⟨news, hnews⟩ : ∃ news, news = (Builtin.zeroCells z.cells (m + 1)).toList := ⟨_, rfl⟩
      have hnl : news.length = (m + 1) * n := by rw [hnews, hzc]; simp [Builtin.zeroCells, hzl]
      have hn1 : ∀ u ∈ news, u.oneCell' = true := fun u hu => by
        rw [hnews, hzc] at hu
        simp only [Builtin.zeroCells, Array.toList_map, List.mem_map, Array.toList_range, List.mem_range, List.size_toArray] at hu
        obtain ⟨q, _, rfl⟩ := hu
        have hlt : q % zs.length < zs.length := Nat.mod_lt _ (by have := hT.pos; omega)
        rw [getElem!_pos zs.toArray _ (by simpa using hlt)]
        exact hz1 _ (by simp)
      have hst := run_storeCells_at P b (j * n) e news 0 _ w hb (by simp only [List.size_toArray, Nat.add_zero]; omega) hn1
      simp only [Nat.add_zero] at hst
      obtain ⟨f1, f2⟩ := fr_setRow hI.gin (hI.own b (by simp)).2 ((vs ++ rest).toArray.toList.take (j * n) ++ news ++ (vs ++ rest).toArray.toList.drop (j * n + news.length)).toArray
      refine ⟨_, _, _, _, _, G, [b], ?_, .inl rfl, ⟨rfl, rfl⟩, f1, ⟨f2, by simp, fun q hq => ?_, [b], [], by simp, ⟨vs, news ++ (vs ++ rest).drop (j * n + news.length), rfl, hf, hone, ?_, ?_⟩, rfl⟩, ⟨[], rfl, trivial⟩⟩
      · have h3 := hz
        simp [execOp, resolve, e1, invoke, builtin, Builtin.clear_, run_underlying hT.und, hz, ← hnews, hst]
      · rw [List.mem_singleton] at hq; subst hq; simp only [setRow_size]; exact hI.own _ (by simp)
      · have ht : (vs ++ rest).take (j * n) = vs := by rw [List.take_append_of_le_length (by omega), List.take_of_length_le (by omega)]
        have := setRow_heap w b (vs ++ rest).toArray ((vs ++ rest).toArray.toList.take (j * n) ++ news ++ (vs ++ rest).toArray.toList.drop (j * n + news.length)).toArray e (0, 0) hb
        rw [this]
        simp only [ht, List.append_assoc]
      · simp only [List.length_append, List.length_drop] at htot ⊢
        omega
end
section
variable {c : Cx} {rs : List (Nat × AV)} {hs : List HA} {Q : Exit → S → Prop} {ops : Array Oper} {tl : List Oper} {d : Nat} {ty : TypeId} {pos : String} {af : Array Edge}
theorem wl_sliceV {x : Operand} {lo hi : Option Operand} {t e : TypeId} {n : Nat} {ad : Option Addr} {len cap l h : Nat} {li hi' : Int} (hx : opv rs x = some (.val (.slice ad len cap))) (hT : TyE c.P t e n)
    (hlo : lo.map (opv rs) = some (some (.val (.int .i64 li))) ∨ (lo = none ∧ li = 0)) (hl : li = (l : Int)) (hhi : hi.map (opv rs) = some (some (.val (.int .i64 hi'))) ∨ (hi = none ∧ hi' = (len : Int))) (hh : hi' = (h : Int)) (h1 : l ≤ h) (h2 : h ≤ cap) (h3 : len ≤ cap) (hd : Nat.blt d c.nt = true)
    (k : WL c ops tl ⟨(d, .val (.slice (if cap = l then ad else ad.map (·.add (l * n))) (h - l) (cap - l))) :: rs, hs⟩ Q) : WL c ops (⟨some d, .slice t x lo hi none, ty, pos, af, none⟩ :: tl) ⟨rs, hs⟩ Q := wl_ex (lt_sliceV hT hx hlo hl hhi hh h1 h2 h3) hd k
theorem wl_clearV {x : Operand} {t e : TypeId} {n : Nat} {zs : List Value} {b j m cap cc : Nat} {cs : List AV} {f : HA → List HA} (hx : opv rs x = some (.val (.slice (if cap = j then some ⟨b, 0, none⟩ else some ⟨b, j * n, none⟩) m cc))) (hat : At hs (.cells b e cs (cap * n)) f) (hT : TyE c.P t e n) (hZ : TyZ c.P e zs) (hzl : zs.length = n) (hz1 : ∀ u ∈ zs, u.oneCell' = true) (hcs : cs.length = j * n) (hcap : j + m ≤ cap)
    (k : WL c ops tl ⟨rs, hs⟩ Q) : WL c ops (⟨none, .call { callee := .builtin .clear, args := #[x], argTypes := #[t] }, ty, pos, af, none⟩ :: tl) ⟨rs, hs⟩ Q :=
  WL_at (o := ⟨none, .call { callee := .builtin .clear, args := #[x], argTypes := #[t] }, ty, pos, af, none⟩) rfl rfl hat (lt_clearV hT hZ hzl hz1 hx hcs hcap) (by rw [hat.self]; exact k)
end
/-- The first so many of an own slice; those from some index on. -/
theorem toV {b cap i n : Nat} : (AV.val (.slice (if cap = 0 then some (⟨b, 0, none⟩ : Addr) else (some (⟨b, 0, none⟩ : Addr)).map (·.add (0 * n))) (i - 0) (cap - 0))) = AV.val (.slice (some ⟨b, 0, none⟩) i cap) := by
  congr 2
  split <;> simp [add_plain]
theorem fromV {b cap j n h : Nat} : (AV.val (.slice (if cap = j then some (⟨b, 0, none⟩ : Addr) else (some (⟨b, 0, none⟩ : Addr)).map (·.add (j * n))) (h - j) (cap - j))) = AV.val (.slice (if cap = j then some ⟨b, 0, none⟩ else some ⟨b, j * n, none⟩) (h - j) (cap - j)) := by
  congr 2
  split <;> simp [add_plain]
theorem WL_fact {c : Cx} {rs : List (Nat × AV)} {hs r : List HA} {Q : Exit → S → Prop} {ops : Array Oper} {l : List Oper} {p : Prop} (hr : Rm hs (.fact p) r) (k : p → WL c ops l ⟨rs, r⟩ Q) : WL c ops l ⟨rs, hs⟩ Q := ⟨fun a w st => by
  obtain ⟨G, F, hI, rr⟩ := st
  have := hsP.fact.1 (hr.sel hI.hs)
  exact (k this.1).out a w ⟨G, F, ⟨hI.gin, hI.nd, hI.own, this.2⟩, rr⟩⟩
/-- What costs nothing may be owned. -/
theorem Res_add {P : Program} {fn : Func} {post : AV → List HA → Prop} {rs : List (Nat × AV)} {hs : List HA} (h : HA) (hP : ∀ G w, h.P G [] w) (k : Res P fn post ⟨rs, h :: hs⟩) : Res P fn post ⟨rs, hs⟩ := by
  obtain ⟨av, prod, hp, k⟩ := k
  exact ⟨av, prod, hp, fun a w G F hR hI => k a w G F hR ⟨hI.gin, hI.nd, hI.own, [], F, .refl _, hP G w, hI.hs⟩⟩
theorem row_nilP {α : Type} (e : TypeId) (n : Nat) (f : α → List AV) (G : Nat → Option Obj) (w : World) : (HA.row (.slice none 0 0) e n f ([] : List α)).P G [] w :=
  ⟨[], rfl, fun _ h => (by cases h), trivial, fun _ h => (by cases h), ⟨by simp, .inl ⟨rfl, rfl⟩⟩⟩
/-- One thing out of a pack, and back. -/
theorem st_unpack {c : Cx} {rs : List (Nat × AV)} {hs r l l' : List HA} {h : HA} {a : Act} {w : World} (hr : Rm hs (.pack l) r) (hp : l.Perm (h :: l')) (st : St c ⟨rs, hs⟩ a w) : St c ⟨rs, h :: .pack l' :: r⟩ a w := by
  obtain ⟨G, F, hI, rr⟩ := st
  refine ⟨G, F, ⟨hI.gin, hI.nd, hI.own, ?_⟩, rr⟩
  obtain ⟨A, B, e, hA, hB⟩ := hr.sel hI.hs
  obtain ⟨C, D, e2, hC, hD⟩ := hsP.permL hp hA
  exact ⟨C, D ++ B, e.trans ((e2.append_right B).trans (by rw [List.append_assoc])), hC, D, B, .refl _, hD, hB⟩
theorem WL_unpack {c : Cx} {rs : List (Nat × AV)} {hs r l l' : List HA} {h : HA} {Q : Exit → S → Prop} {ops : Array Oper} {tl : List Oper} (hp : l.Perm (h :: l')) (hr : Rm hs (.pack l) r) (k : WL c ops tl ⟨rs, h :: .pack l' :: r⟩ Q) : WL c ops tl ⟨rs, hs⟩ Q := ⟨fun a w st => k.out a w (st_unpack hr hp st)⟩
theorem st_repack {c : Cx} {rs : List (Nat × AV)} {hs r r' l l' : List HA} {h : HA} {a : Act} {w : World} (hp : l.Perm (h :: l')) (hr : Rm hs h r) (hr2 : Rm r (.pack l') r') (st : St c ⟨rs, hs⟩ a w) : St c ⟨rs, .pack l :: r'⟩ a w := by
  obtain ⟨G, F, hI, rr⟩ := st
  refine ⟨G, F, ⟨hI.gin, hI.nd, hI.own, ?_⟩, rr⟩
  obtain ⟨A, B, e, hA, hB⟩ := hr.sel hI.hs
  obtain ⟨C, D, e2, hC, hD⟩ := hr2.sel hB
  exact ⟨A ++ C, D, e.trans ((e2.append_left A).trans (by rw [List.append_assoc])), hsP.permL hp.symm ⟨A, C, .refl _, hA, hC⟩, hD⟩
theorem W_repack {c : Cx} {rs : List (Nat × AV)} {hs r r' l l' : List HA} {h : HA} {Q : Exit → S → Prop} {x : Code} (hp : l.Perm (h :: l')) (hr : Rm hs h r) (hr2 : Rm r (.pack l') r') (k : W c x ⟨rs, .pack l :: r'⟩ Q) : W c x ⟨rs, hs⟩ Q := ⟨fun a w st => k.out a w (st_repack hp hr hr2 st)⟩
end Go.Proofs.YtihonljdanjfmaaDoor.Sw
/- Delete, of one quarrel. -/
namespace Go.Proofs.YtihonljdanjfmaaDoor.Sw
open Go.RowKit Go Go.Shelf Go.Proofs
end Go.Proofs.YtihonljdanjfmaaDoor.Sw
/- Sorting, stable, of fewer than 20 quarrels or bills. -/
namespace Go.Proofs.YtihonljdanjfmaaDoor.Sw
open Go.RowKit Go Go.Shelf Go.Proofs
end Go.Proofs.YtihonljdanjfmaaDoor.Sw
namespace Go.Proofs.YtihonljdanjfmaaDoor.Sw
open Go.RowKit Go Go.Shelf Go.Proofs
abbrev Tk := { u : Value // One (AV.val u) }
instance (u : Tk) : One (AV.val u.1) := u.2
abbrev MB := Bil × Tk
def tkC (p : MB) : List AV := [.val (.int .i64 p.1.no), .val (.int .i64 p.1.py), .val (.int .i64 p.1.pe), .val p.2.1]
instance {p : MB} : OneL (tkC p) := inferInstanceAs (OneL [_, _, _, _])
instance : OneF tkC := ⟨fun _ => inferInstance⟩
set_option maxRecDepth 20000 in
set_option maxHeartbeats 4000000 in
theorem isortM_con (v : Value) (xs : List MB) (k : FuncId) (caps : List AV) (cmp : MB → MB → Int) (hl : xs.length ≤ 100000) (hc : ∀ x y, Con Tryd.prog k ([.agg (tkC x), .agg (tkC y)] ++ caps) [] (Is (.val (.int .i64 (cmp x y))) [])) : Con Tryd.prog 145 [.val v, .val (.int .i64 0), .val (.int .i64 xs.length), .clo k caps] [.row v 66 4 tkC xs] (Is (.tup []) [.row v 66 4 tkC (srt (fun x y => decide (cmp x y < 0)) xs)]) := by
  generalize hlt0 : (fun x y => decide (cmp x y < 0)) = lt
  have hlt : ∀ x y, decide (cmp x y < 0) = lt x y := fun x y => by rw [← hlt0]
  refine con_of Tryd.func145 rfl (enters_of Tryd.func145 (by kernel_rfl) rfl) rfl ?_; intro n w0 F0 G0
  (refine goSt ?_; (repeat (refine goAl ?_; intro p hp; refine goSt ?_)))
  refine W_loopJ (fun (i : Nat) => ⟨[(0, .val v), (1, .val (.int .i64 0)), (2, .val (.int .i64 xs.length)), (3, .clo k caps), (8, .val (.int .i64 i))], [.row v 66 4 tkC (srt lt (xs.take i) ++ xs.drop i)]⟩) (fun i => 1 ≤ i ∧ (i ≤ xs.length ∨ i = 1)) (fun i => xs.length - i) 1 (fun _ _ st => st_sub2 st (by exact goSubr) (by rw [show srt lt (xs.take 1) ++ xs.drop 1 = xs from by cases xs <;> rfl]; exact goSubp)) ⟨Nat.le_refl _, .inr rfl⟩ ?_
  rintro i ⟨hi1, hi2⟩
  (refine goSt ?_; (repeat (refine goAl ?_; intro p hp; refine goSt ?_)))
  refine w_cond rfl (fun hin => ?_) (fun hin => ?_)
  · have hin' : i < xs.length := by simp at hin; omega
    have hpl : (srt lt (xs.take i)).length = i := by rw [srt_len, List.length_take]; omega
    have hnx : srt lt (xs.take (i + 1)) = insE lt (srt lt (xs.take i)) xs[i] := by rw [List.take_succ_eq_append_getElem hin', srt_snoc]
    have hdr : xs.drop i = xs[i] :: xs.drop (i + 1) := List.drop_eq_getElem_cons hin'
    have hsl : (xs.drop (i + 1)).length + i + 1 = xs.length := by rw [List.length_drop]; omega
    generalize srt lt (xs.take i) = pre at *
    generalize hsuf : xs.drop (i + 1) = suf at *
    generalize hx : xs[i] = x at *
    rw [hdr]
    (refine goSt ?_; (repeat (refine goAl ?_; intro p hp; refine goSt ?_)))
    refine W_loopJ (fun (j : Nat) => ⟨[(0, .val v), (1, .val (.int .i64 0)), (2, .val (.int .i64 xs.length)), (3, .clo k caps), (8, .val (.int .i64 i)), (9, .val (.int .i64 j))], [.row v 66 4 tkC (snk pre suf x j)]⟩) (fun j => j ≤ i ∧ insE lt pre x = insE lt (pre.take j) x ++ pre.drop j) (fun j => j) i (fun _ _ st => st_sub2 st (by exact goSubr) (by rw [show snk pre suf x i = pre ++ x :: suf from by rw [← hpl]; exact snk_full _ _ _]; exact goSubp)) ⟨Nat.le_refl _, by rw [← hpl]; simp⟩ ?_
    rintro j ⟨hj, hins⟩
    have hdl : (snk pre suf x j).length = xs.length := by rw [snk_len (by omega)]; omega
    have hq1 : (snk pre suf x j)[j]? = some x := snk_at (by omega)
    (refine goSt ?_; (repeat (refine goAl ?_; intro p hp; refine goSt ?_)))
    cases j with
    | zero =>
      have hend : snk pre suf x 0 = insE lt pre x ++ suf := by rw [hins]; simp [snk, insE_nil]
      refine W_run 14 [18, 19, 20, 21, 22, 23, 24, 25, 26, 27, 28, 29, 30, 31] [0, 1, 2, 3, 4, 5, 6, 7, 8, 9, 10, 11, 12, 13] Cut.nil rfl goFlt mixedS (by kernel_rfl) rfl ?_
      refine rpv [] [] ?_
      refine rpv [] [] ?_
      refine Run.pv [0, 1] [] rfl (fun vs => by apply ltr_pk; exact goPk; (refine ltr ?_; apply LT_bool false; apply lt_gtr; exact rfl; exact rfl; simp)) goApp ?_
      refine rpv [2] [] ?_
      refine Run.no [3] [] rfl rfl (fun vs => by apply look_pk; exact goPk; exact rfl) (by exact rfl) goApp ?_
      refine Run.no [3] [] rfl rfl (fun vs => by apply look_pk; exact goPk; exact rfl) (by exact rfl) goApp ?_
      refine Run.no [3] [] rfl rfl (fun vs => by apply look_pk; exact goPk; exact rfl) (by exact rfl) goApp ?_
      refine Run.no [3, 5, 6] [] rfl rfl (fun vs => by apply look_pk; exact goPk; exact rfl) (by exact rfl) goApp ?_
      refine Run.no [3, 7] [] rfl rfl (fun vs => by apply look_pk; exact goPk; exact rfl) (by exact rfl) goApp ?_
      refine Run.no [3] [] rfl rfl (fun vs => by apply look_pk; exact goPk; exact rfl) (by exact rfl) goApp ?_
      refine Run.no [3] [] rfl rfl (fun vs => by apply look_pk; exact goPk; exact rfl) (by exact rfl) goApp ?_
      refine Run.no [3, 10] [] rfl rfl (fun vs => by apply look_pk; exact goPk; exact rfl) (by exact rfl) goApp ?_
      refine Run.no [3, 9, 11] [] rfl rfl (fun vs => by apply look_pk; exact goPk; exact rfl) (by exact rfl) goApp ?_
      refine Run.no [3, 12] [] rfl rfl (fun vs => by apply look_pk; exact goPk; exact rfl) (by exact rfl) goApp ?_
      refine ⟨⟨by kernel_rfl, by kernel_rfl⟩, fun vs => ?_⟩
      apply WL_auto [3, 4, 8, 13]
      · exact goPk
      · exact goNrm
      · kernel_rfl
      · kernel_rfl
      (refine goSt ?_; (repeat (refine goAl ?_; intro p hp; refine goSt ?_)))
      refine ⟨i + 1, fun _ _ st => st_sub2 st ?_ ?_, ?_, ?_⟩
      · exact goSubr
      · rw [hnx, hsuf, ← hend]; exact goSubp
      · omega
      · omega
    | succ j =>
      have hjp : j < pre.length := by omega
      have hq2 : (snk pre suf x (j + 1))[j]? = some pre[j] := snk_before (by omega)
      have htk : pre.take (j + 1) = pre.take j ++ [pre[j]] := List.take_succ_eq_append_getElem hjp
      have hdp : pre.drop j = pre[j] :: pre.drop (j + 1) := List.drop_eq_getElem_cons hjp
      refine W_run 14 [18, 19, 20, 21, 22, 23, 24, 25, 26, 27, 28, 29, 30, 31] [0, 1, 2, 3, 4, 5, 6, 7, 8, 9, 10, 11, 12, 13] Cut.nil rfl goFlt mixedS (by kernel_rfl) rfl ?_
      refine rpv [] [] ?_
      refine rpv [] [] ?_
      refine Run.pv [0, 1] [] rfl (fun vs => by apply ltr_pk; exact goPk; (refine ltr ?_; apply LT_bool true; apply lt_gtr; exact rfl; exact rfl; (first | (simp; done) | (simp; omega)))) goApp ?_
      refine rpv [2] [] ?_
      refine Run.yes [3] [] rfl rfl (fun vs => by apply look_pk; exact goPk; exact rfl) (fun vs => by apply ltr_pk; exact goPk; exact goLtr) goApp ?_
      refine Run.yes [3] [] rfl rfl (fun vs => by apply look_pk; exact goPk; exact rfl) (fun vs => by apply ltr_pk; exact goPk; exact goLtr) goApp ?_
      refine Run.yes [3] [] rfl rfl (fun vs => by apply look_pk; exact goPk; exact rfl) (fun vs => by apply ltr_pk; exact goPk; exact goLtr) goApp ?_
      refine Run.yes [3, 5, 6] [] rfl rfl (fun vs => by apply look_pk; exact goPk; exact rfl) (fun vs => by apply ltr_pk; exact goPk; exact goLtr) goApp ?_
      refine Run.yes [3, 7] [] rfl rfl (fun vs => by apply look_pk; exact goPk; exact rfl) (fun vs => by apply ltr_pk; exact goPk; exact goLtr) goApp ?_
      refine Run.yes [3] [] rfl rfl (fun vs => by apply look_pk; exact goPk; exact rfl) (fun vs => by apply ltr_pk; exact goPk; exact goLtr) goApp ?_
      refine Run.yes [3] [] rfl rfl (fun vs => by apply look_pk; exact goPk; exact rfl) (fun vs => by apply ltr_pk; exact goPk; exact goLtr) goApp ?_
      refine Run.yes [3, 10] [] rfl rfl (fun vs => by apply look_pk; exact goPk; exact rfl) (fun vs => by apply ltr_pk; exact goPk; (refine ltr ?_; apply LT_int (j : Int); apply lt_sub; exact rfl; exact rfl; omega; omega; omega)) goApp ?_
      refine Run.yes [3, 9, 11] [] rfl rfl (fun vs => by apply look_pk; exact goPk; exact rfl) (fun vs => by apply ltr_pk; exact goPk; exact goLtr) goApp ?_
      refine Run.yes [3, 12] [] rfl rfl (fun vs => by apply look_pk; exact goPk; exact rfl) (fun vs => by apply ltr_pk; exact goPk; exact goLtr) goApp ?_
      refine ⟨⟨by kernel_rfl, by kernel_rfl⟩, fun vs => ?_⟩
      apply WL_auto [3, 4, 8, 13]
      · exact goPk
      · exact goNrm
      · kernel_rfl
      · kernel_rfl
      (refine goSt ?_; (repeat (refine goAl ?_; intro p hp; refine goSt ?_)))
      (apply wl_callV (hc x pre[j]); exact rfl; exact rfl; exact rfl)
      (refine goSt ?_; (repeat (refine goAl ?_; intro p hp; refine goSt ?_)))
      rw [hlt]
      cases hb : lt x pre[j] with
      | false =>
        have hend : snk pre suf x (j + 1) = insE lt pre x ++ suf := by
          rw [hins, htk, insE_no hb, ← htk]; simp [snk]
        (refine goSt ?_; (repeat (refine goAl ?_; intro p hp; refine goSt ?_)))
        refine ⟨i + 1, fun _ _ st => st_sub2 st ?_ ?_, ?_, ?_⟩
        · exact goSubr
        · rw [hnx, hsuf, ← hend]; exact goSubp
        · omega
        · omega
      | true =>
        have hins2 : insE lt pre x = insE lt (pre.take j) x ++ pre.drop j := by
          rw [hins, htk, insE_yes hb, hdp]; simp
        (refine goSt ?_; (repeat (refine goAl ?_; intro p hp; refine goSt ?_)))
        refine W_run 16 [37, 38, 39, 40, 41, 42, 43, 44, 45, 46, 47, 48, 49, 50, 51, 1000015] [0, 1, 2, 3, 4, 5, 6, 7, 8, 9, 10, 11, 12, 13, 14, 15] (Cut.cons (h := HA.row v 66 4 tkC (snk pre suf x (j + 1))) goRm (Cut.nil)) rfl goFlt mixedS (by kernel_rfl) rfl ?_
        refine rpv [] [] ?_
        refine rpv [] [] ?_
        refine rpv [] [] ?_
        refine rpv [] [] ?_
        refine Run.pv [3] [] rfl (fun vs => by apply ltr_pk; exact goPk; (refine ltr ?_; apply LT_int (j : Int); apply lt_sub; exact rfl; exact rfl; omega; omega; omega)) goApp ?_
        refine rpv [] [] ?_
        refine rpv [] [] ?_
        refine Run.pv [6] [] rfl (fun vs => by apply ltr_pk; exact goPk; (refine ltr ?_; apply LT_int (j : Int); apply lt_sub; exact rfl; exact rfl; omega; omega; omega)) goApp ?_
        refine Run.rd [5, 7] [] [1000] rfl (fun vs => by apply ltr_pk; exact goPk; exact goLtr) goApp ?_
        refine Run.rd [8] [] [1000] rfl (fun vs => by apply ltr_pk; exact goPk; exact goLtr) goApp ?_
        refine rpv [] [] ?_
        refine rpv [] [] ?_
        refine Run.rd [10, 11] [] [1000] rfl (fun vs => by apply ltr_pk; exact goPk; exact goLtr) goApp ?_
        refine Run.rd [12] [] [1000] rfl (fun vs => by apply ltr_pk; exact goPk; exact goLtr) goApp ?_
        refine Run.rd [0, 1] [] [1000] rfl (fun vs => by apply ltr_pk; exact goPk; exact goLtr) goApp ?_
        refine Run.fx [9, 14] [1000] 14 (fun _ => [HA.row v 66 4 tkC ((snk pre suf x (j + 1)).set (j + 1) pre[j])]) rfl (fun vs => by apply ltr_pk; exact goPk; (refine ltr ?_; refine LT.fx (lt_storeRN (n := 4) (f := tkC) (xs := snk pre suf x (j + 1)) (k := j + 1) (x' := pre[j]) rfl rfl (by omega) rfl) rfl)) goApp ?_
        refine ⟨⟨by kernel_rfl, by kernel_rfl⟩, fun vs => ?_⟩
        apply WL_auto [2, 4, 13]
        · exact goPk
        · exact goNrm
        · kernel_rfl
        · kernel_rfl
        (refine goSt ?_; (repeat (refine goAl ?_; intro p hp; refine goSt ?_)))
        apply wl_storeRNx x
        · exact rfl
        · exact goAtm
        · exact rfl
        · exact inferInstance
        · exact inferInstance
        · rw [List.length_set]; omega
        · rfl
        rw [snk_swap (by omega)]
        (refine goSt ?_; (repeat (refine goAl ?_; intro p hp; refine goSt ?_)))
        rw [show (((j + 1 : Nat) : Int) - 1) = (j : Int) by omega]
        refine ⟨j, fun _ _ st => st_sub2 st ?_ ?_, ?_, ?_⟩
        · exact goSubr
        · exact goSubp
        · exact ⟨by omega, hins2⟩
        · omega
  · have hkk : xs.length ≤ i := by simp at hin; omega
    rw [List.take_of_length_le hkk, List.drop_of_length_le hkk, List.append_nil]
    (refine goSt ?_; (repeat (refine goAl ?_; intro p hp; refine goSt ?_)))
    (apply resK0; exact rfl; exact ⟨rfl, rfl⟩; exact goCutl)
set_option maxRecDepth 20000 in
set_option maxHeartbeats 4000000 in
theorem stableM_con (v : Value) (xs : List MB) (k : FuncId) (caps : List AV) (cmp : MB → MB → Int) (hl : xs.length < 20) (hc : ∀ x y, Con Tryd.prog k ([.agg (tkC x), .agg (tkC y)] ++ caps) [] (Is (.val (.int .i64 (cmp x y))) [])) : Con Tryd.prog 122 [.val v, .val (.int .i64 xs.length), .clo k caps] [.row v 66 4 tkC xs] (Is (.tup []) [.row v 66 4 tkC (srt (fun x y => decide (cmp x y < 0)) xs)]) := by
  refine con_of Tryd.func122 rfl (enters_of Tryd.func122 (by kernel_rfl) rfl) rfl ?_; intro n w0 F0 G0
  (refine goSt ?_; (repeat (refine goAl ?_; intro p hp; refine goSt ?_)))
  refine W_rounds 1 (WR_step ?_)
  (refine goSt ?_; (repeat (refine goAl ?_; intro p hp; refine goSt ?_)))
  refine w_cond rfl (fun g => ?_) (fun g => ?_)
  · simp at g; omega
  · (refine goSt ?_; (repeat (refine goAl ?_; intro p hp; refine goSt ?_)))
    (apply wl_callP (isortM_con v xs k caps cmp (by omega) hc); exact rfl; exact goCutl; exact rfl)
    rintro _ _ ⟨rfl, rfl⟩
    (refine goSt ?_; (repeat (refine goAl ?_; intro p hp; refine goSt ?_)))
    refine W_rounds 1 (WR_step ?_)
    (refine goSt ?_; (repeat (refine goAl ?_; intro p hp; refine goSt ?_)))
    refine w_cond rfl (fun g2 => ?_) (fun g2 => ?_)
    · simp at g2; omega
    · (refine goSt ?_; (repeat (refine goAl ?_; intro p hp; refine goSt ?_)))
      (apply resK0; exact rfl; exact ⟨rfl, rfl⟩; exact goCutl)
set_option maxRecDepth 20000 in
set_option maxHeartbeats 4000000 in
theorem sortSM_con (v : Value) (xs : List MB) (k : FuncId) (caps : List AV) (cmp : MB → MB → Int) (hl : xs.length < 20) (hc : ∀ x y, Con Tryd.prog k ([.agg (tkC x), .agg (tkC y)] ++ caps) [] (Is (.val (.int .i64 (cmp x y))) [])) : Con Tryd.prog 79 [.val v, .clo k caps] [.row v 66 4 tkC xs] (Is (.tup []) [.row v 66 4 tkC (srt (fun x y => decide (cmp x y < 0)) xs)]) := by
  refine con_of Tryd.func79 rfl (enters_of Tryd.func79 (by kernel_rfl) rfl) rfl ?_; intro n w0 F0 G0
  (refine goSt ?_; (repeat (refine goAl ?_; intro p hp; refine goSt ?_)))
  (apply wl_callP (stableM_con v xs k caps cmp hl hc); exact rfl; exact goCutl; exact rfl)
  rintro _ _ ⟨rfl, rfl⟩
  (refine goSt ?_; (repeat (refine goAl ?_; intro p hp; refine goSt ?_)))
  (apply resK0; exact rfl; exact ⟨rfl, rfl⟩; exact goCutl)
end Go.Proofs.YtihonljdanjfmaaDoor.Sw
/- The program's 'Pay'. -/
namespace Go.Proofs.YtihonljdanjfmaaDoor.Sw
open Go.RowKit Go Go.Shelf Go.Proofs
def floE : Flo := ⟨[], [], [], []⟩
theorem floE_own (G : Nat → Option Obj) (w : World) : (floOwn (.slice none 0 0) (.slice none 0 0) (.slice none 0 0) (.slice none 0 0) floE).P G [] w :=
  ⟨[], hsP.fact.2 ⟨rfl, [], [], .refl _, row_nilP _ _ _ G w, [], [], .refl _, row_nilP _ _ _ G w, [], [], .refl _, row_nilP _ _ _ G w, [], [], .refl _, row_nilP _ _ _ G w, [], [], .refl _, rfl, rfl⟩⟩
/-- What a change hands back. -/
def FlP (r : Flo × Int) : AV → List HA → Prop := fun x y => ∃ vi vq vb vp, (One (.val vi) ∧ One (.val vq) ∧ One (.val vb) ∧ One (.val vp)) ∧ x = .tup [.agg [.val vi, .val vq, .val vb, .val vp], .val (.int .i64 r.2)] ∧ y = [floOwn vi vq vb vp r.1, tab8]
theorem flP_nil (e : Int) : FlP (floE, e) (.tup [.agg [.val (.slice none 0 0), .val (.slice none 0 0), .val (.slice none 0 0), .val (.slice none 0 0)], .val (.int .i64 e)]) [floOwn (.slice none 0 0) (.slice none 0 0) (.slice none 0 0) (.slice none 0 0) floE, tab8] :=
  ⟨_, _, _, _, ⟨inferInstance, inferInstance, inferInstance, inferInstance⟩, rfl, rfl⟩
end Go.Proofs.YtihonljdanjfmaaDoor.Sw
/- The program's 'Split' and 'Mend'. -/
namespace Go.Proofs.YtihonljdanjfmaaDoor.Sw
open Go.RowKit Go Go.Shelf Go.Proofs
end Go.Proofs.YtihonljdanjfmaaDoor.Sw
namespace Go.Proofs.YtihonljdanjfmaaDoor.Sw
open Go.RowKit Go Go.Shelf Go.Proofs
/-- What lies in a pack, told. -/
theorem WL_packFact {c : Cx} {rs : List (Nat × AV)} {hs r l : List HA} {Q : Exit → S → Prop} {ops : Array Oper} {tl : List Oper} {p : Prop} (h : ∀ G F w, hsP l G F w → p) (hr : Rm hs (.pack l) r) (k : p → WL c ops tl ⟨rs, hs⟩ Q) : WL c ops tl ⟨rs, hs⟩ Q := ⟨fun a w st => by
  have st' := st
  obtain ⟨G, F, hI, rr⟩ := st'
  obtain ⟨F1, F2, e, h1, h2⟩ := hr.sel hI.hs
  exact (k (h _ _ _ h1)).out a w st⟩
theorem WL_packPerm {c : Cx} {rs : List (Nat × AV)} {hs r l l' : List HA} {Q : Exit → S → Prop} {ops : Array Oper} {tl : List Oper} (hp : l.Perm l') (hr : Rm hs (.pack l) r) (k : WL c ops tl ⟨rs, .pack l' :: r⟩ Q) : WL c ops tl ⟨rs, hs⟩ Q := ⟨fun a w st => by
  obtain ⟨G, F, hI, rr⟩ := st
  obtain ⟨F1, F2, e, h1, h2⟩ := hr.sel hI.hs
  exact k.out a w ⟨G, F, ⟨hI.gin, hI.nd, hI.own, F1, F2, e, hsP.permL hp h1, h2⟩, rr⟩⟩
theorem row_one {α : Type} {w : World} {G : Nat → Option Obj} {F : List Nat} {v : Value} {e : TypeId} {n : Nat} {f : α → List AV} {xs : List α} (h : (HA.row v e n f xs).P G F w) : One (.val v) := by
  rcases row_val h with ⟨rfl, _⟩ | ⟨b, cap, cur, vs, rfl, _⟩ <;> exact inferInstance
theorem stkR_one {G : Nat → Option Obj} {w : World} : ∀ {bs : List Bil} {us : List Value} {F : List Nat}, us.length = bs.length → hsP (stkR bs us) G F w → ∀ u ∈ us, One (.val u)
  | [], [], _, _, _, u, hu => by cases hu
  | x :: t, v :: us, F, hl, h, u, hu => by
    obtain ⟨F1, F2, e, h1, h2⟩ := h
    rcases List.mem_cons.1 hu with rfl | hu
    · exact row_one h1
    · exact stkR_one (by simpa using hl) h2 u hu
  | [], _ :: _, _, hl, _, _, _ => by simp at hl
  | _ :: _, [], _, hl, _, _, _ => by simp at hl
theorem marry : ∀ {bs : List Bil} {us : List Value}, us.length = bs.length → (∀ u ∈ us, One (.val u)) → ∃ L : List MB, bs = L.map (·.1) ∧ us = L.map (·.2.1)
  | [], [], _, _ => ⟨[], rfl, rfl⟩
  | x :: t, v :: us, hl, h => by
    obtain ⟨L, h1, h2⟩ := marry (bs := t) (us := us) (by simpa using hl) fun u hu => h u (by simp [hu])
    exact ⟨(x, ⟨v, h v (by simp)⟩) :: L, congrArg (x :: ·) h1, congrArg (v :: ·) h2⟩
  | [], _ :: _, hl, _ => by simp at hl
  | _ :: _, [], hl, _ => by simp at hl
theorem mixL_map (L : List MB) : mixL (L.map (·.1)) (L.map (·.2.1)) = L.map fun p => (p.1, some p.2.1) := by
  induction L with
  | nil => rfl
  | cons p L ih => simp only [List.map_cons, mixL, ih]
theorem row_tk (vb : Value) (L : List MB) : HA.row vb 66 4 mbC (mixL (L.map (·.1)) (L.map (·.2.1))) = HA.row vb 66 4 tkC L := by
  rw [mixL_map, row_map]; rfl
def stkH (p : MB) : HA := .row p.2.1 113 2 stC p.1.st
theorem stkR_map (L : List MB) : stkR (L.map (·.1)) (L.map (·.2.1)) = L.map stkH := by
  induction L with
  | nil => rfl
  | cons p L ih => simp only [List.map_cons, stkR, ih]; rfl
theorem insR_perm {α : Type} (lt : α → α → Bool) (x : α) : ∀ l : List α, (insR lt x l).Perm (x :: l)
  | [] => .refl _
  | a :: t => by
    rw [insR]
    split
    · exact ((insR_perm lt x t).cons a).trans (List.Perm.swap _ _ _)
    · exact .refl _
theorem srt_perm {α : Type} (lt : α → α → Bool) (l : List α) : (srt lt l).Perm l := by
  have h : ∀ (l acc : List α), (l.foldl (insE lt) acc).Perm (acc ++ l) := by
    intro l
    induction l with
    | nil => intro acc; simp
    | cons x t ih =>
      intro acc
      rw [List.foldl_cons]
      refine (ih _).trans ?_
      have h1 : (insE lt acc x).Perm (acc ++ [x]) := by
        unfold insE
        exact ((List.reverse_perm _).trans (insR_perm lt x _)).trans (((List.reverse_perm acc).cons x).trans (List.perm_append_comm (l₁ := [x]) (l₂ := acc)))
      have h2 := h1.append_right t
      rwa [List.append_assoc] at h2
  have := h l []
  unfold srt; simpa using this
theorem insE_map {α β : Type} (g : α → β) (lt : β → β → Bool) (l : List α) (x : α) : (insE (fun a b => lt (g a) (g b)) l x).map g = insE lt (l.map g) (g x) := by
  have h : ∀ l : List α, (insR (fun a b => lt (g a) (g b)) x l).map g = insR lt (g x) (l.map g) := by
    intro l
    induction l with
    | nil => rfl
    | cons a t ih =>
      rw [List.map_cons, insR, insR]
      split
      · rw [List.map_cons, ih]
      · rfl
  unfold insE
  rw [List.map_reverse, h, List.map_reverse]
theorem srt_map {α β : Type} (g : α → β) (lt : β → β → Bool) (l : List α) : (srt (fun a b => lt (g a) (g b)) l).map g = srt lt (l.map g) := by
  have h : ∀ (l acc : List α), (l.foldl (insE (fun a b => lt (g a) (g b))) acc).map g = (l.map g).foldl (insE lt) (acc.map g) := by
    intro l
    induction l with
    | nil => intro acc; rfl
    | cons x t ih => intro acc; rw [List.foldl_cons, ih, insE_map, List.map_cons, List.foldl_cons]
  exact h l []
def bCmp (x y : Bil) : Int := cmpR x.no y.no
def bLt (x y : Bil) : Bool := decide (bCmp x y < 0)
set_option maxRecDepth 20000 in
theorem add1_con (x y : MB) : Con Tryd.prog 80 [.agg (tkC x), .agg (tkC y)] [] (Is (.val (.int .i64 (bCmp x.1 y.1))) []) := by
  refine con_of Tryd.func80 rfl (enters_of Tryd.func80 (by kernel_rfl) rfl) rfl ?_; intro n w0 F0 G0
  (refine goSt ?_; (repeat (refine goAl ?_; intro p hp; refine goSt ?_)))
  (first | (apply wl_call (compare_con _ _); exact rfl; exact rfl) | (apply wl_callR (compare_con _ _); exact rfl; exact goAtm; exact rfl))
  (refine goSt ?_; (repeat (refine goAl ?_; intro p hp; refine goSt ?_)))
  (apply res1; exact rfl; exact rfl; exact ⟨rfl, rfl⟩)
def addR (f : Flo) (x : Bil) : Flo × Int :=
  if floOk f = true then (if f.bs.length = 10 then (floE, 9) else if floOk { f with bs := srt bLt (f.bs ++ [x]) } = true then ({ f with bs := srt bLt (f.bs ++ [x]) }, 0) else (floE, 81)) else (floE, 80)
set_option maxRecDepth 20000 in
set_option maxHeartbeats 4000000 in
theorem add_con (f : Flo) (x : Bil) (hS : Sml f) (hx : x.st.length ≤ 1000) : Con Tryd.prog 33 [.agg (flC f), .agg (biC x)] [tab8] (FlP (addR f x)) := by
  have C := check_con f hS
  cases hok : floOk f with
  | false =>
    rw [show errF f = 80 by unfold errF; rw [hok]; rfl] at C
    rw [show addR f x = (floE, 80) by unfold addR; rw [hok]; rfl]
    refine con_of Tryd.func33 rfl (enters_of Tryd.func33 (by kernel_rfl) rfl) rfl ?_; intro n w0 F0 G0
    (refine goSt ?_; (repeat (refine goAl ?_; intro p hp; refine goSt ?_)))
    (first | (apply wl_call (C); exact rfl; exact rfl) | (apply wl_callR (C); exact rfl; exact goAtm; exact rfl))
    (refine goSt ?_; (repeat (refine goAl ?_; intro p hp; refine goSt ?_)))
    (refine Res_add _ floE_own ?_; apply resKN1; exact rfl; exact rfl; exact goAtm; exact inferInstance; exact rfl; exact rfl; exact flP_nil _; exact goCutl)
  | true =>
    rw [show errF f = 0 by unfold errF; rw [hok]; rfl] at C
    have hbl := (flo_f hok).bs
    refine con_of Tryd.func33 rfl (enters_of Tryd.func33 (by kernel_rfl) rfl) rfl ?_; intro n w0 F0 G0
    (refine goSt ?_; (repeat (refine goAl ?_; intro p hp; refine goSt ?_)))
    (first | (apply wl_call (C); exact rfl; exact rfl) | (apply wl_callR (C); exact rfl; exact goAtm; exact rfl))
    (refine goSt ?_; (repeat (refine goAl ?_; intro p hp; refine goSt ?_)))
    refine w_cond rfl (fun g => ?_) (fun g => ?_)
    · rw [show addR f x = (floE, 9) by unfold addR; rw [if_pos hok, if_pos (by simp at g; omega)]]
      (refine goSt ?_; (repeat (refine goAl ?_; intro p hp; refine goSt ?_)))
      (refine Res_add _ floE_own ?_; apply resKN1; exact rfl; exact rfl; exact goAtm; exact inferInstance; exact rfl; exact rfl; exact flP_nil _; exact goCutl)
    · have hn : ¬ f.bs.length = 10 := by simp at g; omega
      have hst : ∀ b ∈ f.bs ++ [x], b.st.length ≤ 1000 := fun b hb => by
        rcases List.mem_append.1 hb with hb | hb
        · exact hS.st b hb
        · rw [List.mem_singleton.1 hb]; exact hx
      have hS0 : Sml { f with bs := f.bs ++ [x] } := ⟨hS.ids, hS.qs, by simp; omega, hS.ps, hst⟩
      have hS' : Sml { f with bs := srt bLt (f.bs ++ [x]) } := ⟨hS.ids, hS.qs, by show (srt bLt (f.bs ++ [x])).length ≤ 1000; rw [srt_len]; simp; omega, hS.ps, fun b hb => hst b ((srt_perm bLt _).mem_iff.1 hb)⟩
      have hW : addR f x = if floOk { f with bs := srt bLt (f.bs ++ [x]) } = true then ({ f with bs := srt bLt (f.bs ++ [x]) }, 0) else (floE, 81) := by unfold addR; rw [if_pos hok, if_neg hn]
      rw [hW]
      (refine goSt ?_; (repeat (refine goAl ?_; intro p hp; refine goSt ?_)))
      refine W_run 5 [18, 19, 20, 21, 22] [0, 1, 2, 3, 4] Cut.nil rfl goFlt mixedS (by kernel_rfl) rfl ?_
      refine rpv [] [] ?_
      refine rpv [0] [] ?_
      refine Run.tok [1] [] rfl (fun vs => by apply ltr_pk; exact goPk; (refine ltr ?_; refine lt_call ?_ (cloneB_con f.bs (by omega)); exact rfl)) goApp ?_
      refine rpv [] [] ?_
      refine Run.pv [3] [] rfl (fun vs => by apply ltr_pk; exact goPk; (refine ltr ?_; apply LT_frz; apply lt_lit (f := biC); (repeat (first | exact Elems.nil | (apply Elems.cons; exact rfl; exact inferInstance; exact rfl))); exact rfl; (first | exact (of_decide_eq_true rfl) | decide | (simp; done) | (simp; omega)))) goApp ?_
      refine ⟨⟨by kernel_rfl, by kernel_rfl⟩, fun vs => ?_⟩
      apply WL_auto [2, 4]
      · exact goPk
      · exact goNrm
      · kernel_rfl
      · kernel_rfl
      (refine goSt ?_; (repeat (refine goAl ?_; intro p hp; refine goSt ?_)))
      (first | (apply wl_append; exact rfl; exact rfl; exact goRm; exact inferInstance; exact inferInstance; (first | omega | (simp; omega)); exact rfl) | (apply wl_appendN; exact rfl; exact rfl; exact inferInstance; exact inferInstance; (first | omega | (simp; omega)); exact rfl))
      intro v1
      (apply WL_frz 23; exact rfl; exact goRm)
      (refine goSt ?_; (repeat (refine goAl ?_; intro p hp; refine goSt ?_)))
      refine WL_as 25 (.agg (flC { f with bs := f.bs ++ [x] })) rfl ?_
      (apply wl_callP (copied_con { f with bs := f.bs ++ [x] } hS0); exact rfl; exact goCutl; exact rfl)
      rintro _ _ ⟨vi, vq, vb, vp, ⟨o1, o2, o3, o4⟩, rfl, rfl⟩
      apply WL_exs
      · exact goRm
      intro us
      apply WL_fact
      · exact goRm
      intro hus
      apply WL_packFact (l := stkR (f.bs ++ [x]) us) (p := ∀ u ∈ us, One (.val u)) (fun _ _ _ h => stkR_one hus h)
      · exact goRm
      intro hone
      obtain ⟨L, hL1, hL2⟩ := marry hus hone
      have e1 : HA.row vb 66 4 mbC (mixL (f.bs ++ [x]) us) = HA.row vb 66 4 tkC L := by
        rw [show f.bs ++ [x] = L.map (·.1) from hL1, hL2, row_tk]
      have e2 : stkR (f.bs ++ [x]) us = L.map stkH := by rw [show f.bs ++ [x] = L.map (·.1) from hL1, hL2, stkR_map]
      have hLl : L.length < 20 := by have := congrArg List.length hL1; simp at this; omega
      dsimp only
      rw [e1, e2]
      (refine goSt ?_; (repeat (refine goAl ?_; intro p hp; refine goSt ?_)))
      (apply wl_callP (sortSM_con vb L 80 [] (fun x y => bCmp x.1 y.1) hLl (fun x y => add1_con x y)); exact rfl; exact goCutl; exact rfl)
      rintro _ _ ⟨rfl, rfl⟩
      have hLm : (srt (fun x y : MB => decide (bCmp x.1 y.1 < 0)) L).map (·.1) = srt bLt (f.bs ++ [x]) := by
        rw [show f.bs ++ [x] = L.map (·.1) from hL1]; exact srt_map Prod.fst bLt L
      have hLp := srt_perm (fun x y : MB => decide (bCmp x.1 y.1 < 0)) L
      generalize srt (fun x y : MB => decide (bCmp x.1 y.1 < 0)) L = L' at hLm hLp ⊢
      clear hW
      generalize srt bLt (f.bs ++ [x]) = bs' at hLm hS' ⊢
      apply WL_packPerm (hLp.symm.map stkH)
      · exact goRm
      have e3 : HA.row vb 66 4 tkC L' = HA.row vb 66 4 mbC (mixL bs' (L'.map (·.2.1))) := by rw [← hLm, row_tk]
      have e4 : L'.map stkH = stkR bs' (L'.map (·.2.1)) := by rw [← hLm, stkR_map]
      have hus' : (L'.map (·.2.1)).length = bs'.length := by rw [← hLm]; simp
      rw [e3, e4]
      apply WL_mkFact hus'
      apply WL_mkExs (h := fun us : List Value => [.fact (us.length = bs'.length), .row vi 3 1 iC f.ids, .row vq 55 2 quC f.qs, .row vb 66 4 mbC (mixL bs' us), .row vp 53 3 payC f.ps, .pack (stkR bs' us)]) (L'.map (·.2.1))
      · exact goCutl
      rw [show HA.exs (fun us : List Value => [.fact (us.length = bs'.length), .row vi 3 1 iC f.ids, .row vq 55 2 quC f.qs, .row vb 66 4 mbC (mixL bs' us), .row vp 53 3 payC f.ps, .pack (stkR bs' us)]) = floOwn vi vq vb vp { f with bs := bs' } from rfl]
      (refine goSt ?_; (repeat (refine goAl ?_; intro p hp; refine goSt ?_)))
      (apply wl_borrow 30 (flo_thaw vi vq vb vp { f with bs := bs' }) (check_con { f with bs := bs' } hS'); exact rfl; exact rfl; exact goCutl; exact Pers.glob Pers.nil; exact rfl)
      cases hok2 : floOk { f with bs := bs' } with
      | false =>
        rw [show errF { f with bs := bs' } = 80 by unfold errF; rw [hok2]; rfl]
        (refine goSt ?_; (repeat (refine goAl ?_; intro p hp; refine goSt ?_)))
        rw [if_neg (by simp)]
        (refine Res_add _ floE_own ?_; apply resKN1; exact rfl; exact rfl; exact goAtm; exact inferInstance; exact rfl; exact rfl; exact flP_nil _; exact goCutl)
      | true =>
        rw [show errF { f with bs := bs' } = 0 by unfold errF; rw [hok2]; rfl]
        (refine goSt ?_; (repeat (refine goAl ?_; intro p hp; refine goSt ?_)))
        rw [if_pos rfl]
        (apply resKN1; exact rfl; exact rfl; exact goAtm; exact inferInstance; exact rfl; exact rfl; exact ⟨vi, vq, vb, vp, ⟨inferInstance, inferInstance, inferInstance, inferInstance⟩, rfl, rfl⟩; exact goCutl)
end Go.Proofs.YtihonljdanjfmaaDoor.Sw
namespace Go.Proofs.YtihonljdanjfmaaDoor.Sw
open Go.RowKit Go Go.Shelf Go.Proofs
def greatF (f : Flo) : Bool := decide ((10 : Int) < f.ids.length) || decide ((20 : Int) < f.qs.length) || decide ((16 : Int) < f.bs.length) || decide ((20 : Int) < f.ps.length) || f.bs.any fun b => decide ((10 : Int) < b.st.length)
theorem sml_of {f : Flo} (h : greatF f = false) : f.ids.length ≤ 10 ∧ f.qs.length ≤ 20 ∧ f.bs.length ≤ 16 ∧ f.ps.length ≤ 20 ∧ ∀ b ∈ f.bs, b.st.length ≤ 10 := by
  simp [greatF] at h
  exact ⟨by omega, by omega, by omega, by omega, fun b hb => by have := h.2 b hb; omega⟩
set_option maxRecDepth 20000 in
theorem great8_con (f : Flo) : Con Tryd.prog 9 [.agg (flC f)] [] (Is (.val (.bool (greatF f))) []) := by
  refine con_of Tryd.func9 rfl (enters_of Tryd.func9 (by kernel_rfl) rfl) rfl ?_; intro n w0 F0 G0
  (refine goSt ?_; (repeat (refine goAl ?_; intro p hp; refine goSt ?_)))
  refine wl_part rfl rfl (fun g1 => ?_) (fun g1 => ?_)
  · (refine goSt ?_; (repeat (refine goAl ?_; intro p hp; refine goSt ?_)))
    (apply res1; exact rfl; exact rfl; exact ⟨(congrArg (fun b => AV.val (Value.bool b)) (by simp at g1; simp [greatF, g1])), rfl⟩)
  · (refine goSt ?_; (repeat (refine goAl ?_; intro p hp; refine goSt ?_)))
    refine wl_part rfl rfl (fun g2 => ?_) (fun g2 => ?_)
    · (refine goSt ?_; (repeat (refine goAl ?_; intro p hp; refine goSt ?_)))
      (apply res1; exact rfl; exact rfl; exact ⟨(congrArg (fun b => AV.val (Value.bool b)) (by simp at g2; simp [greatF, g2])), rfl⟩)
    · (refine goSt ?_; (repeat (refine goAl ?_; intro p hp; refine goSt ?_)))
      refine wl_part rfl rfl (fun g3 => ?_) (fun g3 => ?_)
      · (refine goSt ?_; (repeat (refine goAl ?_; intro p hp; refine goSt ?_)))
        (apply res1; exact rfl; exact rfl; exact ⟨(congrArg (fun b => AV.val (Value.bool b)) (by simp at g3; simp [greatF, g3])), rfl⟩)
      · (refine goSt ?_; (repeat (refine goAl ?_; intro p hp; refine goSt ?_)))
        refine w_cond rfl (fun g4 => ?_) (fun g4 => ?_)
        · (refine goSt ?_; (repeat (refine goAl ?_; intro p hp; refine goSt ?_)))
          (apply res1; exact rfl; exact rfl; exact ⟨(congrArg (fun b => AV.val (Value.bool b)) (by simp at g4; simp [greatF, g4])), rfl⟩)
        · have hW : greatF f = f.bs.any fun b => decide ((10 : Int) < b.st.length) := by unfold greatF; rw [g1, g2, g3, g4]; simp
          have hbl : f.bs.length ≤ 16 := by simp at g3; omega
          rw [hW]
          (refine goSt ?_; (repeat (refine goAl ?_; intro p hp; refine goSt ?_)))
          refine W_loopJ (fun (k : Nat) => ⟨[(28, .sl 4 biC f.bs), (29, .val (.int .i64 f.bs.length)), (30, .val (.int .i64 k))], []⟩) (fun k => k ≤ f.bs.length ∧ (f.bs.take k).any (fun b => decide ((10 : Int) < b.st.length)) = false) (fun k => f.bs.length - k) 0 (fun _ _ st => st_sub2 st goSubr goSubp) ?hj0 ?round
          case hj0 => simp
          case round =>
            rintro k ⟨hk, hno⟩
            (refine goSt ?_; (repeat (refine goAl ?_; intro p hp; refine goSt ?_)))
            refine w_cond rfl (fun hlt => ?_) (fun hlt => ?_)
            · have hlt' : k < f.bs.length := by simpa using hlt
              have htk : f.bs.take (k + 1) = f.bs.take k ++ [f.bs[k]] := List.take_succ_eq_append_getElem hlt'
              (refine goSt ?_; (repeat (refine goAl ?_; intro p hp; refine goSt ?_)))
              refine w_cond rfl (fun hg => ?_) (fun hg => ?_)
              · (refine goSt ?_; (repeat (refine goAl ?_; intro p hp; refine goSt ?_)))
                have : f.bs.any (fun b => decide ((10 : Int) < b.st.length)) = true := List.any_eq_true.2 ⟨_, List.getElem_mem hlt', hg⟩
                (apply res1; exact rfl; exact rfl; exact ⟨(congrArg (fun b => AV.val (Value.bool b)) (by rw [this])), rfl⟩)
              · (refine goSt ?_; (repeat (refine goAl ?_; intro p hp; refine goSt ?_)))
                (refine ⟨k + 1, fun _ _ st => st_sub2 st ?_ ?_, ?_, ?_⟩; exact goSubr; exact goSubp)
                · exact ⟨by omega, by rw [htk, List.any_append, hno]; simpa using hg⟩
                · omega
            · (refine goSt ?_; (repeat (refine goAl ?_; intro p hp; refine goSt ?_)))
              have hkk : k = f.bs.length := by simp at hlt; omega
              subst hkk
              rw [List.take_length] at hno
              (apply res1; exact rfl; exact rfl; exact ⟨(congrArg (fun b => AV.val (Value.bool b)) hno.symm), rfl⟩)
set_option maxRecDepth 20000 in
theorem sameInts_con (xs ys : List Int) (hl : xs.length ≤ 1000000) (hl2 : ys.length ≤ 1000000) : Con Tryd.prog 88 [.sl 1 iC xs, .sl 1 iC ys] [] (Is (.val (.bool (decide (xs = ys)))) []) := by
  refine con_of Tryd.func88 rfl (enters_of Tryd.func88 (by kernel_rfl) rfl) rfl ?_; intro n w0 F0 G0
  (refine goSt ?_; (repeat (refine goAl ?_; intro p hp; refine goSt ?_)))
  refine w_cond rfl (fun hne => ?_) (fun hne => ?_)
  · have hne' : xs ≠ ys := by intro e; rw [e] at hne; simp at hne
    (refine goSt ?_; (repeat (refine goAl ?_; intro p hp; refine goSt ?_)))
    (apply res1; exact rfl; exact rfl; exact ⟨(congrArg (fun b => AV.val (Value.bool b)) (by simp [hne'])), rfl⟩)
  · have hlen : xs.length = ys.length := by simp at hne; omega
    (refine goSt ?_; (repeat (refine goAl ?_; intro p hp; refine goSt ?_)))
    refine W_loopJ (fun (k : Nat) => ⟨[(0, .sl 1 iC xs), (1, .sl 1 iC ys), (5, .val (.int .i64 k))], []⟩) (fun k => k ≤ xs.length ∧ xs.take k = ys.take k) (fun k => xs.length - k) 0 (fun _ _ st => st_sub2 st goSubr goSubp) ?hj0 ?round
    case hj0 => simp
    case round =>
      rintro k ⟨hk, hall⟩
      (refine goSt ?_; (repeat (refine goAl ?_; intro p hp; refine goSt ?_)))
      refine w_cond rfl (fun hlt => ?_) (fun hlt => ?_)
      · have hlt' : k < xs.length := by simpa using hlt
        have hlt2 : k < ys.length := by omega
        have hq1 : xs[k]? = some xs[k] := List.getElem?_eq_getElem hlt'
        have hq2 : ys[k]? = some ys[k] := List.getElem?_eq_getElem hlt2
        (refine goSt ?_; (repeat (refine goAl ?_; intro p hp; refine goSt ?_)))
        refine W_run 8 [17, 18, 19, 20, 21, 22, 23, 24] [0, 1, 2, 3, 4, 5, 6, 7] Cut.nil rfl goFlt mixedS (by kernel_rfl) rfl ?_
        refine rpv [] [] ?_
        refine rpv [] [] ?_
        refine rpv [0, 1] [] ?_
        refine rpv [2] [] ?_
        refine rpv [] [] ?_
        refine rpv [] [] ?_
        refine rpv [4, 5] [] ?_
        refine rpv [6] [] ?_
        refine ⟨⟨by kernel_rfl, by kernel_rfl⟩, fun vs => ?_⟩
        apply WL_auto [3, 7]
        · exact goPk
        · exact goNrm
        · kernel_rfl
        · kernel_rfl
        (refine goSt ?_; (repeat (refine goAl ?_; intro p hp; refine goSt ?_)))
        refine w_cond rfl (fun hg => ?_) (fun hg => ?_)
        · have hne' : xs ≠ ys := by intro e; subst e; simp at hg
          (refine goSt ?_; (repeat (refine goAl ?_; intro p hp; refine goSt ?_)))
          (apply res1; exact rfl; exact rfl; exact ⟨(congrArg (fun b => AV.val (Value.bool b)) (by simp [hne'])), rfl⟩)
        · (refine goSt ?_; (repeat (refine goAl ?_; intro p hp; refine goSt ?_)))
          (refine ⟨k + 1, fun _ _ st => st_sub2 st ?_ ?_, ?_, ?_⟩; exact goSubr; exact goSubp)
          · refine ⟨by omega, ?_⟩
            rw [List.take_succ_eq_append_getElem hlt', List.take_succ_eq_append_getElem hlt2, hall]
            simp at hg; rw [hg]
          · omega
      · (refine goSt ?_; (repeat (refine goAl ?_; intro p hp; refine goSt ?_)))
        have hkk : k = xs.length := by simp at hlt; omega
        have he : xs = ys := by
          rw [List.take_of_length_le (by omega), List.take_of_length_le (by omega)] at hall; exact hall
        (apply res1; exact rfl; exact rfl; exact ⟨(congrArg (fun b => AV.val (Value.bool b)) (by simp [he])), rfl⟩)
set_option maxRecDepth 20000 in
theorem sameInts7_con (xs ys : List Int) (hl : xs.length ≤ 1000000) (hl2 : ys.length ≤ 1000000) : Con Tryd.prog 65 [.sl 1 iC xs, .sl 1 iC ys] [] (Is (.val (.bool (decide (xs = ys)))) []) := by
  refine con_of Tryd.func65 rfl (enters_of Tryd.func65 (by kernel_rfl) rfl) rfl ?_; intro n w0 F0 G0
  (refine goSt ?_; (repeat (refine goAl ?_; intro p hp; refine goSt ?_)))
  (first | (apply wl_call (sameInts_con _ _ hl hl2); exact rfl; exact rfl) | (apply wl_callR (sameInts_con _ _ hl hl2); exact rfl; exact goAtm; exact rfl))
  (refine goSt ?_; (repeat (refine goAl ?_; intro p hp; refine goSt ?_)))
  (apply res1; exact rfl; exact rfl; exact ⟨rfl, rfl⟩)
set_option maxRecDepth 20000 in
theorem sameInts8_con (xs ys : List Int) (hl : xs.length ≤ 1000000) (hl2 : ys.length ≤ 1000000) : Con Tryd.prog 13 [.sl 1 iC xs, .sl 1 iC ys] [] (Is (.val (.bool (decide (xs = ys)))) []) := by
  refine con_of Tryd.func13 rfl (enters_of Tryd.func13 (by kernel_rfl) rfl) rfl ?_; intro n w0 F0 G0
  (refine goSt ?_; (repeat (refine goAl ?_; intro p hp; refine goSt ?_)))
  (first | (apply wl_call (sameInts7_con _ _ hl hl2); exact rfl; exact rfl) | (apply wl_callR (sameInts7_con _ _ hl hl2); exact rfl; exact goAtm; exact rfl))
  (refine goSt ?_; (repeat (refine goAl ?_; intro p hp; refine goSt ?_)))
  (apply res1; exact rfl; exact rfl; exact ⟨rfl, rfl⟩)
theorem payNe (x y : Pay) : (!decide ([x.a, x.b, x.p] = [y.a, y.b, y.p])) = !decide (x = y) := by
  congr 1
  refine decide_eq_decide.2 ?_
  cases x; cases y; simp
set_option maxRecDepth 20000 in
theorem samePays_con (xs ys : List Pay) (hl : xs.length ≤ 1000000) (hl2 : ys.length ≤ 1000000) : Con Tryd.prog 15 [.sl 3 payC xs, .sl 3 payC ys] [] (Is (.val (.bool (decide (xs = ys)))) []) := by
  refine con_of Tryd.func15 rfl (enters_of Tryd.func15 (by kernel_rfl) rfl) rfl ?_; intro n w0 F0 G0
  (refine goSt ?_; (repeat (refine goAl ?_; intro p hp; refine goSt ?_)))
  refine w_cond rfl (fun hne => ?_) (fun hne => ?_)
  · have hne' : xs ≠ ys := by intro e; rw [e] at hne; simp at hne
    (refine goSt ?_; (repeat (refine goAl ?_; intro p hp; refine goSt ?_)))
    (apply res1; exact rfl; exact rfl; exact ⟨(congrArg (fun b => AV.val (Value.bool b)) (by simp [hne'])), rfl⟩)
  · have hlen : xs.length = ys.length := by simp at hne; omega
    (refine goSt ?_; (repeat (refine goAl ?_; intro p hp; refine goSt ?_)))
    refine W_loopJ (fun (k : Nat) => ⟨[(0, .sl 3 payC xs), (1, .sl 3 payC ys), (5, .val (.int .i64 k))], []⟩) (fun k => k ≤ xs.length ∧ xs.take k = ys.take k) (fun k => xs.length - k) 0 (fun _ _ st => st_sub2 st goSubr goSubp) ?hj0 ?round
    case hj0 => simp
    case round =>
      rintro k ⟨hk, hall⟩
      (refine goSt ?_; (repeat (refine goAl ?_; intro p hp; refine goSt ?_)))
      refine w_cond rfl (fun hlt => ?_) (fun hlt => ?_)
      · have hlt' : k < xs.length := by simpa using hlt
        have hlt2 : k < ys.length := by omega
        have hq1 : xs[k]? = some xs[k] := List.getElem?_eq_getElem hlt'
        have hq2 : ys[k]? = some ys[k] := List.getElem?_eq_getElem hlt2
        (refine goSt ?_; (repeat (refine goAl ?_; intro p hp; refine goSt ?_)))
        refine W_run 8 [17, 18, 19, 20, 21, 22, 23, 24] [0, 1, 2, 3, 4, 5, 6, 7] Cut.nil rfl goFlt mixedS (by kernel_rfl) rfl ?_
        refine rpv [] [] ?_
        refine rpv [] [] ?_
        refine rpv [0, 1] [] ?_
        refine rpv [2] [] ?_
        refine rpv [] [] ?_
        refine rpv [] [] ?_
        refine rpv [4, 5] [] ?_
        refine rpv [6] [] ?_
        refine ⟨⟨by kernel_rfl, by kernel_rfl⟩, fun vs => ?_⟩
        apply WL_auto [3, 7]
        · exact goPk
        · exact goNrm
        · kernel_rfl
        · kernel_rfl
        (refine goSt ?_; (repeat (refine goAl ?_; intro p hp; refine goSt ?_)))
        rw [payNe]
        refine w_cond rfl (fun hg => ?_) (fun hg => ?_)
        · have hne' : xs ≠ ys := by intro e; subst e; simp at hg
          (refine goSt ?_; (repeat (refine goAl ?_; intro p hp; refine goSt ?_)))
          (apply res1; exact rfl; exact rfl; exact ⟨(congrArg (fun b => AV.val (Value.bool b)) (by simp [hne'])), rfl⟩)
        · (refine goSt ?_; (repeat (refine goAl ?_; intro p hp; refine goSt ?_)))
          (refine ⟨k + 1, fun _ _ st => st_sub2 st ?_ ?_, ?_, ?_⟩; exact goSubr; exact goSubp)
          · refine ⟨by omega, ?_⟩
            rw [List.take_succ_eq_append_getElem hlt', List.take_succ_eq_append_getElem hlt2, hall]
            simp at hg; rw [hg]
          · omega
      · (refine goSt ?_; (repeat (refine goAl ?_; intro p hp; refine goSt ?_)))
        have hkk : k = xs.length := by simp at hlt; omega
        have he : xs = ys := by
          rw [List.take_of_length_le (by omega), List.take_of_length_le (by omega)] at hall; exact hall
        (apply res1; exact rfl; exact rfl; exact ⟨(congrArg (fun b => AV.val (Value.bool b)) (by simp [he])), rfl⟩)
end Go.Proofs.YtihonljdanjfmaaDoor.Sw
namespace Go.Proofs.YtihonljdanjfmaaDoor.Sw
open Go.RowKit Go Go.Shelf Go.Proofs
set_option maxRecDepth 20000 in
set_option maxHeartbeats 2000000 in
theorem twin8_con (f : Flo) (hS : Sml f) : Con Tryd.prog 10 [.agg (flC f)] [] (Is (.agg (flC f)) []) := by
  have hidsl := hS.ids
  have hqsl := hS.qs
  have hbsl := hS.bs
  have hpsl := hS.ps
  refine con_of Tryd.func10 rfl (enters_of Tryd.func10 (by kernel_rfl) rfl) rfl ?_; intro n w0 F0 G0
  (refine goSt ?_; (repeat (refine goAl ?_; intro p hp; refine goSt ?_)))
  rename_i pf hpf
  refine W_run 14 [6, 7, 8, 9, 10, 11, 12, 13, 14, 15, 16, 17, 18, 3] [1, 2, 3, 5, 6, 7, 9, 10, 11, 12, 13] Cut.nil rfl goFlt mixedS (by kernel_rfl) rfl ?_
  refine Run.tok [] [] rfl (fun vs => by apply ltr_pk; exact goPk; (refine ltr ?_; apply lt_lit (f := iC); (repeat (first | exact Elems.nil | (apply Elems.cons; exact rfl; exact inferInstance; exact rfl))); exact rfl; (first | exact (of_decide_eq_true rfl) | decide | (simp; done) | (simp; omega)))) goApp ?_
  refine rpv [] [] ?_
  refine rpv [1] [] ?_
  refine Run.pv [0, 2] [0] rfl (fun vs => by apply ltr_pk; exact goPk; (refine ltr ?_; apply LT_frz; apply lt_append; exact rfl; exact rfl; (first | omega | (simp; omega)))) goApp ?_
  refine Run.tok [] [] rfl (fun vs => by apply ltr_pk; exact goPk; (refine ltr ?_; apply lt_lit (f := quC); (repeat (first | exact Elems.nil | (apply Elems.cons; exact rfl; exact inferInstance; exact rfl))); exact rfl; (first | exact (of_decide_eq_true rfl) | decide | (simp; done) | (simp; omega)))) goApp ?_
  refine rpv [] [] ?_
  refine rpv [5] [] ?_
  refine Run.pv [4, 6] [4] rfl (fun vs => by apply ltr_pk; exact goPk; (refine ltr ?_; apply LT_frz; apply lt_append; exact rfl; exact rfl; (first | omega | (simp; omega)))) goApp ?_
  refine Run.tok [] [] rfl (fun vs => by apply ltr_pk; exact goPk; (refine ltr ?_; apply lt_lit (f := payC); (repeat (first | exact Elems.nil | (apply Elems.cons; exact rfl; exact inferInstance; exact rfl))); exact rfl; (first | exact (of_decide_eq_true rfl) | decide | (simp; done) | (simp; omega)))) goApp ?_
  refine rpv [] [] ?_
  refine rpv [9] [] ?_
  refine Run.pv [8, 10] [8] rfl (fun vs => by apply ltr_pk; exact goPk; (refine ltr ?_; apply LT_frz; apply lt_append; exact rfl; exact rfl; (first | omega | (simp; omega)))) goApp ?_
  refine Run.pv [3, 7, 11] [] rfl (fun vs => by apply ltr_pk; exact goPk; (refine ltr ?_; apply lt_build; apply Parts.cons (av := .sl 1 iC ([] ++ f.ids)); exact rfl; exact rfl; exact inferInstance; exact rfl; exact (of_decide_eq_true rfl); apply Parts.cons (av := .sl 2 quC ([] ++ f.qs)); exact rfl; exact rfl; exact inferInstance; exact rfl; exact (of_decide_eq_true rfl); apply Parts.cons (av := .sl 3 payC ([] ++ f.ps)); exact rfl; exact rfl; exact inferInstance; exact rfl; exact (of_decide_eq_true rfl); exact Parts.nil)) goApp ?_
  refine Run.tok [] [] rfl (fun vs => by apply ltr_pk; exact goPk; exact goLtr) goApp ?_
  refine ⟨⟨by kernel_rfl, by kernel_rfl⟩, fun vs => ?_⟩
  refine WL_to [(1, .val pf), (2, .val p), (18, .agg [.sl 1 iC ([] ++ f.ids), .sl 2 quC ([] ++ f.qs), .val (.slice none 0 0), .sl 3 payC ([] ++ f.ps)]), (3, .val (vs 13))] [.box (vs 13) [.val (.slice none 0 0), .val (.slice none 0 0), .val (.slice none 0 0), .val (.slice none 0 0)] 27, .box p [.val (.slice none 0 0), .val (.slice none 0 0), .val (.slice none 0 0), .val (.slice none 0 0)] 27, .box pf (flC f) 27] (by kernel_rfl) (by kernel_rfl) ?_
  generalize vs 13 = q
  (refine goSt ?_; (repeat (refine goAl ?_; intro p hp; refine goSt ?_)))
  (refine goSt ?_; (repeat (refine goAl ?_; intro p hp; refine goSt ?_)))
  refine W_loopJ (fun (b : Nat × Value) => ⟨[(1, .val pf), (2, .val p), (3, .val q), (20, .sl 4 biC f.bs), (21, .val (.int .i64 f.bs.length)), (22, .val (.int .i64 b.1))], [.row b.2 66 4 biC (f.bs.take b.1), .box q [.sl 1 iC f.ids, .sl 2 quC f.qs, .val b.2, .sl 3 payC f.ps] 27, .box p [.val (.slice none 0 0), .val (.slice none 0 0), .val (.slice none 0 0), .val (.slice none 0 0)] 27]⟩) (fun b => b.1 ≤ f.bs.length) (fun b => f.bs.length - b.1) (0, .slice none 0 0) (fun _ _ st => st_sub2 (st_nil 66 4 biC st) (by exact goSubr) (by exact goSubp)) (Nat.zero_le _) ?_
  rintro ⟨k, v⟩ hk
  dsimp only at hk ⊢
  (refine goSt ?_; (repeat (refine goAl ?_; intro p hp; refine goSt ?_)))
  refine w_cond rfl (fun hlt => ?_) (fun hlt => ?_)
  · have hlt' : k < f.bs.length := by simpa using hlt
    have hm := hS.st _ (List.getElem_mem hlt')
    have htk : f.bs.take (k + 1) = f.bs.take k ++ [f.bs[k]] := List.take_succ_eq_append_getElem hlt'
    (refine goSt ?_; (repeat (refine goAl ?_; intro p hp; refine goSt ?_)))
    (apply wl_lit stC; exact inferInstance; exact inferInstance; exact inferInstance; (repeat (first | exact Elems.nil | (apply Elems.cons; exact rfl; exact inferInstance; exact rfl))); exact rfl; (first | exact (of_decide_eq_true rfl) | decide | (simp; done) | (simp; omega)); exact rfl)
    intro v1
    (refine goSt ?_; (repeat (refine goAl ?_; intro p hp; refine goSt ?_)))
    (first | (apply wl_append; exact rfl; exact rfl; exact goRm; exact inferInstance; exact inferInstance; (first | omega | (simp; omega)); exact rfl) | (apply wl_appendN; exact rfl; exact rfl; exact inferInstance; exact inferInstance; (first | omega | (simp; omega)); exact rfl))
    intro v2
    (apply WL_frz 29; exact rfl; exact goRm)
    (refine goSt ?_; (repeat (refine goAl ?_; intro p hp; refine goSt ?_)))
    refine WL_as 33 (.agg (biC f.bs[k])) rfl ?_
    (apply wl_litF biC; exact inferInstance; exact inferInstance; exact inferInstance; (repeat (first | exact Elems.nil | (apply Elems.cons; exact rfl; exact inferInstance; exact rfl))); exact rfl; (first | exact (of_decide_eq_true rfl) | decide | (simp; done) | (simp; omega)); exact rfl)
    (first | (apply wl_append; exact rfl; exact rfl; exact goRm; exact inferInstance; exact inferInstance; (first | omega | (simp; omega)); exact rfl) | (apply wl_appendN; exact rfl; exact rfl; exact inferInstance; exact inferInstance; (first | omega | (simp; omega)); exact rfl))
    intro v'
    rw [← htk]
    refine WL_one At.here (fun hone => ?_)
    (refine goSt ?_; (repeat (refine goAl ?_; intro p hp; refine goSt ?_)))
    (refine ⟨(k + 1, v'), fun _ _ st => st_sub2 st ?_ ?_, ?_, ?_⟩; exact goSubr; exact goSubp)
    · dsimp only; omega
    · dsimp only; omega
  · have hkk : k = f.bs.length := by simp at hlt; omega
    subst hkk
    rw [List.take_length]
    (refine goSt ?_; (repeat (refine goAl ?_; intro p hp; refine goSt ?_)))
    (apply WL_frzA 38 2; exact rfl; exact rfl; exact goRm)
    refine WL_as 38 (.agg (flC f)) rfl ?_
    (refine goSt ?_; (repeat (refine goAl ?_; intro p hp; refine goSt ?_)))
    (apply resN; exact rfl; exact rfl; exact goAtm; exact inferInstance; exact rfl; exact ⟨rfl, rfl⟩)
end Go.Proofs.YtihonljdanjfmaaDoor.Sw
namespace Go.Proofs.YtihonljdanjfmaaDoor.Sw
open Go.RowKit Go Go.Shelf Go.Proofs
theorem quNe (x y : Qu) : (!decide ([x.a, x.b] = [y.a, y.b])) = !decide (x = y) := by
  congr 1
  refine decide_eq_decide.2 ?_
  cases x; cases y; simp
theorem stNe (x y : Stk) : (!decide ([x.fl, x.pt] = [y.fl, y.pt])) = !decide (x = y) := by
  congr 1
  refine decide_eq_decide.2 ?_
  cases x; cases y; simp
theorem take_succ_eq {α : Type} {xs ys : List α} {k : Nat} (h : xs.take k = ys.take k) (h1 : k < xs.length) (h2 : k < ys.length) (e : xs[k] = ys[k]) : xs.take (k + 1) = ys.take (k + 1) := by
  rw [List.take_succ_eq_append_getElem h1, List.take_succ_eq_append_getElem h2, h, e]
theorem take_all_eq {α : Type} {xs ys : List α} {k : Nat} (h : xs.take k = ys.take k) (h1 : xs.length ≤ k) (h2 : ys.length ≤ k) : xs = ys := by
  rwa [List.take_of_length_le h1, List.take_of_length_le h2] at h
set_option maxRecDepth 20000 in
set_option maxHeartbeats 2000000 in
theorem same8_con (f g : Flo) (hS : Sml f) (hT : Sml g) : Con Tryd.prog 14 [.agg (flC f), .agg (flC g)] [] (Is (.val (.bool (decide (f = g)))) []) := by
  have hidsl := hS.ids
  have hqsl := hS.qs
  have hbsl := hS.bs
  have hpsl := hS.ps
  have hidsl2 := hT.ids
  have hpsl2 := hT.ps
  refine con_of Tryd.func14 rfl (enters_of Tryd.func14 (by kernel_rfl) rfl) rfl ?_; intro n w0 F0 G0
  (refine goSt ?_; (repeat (refine goAl ?_; intro p hp; refine goSt ?_)))
  rename_i pf hpf
  (first | (apply wl_call (sameInts8_con f.ids g.ids (by omega) (by omega)); exact rfl; exact rfl) | (apply wl_callR (sameInts8_con f.ids g.ids (by omega) (by omega)); exact rfl; exact goAtm; exact rfl))
  (refine goSt ?_; (repeat (refine goAl ?_; intro p hp; refine goSt ?_)))
  refine wl_part rfl rfl (fun g1 => ?_) (fun g1 => ?_)
  · have hne : f ≠ g := by intro e; subst e; simp at g1
    (refine goSt ?_; (repeat (refine goAl ?_; intro p hp; refine goSt ?_)))
    (apply res1; exact rfl; exact rfl; exact ⟨(congrArg (fun b => AV.val (Value.bool b)) (by simp [hne])), rfl⟩)
  · have e1 : f.ids = g.ids := by simpa using g1
    (refine goSt ?_; (repeat (refine goAl ?_; intro p hp; refine goSt ?_)))
    refine wl_part rfl rfl (fun g2 => ?_) (fun g2 => ?_)
    · have hne : f ≠ g := by intro e; subst e; simp at g2
      (refine goSt ?_; (repeat (refine goAl ?_; intro p hp; refine goSt ?_)))
      (apply res1; exact rfl; exact rfl; exact ⟨(congrArg (fun b => AV.val (Value.bool b)) (by simp [hne])), rfl⟩)
    · have e2 : f.qs.length = g.qs.length := by simp at g2; omega
      (refine goSt ?_; (repeat (refine goAl ?_; intro p hp; refine goSt ?_)))
      refine wl_part rfl rfl (fun g3 => ?_) (fun g3 => ?_)
      · have hne : f ≠ g := by intro e; subst e; simp at g3
        (refine goSt ?_; (repeat (refine goAl ?_; intro p hp; refine goSt ?_)))
        (apply res1; exact rfl; exact rfl; exact ⟨(congrArg (fun b => AV.val (Value.bool b)) (by simp [hne])), rfl⟩)
      · have e3 : f.bs.length = g.bs.length := by simp at g3; omega
        (refine goSt ?_; (repeat (refine goAl ?_; intro p hp; refine goSt ?_)))
        (first | (apply wl_call (samePays_con f.ps g.ps (by omega) (by omega)); exact rfl; exact rfl) | (apply wl_callR (samePays_con f.ps g.ps (by omega) (by omega)); exact rfl; exact goAtm; exact rfl))
        (refine goSt ?_; (repeat (refine goAl ?_; intro p hp; refine goSt ?_)))
        refine w_cond rfl (fun g4 => ?_) (fun g4 => ?_)
        · have hne : f ≠ g := by intro e; subst e; simp at g4
          (refine goSt ?_; (repeat (refine goAl ?_; intro p hp; refine goSt ?_)))
          (apply res1; exact rfl; exact rfl; exact ⟨(congrArg (fun b => AV.val (Value.bool b)) (by simp [hne])), rfl⟩)
        · have e4 : f.ps = g.ps := by simpa using g4
          (refine goSt ?_; (repeat (refine goAl ?_; intro p hp; refine goSt ?_)))
          refine W_loopJ (fun (k : Nat) => ⟨[(2, .val pf), (3, .val p), (5, .val (.int .i64 k))], [.box pf (flC f) 27, .box p (flC g) 27]⟩) (fun k => k ≤ f.qs.length ∧ f.qs.take k = g.qs.take k) (fun k => f.qs.length - k) 0 (fun _ _ st => st_sub2 st goSubr goSubp) ?hj0 ?round
          case hj0 => simp
          case round =>
            rintro k ⟨hk, hall⟩
            (refine goSt ?_; (repeat (refine goAl ?_; intro p hp; refine goSt ?_)))
            refine w_cond rfl (fun hlt => ?_) (fun hlt => ?_)
            · have hlt' : k < f.qs.length := by simpa using hlt
              have hlt2 : k < g.qs.length := by omega
              have hq1 : f.qs[k]? = some f.qs[k] := List.getElem?_eq_getElem hlt'
              have hq2 : g.qs[k]? = some g.qs[k] := List.getElem?_eq_getElem hlt2
              (refine goSt ?_; (repeat (refine goAl ?_; intro p hp; refine goSt ?_)))
              refine W_run 10 [49, 50, 51, 52, 53, 54, 55, 56, 57, 58] [0, 1, 2, 3, 4, 5, 6, 7, 8, 9] Cut.nil rfl goFlt mixedS (by kernel_rfl) rfl ?_
              refine rpv [] [] ?_
              refine rpv [0] [] ?_
              refine rpv [] [] ?_
              refine rpv [1, 2] [] ?_
              refine rpv [3] [] ?_
              refine rpv [] [] ?_
              refine rpv [5] [] ?_
              refine rpv [] [] ?_
              refine rpv [6, 7] [] ?_
              refine rpv [8] [] ?_
              refine ⟨⟨by kernel_rfl, by kernel_rfl⟩, fun vs => ?_⟩
              refine WL_to [(2, .val pf), (3, .val p), (5, .val (.int .i64 k)), (53, .agg (quC f.qs[k])), (58, .agg (quC g.qs[k]))] [.box pf (flC f) 27, .box p (flC g) 27] (by kernel_rfl) (by kernel_rfl) ?_
              (refine goSt ?_; (repeat (refine goAl ?_; intro p hp; refine goSt ?_)))
              rw [quNe]
              refine w_cond rfl (fun hg => ?_) (fun hg => ?_)
              · have hne : f ≠ g := by intro e; subst e; simp at hg
                (refine goSt ?_; (repeat (refine goAl ?_; intro p hp; refine goSt ?_)))
                (apply res1; exact rfl; exact rfl; exact ⟨(congrArg (fun b => AV.val (Value.bool b)) (by simp [hne])), rfl⟩)
              · (refine goSt ?_; (repeat (refine goAl ?_; intro p hp; refine goSt ?_)))
                (refine ⟨k + 1, fun _ _ st => st_sub2 st ?_ ?_, ?_, ?_⟩; exact goSubr; exact goSubp)
                · exact ⟨by omega, take_succ_eq hall hlt' hlt2 (by simpa using hg)⟩
                · omega
            · have e5 : f.qs = g.qs := take_all_eq hall (by simp at hlt; omega) (by simp at hlt; omega)
              (refine goSt ?_; (repeat (refine goAl ?_; intro p hp; refine goSt ?_)))
              refine W_loopJ (fun (k : Nat) => ⟨[(2, .val pf), (3, .val p), (6, .val (.int .i64 k))], [.box pf (flC f) 27, .box p (flC g) 27]⟩) (fun k => k ≤ f.bs.length ∧ f.bs.take k = g.bs.take k) (fun k => f.bs.length - k) 0 (fun _ _ st => st_sub2 st goSubr goSubp) ?hj0 ?round
              case hj0 => simp
              case round =>
                clear hlt hall hk k
                rintro k ⟨hk, hall⟩
                (refine goSt ?_; (repeat (refine goAl ?_; intro p hp; refine goSt ?_)))
                refine w_cond rfl (fun hlt => ?_) (fun hlt => ?_)
                · have hlt' : k < f.bs.length := by simpa using hlt
                  have hlt2 : k < g.bs.length := by omega
                  have hq1 : f.bs[k]? = some f.bs[k] := List.getElem?_eq_getElem hlt'
                  have hq2 : g.bs[k]? = some g.bs[k] := List.getElem?_eq_getElem hlt2
                  have hsl1 := hS.st _ (List.getElem_mem hlt')
                  have hsl2 := hT.st _ (List.getElem_mem hlt2)
                  (refine goSt ?_; (repeat (refine goAl ?_; intro p hp; refine goSt ?_)))
                  refine W_run 13 [67, 68, 69, 70, 71, 72, 73, 74, 75, 76, 7, 8, 1000012] [0, 1, 2, 3, 4, 5, 6, 7, 8, 9, 11, 12] Cut.nil rfl goFlt mixedS (by kernel_rfl) rfl ?_
                  refine rpv [] [] ?_
                  refine rpv [0] [] ?_
                  refine rpv [] [] ?_
                  refine rpv [1, 2] [] ?_
                  refine rpv [3] [] ?_
                  refine rpv [] [] ?_
                  refine rpv [5] [] ?_
                  refine rpv [] [] ?_
                  refine rpv [6, 7] [] ?_
                  refine rpv [8] [] ?_
                  refine Run.tok [] [] rfl (fun vs => by apply ltr_pk; exact goPk; exact goLtr) goApp ?_
                  refine Run.tok [] [] rfl (fun vs => by apply ltr_pk; exact goPk; exact goLtr) goApp ?_
                  refine Run.fx [4, 10] [10] 10 (fun q => [.box q (biC f.bs[k]) 66]) rfl (fun vs => by apply ltr_pk; exact goPk; (refine ltr ?_; apply LT.fx; apply lt_store (av := .agg (biC f.bs[k])); (first | exact .inl rfl | exact .inr ⟨rfl, rfl⟩); exact rfl; exact rfl; exact (of_decide_eq_true rfl); exact rfl)) goApp ?_
                  refine ⟨⟨by kernel_rfl, by kernel_rfl⟩, fun vs => ?_⟩
                  refine WL_to [(2, .val pf), (3, .val p), (6, .val (.int .i64 k)), (7, .val (vs 10)), (8, .val (vs 11)), (76, .agg (biC g.bs[k]))] [.box (vs 11) [.val (.int .i64 0), .val (.int .i64 0), .val (.int .i64 0), .val (.slice none 0 0)] 66, .box (vs 10) (biC f.bs[k]) 66, .box pf (flC f) 27, .box p (flC g) 27] (by kernel_rfl) (by kernel_rfl) ?_
                  generalize vs 10 = q1
                  generalize vs 11 = q2
                  (refine goSt ?_; (repeat (refine goAl ?_; intro p hp; refine goSt ?_)))
                  (refine goSt ?_; (repeat (refine goAl ?_; intro p hp; refine goSt ?_)))
                  refine wl_part rfl rfl (fun i1 => ?_) (fun i1 => ?_)
                  · have hne : f ≠ g := by intro e; subst e; simp at i1
                    (refine goSt ?_; (repeat (refine goAl ?_; intro p hp; refine goSt ?_)))
                    (apply res1; exact rfl; exact rfl; exact ⟨(congrArg (fun b => AV.val (Value.bool b)) (by simp [hne])), rfl⟩)
                  · have j1 : f.bs[k].no = g.bs[k].no := by simpa using i1
                    (refine goSt ?_; (repeat (refine goAl ?_; intro p hp; refine goSt ?_)))
                    refine wl_part rfl rfl (fun i2 => ?_) (fun i2 => ?_)
                    · have hne : f ≠ g := by intro e; subst e; simp at i2
                      (refine goSt ?_; (repeat (refine goAl ?_; intro p hp; refine goSt ?_)))
                      (apply res1; exact rfl; exact rfl; exact ⟨(congrArg (fun b => AV.val (Value.bool b)) (by simp [hne])), rfl⟩)
                    · have j2 : f.bs[k].py = g.bs[k].py := by simpa using i2
                      (refine goSt ?_; (repeat (refine goAl ?_; intro p hp; refine goSt ?_)))
                      refine wl_part rfl rfl (fun i3 => ?_) (fun i3 => ?_)
                      · have hne : f ≠ g := by intro e; subst e; simp at i3
                        (refine goSt ?_; (repeat (refine goAl ?_; intro p hp; refine goSt ?_)))
                        (apply res1; exact rfl; exact rfl; exact ⟨(congrArg (fun b => AV.val (Value.bool b)) (by simp [hne])), rfl⟩)
                      · have j3 : f.bs[k].pe = g.bs[k].pe := by simpa using i3
                        (refine goSt ?_; (repeat (refine goAl ?_; intro p hp; refine goSt ?_)))
                        refine w_cond rfl (fun i4 => ?_) (fun i4 => ?_)
                        · have hne : f ≠ g := by intro e; subst e; simp at i4
                          (refine goSt ?_; (repeat (refine goAl ?_; intro p hp; refine goSt ?_)))
                          (apply res1; exact rfl; exact rfl; exact ⟨(congrArg (fun b => AV.val (Value.bool b)) (by simp [hne])), rfl⟩)
                        · have j4 : f.bs[k].st.length = g.bs[k].st.length := by simp at i4; omega
                          (refine goSt ?_; (repeat (refine goAl ?_; intro p hp; refine goSt ?_)))
                          refine W_loopJ (fun (m : Nat) => ⟨[(2, .val pf), (3, .val p), (6, .val (.int .i64 k)), (7, .val q1), (8, .val q2), (9, .val (.int .i64 m))], [.box q1 (biC f.bs[k]) 66, .box q2 (biC g.bs[k]) 66, .box pf (flC f) 27, .box p (flC g) 27]⟩) (fun m => m ≤ f.bs[k].st.length ∧ f.bs[k].st.take m = g.bs[k].st.take m) (fun m => f.bs[k].st.length - m) 0 (fun _ _ st => st_sub2 st goSubr goSubp) ?hj0 ?round
                          case hj0 => simp
                          case round =>
                            rintro m ⟨hm, hal⟩
                            (refine goSt ?_; (repeat (refine goAl ?_; intro p hp; refine goSt ?_)))
                            refine w_cond rfl (fun hlm => ?_) (fun hlm => ?_)
                            · have hlm' : m < f.bs[k].st.length := by simpa using hlm
                              have hlm2 : m < g.bs[k].st.length := by omega
                              have hp1 : f.bs[k].st[m]? = some f.bs[k].st[m] := List.getElem?_eq_getElem hlm'
                              have hp2 : g.bs[k].st[m]? = some g.bs[k].st[m] := List.getElem?_eq_getElem hlm2
                              (refine goSt ?_; (repeat (refine goAl ?_; intro p hp; refine goSt ?_)))
                              refine W_run 10 [112, 113, 114, 115, 116, 117, 118, 119, 120, 121] [0, 1, 2, 3, 4, 5, 6, 7, 8, 9] Cut.nil rfl goFlt mixedS (by kernel_rfl) rfl ?_
                              refine rpv [] [] ?_
                              refine rpv [0] [] ?_
                              refine rpv [] [] ?_
                              refine rpv [1, 2] [] ?_
                              refine rpv [3] [] ?_
                              refine rpv [] [] ?_
                              refine rpv [5] [] ?_
                              refine rpv [] [] ?_
                              refine rpv [6, 7] [] ?_
                              refine rpv [8] [] ?_
                              refine ⟨⟨by kernel_rfl, by kernel_rfl⟩, fun vs => ?_⟩
                              refine WL_to [(2, .val pf), (3, .val p), (6, .val (.int .i64 k)), (7, .val q1), (8, .val q2), (9, .val (.int .i64 m)), (116, .agg (stC f.bs[k].st[m])), (121, .agg (stC g.bs[k].st[m]))] [.box q1 (biC f.bs[k]) 66, .box q2 (biC g.bs[k]) 66, .box pf (flC f) 27, .box p (flC g) 27] (by kernel_rfl) (by kernel_rfl) ?_
                              (refine goSt ?_; (repeat (refine goAl ?_; intro p hp; refine goSt ?_)))
                              rw [stNe]
                              refine w_cond rfl (fun hg => ?_) (fun hg => ?_)
                              · have hne : f ≠ g := by intro e; subst e; simp at hg
                                (refine goSt ?_; (repeat (refine goAl ?_; intro p hp; refine goSt ?_)))
                                (apply res1; exact rfl; exact rfl; exact ⟨(congrArg (fun b => AV.val (Value.bool b)) (by simp [hne])), rfl⟩)
                              · (refine goSt ?_; (repeat (refine goAl ?_; intro p hp; refine goSt ?_)))
                                (refine ⟨m + 1, fun _ _ st => st_sub2 st ?_ ?_, ?_, ?_⟩; exact goSubr; exact goSubp)
                                · exact ⟨by omega, take_succ_eq hal hlm' hlm2 (by simpa using hg)⟩
                                · omega
                            · have e6 : f.bs[k].st = g.bs[k].st := take_all_eq hal (by simp at hlm; omega) (by simp at hlm; omega)
                              (refine goSt ?_; (repeat (refine goAl ?_; intro p hp; refine goSt ?_)))
                              (refine ⟨k + 1, fun _ _ st => st_sub2 st ?_ ?_, ?_, ?_⟩; exact goSubr; exact goSubp)
                              · refine ⟨by omega, take_succ_eq hall hlt' hlt2 ?_⟩
                                revert j1 j2 j3 e6
                                generalize f.bs[k] = x
                                generalize g.bs[k] = y
                                intro j1 j2 j3 e6
                                cases x; cases y; simp_all
                              · omega
                · have e7 : f.bs = g.bs := take_all_eq hall (by simp at hlt; omega) (by simp at hlt; omega)
                  have he : f = g := by cases f; cases g; simp_all
                  (refine goSt ?_; (repeat (refine goAl ?_; intro p hp; refine goSt ?_)))
                  (apply res1; exact rfl; exact rfl; exact ⟨(congrArg (fun b => AV.val (Value.bool b)) (by simp [he])), rfl⟩)
end Go.Proofs.YtihonljdanjfmaaDoor.Sw
/- The reference's 'Pay'. -/
namespace Go.Proofs.YtihonljdanjfmaaDoor.Sw
open Go.RowKit Go Go.Shelf Go.Proofs
/-- What the reference's change hands back. -/
def flT (r : Flo × Int) : AV := .tup [.agg (flC r.1), .val (.int .i64 r.2)]
theorem nil_sl {α : Type} {G : Nat → Option Obj} {v : Value} (n : Nat) (f : α → List AV) (h : (AV.val (.slice none 0 0)).P G v) : (AV.sl n f ([] : List α)).P G v :=
  ⟨none, 0, h, Nat.le_refl _, fun i hi => (by cases hi)⟩
theorem floE_imp (e : Int) (G : Nat → Option Obj) (v : Value) (h : (AV.tup [.agg [.val (.slice none 0 0), .val (.slice none 0 0), .val (.slice none 0 0), .val (.slice none 0 0)], .val (.int .i64 e)]).P G v) : (flT (floE, e)).P G v := by
  obtain ⟨vs, e1, h⟩ := h
  match vs, h with
  | [x, y], ⟨⟨us, e2, h2⟩, hy, _⟩ =>
    match us, h2 with
    | [a, b, c, d], ⟨ha, hb, hc, hd, _⟩ =>
      exact ⟨[x, y], e1, ⟨[a, b, c, d], e2, nil_sl _ _ ha, nil_sl _ _ hb, nil_sl _ _ hc, nil_sl _ _ hd, trivial⟩, hy, trivial⟩
theorem Res_imp {P : Program} {fn : Func} {av av' : AV} {l : List HA} {s : S} (hi : ∀ G v, av.P G v → av'.P G v) (k : Res P fn (Is av l) s) : Res P fn (Is av' l) s := by
  obtain ⟨_, _, ⟨rfl, rfl⟩, k⟩ := k
  refine ⟨_, _, ⟨rfl, rfl⟩, fun a w G F hR hI => ?_⟩
  obtain ⟨v, G', F', h1, h2, h3, h4⟩ := k a w G F hR hI
  exact ⟨v, G', F', h1, h2, h3, hi _ _ h4⟩
end Go.Proofs.YtihonljdanjfmaaDoor.Sw
/- The reference's 'Mend'. -/
namespace Go.Proofs.YtihonljdanjfmaaDoor.Sw
open Go.RowKit Go Go.Shelf Go.Proofs
end Go.Proofs.YtihonljdanjfmaaDoor.Sw
/- The reference's 'Split'. -/
namespace Go.Proofs.YtihonljdanjfmaaDoor.Sw
open Go.RowKit Go Go.Shelf Go.Proofs
theorem tw_le {α : Type} (p : α → Bool) : ∀ l : List α, (l.takeWhile p).length ≤ l.length
  | [] => Nat.le_refl _
  | x :: t => by
    rw [List.takeWhile_cons]
    split
    · exact Nat.succ_le_succ (tw_le p t)
    · exact Nat.zero_le _
theorem tw_lt {α : Type} (p : α → Bool) : ∀ (l : List α) (k : Nat) (h : k < l.length), k < (l.takeWhile p).length → p l[k] = true
  | x :: t, k, h, h2 => by
    rw [List.takeWhile_cons] at h2
    split at h2
    · rename_i hx
      cases k with
      | zero => exact hx
      | succ k => exact tw_lt p t k (by simpa using h) (by simpa using h2)
    · simp at h2
  | [], _, h, _ => by simp at h
theorem tw_at {α : Type} (p : α → Bool) : ∀ (l : List α) (h : (l.takeWhile p).length < l.length), p l[(l.takeWhile p).length] = false
  | x :: t, h => by
    cases hx : p x with
    | true =>
      have e : (x :: t).takeWhile p = x :: t.takeWhile p := by rw [List.takeWhile_cons, if_pos hx]
      simp only [e, List.length_cons, List.getElem_cons_succ]
      exact tw_at p t (by rw [e] at h; simpa using h)
    | false =>
      have e : (x :: t).takeWhile p = [] := by rw [List.takeWhile_cons, if_neg (by rw [hx]; simp)]
      simp only [e, List.length_nil, List.getElem_cons_zero]
      exact hx
  | [], h => by simp at h
end Go.Proofs.YtihonljdanjfmaaDoor.Sw
namespace Go.Proofs.YtihonljdanjfmaaDoor.Sw
open Go.RowKit Go Go.Shelf Go.Proofs
/-- Where the new bill goes. -/
def atB (l : List Bil) (x : Bil) : Nat := (l.takeWhile (fun y => decide (y.no < x.no))).length
def insB (l : List Bil) (x : Bil) : List Bil := l.take (atB l x) ++ [x] ++ l.drop (atB l x)
theorem insB_len (l : List Bil) (x : Bil) : (insB l x).length = l.length + 1 := by
  unfold insB; simp only [List.length_append, List.length_take, List.length_drop, List.length_singleton]; omega
theorem insB_mem {l : List Bil} {x b : Bil} (h : b ∈ insB l x) : b ∈ l ∨ b = x := by
  unfold insB at h
  simp only [List.mem_append, List.mem_singleton] at h
  rcases h with (h | h) | h
  · exact .inl (List.mem_of_mem_take h)
  · exact .inr h
  · exact .inl (List.mem_of_mem_drop h)
def add8R (f : Flo) (x : Bil) : Flo × Int :=
  if floOk f = true then (if f.bs.length = 10 then (floE, 9) else if floOk { f with bs := insB f.bs x } = true then ({ f with bs := insB f.bs x }, 0) else (floE, 81)) else (floE, 80)
set_option maxRecDepth 20000 in
set_option maxHeartbeats 4000000 in
theorem add8_con (f : Flo) (x : Bil) (hS : Sml f) (hx : x.st.length ≤ 1000) : Con Tryd.prog 34 [.agg (flC f), .agg (biC x)] [] (Is (flT (add8R f x)) []) := by
  have C := floors_con f hS
  cases hok : floOk f with
  | false =>
    rw [hok] at C
    rw [show add8R f x = (floE, 80) by unfold add8R; rw [hok]; rfl]
    refine con_of Tryd.func34 rfl (enters_of Tryd.func34 (by kernel_rfl) rfl) rfl ?_; intro n w0 F0 G0
    (refine goSt ?_; (repeat (refine goAl ?_; intro p hp; refine goSt ?_)))
    (first | (apply wl_call (C); exact rfl; exact rfl) | (apply wl_callR (C); exact rfl; exact goAtm; exact rfl))
    (refine goSt ?_; (repeat (refine goAl ?_; intro p hp; refine goSt ?_)))
    refine Res_imp (floE_imp _) ?_
    (apply resN1; exact rfl; exact rfl; exact goAtm; exact inferInstance; exact rfl; exact rfl; exact ⟨rfl, rfl⟩)
  | true =>
    rw [hok] at C
    have hbl := (flo_f hok).bs
    refine con_of Tryd.func34 rfl (enters_of Tryd.func34 (by kernel_rfl) rfl) rfl ?_; intro n w0 F0 G0
    (refine goSt ?_; (repeat (refine goAl ?_; intro p hp; refine goSt ?_)))
    rename_i p2 hp2 p3 hp3
    (first | (apply wl_call (C); exact rfl; exact rfl) | (apply wl_callR (C); exact rfl; exact goAtm; exact rfl))
    (refine goSt ?_; (repeat (refine goAl ?_; intro p hp; refine goSt ?_)))
    refine w_cond rfl (fun g => ?_) (fun g => ?_)
    · rw [show add8R f x = (floE, 9) by unfold add8R; rw [if_pos hok, if_pos (by simp at g; omega)]]
      (refine goSt ?_; (repeat (refine goAl ?_; intro p hp; refine goSt ?_)))
      refine Res_imp (floE_imp _) ?_
      (apply resN1; exact rfl; exact rfl; exact goAtm; exact inferInstance; exact rfl; exact rfl; exact ⟨rfl, rfl⟩)
    · have hn : ¬ f.bs.length = 10 := by simp at g; omega
      have hS' : Sml { f with bs := insB f.bs x } := ⟨hS.ids, hS.qs, by show (insB f.bs x).length ≤ 1000; rw [insB_len]; omega, hS.ps, fun b hb => (insB_mem hb).elim (hS.st b) (fun e => e ▸ hx)⟩
      have hal : atB f.bs x ≤ f.bs.length := tw_le _ _
      have hins : [] ++ List.take (atB f.bs x) f.bs ++ [x] ++ List.drop (atB f.bs x) (List.take f.bs.length f.bs) = insB f.bs x := by simp [insB]
      have hW : add8R f x = if floOk { f with bs := insB f.bs x } = true then ({ f with bs := insB f.bs x }, 0) else (floE, 81) := by unfold add8R; rw [if_pos hok, if_neg hn]
      rw [hW]
      (refine goSt ?_; (repeat (refine goAl ?_; intro p hp; refine goSt ?_)))
      refine W_loopJ (fun (k : Nat) => ⟨[(2, .val p2), (3, .val p3), (4, .val p), (6, .val (.int .i64 k))], [.box p2 (flC f) 27, .box p3 (biC x) 66, .box p [.val (.slice none 0 0), .val (.slice none 0 0), .val (.slice none 0 0), .val (.slice none 0 0)] 27]⟩) (fun k => k ≤ atB f.bs x) (fun k => f.bs.length - k) 0 (fun _ _ st => st_sub2 st (by exact goSubr) (by exact goSubp)) (Nat.zero_le _) ?_
      intro k hk
      (refine goSt ?_; (repeat (refine goAl ?_; intro p hp; refine goSt ?_)))
      by_cases hlt : k < f.bs.length
      · have hpb : f.bs[k]? = some f.bs[k] := List.getElem?_eq_getElem hlt
        refine W_run 14 [18, 19, 20, 21, 22, 23, 24, 25, 26, 27, 28, 29, 30, 31] [0, 1, 2, 3, 4, 5, 6, 7, 8, 9, 10, 11, 12, 13] Cut.nil rfl goFlt mixedS (by kernel_rfl) rfl ?_
        refine rpv [] [] ?_
        refine rpv [] [] ?_
        refine rpv [1] [] ?_
        refine rpv [2] [] ?_
        refine Run.pv [0, 3] [] rfl (fun vs => by apply ltr_pk; exact goPk; (refine ltr ?_; apply LT_bool true; apply lt_lss; exact rfl; exact rfl; (simp; omega))) goApp ?_
        refine rpv [4] [] ?_
        refine Run.yes [5] [] rfl rfl (fun vs => by apply look_pk; exact goPk; exact rfl) (fun vs => by apply ltr_pk; exact goPk; exact goLtr) goApp ?_
        refine Run.yes [5, 6] [] rfl rfl (fun vs => by apply look_pk; exact goPk; exact rfl) (fun vs => by apply ltr_pk; exact goPk; exact goLtr) goApp ?_
        refine Run.yes [5] [] rfl rfl (fun vs => by apply look_pk; exact goPk; exact rfl) (fun vs => by apply ltr_pk; exact goPk; exact goLtr) goApp ?_
        refine Run.yes [5, 7, 8] [] rfl rfl (fun vs => by apply look_pk; exact goPk; exact rfl) (fun vs => by apply ltr_pk; exact goPk; exact goLtr) goApp ?_
        refine Run.yes [5, 9] [] rfl rfl (fun vs => by apply look_pk; exact goPk; exact rfl) (fun vs => by apply ltr_pk; exact goPk; exact goLtr) goApp ?_
        refine Run.yes [5, 10] [] rfl rfl (fun vs => by apply look_pk; exact goPk; exact rfl) (fun vs => by apply ltr_pk; exact goPk; exact goLtr) goApp ?_
        refine Run.yes [5] [] rfl rfl (fun vs => by apply look_pk; exact goPk; exact rfl) (fun vs => by apply ltr_pk; exact goPk; exact goLtr) goApp ?_
        refine Run.yes [5, 12] [] rfl rfl (fun vs => by apply look_pk; exact goPk; exact rfl) (fun vs => by apply ltr_pk; exact goPk; exact goLtr) goApp ?_
        refine ⟨⟨by kernel_rfl, by kernel_rfl⟩, fun vs => ?_⟩
        apply WL_auto [5, 9, 11, 13]
        · exact goPk
        · exact goNrm
        · kernel_rfl
        · kernel_rfl
        (refine goSt ?_; (repeat (refine goAl ?_; intro p hp; refine goSt ?_)))
        refine w_cond rfl (fun hp => ?_) (fun hp => ?_)
        · have hk2 : k + 1 ≤ atB f.bs x := by
            rcases Nat.lt_or_ge k (atB f.bs x) with h | h
            · exact h
            · have e : k = atB f.bs x := Nat.le_antisymm hk h
              subst e
              have h3 := tw_at (fun y : Bil => decide (y.no < x.no)) f.bs hlt
              unfold atB at hp
              rw [h3] at hp; simp at hp
          (refine goSt ?_; (repeat (refine goAl ?_; intro p hp; refine goSt ?_)))
          refine ⟨k + 1, fun _ _ st => st_sub2 st (by exact goSubr) (by exact goSubp), hk2, ?_⟩
          omega
        · have hkk : k = atB f.bs x := by
            rcases Nat.lt_or_ge k (atB f.bs x) with h | h
            · have h3 := tw_lt (fun y : Bil => decide (y.no < x.no)) f.bs k hlt h
              rw [hp] at h3; simp at h3
            · exact Nat.le_antisymm hk h
          subst hkk
          (refine goSt ?_; (repeat (refine goAl ?_; intro p hp; refine goSt ?_)))
          (first | (apply wl_call (twin8_con f hS); exact rfl; exact rfl) | (apply wl_callR (twin8_con f hS); exact rfl; exact goAtm; exact rfl))
          (refine goSt ?_; (repeat (refine goAl ?_; intro p hp; refine goSt ?_)))
          rename_i p4 hp4
          (apply wl_lit stC; exact inferInstance; exact inferInstance; exact inferInstance; (repeat (first | exact Elems.nil | (apply Elems.cons; exact rfl; exact inferInstance; exact rfl))); exact rfl; (first | exact (of_decide_eq_true rfl) | decide | (simp; done) | (simp; omega)); exact rfl)
          intro v1
          (refine goSt ?_; (repeat (refine goAl ?_; intro p hp; refine goSt ?_)))
          (first | (apply wl_append; exact rfl; exact rfl; exact goRm; exact inferInstance; exact inferInstance; (first | omega | (simp; omega)); exact rfl) | (apply wl_appendN; exact rfl; exact rfl; exact inferInstance; exact inferInstance; (first | omega | (simp; omega)); exact rfl))
          intro v2
          (apply WL_frz 41; exact rfl; exact goRm)
          (refine goSt ?_; (repeat (refine goAl ?_; intro p hp; refine goSt ?_)))
          (apply wl_lit biC; exact inferInstance; exact inferInstance; exact inferInstance; (repeat (first | exact Elems.nil | (apply Elems.cons; exact rfl; exact inferInstance; exact rfl))); exact rfl; (first | exact (of_decide_eq_true rfl) | decide | (simp; done) | (simp; omega)); exact rfl)
          intro v3
          (refine goSt ?_; (repeat (refine goAl ?_; intro p hp; refine goSt ?_)))
          (apply wl_slTo (h := atB f.bs x); exact inferInstance; exact rfl; exact rfl; (first | exact rfl | omega | (simp; omega)); exact hal; exact rfl)
          (refine goSt ?_; (repeat (refine goAl ?_; intro p hp; refine goSt ?_)))
          (first | (apply wl_append; exact rfl; exact rfl; exact goRm; exact inferInstance; exact inferInstance; (first | omega | (simp; omega)); exact rfl) | (apply wl_appendN; exact rfl; exact rfl; exact inferInstance; exact inferInstance; (first | omega | (simp; omega)); exact rfl))
          intro v4
          (refine goSt ?_; (repeat (refine goAl ?_; intro p hp; refine goSt ?_)))
          refine W_run 8 [49, 50, 51, 52, 53, 54, 55, 56] [0, 1, 2, 3, 4, 5, 6, 7] (Cut.cons (h := HA.row v4 66 4 biC ([] ++ List.take (atB f.bs x) f.bs)) goRm (Cut.nil)) rfl goFlt mixedS (by kernel_rfl) rfl ?_
          refine rpv [] [] ?_
          refine rpv [] [] ?_
          refine Run.pv [1] [] rfl (fun vs => by apply ltr_pk; exact goPk; (refine ltr ?_; apply LT_frz; apply lt_lit (f := biC) (xs := [x]); (repeat (first | exact Elems.nil | (apply Elems.cons; exact rfl; exact inferInstance; exact rfl))); exact rfl; (first | exact (of_decide_eq_true rfl) | decide | (simp; done) | (simp; omega)))) goApp ?_
          refine Run.tok [0, 2] [1000] rfl (fun vs => by apply ltr_pk; exact goPk; (refine ltr ?_; apply lt_append; exact rfl; exact rfl; (first | omega | (simp; omega)))) goApp ?_
          refine rpv [] [] ?_
          refine rpv [4] [] ?_
          refine rpv [] [] ?_
          refine Run.pv [5, 6] [] rfl (fun vs => by apply ltr_pk; exact goPk; (refine ltr ?_; refine lt_slice (l := atB f.bs x) (h := f.bs.length) (hi' := (f.bs.length : Int)) rfl (.inl rfl) rfl (.inr ⟨rfl, rfl⟩) rfl hal (Nat.le_refl _))) goApp ?_
          refine ⟨⟨by kernel_rfl, by kernel_rfl⟩, fun vs => ?_⟩
          apply WL_auto [3, 7]
          · exact goPk
          · exact goNrm
          · kernel_rfl
          · kernel_rfl
          (refine goSt ?_; (repeat (refine goAl ?_; intro p hp; refine goSt ?_)))
          (first | (apply wl_append; exact rfl; exact rfl; exact goRm; exact inferInstance; exact inferInstance; (first | omega | (simp; omega)); exact rfl) | (apply wl_appendN; exact rfl; exact rfl; exact inferInstance; exact inferInstance; (first | omega | (simp; omega)); exact rfl))
          intro v5
          rw [hins]
          (apply WL_frz 57; exact rfl; exact goRm)
          (refine goSt ?_; (repeat (refine goAl ?_; intro p hp; refine goSt ?_)))
          refine WL_as 59 (.agg (flC { f with bs := insB f.bs x })) rfl ?_
          (first | (apply wl_call (floors_con { f with bs := insB f.bs x } hS'); exact rfl; exact rfl) | (apply wl_callR (floors_con { f with bs := insB f.bs x } hS'); exact rfl; exact goAtm; exact rfl))
          cases hok2 : floOk { f with bs := insB f.bs x } with
          | false =>
            (refine goSt ?_; (repeat (refine goAl ?_; intro p hp; refine goSt ?_)))
            rw [if_neg (by simp)]
            refine Res_imp (floE_imp _) ?_
            (apply resN1; exact rfl; exact rfl; exact goAtm; exact inferInstance; exact rfl; exact rfl; exact ⟨rfl, rfl⟩)
          | true =>
            (refine goSt ?_; (repeat (refine goAl ?_; intro p hp; refine goSt ?_)))
            rw [if_pos rfl]
            (apply resN1; exact rfl; exact rfl; exact goAtm; exact inferInstance; exact rfl; exact rfl; exact ⟨rfl, rfl⟩)
      · have hkk : k = atB f.bs x := by omega
        subst hkk
        refine W_run 14 [18, 19, 20, 21, 22, 23, 24, 25, 26, 27, 28, 29, 30, 31] [0, 1, 2, 3, 4, 5, 6, 7, 8, 9, 10, 11, 12, 13] Cut.nil rfl goFlt mixedS (by kernel_rfl) rfl ?_
        refine rpv [] [] ?_
        refine rpv [] [] ?_
        refine rpv [1] [] ?_
        refine rpv [2] [] ?_
        refine Run.pv [0, 3] [] rfl (fun vs => by apply ltr_pk; exact goPk; (refine ltr ?_; apply LT_bool false; apply lt_lss; exact rfl; exact rfl; (simp; omega))) goApp ?_
        refine rpv [4] [] ?_
        refine Run.no [5] [] rfl rfl (fun vs => by apply look_pk; exact goPk; exact rfl) (by exact rfl) goApp ?_
        refine Run.no [5, 6] [] rfl rfl (fun vs => by apply look_pk; exact goPk; exact rfl) (by exact rfl) goApp ?_
        refine Run.no [5] [] rfl rfl (fun vs => by apply look_pk; exact goPk; exact rfl) (by exact rfl) goApp ?_
        refine Run.no [5, 7, 8] [] rfl rfl (fun vs => by apply look_pk; exact goPk; exact rfl) (by exact rfl) goApp ?_
        refine Run.no [5, 9] [] rfl rfl (fun vs => by apply look_pk; exact goPk; exact rfl) (by exact rfl) goApp ?_
        refine Run.no [5, 10] [] rfl rfl (fun vs => by apply look_pk; exact goPk; exact rfl) (by exact rfl) goApp ?_
        refine Run.no [5] [] rfl rfl (fun vs => by apply look_pk; exact goPk; exact rfl) (by exact rfl) goApp ?_
        refine Run.no [5, 12] [] rfl rfl (fun vs => by apply look_pk; exact goPk; exact rfl) (by exact rfl) goApp ?_
        refine ⟨⟨by kernel_rfl, by kernel_rfl⟩, fun vs => ?_⟩
        apply WL_auto [5, 9, 11, 13]
        · exact goPk
        · exact goNrm
        · kernel_rfl
        · kernel_rfl
        (refine goSt ?_; (repeat (refine goAl ?_; intro p hp; refine goSt ?_)))
        (refine goSt ?_; (repeat (refine goAl ?_; intro p hp; refine goSt ?_)))
        (first | (apply wl_call (twin8_con f hS); exact rfl; exact rfl) | (apply wl_callR (twin8_con f hS); exact rfl; exact goAtm; exact rfl))
        (refine goSt ?_; (repeat (refine goAl ?_; intro p hp; refine goSt ?_)))
        rename_i p4 hp4
        (apply wl_lit stC; exact inferInstance; exact inferInstance; exact inferInstance; (repeat (first | exact Elems.nil | (apply Elems.cons; exact rfl; exact inferInstance; exact rfl))); exact rfl; (first | exact (of_decide_eq_true rfl) | decide | (simp; done) | (simp; omega)); exact rfl)
        intro v1
        (refine goSt ?_; (repeat (refine goAl ?_; intro p hp; refine goSt ?_)))
        (first | (apply wl_append; exact rfl; exact rfl; exact goRm; exact inferInstance; exact inferInstance; (first | omega | (simp; omega)); exact rfl) | (apply wl_appendN; exact rfl; exact rfl; exact inferInstance; exact inferInstance; (first | omega | (simp; omega)); exact rfl))
        intro v2
        (apply WL_frz 41; exact rfl; exact goRm)
        (refine goSt ?_; (repeat (refine goAl ?_; intro p hp; refine goSt ?_)))
        (apply wl_lit biC; exact inferInstance; exact inferInstance; exact inferInstance; (repeat (first | exact Elems.nil | (apply Elems.cons; exact rfl; exact inferInstance; exact rfl))); exact rfl; (first | exact (of_decide_eq_true rfl) | decide | (simp; done) | (simp; omega)); exact rfl)
        intro v3
        (refine goSt ?_; (repeat (refine goAl ?_; intro p hp; refine goSt ?_)))
        (apply wl_slTo (h := atB f.bs x); exact inferInstance; exact rfl; exact rfl; (first | exact rfl | omega | (simp; omega)); exact hal; exact rfl)
        (refine goSt ?_; (repeat (refine goAl ?_; intro p hp; refine goSt ?_)))
        (first | (apply wl_append; exact rfl; exact rfl; exact goRm; exact inferInstance; exact inferInstance; (first | omega | (simp; omega)); exact rfl) | (apply wl_appendN; exact rfl; exact rfl; exact inferInstance; exact inferInstance; (first | omega | (simp; omega)); exact rfl))
        intro v4
        (refine goSt ?_; (repeat (refine goAl ?_; intro p hp; refine goSt ?_)))
        refine W_run 8 [49, 50, 51, 52, 53, 54, 55, 56] [0, 1, 2, 3, 4, 5, 6, 7] (Cut.cons (h := HA.row v4 66 4 biC ([] ++ List.take (atB f.bs x) f.bs)) goRm (Cut.nil)) rfl goFlt mixedS (by kernel_rfl) rfl ?_
        refine rpv [] [] ?_
        refine rpv [] [] ?_
        refine Run.pv [1] [] rfl (fun vs => by apply ltr_pk; exact goPk; (refine ltr ?_; apply LT_frz; apply lt_lit (f := biC) (xs := [x]); (repeat (first | exact Elems.nil | (apply Elems.cons; exact rfl; exact inferInstance; exact rfl))); exact rfl; (first | exact (of_decide_eq_true rfl) | decide | (simp; done) | (simp; omega)))) goApp ?_
        refine Run.tok [0, 2] [1000] rfl (fun vs => by apply ltr_pk; exact goPk; (refine ltr ?_; apply lt_append; exact rfl; exact rfl; (first | omega | (simp; omega)))) goApp ?_
        refine rpv [] [] ?_
        refine rpv [4] [] ?_
        refine rpv [] [] ?_
        refine Run.pv [5, 6] [] rfl (fun vs => by apply ltr_pk; exact goPk; (refine ltr ?_; refine lt_slice (l := atB f.bs x) (h := f.bs.length) (hi' := (f.bs.length : Int)) rfl (.inl rfl) rfl (.inr ⟨rfl, rfl⟩) rfl hal (Nat.le_refl _))) goApp ?_
        refine ⟨⟨by kernel_rfl, by kernel_rfl⟩, fun vs => ?_⟩
        apply WL_auto [3, 7]
        · exact goPk
        · exact goNrm
        · kernel_rfl
        · kernel_rfl
        (refine goSt ?_; (repeat (refine goAl ?_; intro p hp; refine goSt ?_)))
        (first | (apply wl_append; exact rfl; exact rfl; exact goRm; exact inferInstance; exact inferInstance; (first | omega | (simp; omega)); exact rfl) | (apply wl_appendN; exact rfl; exact rfl; exact inferInstance; exact inferInstance; (first | omega | (simp; omega)); exact rfl))
        intro v5
        rw [hins]
        (apply WL_frz 57; exact rfl; exact goRm)
        (refine goSt ?_; (repeat (refine goAl ?_; intro p hp; refine goSt ?_)))
        refine WL_as 59 (.agg (flC { f with bs := insB f.bs x })) rfl ?_
        (first | (apply wl_call (floors_con { f with bs := insB f.bs x } hS'); exact rfl; exact rfl) | (apply wl_callR (floors_con { f with bs := insB f.bs x } hS'); exact rfl; exact goAtm; exact rfl))
        cases hok2 : floOk { f with bs := insB f.bs x } with
        | false =>
          (refine goSt ?_; (repeat (refine goAl ?_; intro p hp; refine goSt ?_)))
          rw [if_neg (by simp)]
          refine Res_imp (floE_imp _) ?_
          (apply resN1; exact rfl; exact rfl; exact goAtm; exact inferInstance; exact rfl; exact rfl; exact ⟨rfl, rfl⟩)
        | true =>
          (refine goSt ?_; (repeat (refine goAl ?_; intro p hp; refine goSt ?_)))
          rw [if_pos rfl]
          (apply resN1; exact rfl; exact rfl; exact goAtm; exact inferInstance; exact rfl; exact rfl; exact ⟨rfl, rfl⟩)
end Go.Proofs.YtihonljdanjfmaaDoor.Sw
namespace Go.Proofs.YtihonljdanjfmaaDoor.Sw
open Go.RowKit Go Go.Shelf Go.Proofs
theorem insE_end {α : Type} {lt : α → α → Bool} (x : α) (l : List α) (h : ∀ a ∈ l, lt x a = false) : insE lt l x = l ++ [x] := by
  rcases List.eq_nil_or_concat l with rfl | ⟨p, z, rfl⟩
  · rfl
  · rw [show p.concat z = p ++ [z] by simp] at *
    exact insE_no (h z (by simp))
theorem insE_over {α : Type} {lt : α → α → Bool} (x : α) (a : List α) : ∀ b : List α, (∀ y ∈ b, lt x y = true) → insE lt (a ++ b) x = insE lt a x ++ b := by
  intro b
  induction hn : b.length generalizing b with
  | zero => intro _; rw [List.length_eq_zero_iff.1 hn]; simp
  | succ n ih =>
    intro hb
    rcases List.eq_nil_or_concat b with rfl | ⟨p, z, rfl⟩
    · simp at hn
    · rw [show p.concat z = p ++ [z] by simp] at *
      rw [← List.append_assoc, insE_yes (hb z (by simp)), ih p (by simpa using hn) (fun y hy => hb y (by simp [hy])), List.append_assoc]
theorem srt_sorted {α : Type} {lt : α → α → Bool} : ∀ l : List α, l.Pairwise (fun a b => lt b a = false) → srt lt l = l := by
  intro l
  induction hn : l.length generalizing l with
  | zero => intro _; rw [List.length_eq_zero_iff.1 hn]; rfl
  | succ n ih =>
    intro hl
    rcases List.eq_nil_or_concat l with rfl | ⟨p, z, rfl⟩
    · rfl
    · rw [show p.concat z = p ++ [z] by simp] at *
      obtain ⟨h1, _, h3⟩ := List.pairwise_append.1 hl
      rw [srt_snoc, ih p (by simpa using hn) h1, insE_end z p fun a ha => h3 a ha z (by simp)]
end Go.Proofs.YtihonljdanjfmaaDoor.Sw
namespace Go.Proofs.YtihonljdanjfmaaDoor.Sw
open Go.RowKit Go Go.Shelf Go.Proofs
/-- The two ways to add are one. -/
theorem bils_sorted {ids : List Int} : ∀ {l : List Bil} {last : Int}, bilsOk ids last l = true → (∀ x ∈ l, last < x.no) ∧ l.Pairwise (fun a b => a.no < b.no)
  | [], _, _ => ⟨fun _ h => (by cases h), .nil⟩
  | x :: t, last, h => by
    simp only [bilsOk, Bool.and_eq_true, decide_eq_true_eq] at h
    obtain ⟨⟨⟨h1, h2⟩, h3⟩, h4⟩ := h
    obtain ⟨i1, i2⟩ := bils_sorted h4
    refine ⟨fun y hy => ?_, .cons i1 i2⟩
    rcases List.mem_cons.1 hy with rfl | hy
    · omega
    · have := i1 y hy; omega
theorem flo_bs {f : Flo} (h : floOk f = true) : f.bs.Pairwise (fun a b => a.no < b.no) := by
  simp only [floOk, Bool.and_eq_true, decide_eq_true_eq] at h
  exact (bils_sorted h.1.2).2
theorem bLt_iff {x y : Bil} : bLt x y = true ↔ x.no < y.no := by
  unfold bLt bCmp cmpR
  by_cases h1 : x.no < y.no
  · simp [h1]
  · by_cases h2 : y.no < x.no
    · simp [h1, h2]
    · simp [h1, h2]
theorem bLt_ff {x y : Bil} : bLt x y = false ↔ ¬ x.no < y.no := by rw [← bLt_iff]; simp
theorem add_eq (f : Flo) (x : Bil) : addR f x = add8R f x := by
  unfold addR add8R
  cases h : floOk f with
  | false => rfl
  | true =>
    rw [if_pos rfl, if_pos rfl]
    have hs := flo_bs h
    have key : srt bLt (f.bs ++ [x]) = insB f.bs x ∨ (floOk { f with bs := srt bLt (f.bs ++ [x]) } = false ∧ floOk { f with bs := insB f.bs x } = false) := by
      have hs1 : srt bLt f.bs = f.bs := srt_sorted f.bs (hs.imp fun {a b} hab => bLt_ff.2 (by omega))
      rw [srt_snoc, hs1]
      unfold insB atB
      have hsp := List.takeWhile_append_dropWhile (p := fun y : Bil => decide (y.no < x.no)) (l := f.bs)
      have hA : ∀ a ∈ f.bs.takeWhile (fun y : Bil => decide (y.no < x.no)), a.no < x.no := fun a ha => of_decide_eq_true (List.all_eq_true.1 List.all_takeWhile a ha)
      have hB : ∀ z r, f.bs.dropWhile (fun y : Bil => decide (y.no < x.no)) = z :: r → ¬ z.no < x.no := fun z r e => by
        have := List.head?_dropWhile_not (fun y : Bil => decide (y.no < x.no)) f.bs
        rw [e] at this
        simpa using this
      generalize f.bs.takeWhile (fun y : Bil => decide (y.no < x.no)) = A at hsp hA ⊢
      generalize f.bs.dropWhile (fun y : Bil => decide (y.no < x.no)) = B at hsp hB
      rw [← hsp] at hs ⊢
      rw [List.take_left, List.drop_left]
      have hA2 : ∀ a ∈ A, bLt x a = false := fun a ha => by have := hA a ha; exact bLt_ff.2 (by omega)
      obtain ⟨_, h2, _⟩ := List.pairwise_append.1 hs
      cases B with
      | nil => left; rw [List.append_nil, insE_end x A hA2, List.append_nil]
      | cons z r =>
        have hz := hB z r rfl
        obtain ⟨h3, _⟩ := List.pairwise_cons.1 h2
        by_cases hxz : x.no < z.no
        · left
          rw [insE_over x A (z :: r) (fun y hy => ?_), insE_end x A hA2]
          rcases List.mem_cons.1 hy with rfl | hy
          · exact bLt_iff.2 hxz
          · have := h3 y hy
            exact bLt_iff.2 (by omega)
        · right
          have he : z.no = x.no := by omega
          have hins : insE bLt (A ++ z :: r) x = A ++ z :: x :: r := by
            rw [show A ++ z :: r = (A ++ [z]) ++ r by simp, insE_over x (A ++ [z]) r (fun y hy => by have := h3 y hy; exact bLt_iff.2 (by omega)), insE_end x (A ++ [z]) (fun a ha => ?_)]
            · simp
            · rcases List.mem_append.1 ha with ha | ha
              · exact hA2 a ha
              · rw [List.mem_singleton.1 ha]; exact bLt_ff.2 (by omega)
          rw [hins]
          constructor
          · cases hq : floOk { f with bs := A ++ z :: x :: r } with
            | false => rfl
            | true =>
              have := (List.pairwise_append.1 (flo_bs hq)).2.1
              have := (List.pairwise_cons.1 this).1 x (by simp)
              omega
          · cases hq : floOk { f with bs := A ++ [x] ++ z :: r } with
            | false => rfl
            | true =>
              have h5 : (A ++ [x] ++ z :: r).Pairwise (fun a b => a.no < b.no) := flo_bs hq
              have := (List.pairwise_append.1 h5).2.2 x (by simp) z (by simp)
              omega
    rcases key with e | ⟨e1, e2⟩
    · rw [e]
    · rw [e1, e2]; simp
end Go.Proofs.YtihonljdanjfmaaDoor.Sw
namespace Go.Proofs.YtihonljdanjfmaaDoor.Sw
open Go.RowKit Go Go.Shelf Go.Proofs
def FlP2 (r : Flo × Int) : AV → List HA → Prop := fun x y => ∃ vi vq vb vp, (One (.val vi) ∧ One (.val vq) ∧ One (.val vb) ∧ One (.val vp)) ∧ x = .tup [.agg [.val vi, .val vq, .val vb, .val vp], .val (.int .i64 r.2)] ∧ y = [floOwn vi vq vb vp r.1, tab8, HA.tab]
theorem flP2_nil (e : Int) : FlP2 (floE, e) (.tup [.agg [.val (.slice none 0 0), .val (.slice none 0 0), .val (.slice none 0 0), .val (.slice none 0 0)], .val (.int .i64 e)]) [floOwn (.slice none 0 0) (.slice none 0 0) (.slice none 0 0) (.slice none 0 0) floE, tab8, HA.tab] :=
  ⟨_, _, _, _, ⟨inferInstance, inferInstance, inferInstance, inferInstance⟩, rfl, rfl⟩
noncomputable def ofTR (f : Flo) (x : Bil) (t : Tl) (r : Rt) : Flo × Int :=
  if floOk f = true then (if (owedR t r).2 = 0 then (if (owedR t r).1.1 = (owedR t r).1.2 ∧ 1 ≤ (owedR t r).1.1 ∧ (owedR t r).1.1 ≤ 1000000 then addR f { x with pe := (owedR t r).1.1 } else (floE, 8)) else (floE, (owedR t r).2)) else (floE, 80)
set_option maxRecDepth 20000 in
set_option maxHeartbeats 4000000 in
theorem ofTally_con (f : Flo) (x : Bil) (t : Tl) (r : Rt) (hS : Sml f) (hx : x.st.length ≤ 1000) (h1 : t.st.length ≤ 1000) (h2 : t.fo.length ≤ 1000) : Con Tryd.prog 35 [.agg (flC f), .agg (biC x), .agg (tC t), .agg (rC r)] [tab8, HA.tab] (FlP2 (ofTR f x t r)) := by
  have C := check_con f hS
  have CO := owed_con t r h1 h2
  unfold seA at CO
  cases hok : floOk f with
  | false =>
    rw [show errF f = 80 by unfold errF; rw [hok]; rfl] at C
    rw [show ofTR f x t r = (floE, 80) by unfold ofTR; rw [hok]; rfl]
    refine con_of Tryd.func35 rfl (enters_of Tryd.func35 (by kernel_rfl) rfl) rfl ?_; intro n w0 F0 G0
    (refine goSt ?_; (repeat (refine goAl ?_; intro p hp; refine goSt ?_)))
    (first | (apply wl_call (C); exact rfl; exact rfl) | (apply wl_callR (C); exact rfl; exact goAtm; exact rfl))
    (refine goSt ?_; (repeat (refine goAl ?_; intro p hp; refine goSt ?_)))
    (refine Res_add _ floE_own ?_; apply resKN1; exact rfl; exact rfl; exact goAtm; exact inferInstance; exact rfl; exact rfl; exact flP2_nil _; exact goCutl)
  | true =>
    rw [show errF f = 0 by unfold errF; rw [hok]; rfl] at C
    unfold ofTR
    rw [if_pos hok]
    generalize owedR t r = s at *
    obtain ⟨⟨lo, hi⟩, er⟩ := s
    dsimp only at CO ⊢
    refine con_of Tryd.func35 rfl (enters_of Tryd.func35 (by kernel_rfl) rfl) rfl ?_; intro n w0 F0 G0
    (refine goSt ?_; (repeat (refine goAl ?_; intro p hp; refine goSt ?_)))
    (first | (apply wl_call (C); exact rfl; exact rfl) | (apply wl_callR (C); exact rfl; exact goAtm; exact rfl))
    (refine goSt ?_; (repeat (refine goAl ?_; intro p hp; refine goSt ?_)))
    (first | (apply wl_call (CO); exact rfl; exact rfl) | (apply wl_callR (CO); exact rfl; exact goAtm; exact rfl))
    (refine goSt ?_; (repeat (refine goAl ?_; intro p hp; refine goSt ?_)))
    refine w_cond rfl (fun he => ?_) (fun he => ?_)
    · rw [if_neg (by simpa using he)]
      (refine goSt ?_; (repeat (refine goAl ?_; intro p hp; refine goSt ?_)))
      (refine Res_add _ floE_own ?_; apply resKN1; exact rfl; exact rfl; exact goAtm; exact inferInstance; exact rfl; exact rfl; exact flP2_nil _; exact goCutl)
    · rw [if_pos (by simpa using he)]
      have CA := add_con f { x with pe := lo } hS hx
      (refine goSt ?_; (repeat (refine goAl ?_; intro p hp; refine goSt ?_)))
      refine wl_part rfl rfl (fun hne => ?_) (fun hne => ?_)
      · rw [if_neg (by simp at hne; omega)]
        (refine goSt ?_; (repeat (refine goAl ?_; intro p hp; refine goSt ?_)))
        (refine Res_add _ floE_own ?_; apply resKN1; exact rfl; exact rfl; exact goAtm; exact inferInstance; exact rfl; exact rfl; exact flP2_nil _; exact goCutl)
      · have hlo : lo = hi := by simpa using hne
        subst hlo
        (refine goSt ?_; (repeat (refine goAl ?_; intro p hp; refine goSt ?_)))
        (apply wl_litF iC; exact inferInstance; exact inferInstance; exact inferInstance; (repeat (first | exact Elems.nil | (apply Elems.cons; exact rfl; exact inferInstance; exact rfl))); exact rfl; (first | exact (of_decide_eq_true rfl) | decide | (simp; done) | (simp; omega)); exact rfl)
        (refine goSt ?_; (repeat (refine goAl ?_; intro p hp; refine goSt ?_)))
        (first | (apply wl_call (inOne_con 1 1000000 lo); exact rfl; exact rfl) | (apply wl_callR (inOne_con 1 1000000 lo); exact rfl; exact goAtm; exact rfl))
        (refine goSt ?_; (repeat (refine goAl ?_; intro p hp; refine goSt ?_)))
        refine w_cond rfl (fun hin => ?_) (fun hin => ?_)
        · rw [if_neg (by simp at hin; omega)]
          (refine goSt ?_; (repeat (refine goAl ?_; intro p hp; refine goSt ?_)))
          (refine Res_add _ floE_own ?_; apply resKN1; exact rfl; exact rfl; exact goAtm; exact inferInstance; exact rfl; exact rfl; exact flP2_nil _; exact goCutl)
        · rw [if_pos (by simp at hin; omega)]
          (refine goSt ?_; (repeat (refine goAl ?_; intro p hp; refine goSt ?_)))
          refine WL_as 48 (.agg (biC { x with pe := lo })) rfl ?_
          generalize addR f { x with pe := lo } = ra at CA ⊢
          obtain ⟨fa, ea⟩ := ra
          (apply wl_callP (CA); exact rfl; exact goCutl; exact rfl)
          rintro _ _ ⟨vi, vq, vb, vp, ⟨o1, o2, o3, o4⟩, rfl, rfl⟩
          (refine goSt ?_; (repeat (refine goAl ?_; intro p hp; refine goSt ?_)))
          (apply resKN1; exact rfl; exact rfl; exact goAtm; exact inferInstance; exact rfl; exact rfl; exact ⟨vi, vq, vb, vp, ⟨inferInstance, inferInstance, inferInstance, inferInstance⟩, rfl, rfl⟩; exact goCutl)
set_option maxRecDepth 20000 in
set_option maxHeartbeats 4000000 in
theorem ofTally8_con (f : Flo) (x : Bil) (t : Tl) (r : Rt) (hS : Sml f) (hx : x.st.length ≤ 1000) (h1 : t.st.length ≤ 1000) (h2 : t.fo.length ≤ 1000) : Con Tryd.prog 36 [.agg (flC f), .agg (biC x), .agg (tC t), .agg (rC r)] [] (Is (flT (ofTR f x t r)) []) := by
  have C := floors_con f hS
  have CO := refOwed_con t r h1 h2
  unfold seA at CO
  cases hok : floOk f with
  | false =>
    rw [hok] at C
    rw [show ofTR f x t r = (floE, 80) by unfold ofTR; rw [hok]; rfl]
    refine con_of Tryd.func36 rfl (enters_of Tryd.func36 (by kernel_rfl) rfl) rfl ?_; intro n w0 F0 G0
    (refine goSt ?_; (repeat (refine goAl ?_; intro p hp; refine goSt ?_)))
    (first | (apply wl_call (C); exact rfl; exact rfl) | (apply wl_callR (C); exact rfl; exact goAtm; exact rfl))
    (refine goSt ?_; (repeat (refine goAl ?_; intro p hp; refine goSt ?_)))
    refine Res_imp (floE_imp _) ?_
    (apply resN1; exact rfl; exact rfl; exact goAtm; exact inferInstance; exact rfl; exact rfl; exact ⟨rfl, rfl⟩)
  | true =>
    rw [hok] at C
    unfold ofTR
    rw [if_pos hok]
    generalize owedR t r = s at *
    obtain ⟨⟨lo, hi⟩, er⟩ := s
    dsimp only at CO ⊢
    refine con_of Tryd.func36 rfl (enters_of Tryd.func36 (by kernel_rfl) rfl) rfl ?_; intro n w0 F0 G0
    (refine goSt ?_; (repeat (refine goAl ?_; intro p hp; refine goSt ?_)))
    (first | (apply wl_call (C); exact rfl; exact rfl) | (apply wl_callR (C); exact rfl; exact goAtm; exact rfl))
    (refine goSt ?_; (repeat (refine goAl ?_; intro p hp; refine goSt ?_)))
    (first | (apply wl_call (CO); exact rfl; exact rfl) | (apply wl_callR (CO); exact rfl; exact goAtm; exact rfl))
    (refine goSt ?_; (repeat (refine goAl ?_; intro p hp; refine goSt ?_)))
    refine w_cond rfl (fun he => ?_) (fun he => ?_)
    · rw [if_neg (by simpa using he)]
      (refine goSt ?_; (repeat (refine goAl ?_; intro p hp; refine goSt ?_)))
      refine Res_imp (floE_imp _) ?_
      (apply resN1; exact rfl; exact rfl; exact goAtm; exact inferInstance; exact rfl; exact rfl; exact ⟨rfl, rfl⟩)
    · rw [if_pos (by simpa using he)]
      have CA := add8_con f { x with pe := lo } hS hx
      rw [← add_eq] at CA
      (refine goSt ?_; (repeat (refine goAl ?_; intro p hp; refine goSt ?_)))
      refine wl_part rfl rfl (fun hne => ?_) (fun hne => ?_)
      · rw [if_neg (by simp at hne; omega)]
        (refine goSt ?_; (repeat (refine goAl ?_; intro p hp; refine goSt ?_)))
        refine Res_imp (floE_imp _) ?_
        (apply resN1; exact rfl; exact rfl; exact goAtm; exact inferInstance; exact rfl; exact rfl; exact ⟨rfl, rfl⟩)
      · have hlo : lo = hi := by simpa using hne
        subst hlo
        (refine goSt ?_; (repeat (refine goAl ?_; intro p hp; refine goSt ?_)))
        (first | (apply wl_call (within8_con lo 1 1000000); exact rfl; exact rfl) | (apply wl_callR (within8_con lo 1 1000000); exact rfl; exact goAtm; exact rfl))
        (refine goSt ?_; (repeat (refine goAl ?_; intro p hp; refine goSt ?_)))
        refine w_cond rfl (fun hin => ?_) (fun hin => ?_)
        · rw [if_neg (by simp at hin; omega)]
          (refine goSt ?_; (repeat (refine goAl ?_; intro p hp; refine goSt ?_)))
          refine Res_imp (floE_imp _) ?_
          (apply resN1; exact rfl; exact rfl; exact goAtm; exact inferInstance; exact rfl; exact rfl; exact ⟨rfl, rfl⟩)
        · rw [if_pos (by simp at hin; omega)]
          (refine goSt ?_; (repeat (refine goAl ?_; intro p hp; refine goSt ?_)))
          refine WL_as 42 (.agg (biC { x with pe := lo })) rfl ?_
          generalize addR f { x with pe := lo } = ra at CA ⊢
          obtain ⟨fa, ea⟩ := ra
          unfold flT at CA ⊢
          (first | (apply wl_call (CA); exact rfl; exact rfl) | (apply wl_callR (CA); exact rfl; exact goAtm; exact rfl))
          (refine goSt ?_; (repeat (refine goAl ?_; intro p hp; refine goSt ?_)))
          (apply resN1; exact rfl; exact rfl; exact goAtm; exact inferInstance; exact rfl; exact rfl; exact ⟨rfl, rfl⟩)
end Go.Proofs.YtihonljdanjfmaaDoor.Sw
namespace Go.Proofs.YtihonljdanjfmaaDoor.Sw
open Go.RowKit Go Go.Shelf Go.Proofs
theorem stkR_perm : ∀ (bs : List Bil) (us : List Value) (k : Nat) (h : k < bs.length) (h2 : k < us.length), (stkR bs us).Perm (.row us[k] 113 2 stC bs[k].st :: stkR (bs.eraseIdx k) (us.eraseIdx k))
  | x :: t, u :: us, 0, _, _ => by simp [stkR]
  | x :: t, u :: us, k + 1, h, h2 => by
    simp only [stkR, List.eraseIdx_cons_succ, List.getElem_cons_succ]
    exact ((stkR_perm t us k (by simpa using h) (by simpa using h2)).cons _).trans (List.Perm.swap _ _ _)
  | [], _, _, h, _ => by simp at h
  | _ :: _, [], _, _, h2 => by simp at h2
theorem mixL_get : ∀ (bs : List Bil) (us : List Value) (k : Nat) (h : k < bs.length) (h2 : k < us.length), (mixL bs us)[k]? = some (bs[k], some us[k])
  | x :: t, u :: us, 0, _, _ => rfl
  | x :: t, u :: us, k + 1, h, h2 => by
    simp only [mixL, List.getElem?_cons_succ, List.getElem_cons_succ]
    exact mixL_get t us k (by simpa using h) (by simpa using h2)
  | [], _, _, h, _ => by simp at h
  | _ :: _, [], _, _, h2 => by simp at h2
theorem mixL_setx : ∀ (bs : List Bil) (us : List Value) (k : Nat) (h2 : k < us.length) (x : Bil), (mixL bs us).set k (x, some us[k]) = mixL (bs.set k x) us
  | y :: t, u :: us, 0, _, x => rfl
  | y :: t, u :: us, k + 1, h2, x => by
    simp only [mixL, List.set_cons_succ, List.getElem_cons_succ]
    rw [mixL_setx t us k (by simpa using h2) x]
  | [], _, _, _, _ => rfl
  | _ :: _, [], _, h2, _ => by simp at h2
set_option maxRecDepth 20000 in
set_option maxHeartbeats 4000000 in
theorem spoil_con (vi vq vb vp : Value) (f : Flo) (hS : Sml f) : Con Tryd.prog 30 [.agg [.val vi, .val vq, .val vb, .val vp]] [floOwn vi vq vb vp f] (Is (.tup []) []) := by
  have hidsl := hS.ids
  have hqsl := hS.qs
  have hbsl := hS.bs
  have hpsl := hS.ps
  refine con_of Tryd.func30 rfl (enters_of Tryd.func30 (by kernel_rfl) rfl) rfl ?_; intro n w0 F0 G0
  apply W_exs
  · exact goRm
  intro us
  apply W_fact
  · exact goRm
  intro hus
  (refine goSt ?_; (repeat (refine goAl ?_; intro p hp; refine goSt ?_)))
  refine W_loopJ (fun (b : Nat × List Int) => ⟨[(1, .val p), (9, .val (.int .i64 b.2.length)), (10, .val (.int .i64 b.1))], [.row vi 3 1 iC b.2, .row vq 55 2 quC f.qs, .row vb 66 4 mbC (mixL f.bs us), .row vp 53 3 payC f.ps, .pack (stkR f.bs us), .box p [.val vi, .val vq, .val vb, .val vp] 27]⟩) (fun b => b.1 ≤ b.2.length ∧ b.2.length ≤ 1000) (fun b => b.2.length - b.1) (0, f.ids) (fun _ _ st => st_sub2 st (by exact goSubr) (by exact goSubp)) ⟨Nat.zero_le _, by dsimp only; omega⟩ ?_
  rintro ⟨k, l⟩ ⟨hk, hkl⟩
  dsimp only at hk hkl ⊢
  (refine goSt ?_; (repeat (refine goAl ?_; intro p hp; refine goSt ?_)))
  refine w_cond rfl (fun hlt => ?_) (fun hlt => ?_)
  · have hlt' : k < l.length := by simpa using hlt
    (refine goSt ?_; (repeat (refine goAl ?_; intro p hp; refine goSt ?_)))
    refine ⟨(k + 1, l.set k (-7)), fun _ _ st => st_sub2 st ?_ ?_, ?_, ?_⟩
    · dsimp only; rw [List.length_set]; exact goSubr
    · exact goSubp
    · dsimp only; rw [List.length_set]; omega
    · dsimp only; rw [List.length_set]; omega
  · clear hlt hk hkl
    (refine goSt ?_; (repeat (refine goAl ?_; intro p hp; refine goSt ?_)))
    refine W_loopJ (fun (b : Nat × List Qu) => ⟨[(1, .val p), (20, .val (.int .i64 b.2.length)), (21, .val (.int .i64 b.1))], [.row vq 55 2 quC b.2, .row vb 66 4 mbC (mixL f.bs us), .row vp 53 3 payC f.ps, .pack (stkR f.bs us), .box p [.val vi, .val vq, .val vb, .val vp] 27]⟩) (fun b => b.1 ≤ b.2.length ∧ b.2.length ≤ 1000) (fun b => b.2.length - b.1) (0, f.qs) (fun _ _ st => st_sub2 st (by exact goSubr) (by exact goSubp)) ⟨Nat.zero_le _, by dsimp only; omega⟩ ?_
    rintro ⟨k, l⟩ ⟨hk, hkl⟩
    dsimp only at hk hkl ⊢
    (refine goSt ?_; (repeat (refine goAl ?_; intro p hp; refine goSt ?_)))
    refine w_cond rfl (fun hlt => ?_) (fun hlt => ?_)
    · have hlt' : k < l.length := by simpa using hlt
      (refine goSt ?_; (repeat (refine goAl ?_; intro p hp; refine goSt ?_)))
      apply wl_storeRx (⟨-7, l[k].b⟩ : Qu)
      · exact rfl
      · exact goAtm
      · exact rfl
      · exact inferInstance
      · exact inferInstance
      case hk => exact hlt'
      · decide
      · rfl
      (refine goSt ?_; (repeat (refine goAl ?_; intro p hp; refine goSt ?_)))
      refine ⟨(k + 1, l.set k ⟨-7, l[k].b⟩), fun _ _ st => st_sub2 st ?_ ?_, ?_, ?_⟩
      · dsimp only; rw [List.length_set]; exact goSubr
      · exact goSubp
      · dsimp only; rw [List.length_set]; omega
      · dsimp only; rw [List.length_set]; omega
    · clear hlt hk hkl
      (refine goSt ?_; (repeat (refine goAl ?_; intro p hp; refine goSt ?_)))
      refine W_loopJ (fun (b : Nat × List Pay) => ⟨[(1, .val p), (32, .val (.int .i64 b.2.length)), (33, .val (.int .i64 b.1))], [.row vb 66 4 mbC (mixL f.bs us), .row vp 53 3 payC b.2, .pack (stkR f.bs us), .box p [.val vi, .val vq, .val vb, .val vp] 27]⟩) (fun b => b.1 ≤ b.2.length ∧ b.2.length ≤ 1000) (fun b => b.2.length - b.1) (0, f.ps) (fun _ _ st => st_sub2 st (by exact goSubr) (by exact goSubp)) ⟨Nat.zero_le _, by dsimp only; omega⟩ ?_
      rintro ⟨k, l⟩ ⟨hk, hkl⟩
      dsimp only at hk hkl ⊢
      (refine goSt ?_; (repeat (refine goAl ?_; intro p hp; refine goSt ?_)))
      refine w_cond rfl (fun hlt => ?_) (fun hlt => ?_)
      · have hlt' : k < l.length := by simpa using hlt
        (refine goSt ?_; (repeat (refine goAl ?_; intro p hp; refine goSt ?_)))
        apply wl_storeRx (⟨l[k].a, l[k].b, -7⟩ : Pay)
        · exact rfl
        · exact goAtm
        · exact rfl
        · exact inferInstance
        · exact inferInstance
        case hk => exact hlt'
        · decide
        · rfl
        (refine goSt ?_; (repeat (refine goAl ?_; intro p hp; refine goSt ?_)))
        refine ⟨(k + 1, l.set k ⟨l[k].a, l[k].b, -7⟩), fun _ _ st => st_sub2 st ?_ ?_, ?_, ?_⟩
        · dsimp only; rw [List.length_set]; exact goSubr
        · exact goSubp
        · dsimp only; rw [List.length_set]; omega
        · dsimp only; rw [List.length_set]; omega
      · clear hlt hk hkl
        have hml0 := mixL_len f.bs us
        (refine goSt ?_; (repeat (refine goAl ?_; intro p hp; refine goSt ?_)))
        rw [hml0]
        refine W_loopJ (fun (b : Nat × List Bil) => ⟨[(1, .val p), (44, .val (.int .i64 b.2.length)), (45, .val (.int .i64 b.1))], [.row vb 66 4 mbC (mixL b.2 us), .pack (stkR b.2 us), .box p [.val vi, .val vq, .val vb, .val vp] 27]⟩) (fun b => b.1 ≤ b.2.length ∧ b.2.length = us.length ∧ b.2.length ≤ 1000 ∧ ∀ x ∈ b.2, x.st.length ≤ 1000) (fun b => b.2.length - b.1) (0, f.bs) (fun _ _ st => st_sub2 st (by exact goSubr) (by exact goSubp)) ⟨Nat.zero_le _, hus.symm, by dsimp only; omega, hS.st⟩ ?_
        rintro ⟨k, bs⟩ ⟨hk, hbu, hkl, hst⟩
        dsimp only at hk hbu hkl hst ⊢
        (refine goSt ?_; (repeat (refine goAl ?_; intro p hp; refine goSt ?_)))
        refine w_cond rfl (fun hlt => ?_) (fun hlt => ?_)
        · have hlt' : k < bs.length := by simpa using hlt
          have hku : k < us.length := by omega
          have hml := mixL_len bs us
          have hix : k < (mixL bs us).length := by omega
          have hmg := mixL_get bs us k hlt' hku
          have hge : (mixL bs us)[k] = (bs[k], some us[k]) := by rw [List.getElem?_eq_getElem hix] at hmg; exact Option.some.inj hmg
          have hstk := hst _ (List.getElem_mem hlt')
          (refine goSt ?_; (repeat (refine goAl ?_; intro p hp; refine goSt ?_)))
          apply WL_eqR 53 (.val us[k]) rfl (by simp only [hge])
          refine WL_unpack (stkR_perm bs us k hlt' hku) (by exact goRm) ?_
          (refine goSt ?_; (repeat (refine goAl ?_; intro p hp; refine goSt ?_)))
          refine W_loopJ (fun (b : Nat × List Stk) => ⟨[(1, .val p), (45, .val (.int .i64 k)), (5, .val (.int .i64 k)), (44, .val (.int .i64 bs.length)), (54, .val (.int .i64 b.2.length)), (55, .val (.int .i64 b.1))], [.row us[k] 113 2 stC b.2, .row vb 66 4 mbC (mixL bs us), .pack (stkR (bs.eraseIdx k) (us.eraseIdx k)), .box p [.val vi, .val vq, .val vb, .val vp] 27]⟩) (fun b => b.1 ≤ b.2.length ∧ b.2.length ≤ 1000) (fun b => b.2.length - b.1) (0, bs[k].st) (fun _ _ st => st_sub2 st (by exact goSubr) (by exact goSubp)) ⟨Nat.zero_le _, hstk⟩ ?_
          rintro ⟨j, l⟩ ⟨hj, hjl⟩
          dsimp only at hj hjl ⊢
          (refine goSt ?_; (repeat (refine goAl ?_; intro p hp; refine goSt ?_)))
          refine w_cond rfl (fun hlu => ?_) (fun hlu => ?_)
          · have hlu' : j < l.length := by simpa using hlu
            (refine goSt ?_; (repeat (refine goAl ?_; intro p hp; refine goSt ?_)))
            apply WL_eqR 63 (.val us[k]) rfl (by simp only [hge])
            (refine goSt ?_; (repeat (refine goAl ?_; intro p hp; refine goSt ?_)))
            apply wl_storeRx (⟨l[j].fl, -7⟩ : Stk)
            · exact rfl
            · exact goAtm
            · exact rfl
            · exact inferInstance
            · exact inferInstance
            case hk => exact hlu'
            · decide
            · rfl
            (refine goSt ?_; (repeat (refine goAl ?_; intro p hp; refine goSt ?_)))
            refine ⟨(j + 1, l.set j ⟨l[j].fl, -7⟩), fun _ _ st => st_sub2 st ?_ ?_, ?_, ?_⟩
            · dsimp only; rw [List.length_set]; exact goSubr
            · exact goSubp
            · dsimp only; rw [List.length_set]; omega
            · dsimp only; rw [List.length_set]; omega
          · clear hlu hj
            have hp := stkR_perm (bs.set k ⟨bs[k].no, bs[k].py, -7, l⟩) us k (by rw [List.length_set]; exact hlt') hku
            rw [List.getElem_set_self, List.eraseIdx_set_eq] at hp
            refine W_repack hp (by exact goRm) (by exact goRm) ?_
            (refine goSt ?_; (repeat (refine goAl ?_; intro p hp; refine goSt ?_)))
            apply wl_storeRx ((⟨bs[k].no, bs[k].py, -7, l⟩ : Bil), some us[k])
            · exact rfl
            · exact goAtm
            · exact rfl
            · exact inferInstance
            · exact inferInstance
            case hk => exact hix
            · decide
            · rw [hge]; rfl
            rw [mixL_setx bs us k hku]
            (refine goSt ?_; (repeat (refine goAl ?_; intro p hp; refine goSt ?_)))
            refine ⟨(k + 1, bs.set k ⟨bs[k].no, bs[k].py, -7, l⟩), fun _ _ st => st_sub2 st ?_ ?_, ?_, ?_⟩
            · dsimp only; rw [List.length_set]; exact goSubr
            · exact goSubp
            · dsimp only
              refine ⟨?_, ?_, ?_, ?_⟩
              · rw [List.length_set]; omega
              · rw [List.length_set]; omega
              · rw [List.length_set]; omega
              · intro x hx
                rcases List.mem_or_eq_of_mem_set hx with h | rfl
                · exact hst x h
                · exact hjl
            · dsimp only; rw [List.length_set]; omega
        · clear hlt hk
          (refine goSt ?_; (repeat (refine goAl ?_; intro p hp; refine goSt ?_)))
          (apply resK0; exact rfl; exact ⟨rfl, rfl⟩; exact goCutl)
end Go.Proofs.YtihonljdanjfmaaDoor.Sw
namespace Go.Proofs.YtihonljdanjfmaaDoor.Sw
open Go.RowKit Go Go.Shelf Go.Proofs
theorem sml_small {f : Flo} (h : greatF f = false) : Sml f := by
  obtain ⟨h1, h2, h3, h4, h5⟩ := sml_of h
  exact ⟨by omega, by omega, by omega, by omega, fun b hb => by have := h5 b hb; omega⟩
theorem eq_self {α : Type} {x : α} : (x = x) = True := by simp
end Go.Proofs.YtihonljdanjfmaaDoor.Sw
namespace Go.Proofs.YtihonljdanjfmaaDoor.Sw
open Go.RowKit Go Go.Shelf Go.Proofs
theorem sml_E : Sml floE := ⟨Nat.zero_le _, Nat.zero_le _, Nat.zero_le _, Nat.zero_le _, fun b h => (by cases h)⟩
end Go.Proofs.YtihonljdanjfmaaDoor.Sw
namespace Go.Proofs.YtihonljdanjfmaaDoor.Sw
open Go.RowKit Go Go.Shelf Go.Proofs
theorem lt_extractB {P : Program} {rs : List (Nat × AV)} {d : Option Nat} {ty : TypeId} {pos : String} {af : Array Edge} {g : Option (Nat × Bool)} {x : Operand} {cs : List AV} {i : Nat} {av : AV} {u : Value} (hx : opv rs x = some (.both (.tup cs) u)) (hi : cs[i]? = some av) : LT P ⟨d, .extract x i, ty, pos, af, g⟩ rs [] (Is av []) :=
  LT_val (fun _ e => by cases e) fun a w G hR _ => by
    obtain ⟨_, vs, e1, hf⟩ : (AV.both (.tup cs) u).P G (a.eval x) := opv_ok hR hx
    obtain ⟨v, hv, hp⟩ := hf.get hi
    refine ⟨v, hp, ?_⟩
    simp only [execOp, e1]
    simp [go_sem, Instr.extract, hv]
def oneV (v : Value) : Value := if v.oneCell' = true then v else .int .i64 0
instance one_oneV {v : Value} : One (.val (oneV v)) := ⟨fun _ _ h => by
  have h' : _ = oneV v := h
  subst h'
  unfold oneV
  split
  · rename_i h; exact h
  · rfl⟩
theorem oneV_of {v : Value} (h : One (.val v)) : oneV v = v := if_pos (h.out (fun _ => none) v rfl)
/-- The cells of a struct that stands first among results. -/
def cellS (j : Nat) : Value → Value
  | .tuple #[.agg cs, _] => cs.getD j undef
  | _ => undef
def cellR (j : Nat) (v : Value) : Value := oneV (cellS j v)
instance one_cellR {j : Nat} {v : Value} : One (.val (cellR j v)) := one_oneV
def flR (e : Int) (u : Value) : AV := .tup [.agg [.val (cellR 0 u), .val (cellR 1 u), .val (cellR 2 u), .val (cellR 3 u)], .val (.int .i64 e)]
def flO (f : Flo) (l : List HA) (u : Value) : List HA := floOwn (cellR 0 u) (cellR 1 u) (cellR 2 u) (cellR 3 u) f :: l
/-- The cells of a struct's value. -/
def cellT (j : Nat) : Value → Value
  | .agg cs => cs.getD j undef
  | _ => undef
def cellA (j : Nat) (v : Value) : Value := oneV (cellT j v)
instance one_cellA {j : Nat} {v : Value} : One (.val (cellA j v)) := one_oneV
abbrev flA (u : Value) : AV := .agg [.val (cellA 0 u), .val (cellA 1 u), .val (cellA 2 u), .val (cellA 3 u)]
def flB (f : Flo) (l : List HA) (u : Value) : List HA := floOwn (cellA 0 u) (cellA 1 u) (cellA 2 u) (cellA 3 u) f :: l
instance {av : AV} {u : Value} {cs : List AV} [h : CellsOf av cs] : CellsOf (.both av u) cs := ⟨fun G v k => h.out G v k.2⟩
theorem oneV_cell {j : Nat} {v : Value} : oneV (cellR j v) = cellR j v := oneV_of one_cellR
theorem LT_moveFl {P : Program} {rs : List (Nat × AV)} {d : Option Nat} {ty : TypeId} {pos : String} {af : Array Edge} {g : Option (Nat × Bool)} {x : Operand} {e : Int} {u0 : Value} {f : Flo} {l : List HA} (hx : opv rs x = some (.both (flR e u0) u0)) :
    LT P ⟨d, .move x, ty, pos, af, g⟩ rs (flO f l u0) (fun x y => ∃ u, x = .both (flR e u) u ∧ y = flO f l u) := ⟨fun F n hF a w G Fp K Q hR hI hk => by
  have h := (LT.frame (rest := flO f l u0) (lt_move (P := P) (d := d) (ty := ty) (pos := pos) (af := af) (g := g) hx)).go F n hF a w G Fp K Q hR (by simpa using hI) fun v av prod G' F' w' ⟨y', e1, e2, e3⟩ hfr hi hv => ?_
  · exact h
  · subst e1 e2 e3
    exact hk v _ _ G' F' w' ⟨u0, rfl, rfl⟩ hfr (by simpa using hi) hv⟩
theorem LT_extFl {P : Program} {rs : List (Nat × AV)} {d : Option Nat} {ty : TypeId} {pos : String} {af : Array Edge} {g : Option (Nat × Bool)} {x : Operand} {e : Int} {u0 : Value} {f : Flo} {l : List HA} (hx : opv rs x = some (.both (flR e u0) u0)) :
    LT P ⟨d, .extract x 0, ty, pos, af, g⟩ rs (flO f l u0) (fun x y => ∃ u, x = .both (flA u) u ∧ y = flB f l u) := ⟨fun F n hF a w G Fp K Q hR hI hk => by
  have h := (LT.frame (rest := flO f l u0) (lt_extractB (P := P) (d := d) (ty := ty) (pos := pos) (af := af) (g := g) (i := 0) (av := .agg [.val (cellR 0 u0), .val (cellR 1 u0), .val (cellR 2 u0), .val (cellR 3 u0)]) hx rfl)).go F n hF a w G Fp K Q hR (by simpa using hI) fun v av prod G' F' w' ⟨y', e1, e2, e3⟩ hfr hi hv => ?_
  · exact h
  · subst e1 e2 e3
    obtain ⟨us, rfl, hu⟩ := hv
    match us, hu with
    | [a0, a1, a2, a3], ⟨h0, h1, h2, h3, _⟩ =>
      have h0' : a0 = _ := h0
      have h1' : a1 = _ := h1
      have h2' : a2 = _ := h2
      have h3' : a3 = _ := h3
      subst h0' h1' h2' h3'
      have c0 : cellA 0 (.agg #[cellR 0 u0, cellR 1 u0, cellR 2 u0, cellR 3 u0]) = cellR 0 u0 := oneV_cell
      have c1 : cellA 1 (.agg #[cellR 0 u0, cellR 1 u0, cellR 2 u0, cellR 3 u0]) = cellR 1 u0 := oneV_cell
      have c2 : cellA 2 (.agg #[cellR 0 u0, cellR 1 u0, cellR 2 u0, cellR 3 u0]) = cellR 2 u0 := oneV_cell
      have c3 : cellA 3 (.agg #[cellR 0 u0, cellR 1 u0, cellR 2 u0, cellR 3 u0]) = cellR 3 u0 := oneV_cell
      refine hk _ _ _ G' F' w' ⟨.agg #[cellR 0 u0, cellR 1 u0, cellR 2 u0, cellR 3 u0], rfl, rfl⟩ hfr ?_ ⟨rfl, ?_⟩
      · unfold flB; rw [c0, c1, c2, c3]; simpa [flO] using hi
      · unfold flA; rw [c0, c1, c2, c3]; exact ⟨[_, _, _, _], rfl, rfl, rfl, rfl, rfl, trivial⟩⟩
theorem LT_flP {P : Program} {o : Oper} {rs : List (Nat × AV)} {cons : List HA} {r : Flo × Int} {l : List HA} (h : LT P o rs cons (fun x y => ∃ vi vq vb vp, (One (.val vi) ∧ One (.val vq) ∧ One (.val vb) ∧ One (.val vp)) ∧ x = .tup [.agg [.val vi, .val vq, .val vb, .val vp], .val (.int .i64 r.2)] ∧ y = floOwn vi vq vb vp r.1 :: l)) :
    LT P o rs cons (fun x y => ∃ u, x = .both (flR r.2 u) u ∧ y = flO r.1 l u) := ⟨fun F n hF a w G Fp K Q hR hI hk => h.go F n hF a w G Fp K Q hR hI fun v av prod G' F' w' ⟨vi, vq, vb, vp, ⟨o1, o2, o3, o4⟩, e1, e2⟩ hfr hi hv => by
  subst e1 e2
  obtain ⟨us, rfl, hu⟩ := hv
  match us, hu with
  | [x, y], ⟨⟨cs, ec, hc⟩, hy, _⟩ =>
    match cs, hc with
    | [a0, a1, a2, a3], ⟨h0, h1, h2, h3, _⟩ =>
      have h0' : a0 = vi := h0
      have h1' : a1 = vq := h1
      have h2' : a2 = vb := h2
      have h3' : a3 = vp := h3
      have hy' : y = _ := hy
      subst ec h0' h1' h2' h3' hy'
      have c0 : cellR 0 (.tuple #[.agg #[a0, a1, a2, a3], .int .i64 r.2]) = a0 := oneV_of o1
      have c1 : cellR 1 (.tuple #[.agg #[a0, a1, a2, a3], .int .i64 r.2]) = a1 := oneV_of o2
      have c2 : cellR 2 (.tuple #[.agg #[a0, a1, a2, a3], .int .i64 r.2]) = a2 := oneV_of o3
      have c3 : cellR 3 (.tuple #[.agg #[a0, a1, a2, a3], .int .i64 r.2]) = a3 := oneV_of o4
      refine hk _ _ _ G' F' w' ⟨.tuple #[.agg #[a0, a1, a2, a3], .int .i64 r.2], rfl, rfl⟩ hfr ?_ ⟨rfl, ?_⟩
      · unfold flO; rw [c0, c1, c2, c3]; exact hi
      · unfold flR; rw [c0, c1, c2, c3]; exact ⟨[_, _], rfl, ⟨[_, _, _, _], rfl, rfl, rfl, rfl, rfl, trivial⟩, rfl, trivial⟩⟩
end Go.Proofs.YtihonljdanjfmaaDoor.Sw
