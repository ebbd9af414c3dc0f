/- Proofs for the seat's cards: Br8, DoorB, FloorV, FloorW, FloorX, FloorY, FloorM, FloorOa, FloorOb, Gr, Gr2, Gr3, Gr4, FloorTa, SwI. No condition of its own. -/
import Derived.WalkKit
import Derived.Lib.LazyBuf
import Derived.Test.YtihonljdanjfmaaGreatDoorZd5
set_option linter.unusedVariables false
set_option linter.unusedSimpArgs false
set_option maxRecDepth 40000
set_option maxHeartbeats 32000000
namespace Go.Proofs.YtihonljdanjfmaaGreatDoor.Sw
open Go.RowKit Go
def tC (t : Tl) : List AV := [.val (.int .i64 t.id), .val (.int .i64 t.hs), .sl 1 iC t.st, .sl 1 iC t.fo]
def rC (r : Rt) : List AV := [.val (.int .i64 r.skin), .val (.int .i64 r.half), .val (.int .i64 r.barrel), .val (.int .i64 r.paid)]
def pC (s : Int × Int) : List AV := [.val (.int .i64 s.1), .val (.int .i64 s.2)]
instance {t : Int × Int} : OneL (pC t) := inferInstanceAs (OneL [_, _])
theorem rdI_of {G : Nat → Option Obj} {w : World} (hG : Gin G w) {a : Option Addr} {xs : List Int} (h : SlP G 1 iC a xs) : RdI w a xs := fun i hi => by
 obtain ⟨b, o, e, h1⟩ := h i hi
 obtain ⟨u, h2, h3⟩ := h1 0 _ rfl
 refine ⟨b, o, e, ?_⟩
 have h3' : u = .int .i64 xs[i] := h3
 have := cellG.cell hG h2
 rw [h3'] at this
 simpa using this
theorem fits_tl {G : Nat → Option Obj} {w : World} (hG : Gin G w) {t : Tl} {v : Value} (h : (AV.agg (tC t)).P G v) : ∃ sa sc fa fc, v = .agg #[.int .i64 t.id, .int .i64 t.hs, .slice sa t.st.length sc, .slice fa t.fo.length fc] ∧ RdI w sa t.st ∧ RdI w fa t.fo := by
 obtain ⟨us, e, hu⟩ := h
 match us, hu with
 | [v0, v1, v2, v3], ⟨h0, h1, ⟨a1, c1, h2, _, h4⟩, ⟨a2, c2, h3, _, h5⟩, _⟩ =>
  have h0' : v0 = _ := h0
  have h1' : v1 = _ := h1
  subst e h0' h1' h2 h3
  exact ⟨a1, c1, a2, c2, rfl, rdI_of hG h4, rdI_of hG h5⟩
theorem fits_rt {G : Nat → Option Obj} {r : Rt} {v : Value} (h : (AV.agg (rC r)).P G v) : v = r.val := by
 obtain ⟨us, e, hu⟩ := h
 match us, hu with
 | [v0, v1, v2, v3], ⟨h0, h1, h2, h3, _⟩ =>
  have h0' : v0 = _ := h0
  have h1' : v1 = _ := h1
  have h2' : v2 = _ := h2
  have h3' : v3 = _ := h3
  subst e h0' h1' h2' h3'
  rfl
def TabG (G : Nat → Option Obj) : Prop := cellG G 1 0 = some (.func (.func 210) #[] #[]) ∧ cellG G 1 1 = some (.func (.func 211) #[] #[]) ∧ cellG G 1 2 = some (.func (.func 212) #[] #[])
def HA.tab : HA := ⟨fun G F _ => F = [] ∧ TabG G, fun h k => ⟨k.1, cellG.le h k.2.1, cellG.le h k.2.2.1, cellG.le h k.2.2.2⟩, fun _ k => k⟩
theorem con_tab {P : Program} {k : FuncId} {args : List AV} {av : AV} (he : ∀ args w, (callFunc k args).run P w = .ok (.enter k args) w)
  (h : ∀ (G : Nat → Option Obj) (vs : List Value) (w : World), Fits G args vs → Gin G w → Tab w → Calls P k vs.toArray w fun e w' => ∃ v, e = .returned v ∧ av.P G v ∧ Below w.heap.size w w') : Con P k args [HA.tab] (Is av [HA.tab]) :=
 ⟨he, fun G Fp vs w hf hi => by
  obtain ⟨F1, F2, ep, ⟨hF1, hT⟩, hF2⟩ := hi.hs
  have hF2' : F2 = [] := hF2
  subst hF1 hF2'
  obtain rfl : Fp = [] := List.Perm.eq_nil (by simpa using ep)
  refine (h G vs w hf hi.gin ⟨cellG.cell hi.gin hT.1, cellG.cell hi.gin hT.2.1, cellG.cell hi.gin hT.2.2⟩).mono fun e w' ⟨v, h1, h2, h3⟩ => ?_
  exact ⟨v, av, [HA.tab], G, [], h1, ⟨rfl, rfl⟩, ⟨h3.os, h3.tape, h3.output, h3.size, fun b hb _ => h3.block b hb, fun _ h => .inl h, Gle.refl _, fun _ _ h => .inl h⟩, ⟨fun b o e => (h3.block b (hi.gin.lt e)).trans (hi.gin b o e), by simp, fun b hb => (by cases hb), [], [], .refl _, ⟨rfl, hT⟩, rfl⟩, h2⟩⟩
def seA (s : (Int × Int) × Int) : AV := .tup [.agg (pC s.1), .val (.int .i64 s.2)]
theorem seA_ok (s : (Int × Int) × Int) (G : Nat → Option Obj) : (seA s).P G (.tuple #[.agg #[.int .i64 s.1.1, .int .i64 s.1.2], .int .i64 s.2]) := ⟨[_, _], rfl, ⟨[_, _], rfl, rfl, rfl, trivial⟩, rfl, trivial⟩
theorem owed_con (t : Tl) (r : Rt) (h1 : t.st.length ≤ 1000) (h2 : t.fo.length ≤ 1000) : Con Tryz.prog 37 [.agg (tC t), .agg (rC r)] [HA.tab] (Is (seA (owedR t r)) [HA.tab]) := by
 refine con_tab (enters_of Tryz.func37 (by kernel_rfl) rfl) fun G vs w hf hG hT => ?_
 match vs, hf with
 | [v, v'], ⟨h, h', _⟩ =>
  obtain ⟨sa, sc, fa, fc, rfl, g1, g2⟩ := fits_tl hG h
  obtain rfl := fits_rt h'
  exact (owed_any t r sa fa sc fc w hT h1 h2 g1 g2).mono fun e w' ⟨h, hb⟩ => ⟨_, h, seA_ok _ G, hb⟩
theorem owedR_eq (a : Tl) (r : Rt) : owedR a r = if okT a.id a.hs a.st a.fo = true then (if r.ok = true then (spanF (rateW r) a.st a.fo, 0) else ((0, 0), 71)) else ((0, 0), 70) := by
 unfold owedR owesR errAll owesL
 simp [Tl.ok]
 split <;> simp_all
end Go.Proofs.YtihonljdanjfmaaGreatDoor.Sw
namespace Go.Proofs.YtihonljdanjfmaaGreatDoor
open Go Go.ChangeShapes Go.WideShapes Go.ChangeAt Go.RowKit
def laidB : List (String × DataW Unit) := [("aguador/tally.checks", Rows.laid_aguador_tally_checks), ("aguador/floor.checks", Rows.laid_aguador_floor_checks)]
set_option maxRecDepth 100000 in
theorem door_metB (os : Os) (args : Array Value) : laidMetH Tryz.prog laidB ((World.doorLaid Tryz.prog 400 os).forCall (fun _ _ => 0) ⟨#[], args, []⟩).memory :=
 laidMetH_of_parts3 (fuel := 8) (laidMet_of_run' 8 (by kernel_rfl) (by kernel_rfl)) (by kernel_rfl) (by kernel_rfl)
set_option maxRecDepth 100000 in
theorem tab_ofT {W : World} {L : List (String × DataW Unit)} (hm : ("aguador/tally.checks", Rows.laid_aguador_tally_checks) ∈ L) (h : laidMetH Tryz.prog L W) : Tab W := by
 obtain ⟨g, t, cs, fuel, p, hg, ht, hv, hd⟩ := h.funcs (n := "aguador/tally.checks") hm
 obtain rfl := Option.some.inj ((show Tryz.prog.globalNamed "aguador/tally.checks" = some 1 by kernel_rfl).symm.trans hg)
 obtain rfl := Option.some.inj ((show (Tryz.prog.globals[1]?).map (·.type) = some 192 by kernel_rfl).symm.trans ht)
 have hd' : DataW.trod (funcToken Tryz.prog) Tryz.prog W 0 (fun _ => true) true fuel 192 cs.toList = some (.agg [.agg [.held [97, 103, 117, 97, 100, 111, 114, 47, 116, 97, 108, 108, 121, 46, 99, 104, 101, 99, 107, 115, 36, 49]], .agg [.held [97, 103, 117, 97, 100, 111, 114, 47, 116, 97, 108, 108, 121, 46, 99, 104, 101, 99, 107, 115, 36, 50]], .agg [.held [97, 103, 117, 97, 100, 111, 114, 47, 116, 97, 108, 108, 121, 46, 99, 104, 101, 99, 107, 115, 36, 51]]], p) := hd
 obtain ⟨xs, m, rfl, hx, hlen, hn, hel⟩ := DataW.trod_array Tryz.underlying192 hd'
 rw [show Tryz.prog.cellsOf 191 = 1 by kernel_rfl] at hel
 rw [show Tryz.prog.cellsOf 192 = 3 by kernel_rfl] at hlen
 obtain ⟨cl⟩ := cs
 match cl, hlen, xs, hn with
 | [v0, v1, v2], _, [x0, x1, x2], _ =>
  simp only [Prod.mk.injEq, DataW.agg.injEq, List.map_cons, List.map_nil, List.cons.injEq] at hx
  have h0 := hel 0 (by decide); have h1 := hel 1 (by decide); have h2 := hel 2 (by decide)
  simp at h0 h1 h2
  have go : ∀ (v : Value) (x : DataW (List UInt8) × List MemPlace) (b : UInt8) (r : List UInt8) (f0 : FuncId), ((List.range Tryz.prog.funcs.size).filter fun f => (Tryz.prog.funcs[f]?).any (·.name.toUTF8.data.toList == b :: r)) = [f0] →
    DataW.trod (funcToken Tryz.prog) Tryz.prog W 0 (fun _ => true) true m 191 [v] = some x → x.1 = .agg [.held (b :: r)] → v = .func (.func f0) #[] #[] := by
   intro v x b r f0 hone h hx
   obtain ⟨y, n, rfl, _, hy⟩ := trod_struct1 Tryz.underlying191 h
   simp only [DataW.agg.injEq, List.cons.injEq, and_true] at hx
   obtain ⟨y1, y2⟩ := y
   simp only at hx
   subst hx
   exact func_of_trod (P := Tryz.prog) Tryz.underlying70 hone (by simpa [show Tryz.prog.cellsOf 70 = 1 by kernel_rfl] using hy)
  have e0 := go v0 x0 _ _ 210 (by kernel_rfl) h0 hx.1.1.symm
  have e1 := go v1 x1 _ _ 211 (by kernel_rfl) h1 hx.1.2.1.symm
  have e2 := go v2 x2 _ _ 212 (by kernel_rfl) h2 hx.1.2.2.1.symm
  subst e0; subst e1; subst e2
  have c0 := World.var?_cell hg hv 0; have c1 := World.var?_cell hg hv 1; have c2 := World.var?_cell hg hv 2
  exact ⟨by simpa using c0, by simpa using c1, by simpa using c2⟩
end Go.Proofs.YtihonljdanjfmaaGreatDoor
namespace Go.Proofs.YtihonljdanjfmaaGreatDoor.Sw
open Go Go.RowKit Go.ChangeShapes Go.WideShapes Go.ChangeAt
set_option maxRecDepth 100000
theorem tab_hsT {w : World} (h : Tab w) : hsP [HA.tab] (gh w) [] w := ⟨[], [], .refl _, ⟨rfl, cellG_gh h.1, cellG_gh h.2.1, cellG_gh h.2.2⟩, rfl⟩
theorem tabs_of {W : World} (h : laidMetH Tryz.prog laidB W) : hsP [tab8, HA.tab] (gh W) [] W :=
 hsP.append (tab_of8 (List.mem_cons_of_mem _ (List.mem_cons_self ..)) h) (tab_hsT (tab_ofT (List.mem_cons_self ..) h))
end Go.Proofs.YtihonljdanjfmaaGreatDoor.Sw
namespace Go.Proofs.YtihonljdanjfmaaGreatDoor.Sw
open Go.RowKit Go Go.Shelf Go.Proofs
def sumPt : List Stk → Int
 | [] => 0
 | s :: t => s.pt + sumPt t
def addAt (l : List Int) (i : Nat) (d : Int) : List Int := l.set i (l[i]?.getD 0 + d)
def putAll (ids : List Int) (pe all : Int) : List Stk → List Int → List Int
 | [], l => l
 | s :: t, l => putAll ids pe all t (l.set (ids.idxOf s.fl) (pe * s.pt / all))
def incAll (ids : List Int) : List Stk → List Int → List Int
 | [], l => l
 | s :: t, l => incAll ids t (addAt l (ids.idxOf s.fl) 1)
def leftQ (pe all : Int) : List Stk → Int → Int
 | [], n => n
 | s :: t, n => leftQ pe all t (n - pe * s.pt / all)
def sharesR (ids : List Int) (x : Bil) : List Int := incAll ids (x.st.take (leftQ x.pe (sumPt x.st) x.st x.pe).toNat) (putAll ids x.pe (sumPt x.st) x.st (List.replicate ids.length 0))
def subL (l m : List Int) : List Int := List.zipWith (· - ·) l m
def bilFold (ids : List Int) : List Bil → List Int → List Int
 | [], l => l
 | x :: t, l => bilFold ids t (subL (addAt l (ids.idxOf x.py) x.pe) (sharesR ids x))
def payStep (ids : List Int) (x : Pay) (l : List Int) : List Int := addAt (addAt l (ids.idxOf x.a) x.p) (ids.idxOf x.b) (-x.p)
def payFold (ids : List Int) : List Pay → List Int → List Int
 | [], l => l
 | x :: t, l => payFold ids t (payStep ids x l)
def owed8 (f : Flo) : List Int := payFold f.ids f.ps (bilFold f.ids f.bs (List.replicate f.ids.length 0))
theorem stks_all {ids : List Int} : ∀ {t : List Stk} {last : Int}, stksOk ids last t = true → ∀ s ∈ t, s.fl ∈ ids ∧ 1 ≤ s.pt ∧ s.pt ≤ 9
 | [], _, _, s, hs => by cases hs
 | x :: t, last, h, s, hs => by
  simp only [stksOk, Bool.and_eq_true, decide_eq_true_eq] at h
  rcases List.mem_cons.1 hs with rfl | hs
  ·exact ⟨h.1.1.2, h.1.2.1, h.1.2.2⟩
  ·exact stks_all h.2 s hs
structure BilF (ids : List Int) (x : Bil) : Prop where
 py : x.py ∈ ids
 pe0 : 1 ≤ x.pe
 pe1 : x.pe ≤ 1000000
 ne : x.st ≠ []
 st : ∀ s ∈ x.st, s.fl ∈ ids ∧ 1 ≤ s.pt ∧ s.pt ≤ 9
theorem bil_f {ids : List Int} {x : Bil} (h : bilOk ids x = true) : BilF ids x := by
 simp only [bilOk, Bool.and_eq_true, decide_eq_true_eq] at h
 exact ⟨h.1.1.1, h.1.1.2.1, h.1.1.2.2, h.1.2, stks_all h.2⟩
theorem bils_all {ids : List Int} : ∀ {t : List Bil} {last : Int}, bilsOk ids last t = true → ∀ x ∈ t, BilF ids x
 | [], _, _, s, hs => by cases hs
 | x :: t, last, h, s, hs => by
  simp only [bilsOk, Bool.and_eq_true, decide_eq_true_eq] at h
  rcases List.mem_cons.1 hs with rfl | hs
  ·exact bil_f h.1.2
  ·exact bils_all h.2 s hs
theorem pay_f {ids : List Int} {x : Pay} (h : payOk ids x = true) : x.a ∈ ids ∧ x.b ∈ ids ∧ x.a ≠ x.b ∧ 1 ≤ x.p ∧ x.p ≤ 1000000 := by
 simp only [payOk, Bool.and_eq_true, decide_eq_true_eq] at h
 exact ⟨h.1.1.1, h.1.1.2, h.1.2, h.2.1, h.2.2⟩
theorem pays_all {ids : List Int} : ∀ {t : List Pay}, paysOk ids t = true → ∀ x ∈ t, x.a ∈ ids ∧ x.b ∈ ids ∧ x.a ≠ x.b ∧ 1 ≤ x.p ∧ x.p ≤ 1000000
 | [], _, s, hs => by cases hs
 | x :: t, h, s, hs => by
  simp only [paysOk, Bool.and_eq_true] at h
  rcases List.mem_cons.1 hs with rfl | hs
  ·exact pay_f h.1
  ·exact pays_all h.2 s hs
structure FloF (f : Flo) : Prop where
 ids : f.ids.length ≤ 6
 bs : f.bs.length ≤ 10
 ps : f.ps.length ≤ 12
 bil : ∀ x ∈ f.bs, BilF f.ids x
 pay : ∀ x ∈ f.ps, x.a ∈ f.ids ∧ x.b ∈ f.ids ∧ x.a ≠ x.b ∧ 1 ≤ x.p ∧ x.p ≤ 1000000
theorem flo_f {f : Flo} (h : floOk f = true) : FloF f := by
 simp only [floOk, Bool.and_eq_true, decide_eq_true_eq] at h
 exact ⟨h.1.1.1.1.1.1, h.1.1.1.1.1.2, h.1.1.1.1.2, bils_all h.1.2, pays_all h.2⟩
theorem sumPt_bounds {t : List Stk} (h : ∀ s ∈ t, 1 ≤ s.pt ∧ s.pt ≤ 9) : (t.length : Int) ≤ sumPt t ∧ sumPt t ≤ 9 * t.length := by
 induction t with
 | nil => simp [sumPt]
 | cons s t ih =>
  have h1 := h s (by simp)
  have h2 := ih fun u hu => h u (by simp [hu])
  simp only [sumPt, List.length_cons]
  omega
def quots (pe all : Int) : List Stk → Int
 | [] => 0
 | s :: t => pe * s.pt / all + quots pe all t
theorem leftQ_eq (pe all : Int) : ∀ (t : List Stk) (n : Int), leftQ pe all t n = n - quots pe all t
 | [], n => by simp [leftQ, quots]
 | s :: t, n => by rw [leftQ, leftQ_eq pe all t, quots]; omega
theorem quots_bounds {pe all : Int} (ha : 0 < all) : ∀ (t : List Stk), quots pe all t * all ≤ pe * sumPt t ∧ pe * sumPt t ≤ quots pe all t * all + t.length * (all - 1)
 | [] => by simp [quots, sumPt]
 | s :: t => by
  have ⟨h1, h2⟩ := quots_bounds (pe := pe) ha t
  have e := Int.mul_ediv_add_emod (pe * s.pt) all
  have r0 := Int.emod_nonneg (pe * s.pt) (show all ≠ 0 by omega)
  have r1 := Int.emod_lt_of_pos (pe * s.pt) ha
  simp only [quots, sumPt, List.length_cons]
  have e1 : (pe * s.pt / all + quots pe all t) * all = all * (pe * s.pt / all) + quots pe all t * all := by rw [Int.add_mul, Int.mul_comm (pe * s.pt / all)]
  have e2 : pe * (s.pt + sumPt t) = pe * s.pt + pe * sumPt t := Int.mul_add _ _ _
  have e3 : ((t.length + 1 : Nat) : Int) * (all - 1) = t.length * (all - 1) + (all - 1) := by rw [Int.natCast_add, Int.add_mul]; simp
  rw [e1, e2, e3]
  omega
theorem left_bounds {ids : List Int} {x : Bil} (h : BilF ids x) : 0 ≤ leftQ x.pe (sumPt x.st) x.st x.pe ∧ leftQ x.pe (sumPt x.st) x.st x.pe ≤ x.st.length := by
 have hb := sumPt_bounds fun s hs => (h.st s hs).2
 have hl : 0 < x.st.length := List.length_pos_iff.2 h.ne
 have ha : 0 < sumPt x.st := by omega
 obtain ⟨h1, h2⟩ := quots_bounds (pe := x.pe) ha x.st
 rw [leftQ_eq]
 have k1 : quots x.pe (sumPt x.st) x.st ≤ x.pe := Int.le_of_mul_le_mul_right h1 ha
 have k2 : x.pe ≤ quots x.pe (sumPt x.st) x.st + x.st.length := by
  refine Int.le_of_mul_le_mul_right (a := sumPt x.st) ?_ ha
  rw [Int.add_mul]
  have : (x.st.length : Int) * (sumPt x.st - 1) ≤ x.st.length * sumPt x.st := Int.mul_le_mul_of_nonneg_left (by omega) (by omega)
  omega
 omega
theorem quot_bounds {ids : List Int} {x : Bil} (h : BilF ids x) {s : Stk} (hs : s ∈ x.st) : 0 ≤ x.pe * s.pt ∧ x.pe * s.pt ≤ 9000000 ∧ 0 < sumPt x.st ∧ sumPt x.st ≤ 9 * x.st.length ∧ 0 ≤ x.pe * s.pt / sumPt x.st ∧ x.pe * s.pt / sumPt x.st ≤ 9000000 := by
 have hb := sumPt_bounds fun s hs => (h.st s hs).2
 have hl : 0 < x.st.length := List.length_pos_iff.2 h.ne
 have h1 := h.st s hs
 have h2 := h.pe0
 have h3 := h.pe1
 have a1 : 0 ≤ x.pe * s.pt := Int.mul_nonneg (by omega) (by omega)
 have a2 : x.pe * s.pt ≤ 1000000 * 9 := Int.mul_le_mul h3 h1.2.2 (by omega) (by omega)
 refine ⟨a1, by omega, by omega, hb.2, Int.ediv_nonneg a1 (by omega), ?_⟩
 have := Int.ediv_le_self (sumPt x.st) a1
 omega
def Btw (lo hi : Int) (l : List Int) : Prop := ∀ e ∈ l, lo ≤ e ∧ e ≤ hi
theorem Btw.set {lo hi : Int} {l : List Int} (h : Btw lo hi l) (i : Nat) {v : Int} (h1 : lo ≤ v) (h2 : v ≤ hi) : Btw lo hi (l.set i v) := fun e he => by
 rcases List.mem_or_eq_of_mem_set he with he | rfl
 ·exact h e he
 ·exact ⟨h1, h2⟩
theorem Btw.mono {lo hi lo' hi' : Int} {l : List Int} (h : Btw lo hi l) (h1 : lo' ≤ lo) (h2 : hi ≤ hi') : Btw lo' hi' l := fun e he => by have := h e he; omega
theorem Btw.getD {lo hi : Int} {l : List Int} (h : Btw lo hi l) (h1 : lo ≤ 0) (h2 : 0 ≤ hi) (i : Nat) : lo ≤ l[i]?.getD 0 ∧ l[i]?.getD 0 ≤ hi := by
 cases e : l[i]? with
 | none => exact ⟨h1, h2⟩
 | some v => exact h v (List.mem_of_getElem? e)
theorem Btw.addAt {lo hi : Int} {l : List Int} (h : Btw lo hi l) (i : Nat) {d a b : Int} (h1 : lo ≤ 0) (h2 : 0 ≤ hi) (ha : a ≤ d) (hb : d ≤ b) (ha0 : a ≤ 0) (hb0 : 0 ≤ b) : Btw (lo + a) (hi + b) (addAt l i d) := by
 have := h.getD h1 h2 i
 exact (h.mono (lo' := lo + a) (hi' := hi + b) (by omega) (by omega)).set i (by omega) (by omega)
theorem Btw.rep (n : Nat) {lo hi : Int} (h1 : lo ≤ 0) (h2 : 0 ≤ hi) : Btw lo hi (List.replicate n 0) := fun e he => by rw [List.eq_of_mem_replicate he]; exact ⟨h1, h2⟩
theorem Btw.at {lo hi : Int} {l : List Int} (h : Btw lo hi l) {i : Nat} (hi' : i < l.length) : lo ≤ l[i] ∧ l[i] ≤ hi := h _ (List.getElem_mem hi')
theorem addAt_len (l : List Int) (i : Nat) (d : Int) : (addAt l i d).length = l.length := by unfold addAt; simp
theorem addAt_at {l : List Int} {i : Nat} (h : i < l.length) (d : Int) : addAt l i d = l.set i (l[i] + d) := by unfold addAt; rw [List.getElem?_eq_getElem h]; rfl
theorem putAll_len {ids : List Int} {pe all : Int} : ∀ (t : List Stk) (l : List Int), (putAll ids pe all t l).length = l.length
 | [], l => rfl
 | s :: t, l => by rw [putAll, putAll_len t]; simp
theorem incAll_len {ids : List Int} : ∀ (t : List Stk) (l : List Int), (incAll ids t l).length = l.length
 | [], l => rfl
 | s :: t, l => by rw [incAll, incAll_len t, addAt_len]
theorem shares_len (ids : List Int) (x : Bil) : (sharesR ids x).length = ids.length := by unfold sharesR; rw [incAll_len, putAll_len]; simp
theorem putAll_btw {ids : List Int} {pe all hi : Int} : ∀ (t : List Stk) (l : List Int), (∀ s ∈ t, 0 ≤ pe * s.pt / all ∧ pe * s.pt / all ≤ hi) → Btw 0 hi l → Btw 0 hi (putAll ids pe all t l)
 | [], l, _, h => h
 | s :: t, l, hq, h => putAll_btw t _ (fun u hu => hq u (by simp [hu])) (h.set _ (hq s (by simp)).1 (hq s (by simp)).2)
theorem incAll_btw {ids : List Int} : ∀ (t : List Stk) (l : List Int) {hi : Int}, 0 ≤ hi → Btw 0 hi l → Btw 0 (hi + t.length) (incAll ids t l)
 | [], l, hi, _, h => by simpa [incAll] using h
 | s :: t, l, hi, h0, h => by
  have := incAll_btw (ids := ids) t (addAt l (ids.idxOf s.fl) 1) (hi := hi + 1) (by omega) (by simpa using h.addAt (ids.idxOf s.fl) (d := 1) (a := 0) (b := 1) (by omega) h0 (by omega) (by omega) (by omega) (by omega))
  rw [incAll]
  exact this.mono (by omega) (by simp only [List.length_cons]; omega)
theorem shares_btw {ids : List Int} {x : Bil} (h : BilF ids x) (hl : x.st.length ≤ 1000) : Btw 0 9001000 (sharesR ids x) := by
 have h1 := putAll_btw (ids := ids) (pe := x.pe) (all := sumPt x.st) (hi := 9000000) x.st (List.replicate ids.length 0) (fun s hs => (quot_bounds h hs).2.2.2.2) (Btw.rep _ (by omega) (by omega))
 have h2 := incAll_btw (ids := ids) (x.st.take (leftQ x.pe (sumPt x.st) x.st x.pe).toNat) _ (by omega) h1
 have h3 := List.length_take_le (leftQ x.pe (sumPt x.st) x.st x.pe).toNat x.st
 have h4 : (x.st.take (leftQ x.pe (sumPt x.st) x.st x.pe).toNat).length ≤ x.st.length := by rw [List.length_take]; omega
 exact h2.mono (by omega) (by omega)
theorem zeroF {α : Type} {P : Program} {e : TypeId} {f : α → List AV} {x0 : α} {n b : Nat} {z : Value} (h2 : (P.info? e).map (fun i => (i.zero, i.size, i.bytes)) = some (some z, n, b)) {zs : List Value} (h3 : z.cells = zs.toArray) (h4 : ∀ G, Fits G (f x0) zs) : ZeroF P e f x0 := by
 obtain ⟨i, hi, e1, _, _⟩ := info_parts h2
 exact ⟨z, ⟨i, hi, e1⟩, zs, h3, h4⟩
instance zeroI : ZeroF Tryz.prog 3 iC 0 := zeroF (z := .int .i64 0) (n := 1) (b := 8) (zs := [.int .i64 0]) (by kernel_rfl) rfl (fun _ => ⟨rfl, trivial⟩)
theorem subL_len {l m : List Int} (h : l.length = m.length) : (subL l m).length = l.length := by unfold subL; simp; omega
def subTo (l m : List Int) (k : Nat) : List Int := (subL l m).take k ++ l.drop k
theorem subTo_len {l m : List Int} (h : l.length = m.length) (k : Nat) : (subTo l m k).length = l.length := by
 unfold subTo; rw [List.length_append, List.length_take, List.length_drop, subL_len h]; omega
theorem subTo_get {l m : List Int} {k : Nat} (h : l.length = m.length) (hk : k < l.length) : (subTo l m k)[k]? = some l[k] := by
 unfold subTo
 rw [List.getElem?_append_right (by rw [List.length_take, subL_len h]; omega), List.length_take, subL_len h, List.getElem?_drop]
 rw [show k + (k - min k l.length) = k by omega]; exact List.getElem?_eq_getElem hk
theorem subTo_set {l m : List Int} {k : Nat} (h : l.length = m.length) (hk : k < l.length) : (subTo l m k).set k (l[k] - m[k]) = subTo l m (k + 1) := by
 have hs := subL_len h
 have hk2 : k < (subL l m).length := by omega
 unfold subTo
 rw [List.set_append_right _ _ (by rw [List.length_take]; omega), List.length_take, hs, show k - min k l.length = 0 by omega, List.drop_eq_getElem_cons hk, List.set_cons_zero, List.take_succ_eq_append_getElem hk2, List.append_assoc]
 congr 1
 simp [subL]
theorem subTo_all {l m : List Int} (h : l.length = m.length) : subTo l m l.length = subL l m := by
 unfold subTo
 rw [List.drop_length, List.append_nil, List.take_of_length_le (by rw [subL_len h]; omega)]
theorem Btw.subL {lo hi a b : Int} {l m : List Int} (h : Btw lo hi l) (k : Btw a b m) : Btw (lo - b) (hi - a) (subL l m) := fun e he => by
 unfold Sw.subL at he
 rw [List.zipWith_eq_zipWith_take_min] at he
 obtain ⟨i, hi', rfl⟩ := List.getElem_of_mem he
 rw [List.getElem_zipWith]
 have h1 := h.at (i := i) (by simp at hi'; omega)
 have h2 := k.at (i := i) (by simp at hi'; omega)
 simp only [List.getElem_take] at *
 omega
def hits (a b : Int) (q : Qu) : Bool := decide (q.a = min a b) && decide (q.b = max a b)
def speakR (qs : List Qu) (a b : Int) : Bool := !(qs.any (hits a b)) && decide (a ≠ b)
def judgeGo (ids : List Int) (qs : List Qu) : Int → List Pay → List Int → List Int × Int × Int
 | _, [], cur => (cur, 0, 0)
 | k, x :: t, cur => if (payOk ids x && speakR qs x.a x.b) = true then judgeGo ids qs (k + 1) t (payStep ids x cur) else ([], k, 82)
def judgeR (f : Flo) (l : List Pay) : List Int × Int × Int :=
 if floOk f = true then (if l.length ≤ 12 then judgeGo f.ids f.qs 0 l (owed8 f) else ([], 0, 9)) else ([], 0, 80)
def jAV (r : List Int × Int × Int) : AV := .tup [.sl 1 iC r.1, .val (.int .i64 r.2.1), .val (.int .i64 r.2.2)]
theorem bilFold_len {ids : List Int} : ∀ (t : List Bil) (l : List Int), l.length = ids.length → (bilFold ids t l).length = ids.length
 | [], l, h => h
 | x :: t, l, h => by
  rw [bilFold]
  refine bilFold_len t _ ?_
  rw [subL_len (by rw [addAt_len, shares_len, h]), addAt_len, h]
theorem payFold_len {ids : List Int} : ∀ (t : List Pay) (l : List Int), (payFold ids t l).length = l.length
 | [], l => rfl
 | x :: t, l => by rw [payFold, payFold_len t]; unfold payStep; rw [addAt_len, addAt_len]
theorem owed8_len (f : Flo) : (owed8 f).length = f.ids.length := by unfold owed8; rw [payFold_len, bilFold_len _ _ (by simp)]
theorem bilFold_btw {ids : List Int} : ∀ (t : List Bil) (l : List Int) {c : Int}, 0 ≤ c → (∀ x ∈ t, BilF ids x ∧ x.st.length ≤ 1000) → Btw (-c) c l → Btw (-(c + 10000000 * t.length)) (c + 10000000 * t.length) (bilFold ids t l)
 | [], l, c, _, _, h => by simpa [bilFold] using h
 | x :: t, l, c, hc, hB, h => by
  have hx := hB x (by simp)
  have h1 := h.addAt (ids.idxOf x.py) (d := x.pe) (a := 0) (b := 1000000) (by omega) (by omega) (by have := hx.1.pe0; omega) hx.1.pe1 (by omega) (by omega)
  have h2 := (h1.subL (shares_btw hx.1 hx.2)).mono (lo' := -(c + 10000000)) (hi' := c + 10000000) (by omega) (by omega)
  have h3 := bilFold_btw (ids := ids) t _ (c := c + 10000000) (by omega) (fun y hy => hB y (by simp [hy])) h2
  rw [bilFold]
  exact h3.mono (by simp only [List.length_cons]; omega) (by simp only [List.length_cons]; omega)
theorem payStep_btw {ids : List Int} {x : Pay} {l : List Int} {c : Int} (hc : 0 ≤ c) (h1 : 1 ≤ x.p) (h2 : x.p ≤ 1000000) (h : Btw (-c) c l) : Btw (-(c + 1000000)) (c + 1000000) (payStep ids x l) := by
 have k1 := h.addAt (ids.idxOf x.a) (d := x.p) (a := 0) (b := 1000000) (by omega) (by omega) (by omega) h2 (by omega) (by omega)
 have k2 := k1.addAt (ids.idxOf x.b) (d := -x.p) (a := -1000000) (b := 0) (by omega) (by omega) (by omega) (by omega) (by omega) (by omega)
 exact k2.mono (by omega) (by omega)
theorem payFold_btw {ids : List Int} : ∀ (t : List Pay) (l : List Int) {c : Int}, 0 ≤ c → (∀ x ∈ t, 1 ≤ x.p ∧ x.p ≤ 1000000) → Btw (-c) c l → Btw (-(c + 1000000 * t.length)) (c + 1000000 * t.length) (payFold ids t l)
 | [], l, c, _, _, h => by simpa [payFold] using h
 | x :: t, l, c, hc, hB, h => by
  have hx := hB x (by simp)
  have h3 := payFold_btw (ids := ids) t _ (c := c + 1000000) (by omega) (fun y hy => hB y (by simp [hy])) (payStep_btw (ids := ids) hc hx.1 hx.2 h)
  rw [payFold]
  exact h3.mono (by simp only [List.length_cons]; omega) (by simp only [List.length_cons]; omega)
theorem owed8_btw {f : Flo} (hF : FloF f) (hS : Sml f) : Btw (-200000000) 200000000 (owed8 f) := by
 have h1 := bilFold_btw (ids := f.ids) f.bs (List.replicate f.ids.length 0) (c := 0) (by omega) (fun x hx => ⟨hF.bil x hx, hS.st x hx⟩) (Btw.rep _ (by omega) (by omega))
 have h2 := payFold_btw (ids := f.ids) f.ps _ (c := 0 + 10000000 * f.bs.length) (by omega) (fun x hx => (hF.pay x hx).2.2.2) h1
 have := hF.bs
 have := hF.ps
 exact h2.mono (by omega) (by omega)
abbrev hsB (ph : Value) (f : Flo) (v : Value) : HA := .box ph (flC f ++ [.val v]) 104
theorem index_con (ph v : Value) (f : Flo) (id : Int) (hl : f.ids.length ≤ 1000000) : Con Tryz.prog 69 [.val ph, .val (.int .i64 id)] [hsB ph f v] (Is (.val (.int .i64 (ixOf f.ids id))) [hsB ph f v]) := by
 refine con_of Tryz.func69 rfl (enters_of Tryz.func69 (by kernel_rfl) rfl) rfl ?_; intro n w0 F0 G0
 refine zS ?_
 (first | (apply wl_call (indexI_con f.ids id hl); exact rfl; exact rfl) | (apply wl_callR (indexI_con f.ids id hl); exact rfl; exact zM; exact rfl))
 refine zS ?_
 (apply resK; exact rfl; exact rfl; (apply Cut.cons (h := hsB ph f v); exact zN; exact Cut.nil); exact ⟨rfl, rfl⟩)
theorem indexAt_con (ph v : Value) (f : Flo) (id : Int) (hl : f.ids.length ≤ 1000000) (hm : id ∈ f.ids) : Con Tryz.prog 69 [.val ph, .val (.int .i64 id)] [hsB ph f v] (Is (.val (.int .i64 ((f.ids.idxOf id : Nat) : Int))) [hsB ph f v]) := by
 have := index_con ph v f id hl
 rwa [show ixOf f.ids id = ((f.ids.idxOf id : Nat) : Int) from if_pos hm] at this
def TokW {α : Type} (e : TypeId) (n : Nat) (f : α → List AV) (xs : List α) (r : List HA) : AV → List HA → Prop := fun x y => ∃ u, x = .val u ∧ y = .row u e n f xs :: r
theorem shares_con (ph ow : Value) (f : Flo) (x : Bil) (hl : f.ids.length ≤ 6) (hs : x.st.length ≤ 1000) (hB : BilF f.ids x) : Con Tryz.prog 67 [.val ph, .agg (biC x)] [hsB ph f ow] (TokW 3 1 iC (sharesR f.ids x) [hsB ph f ow]) := by
 have hsum := sumPt_bounds fun s hs => (hB.st s hs).2
 have hlb := left_bounds hB
 have hpe0 := hB.pe0
 have hpe1 := hB.pe1
 refine con_of Tryz.func67 rfl (enters_of Tryz.func67 (by kernel_rfl) rfl) rfl ?_; intro n w0 F0 G0
 refine zS ?_;repeat(refine yA ?_;intro p hp;refine zS ?_)
 refine W_run 3 [15, 16, 5] [0, 1, 2] Cut.nil rfl goFlt mixedS (by kernel_rfl) rfl ?_
 refine rpv [] [] ?_
 refine rpv [0] [] ?_
 refine rpv [] [] ?_
 refine ⟨⟨by kernel_rfl, by kernel_rfl⟩, fun vs => ?_⟩
 apply WL_auto [1, 2]
 ·exact goPk
 ·exact goNrm
 ·kernel_rfl
 ·kernel_rfl
 refine zS ?_;repeat(refine yA ?_;intro p hp;refine zS ?_)
 refine zS ?_;repeat(refine yA ?_;intro p hp;refine zS ?_)
 refine W_loopJ (fun (b : Nat × Int) => ⟨[(0, .val ph), (3, .val p), (5, .val (.int .i64 b.2)), (6, .val (.int .i64 x.pe)), (18, .sl 2 stC x.st), (19, .val (.int .i64 x.st.length)), (20, .val (.int .i64 b.1))], [hsB ph f ow, .box p (biC x) 49]⟩) (fun b => b.1 ≤ x.st.length ∧ b.2 + sumPt (x.st.drop b.1) = sumPt x.st ∧ 0 ≤ b.2 ∧ b.2 ≤ 9 * b.1) (fun b => x.st.length - b.1) (0, 0) (fun _ _ st => st_sub2 st zR zP) ?hj0 ?round
 case hj0 => simp
 case round =>
  rintro ⟨k, acc⟩ ⟨hk, hno, ha0, ha1⟩
  dsimp only at hk hno ha0 ha1 ⊢
  refine zS ?_;repeat(refine yA ?_;intro p hp;refine zS ?_)
  refine w_cond rfl (fun hlt => ?_) (fun hlt => ?_)
  ·have hlt' : k < x.st.length := by simpa using hlt
   have hp := (hB.st _ (List.getElem_mem hlt')).2
   rw [drop_step hlt', sumPt] at hno
   refine zS ?_;repeat(refine yA ?_;intro p hp;refine zS ?_)
   (refine ⟨(k + 1, acc + x.st[k].pt), fun _ _ st => st_sub2 st ?_ ?_, ?_, ?_⟩; exact zR; exact zP)
   ·exact ⟨hlt', by dsimp only; omega, by dsimp only; omega, by dsimp only; omega⟩
   ·dsimp only; omega
  ·have hkk : k = x.st.length := by simp at hlt; omega
   subst hkk
   rw [List.drop_length, sumPt, Int.add_zero] at hno
   subst hno
   clear hlt hk ha0 ha1
   refine zS ?_;repeat(refine yA ?_;intro p hp;refine zS ?_)
   (apply wl_make iC; exact inferInstance; exact inferInstance; exact inferInstance; exact inferInstance; exact rfl; exact rfl; exact rfl; (first | omega | (simp; omega)); exact rfl)
   intro v
   refine zS ?_;repeat(refine yA ?_;intro p hp;refine zS ?_)
   refine W_loopJ (fun (b : Nat × Int × List Int) => ⟨[(0, .val ph), (3, .val p), (5, .val (.int .i64 (sumPt x.st))), (9, .val v), (6, .val (.int .i64 b.2.1)), (37, .sl 2 stC x.st), (38, .val (.int .i64 x.st.length)), (39, .val (.int .i64 b.1))], [.row v 3 1 iC b.2.2, hsB ph f ow, .box p (biC x) 49]⟩)
    (fun b => b.1 ≤ x.st.length ∧ b.2.2.length = f.ids.length ∧ putAll f.ids x.pe (sumPt x.st) (x.st.drop b.1) b.2.2 = putAll f.ids x.pe (sumPt x.st) x.st (List.replicate f.ids.length 0) ∧ leftQ x.pe (sumPt x.st) (x.st.drop b.1) b.2.1 = leftQ x.pe (sumPt x.st) x.st x.pe ∧ -9000000 * (b.1 : Int) ≤ b.2.1 ∧ b.2.1 ≤ 1000000) (fun b => x.st.length - b.1) (0, x.pe, List.replicate f.ids.length 0) (fun _ _ st => st_sub2 st (by exact zR) (by exact zP)) ⟨Nat.zero_le _, by simp, rfl, rfl, by dsimp only; omega, by dsimp only; omega⟩ ?_
   rintro ⟨k, left, cur⟩ ⟨hk, hcl, hno, hlf, hl0, hl1⟩
   dsimp only at hk hcl hno hlf hl0 hl1 ⊢
   refine zS ?_;repeat(refine yA ?_;intro p hp;refine zS ?_)
   refine w_cond rfl (fun hlt => ?_) (fun hlt => ?_)
   ·have hlt' : k < x.st.length := by simpa using hlt
    have hsk := hB.st _ (List.getElem_mem hlt')
    have hq := quot_bounds hB (List.getElem_mem hlt')
    have hix : f.ids.idxOf x.st[k].fl < cur.length := by rw [hcl]; exact List.idxOf_lt_length_of_mem hsk.1
    rw [drop_step hlt', putAll] at hno
    rw [drop_step hlt', leftQ] at hlf
    refine zS ?_;repeat(refine yA ?_;intro p hp;refine zS ?_)
    (first | (apply wl_call (indexAt_con ph ow f _ (by omega) hsk.1); exact rfl; exact rfl) | (apply wl_callR (indexAt_con ph ow f _ (by omega) hsk.1); exact rfl; exact zM; exact rfl))
    refine zS ?_;repeat(refine yA ?_;intro p hp;refine zS ?_)
    (refine ⟨(k + 1, left - x.pe * x.st[k].pt / sumPt x.st, cur.set (f.ids.idxOf x.st[k].fl) (x.pe * x.st[k].pt / sumPt x.st)), fun _ _ st => st_sub2 st ?_ ?_, ?_, ?_⟩; exact zR; exact zP)
    ·exact ⟨hlt', by dsimp only; rw [List.length_set]; exact hcl, hno, hlf, by dsimp only; omega, by dsimp only; omega⟩
    ·dsimp only; omega
   ·have hkk : k = x.st.length := by simp at hlt; omega
    subst hkk
    rw [List.drop_length, putAll] at hno
    rw [List.drop_length, leftQ] at hlf
    obtain ⟨m, hm⟩ : ∃ m : Nat, left = (m : Int) := ⟨left.toNat, by omega⟩
    have hml : m ≤ x.st.length := by omega
    have hW : sharesR f.ids x = incAll f.ids (x.st.take m) cur := by unfold sharesR; rw [← hlf, ← hno, hm]; rfl
    have hbt : Btw 0 9000000 cur := by
     rw [hno]
     exact putAll_btw _ _ (fun s hs => (quot_bounds hB hs).2.2.2.2) (Btw.rep _ (by omega) (by omega))
    subst hm
    rw [hW]
    clear hW hno hlf hlt hk hl0 hl1 hlb
    refine zS ?_;repeat(refine yA ?_;intro p hp;refine zS ?_)
    (apply wl_slTo (h := m); exact inferInstance; exact rfl; exact rfl; (first | exact rfl | omega | (simp; omega)); exact hml; exact rfl)
    have htl : (x.st.take m).length = m := by rw [List.length_take]; omega
    refine zS ?_;repeat(refine yA ?_;intro p hp;refine zS ?_)
    refine W_loopJ (fun (b : Nat × List Int) => ⟨[(0, .val ph), (3, .val p), (9, .val v), (64, .sl 2 stC (x.st.take m)), (65, .val (.int .i64 (x.st.take m).length)), (66, .val (.int .i64 b.1))], [.row v 3 1 iC b.2, hsB ph f ow, .box p (biC x) 49]⟩)
     (fun b => b.1 ≤ m ∧ b.2.length = f.ids.length ∧ incAll f.ids ((x.st.take m).drop b.1) b.2 = incAll f.ids (x.st.take m) cur ∧ Btw 0 (9000000 + b.1) b.2) (fun b => m - b.1) (0, cur) (fun _ _ st => st_sub2 st (by exact zR) (by exact zP)) ⟨Nat.zero_le _, hcl, rfl, hbt.mono (by omega) (by dsimp only; omega)⟩ ?_
    rintro ⟨i, cu⟩ ⟨hi, hcl2, hno, hbt2⟩
    dsimp only at hi hcl2 hno hbt2 ⊢
    refine zS ?_;repeat(refine yA ?_;intro p hp;refine zS ?_)
    refine w_cond rfl (fun hlt => ?_) (fun hlt => ?_)
    ·have hlt' : i < m := by simp at hlt; omega
     have hil : i < x.st.length := by omega
     have hitl : i < (x.st.take m).length := by omega
     have hsk := hB.st _ (List.getElem_mem hil)
     have hge : (x.st.take m)[i] = x.st[i] := List.getElem_take
     have hix : f.ids.idxOf x.st[i].fl < cu.length := by rw [hcl2]; exact List.idxOf_lt_length_of_mem hsk.1
     have hce := hbt2.at hix
     rw [drop_step (by rw [List.length_take]; omega), incAll, hge, addAt_at hix] at hno
     refine zS ?_;repeat(refine yA ?_;intro p hp;refine zS ?_)
     rw [hge]
     (first | (apply wl_call (indexAt_con ph ow f _ (by omega) hsk.1); exact rfl; exact rfl) | (apply wl_callR (indexAt_con ph ow f _ (by omega) hsk.1); exact rfl; exact zM; exact rfl))
     refine zS ?_;repeat(refine yA ?_;intro p hp;refine zS ?_)
     (refine ⟨(i + 1, cu.set (f.ids.idxOf x.st[i].fl) (cu[f.ids.idxOf x.st[i].fl] + 1)), fun _ _ st => st_sub2 st ?_ ?_, ?_, ?_⟩; exact zR; exact zP)
     ·exact ⟨hlt', by dsimp only; rw [List.length_set]; exact hcl2, hno, (hbt2.mono (by omega) (by dsimp only; omega)).set _ (by omega) (by dsimp only; omega)⟩
     ·dsimp only; omega
    ·have hkk : i = m := by simp at hlt; omega
     subst hkk
     rw [List.drop_of_length_le (by rw [List.length_take]; omega), incAll] at hno
     rw [← hno]
     refine zS ?_;repeat(refine yA ?_;intro p hp;refine zS ?_)
     (apply resK; exact rfl; exact rfl; (apply Cut.cons; exact zN; apply Cut.cons (h := hsB ph f ow); exact zN; exact Cut.nil); exact ⟨_, rfl, rfl⟩)
theorem paid_con (ph ow : Value) (f : Flo) (x : Pay) (cu : List Int) {c : Int} (hl : f.ids.length ≤ 6) (hP : x.a ∈ f.ids ∧ x.b ∈ f.ids ∧ x.a ≠ x.b ∧ 1 ≤ x.p ∧ x.p ≤ 1000000) (hcl : cu.length = f.ids.length) (hbt : Btw (-c) c cu) (hc0 : 0 ≤ c) (hc : c ≤ 1000000000000) : Con Tryz.prog 90 [.val ph, .agg (payC x)] [hsB ph f ow, .row ow 3 1 iC cu] (Is (.tup []) [hsB ph f ow, .row ow 3 1 iC (payStep f.ids x cu)]) := by
 have hix : f.ids.idxOf x.a < cu.length := by rw [hcl]; exact List.idxOf_lt_length_of_mem hP.1
 have hq2 : cu[f.ids.idxOf x.a]? = some cu[f.ids.idxOf x.a] := List.getElem?_eq_getElem hix
 have hce := hbt.at hix
 have hb1 := hbt.addAt (f.ids.idxOf x.a) (d := x.p) (a := 0) (b := 1000000) (by omega) (by omega) (by omega) (by omega) (by omega) (by omega)
 rw [payStep]
 rw [addAt_at hix] at hb1 ⊢
 refine con_of Tryz.func90 rfl (enters_of Tryz.func90 (by kernel_rfl) rfl) rfl ?_; intro n w0 F0 G0
 refine zS ?_;repeat(refine yA ?_;intro p hp;refine zS ?_)
 refine W_run 12 [4, 5, 6, 7, 8, 9, 10, 11, 12, 13, 14, 15] [0, 1, 2, 3, 4, 5, 6, 7, 8, 9, 10, 11] Cut.nil rfl goFlt mixedS (by kernel_rfl) rfl ?_
 refine rpv [] [] ?_
 refine rpv [0] [] ?_
 refine rpv [1] [] ?_
 refine rpv [2] [] ?_
 refine rpv [] [] ?_
 refine rpv [] [] ?_
 refine rpv [5] [] ?_
 refine Run.pv [4, 6] [] rfl (fun vs => by apply ltr_pk; exact goPk; (apply ltr_callR ((indexAt_con ph ow f _ (by omega) hP.1)); exact rfl; exact zM)) goApp ?_
 refine rpv [3, 7] [] ?_
 refine rpv [8] [] ?_
 refine rpv [] [] ?_
 refine rpv [10] [] ?_
 refine ⟨⟨by kernel_rfl, by kernel_rfl⟩, fun vs => ?_⟩
 apply WL_auto [3, 7, 9, 11]
 ·exact goPk
 ·exact goNrm
 ·kernel_rfl
 ·kernel_rfl
 refine zS ?_
 generalize hc1 : cu.set (f.ids.idxOf x.a) (cu[f.ids.idxOf x.a] + x.p) = c1 at *
 have hc1l : c1.length = f.ids.length := by rw [← hc1, List.length_set, hcl]
 have hix2 : f.ids.idxOf x.b < c1.length := by rw [hc1l]; exact List.idxOf_lt_length_of_mem hP.2.1
 have hq3 : c1[f.ids.idxOf x.b]? = some c1[f.ids.idxOf x.b] := List.getElem?_eq_getElem hix2
 have hce2 := hb1.at hix2
 rw [addAt_at hix2, ← Int.sub_eq_add_neg]
 refine zS ?_
 refine W_run 12 [18, 19, 20, 21, 22, 23, 24, 25, 26, 27, 28, 29] [0, 1, 2, 3, 4, 5, 6, 7, 8, 9, 10, 11] Cut.nil rfl goFlt mixedS (by kernel_rfl) rfl ?_
 refine rpv [] [] ?_
 refine rpv [0] [] ?_
 refine rpv [1] [] ?_
 refine rpv [2] [] ?_
 refine rpv [] [] ?_
 refine rpv [] [] ?_
 refine rpv [5] [] ?_
 refine Run.pv [4, 6] [] rfl (fun vs => by apply ltr_pk; exact goPk; (apply ltr_callR ((indexAt_con ph ow f _ (by omega) hP.2.1)); exact rfl; exact zM)) goApp ?_
 refine rpv [3, 7] [] ?_
 refine rpv [8] [] ?_
 refine rpv [] [] ?_
 refine rpv [10] [] ?_
 refine ⟨⟨by kernel_rfl, by kernel_rfl⟩, fun vs => ?_⟩
 apply WL_auto [3, 7, 9, 11]
 ·exact goPk
 ·exact goNrm
 ·kernel_rfl
 ·kernel_rfl
 refine zS ?_
 (apply resK0; exact rfl; exact ⟨rfl, rfl⟩; exact yC)
theorem addAt_subL {l m : List Int} (h : l.length = m.length) (i : Nat) (d : Int) : addAt (subL l m) i d = subL (addAt l i d) m := by
 unfold addAt
 by_cases hi : i < l.length
 ·have hm : i < m.length := by omega
  have e1 : (subL l m)[i]? = some (l[i] - m[i]) := by unfold subL; rw [List.getElem?_eq_getElem (by simp; omega), List.getElem_zipWith]
  rw [e1, List.getElem?_eq_getElem hi]
  simp only [Option.getD_some]
  unfold subL
  apply List.ext_getElem (by simp)
  intro k h1 h2
  simp only [List.getElem_set, List.getElem_zipWith]
  split
  ·rename_i e
   subst e
   omega
  ·rfl
 ·rw [List.set_eq_of_length_le (by rw [subL_len h]; omega), List.set_eq_of_length_le (by omega)]
theorem bilFold_step {ids : List Int} {x : Bil} {t : List Bil} {l : List Int} (h : l.length = ids.length) : bilFold ids (x :: t) l = bilFold ids t (addAt (subL l (sharesR ids x)) (ids.idxOf x.py) x.pe) := by
 rw [bilFold, addAt_subL (by rw [h, shares_len])]
def OpenP (f : Flo) : AV → List HA → Prop := fun x y => ∃ ph v, x = .tup [.val ph, .val (.int .i64 0)] ∧ y = [hsB ph f v, .row v 3 1 iC (owed8 f), tab8]
theorem openedNo_con (f : Flo) (hS : Sml f) (hno : floOk f = false) : Con Tryz.prog 58 [.agg (flC f)] [tab8] (Is (.tup [.val (.pointer none), .val (.int .i64 80)]) [tab8]) := by
 have C := check_con f hS
 rw [show errF f = 80 by unfold errF; rw [hno]; rfl] at C
 refine con_of Tryz.func58 rfl (enters_of Tryz.func58 (by kernel_rfl) rfl) rfl ?_; intro n w0 F0 G0
 refine zS ?_;repeat(refine yA ?_;intro p hp;refine zS ?_)
 (first | (apply wl_call (C); exact rfl; exact rfl) | (apply wl_callR (C); exact rfl; exact zM; exact rfl))
 refine zS ?_;repeat(refine yA ?_;intro p hp;refine zS ?_)
 (apply resK2; exact rfl; exact rfl; exact rfl; exact ⟨rfl, rfl⟩; exact yC)
theorem opened_con (f : Flo) (hS : Sml f) (hok : floOk f = true) : Con Tryz.prog 58 [.agg (flC f)] [tab8] (OpenP f) := by
 have C := check_con f hS
 rw [show errF f = 0 by unfold errF; rw [hok]; rfl] at C
 have hF := flo_f hok
 have hidsl := hF.ids
 have hbsl := hF.bs
 have hpsl := hF.ps
 refine con_of Tryz.func58 rfl (enters_of Tryz.func58 (by kernel_rfl) rfl) rfl ?_; intro n w0 F0 G0
 refine zS ?_;repeat(refine yA ?_;intro p hp;refine zS ?_)
 (first | (apply wl_call (C); exact rfl; exact rfl) | (apply wl_callR (C); exact rfl; exact zM; exact rfl))
 refine zS ?_;repeat(refine yA ?_;intro p hp;refine zS ?_)
 refine W_run 5 [17, 18, 19, 20, 21] [0, 1, 2, 3, 4] Cut.nil rfl goFlt mixedS (by kernel_rfl) rfl ?_
 refine rpv [] [] ?_
 refine rpv [] [] ?_
 refine rpv [1] [] ?_
 refine rpv [2] [] ?_
 refine Run.tok [3] [] rfl (fun vs => by apply ltr_pk; exact goPk; (refine ltr ?_; apply lt_make (f := iC); exact rfl; exact rfl; exact rfl; (first | omega | (simp; omega)))) goApp ?_
 refine ⟨⟨by kernel_rfl, by kernel_rfl⟩, fun vs => ?_⟩
 apply WL_auto [0, 4]
 ·exact goPk
 ·exact goNrm
 ·kernel_rfl
 ·kernel_rfl
 generalize vs 4 = ow
 refine zS ?_;repeat(refine yA ?_;intro p hp;refine zS ?_)
 refine WL_one At.here (fun hone => ?_)
 refine zS ?_;repeat(refine yA ?_;intro p hp;refine zS ?_)
 rename_i pf hpf
 refine W_loopJ (fun (b : Nat × List Int) => ⟨[(1, .val pf), (5, .val p), (25, .sl 4 biC f.bs), (26, .val (.int .i64 f.bs.length)), (27, .val (.int .i64 b.1))], [.row ow 3 1 iC b.2, hsB p f ow, .box pf (flC f) 27, tab8]⟩)
  (fun b => b.1 ≤ f.bs.length ∧ b.2.length = f.ids.length ∧ bilFold f.ids (f.bs.drop b.1) b.2 = bilFold f.ids f.bs (List.replicate f.ids.length 0) ∧ Btw (-(10000000 * b.1)) (10000000 * b.1) b.2) (fun b => f.bs.length - b.1) (0, List.replicate f.ids.length 0) (fun _ _ st => st_sub2 st (by exact zR) (by exact zP)) ⟨Nat.zero_le _, by simp, rfl, Btw.rep _ (by dsimp only; omega) (by dsimp only; omega)⟩ ?_
 rintro ⟨k, cur⟩ ⟨hk, hcl, hnf, hbt⟩
 dsimp only at hk hcl hnf hbt ⊢
 refine zS ?_;repeat(refine yA ?_;intro p hp;refine zS ?_)
 refine w_cond rfl (fun hlt => ?_) (fun hlt => ?_)
 ·have hlt' : k < f.bs.length := by simpa using hlt
  have hB := hF.bil _ (List.getElem_mem hlt')
  have hsl := hS.st _ (List.getElem_mem hlt')
  have hpe0 := hB.pe0
  have hpe1 := hB.pe1
  rw [drop_step hlt', bilFold_step hcl] at hnf
  refine zS ?_;repeat(refine yA ?_;intro p hp;refine zS ?_)
  rename_i ph hph
  have hsc := shares_con ph ow f f.bs[k] (by omega) (by omega) hB
  have hshl := shares_len f.ids f.bs[k]
  have hsb := shares_btw hB hsl
  generalize hsh : sharesR f.ids f.bs[k] = sh at *
  (apply wl_callP (hsc); exact rfl; exact yC; exact rfl)
  rintro _ _ ⟨u, rfl, rfl⟩
  have hc1l : cur.length = sh.length := by rw [hshl, hcl]
  refine zS ?_;repeat(refine yA ?_;intro p hp;refine zS ?_)
  refine W_loopJ (fun (m : Nat) => ⟨[(1, .val pf), (5, .val ph), (7, .val p), (25, .sl 4 biC f.bs), (26, .val (.int .i64 f.bs.length)), (27, .val (.int .i64 k)), (33, .val u), (34, .val (.int .i64 sh.length)), (35, .val (.int .i64 m))], [.row u 3 1 iC sh, .row ow 3 1 iC (subTo cur sh m), hsB ph f ow, .box p (biC f.bs[k]) 49, .box pf (flC f) 27, tab8]⟩)
   (fun m => m ≤ sh.length) (fun m => sh.length - m) 0 (fun _ _ st => st_sub2 st (by exact zR) (by exact zP)) (Nat.zero_le _) ?_
  rintro m hm
  refine zS ?_;repeat(refine yA ?_;intro p hp;refine zS ?_)
  refine w_cond rfl (fun hlm => ?_) (fun hlm => ?_)
  ·have hlm' : m < sh.length := by simpa using hlm
   have hmc : m < cur.length := by omega
   have hmk : m < (subTo cur sh m).length := by rw [subTo_len hc1l]; exact hmc
   have hv : (subTo cur sh m)[m] = cur[m] := by
    have := subTo_get hc1l hmc
    rw [List.getElem?_eq_getElem hmk] at this
    exact Option.some.inj this
   have hb2 := hbt.at hmc
   have hb3 := hsb.at hlm'
   refine zS ?_;repeat(refine yA ?_;intro p hp;refine zS ?_)
   rw [show (subTo cur sh m).set m ((subTo cur sh m)[m] - sh[m]) = subTo cur sh (m + 1) from by rw [hv]; exact subTo_set hc1l hmc]
   (refine ⟨m + 1, fun _ _ st => st_sub2 st ?_ ?_, ?_, ?_⟩; exact zR; exact zP)
   ·omega
   ·omega
  ·have hmm : m = sh.length := by simp at hlm; omega
   subst hmm
   rw [show subTo cur sh sh.length = subL cur sh from by rw [← hc1l]; exact subTo_all hc1l]
   have hb1 := hbt.subL hsb
   generalize hc1 : subL cur sh = c1 at *
   have hc1n : c1.length = f.ids.length := by rw [← hc1, subL_len hc1l, hcl]
   have hix : f.ids.idxOf f.bs[k].py < c1.length := by rw [hc1n]; exact List.idxOf_lt_length_of_mem hB.py
   have hq2 : c1[f.ids.idxOf f.bs[k].py]? = some c1[f.ids.idxOf f.bs[k].py] := List.getElem?_eq_getElem hix
   have hce := hb1.at hix
   have hb2 := hb1.addAt (f.ids.idxOf f.bs[k].py) (d := f.bs[k].pe) (a := 0) (b := 1000000) (by omega) (by omega) (by omega) (by omega) (by omega) (by omega)
   rw [addAt_at hix] at hb2 hnf
   refine zS ?_;repeat(refine yA ?_;intro p hp;refine zS ?_)
   refine W_run 12 [51, 52, 53, 54, 55, 56, 57, 58, 59, 60, 61, 62] [0, 1, 2, 3, 4, 5, 6, 7, 8, 9, 10, 11] Cut.nil rfl goFlt mixedS (by kernel_rfl) rfl ?_
   refine rpv [] [] ?_
   refine rpv [0] [] ?_
   refine rpv [1] [] ?_
   refine rpv [2] [] ?_
   refine rpv [] [] ?_
   refine rpv [] [] ?_
   refine rpv [5] [] ?_
   refine Run.pv [4, 6] [] rfl (fun vs => by apply ltr_pk; exact goPk; (apply ltr_callR ((indexAt_con ph ow f _ (by omega) hB.py)); exact rfl; exact zM)) goApp ?_
   refine rpv [3, 7] [] ?_
   refine rpv [8] [] ?_
   refine rpv [] [] ?_
   refine rpv [10] [] ?_
   refine ⟨⟨by kernel_rfl, by kernel_rfl⟩, fun vs => ?_⟩
   apply WL_auto [3, 7, 9, 11]
   ·exact goPk
   ·exact goNrm
   ·kernel_rfl
   ·kernel_rfl
   refine zS ?_;repeat(refine yA ?_;intro p hp;refine zS ?_)
   (refine ⟨(k + 1, c1.set (f.ids.idxOf f.bs[k].py) (c1[f.ids.idxOf f.bs[k].py] + f.bs[k].pe)), fun _ _ st => st_sub2 st ?_ ?_, ?_, ?_⟩; exact zR; exact zP)
   ·exact ⟨hlt', by dsimp only; rw [List.length_set]; exact hc1n, hnf, hb2.mono (by dsimp only; omega) (by dsimp only; omega)⟩
   ·dsimp only; omega
 ·have hkk : k = f.bs.length := by simp at hlt; omega
  subst hkk
  rw [List.drop_length, bilFold] at hnf
  have hO : owed8 f = payFold f.ids f.ps cur := by unfold owed8; rw [← hnf]
  unfold OpenP
  rw [hO]
  clear hnf hlt hk hO
  refine zS ?_;repeat(refine yA ?_;intro p hp;refine zS ?_)
  refine W_loopJ (fun (b : Nat × List Int) => ⟨[(1, .val pf), (5, .val p), (67, .sl 3 payC f.ps), (68, .val (.int .i64 f.ps.length)), (69, .val (.int .i64 b.1))], [.row ow 3 1 iC b.2, hsB p f ow, .box pf (flC f) 27, tab8]⟩)
   (fun b => b.1 ≤ f.ps.length ∧ b.2.length = f.ids.length ∧ payFold f.ids (f.ps.drop b.1) b.2 = payFold f.ids f.ps cur ∧ Btw (-(200000000 + 2000000 * b.1)) (200000000 + 2000000 * b.1) b.2) (fun b => f.ps.length - b.1) (0, cur) (fun _ _ st => st_sub2 st (by exact zR) (by exact zP)) ⟨Nat.zero_le _, hcl, rfl, hbt.mono (by dsimp only; omega) (by dsimp only; omega)⟩ ?_
  clear hbt hcl
  rintro ⟨k, cu⟩ ⟨hk, hcl, hnf, hbt⟩
  dsimp only at hk hcl hnf hbt ⊢
  refine zS ?_;repeat(refine yA ?_;intro p hp;refine zS ?_)
  refine w_cond rfl (fun hlt => ?_) (fun hlt => ?_)
  ·have hlt' : k < f.ps.length := by simpa using hlt
   have hP := hF.pay _ (List.getElem_mem hlt')
   rw [drop_step hlt', payFold] at hnf
   refine zS ?_;repeat(refine yA ?_;intro p hp;refine zS ?_)
   rename_i ph hph
   (apply wl_callP (paid_con ph ow f f.ps[k] cu (by omega) hP hcl hbt (by omega) (by omega)); exact rfl; exact yC; exact rfl)
   rintro _ _ ⟨rfl, rfl⟩
   refine zS ?_;repeat(refine yA ?_;intro p hp;refine zS ?_)
   (refine ⟨(k + 1, payStep f.ids f.ps[k] cu), fun _ _ st => st_sub2 st ?_ ?_, ?_, ?_⟩; exact zR; exact zP)
   ·exact ⟨hlt', by dsimp only; unfold payStep; rw [addAt_len, addAt_len]; exact hcl, hnf, (payStep_btw (by omega) hP.2.2.2.1 hP.2.2.2.2 hbt).mono (by dsimp only; omega) (by dsimp only; omega)⟩
   ·dsimp only; omega
  ·have hkk : k = f.ps.length := by simp at hlt; omega
   subst hkk
   rw [List.drop_length, payFold] at hnf
   rw [← hnf]
   refine zS ?_;repeat(refine yA ?_;intro p hp;refine zS ?_)
   (apply resK2; exact rfl; exact rfl; exact rfl; exact ⟨p, ow, rfl, rfl⟩; exact yC)
set_option maxRecDepth 100000 in
theorem eqPair (a b c d : Int) (w : World) : (Op.equalIn 10000 122 (.agg #[.int .i64 a, .int .i64 b]) (.agg #[.int .i64 c, .int .i64 d])).run Tryz.prog w = .ok (a == c && b == d) w := by
 have u3 := Tryz.underlying3
 have a3 := Tryz.isAgg3
 have z3 := Tryz.sizeOf3
 rw [show (10000 : Nat) = 9999 + 1 from rfl, Op.equalIn]
 simp only [Sem.run_bind, run_underlying Tryz.underlying122, Result.andThen_ok]
 simp only [Std.Legacy.Range.forIn_eq_forIn_range', Std.Legacy.Range.size, Nat.sub_zero, Nat.add_sub_cancel, Nat.div_one, List.range'_succ, List.range'_zero, List.forIn_cons, List.forIn_nil]
 go_simp
 by_cases h1 : a = c <;> by_cases h2 : b = d <;> simp [h1, h2]
instance tyqPair : TyQ Tryz.prog 122 2 := ⟨fun x y xs ys w h1 h2 => by
 match xs, ys, h1, h2 with
 | [x0, x1], [y0, y1], _, _ =>
  refine ⟨?_, ?_, ?_, ?_⟩
  ·simp [go_sem]
  ·simp [go_sem]
  ·simp [go_sem]; rw [eqPair]; simp [Result.andThen]; rfl
  ·simp [go_sem]; rw [eqPair]; simp [Result.andThen]; rfl⟩
theorem quEq (x y : Qu) : decide ([x.a, x.b] = [y.a, y.b]) = decide (x = y) := by
 refine decide_eq_decide.2 ?_
 cases x; cases y; simp
def ixQ (l : List Qu) (x : Qu) : Int := fiX (fun y => decide (x = y)) l
theorem indexQ_con (xs : List Qu) (x : Qu) (hl : xs.length ≤ 1000000) : Con Tryz.prog 93 [.sl 2 quC xs, .agg (quC x)] [] (Is (.val (.int .i64 (ixQ xs x))) []) := by
 refine con_of Tryz.func93 rfl (enters_of Tryz.func93 (by kernel_rfl) rfl) rfl ?_; intro n w0 F0 G0
 refine zS ?_;repeat(refine yA ?_;intro p hp;refine zS ?_)
 refine W_loopJ (fun (k : Nat) => ⟨[(0, .sl 2 quC xs), (3, .val p), (7, .val (.int .i64 xs.length)), (8, .val (.int .i64 k))], [.box p (quC x) 87]⟩) (fun k => k ≤ xs.length ∧ (xs.take k).any (fun y => decide (x = y)) = false) (fun k => xs.length - k) 0 (fun _ _ st => st_sub2 st zR zP) ?hj0 ?round
 case hj0 => simp
 case round =>
  rintro k ⟨hk, hno⟩
  refine zS ?_
  refine w_cond rfl (fun hlt => ?_) (fun hlt => ?_)
  ·have hlt' : k < xs.length := by simpa using hlt
   have hq1 : xs[k]? = some xs[k] := List.getElem?_eq_getElem hlt'
   refine zS ?_
   refine W_run 5 [11, 12, 13, 14, 15] [0, 1, 2, 3, 4] Cut.nil rfl goFlt mixedS (by kernel_rfl) rfl ?_
   refine rpv [] [] ?_
   refine rpv [] [] ?_
   refine rpv [] [] ?_
   refine rpv [1, 2] [] ?_
   refine rpv [3] [] ?_
   refine ⟨⟨by kernel_rfl, by kernel_rfl⟩, fun vs => ?_⟩
   apply WL_auto [0, 4]
   ·exact goPk
   ·exact goNrm
   ·kernel_rfl
   ·kernel_rfl
   refine zS ?_
   rw [quEq]
   refine w_cond rfl (fun he => ?_) (fun he => ?_)
   ·refine zS ?_
    (apply res1; exact rfl; exact rfl; exact ⟨(congrArg (fun b => AV.val (Value.int .i64 b)) (fiX_at (p := fun y => decide (x = y)) hlt' hno he).symm), rfl⟩)
   ·refine zS ?_
    (refine ⟨k + 1, fun _ _ st => st_sub2 st ?_ ?_, ?_, ?_⟩; exact zR; exact zP)
    ·refine ⟨by omega, ?_⟩
     rw [List.take_succ_eq_append_getElem hlt', List.any_append, hno]
     simpa using he
    ·omega
  ·refine zS ?_
   have hkk : k = xs.length := by simp at hlt; omega
   subst hkk
   rw [List.take_length] at hno
   (apply res1; exact rfl; exact rfl; exact ⟨(congrArg (fun b => AV.val (Value.int .i64 b)) (fiX_none hno).symm), rfl⟩)
theorem containsQ_con (xs : List Qu) (x : Qu) (hl : xs.length ≤ 1000000) : Con Tryz.prog 134 [.sl 2 quC xs, .agg (quC x)] [] (Is (.val (.bool (xs.any fun y => decide (x = y)))) []) := by
 refine con_of Tryz.func134 rfl (enters_of Tryz.func134 (by kernel_rfl) rfl) rfl ?_; intro n w0 F0 G0
 refine zS ?_;repeat(refine yA ?_;intro p hp;refine zS ?_)
 (first | (apply wl_call (indexQ_con xs x hl); exact rfl; exact rfl) | (apply wl_callR (indexQ_con xs x hl); exact rfl; exact zM; exact rfl))
 refine zS ?_
 (apply res1; exact rfl; exact rfl; exact ⟨(congrArg (fun b => AV.val (Value.bool b)) fiX_ge), rfl⟩)
theorem rises_sorted : ∀ {l : List Int} {last : Int}, rises last l = true → ∀ i j (hi : i < l.length) (hj : j < l.length), i < j → l[i] < l[j]
 | [], _, _, i, j, hi, _, _ => by simp at hi
 | x :: t, last, h, i, j, hi, hj, hij => by
  have h2 := rises_all (l := t) (last := x) (by simp only [rises, Bool.and_eq_true] at h; exact h.2)
  cases j with
  | zero => omega
  | succ j =>
   cases i with
   | zero =>
    simp only [List.getElem_cons_zero, List.getElem_cons_succ]
    have := h2 _ (List.getElem_mem (by simpa using hj)); omega
   | succ i =>
    simp only [List.getElem_cons_succ]
    exact rises_sorted (l := t) (last := x) (by simp only [rises, Bool.and_eq_true] at h; exact h.2) i j _ _ (by omega)
def prC (i k : Int) : List AV := [.val (.int .i64 i), .val (.int .i64 k)]
theorem speakR_same (qs : List Qu) (a : Int) : speakR qs a a = false := by simp [speakR]
theorem speak_con (ph ow : Value) (f : Flo) (i k : Nat) (hi : i < f.ids.length) (hk : k < f.ids.length) (hr : rises 0 f.ids = true) (hl : f.ids.length ≤ 1000) (hql : f.qs.length ≤ 1000) : Con Tryz.prog 89 [.val ph, .agg (prC i k)] [hsB ph f ow] (Is (.val (.bool (speakR f.qs f.ids[i] f.ids[k]))) [hsB ph f ow]) := by
 refine con_of Tryz.func89 rfl (enters_of Tryz.func89 (by kernel_rfl) rfl) rfl ?_; intro n w0 F0 G0
 refine zS ?_;repeat(refine yA ?_;intro p hp;refine zS ?_)
 by_cases hik : i = k
 ·subst hik
  rw [speakR_same]
  refine W_run 41 [5, 6, 7, 8, 9, 10, 11, 12, 13, 14, 15, 16, 17, 18, 19, 20, 21, 22, 23, 24, 25, 26, 27, 28, 29, 30, 31, 32, 33, 34, 35, 36, 37, 38, 39, 40, 41, 42, 43, 44, 45] [0, 1, 2, 3, 4, 5, 6, 7, 8, 9, 10, 11, 12, 13, 14, 15, 16, 17, 18, 19, 20, 21, 22, 23, 24, 25, 26, 27, 28, 29, 30, 31, 32, 33, 34, 35, 36, 37, 38, 39, 40] Cut.nil rfl goFlt mixedS (by kernel_rfl) rfl ?_
  refine rpv [] [] ?_
  refine rpv [] [] ?_
  refine rpv [1] [] ?_
  refine rpv [] [] ?_
  refine rpv [3] [] ?_
  refine rpv [2, 4] [] ?_
  refine Run.pv [0, 5] [] rfl (fun vs => by apply ltr_pk; exact goPk; (refine ltr ?_; apply LT_bool false; apply lt_neqN; exact rfl; exact rfl; (repeat (first | exact Ints.nil | apply Ints.cons)); (repeat (first | exact Ints.nil | apply Ints.cons)); exact rfl; exact rfl; simp)) goApp ?_
  refine rpv [6] [] ?_
  refine rno [7] ?_
  refine rno [7, 8] ?_
  refine rno [7, 9] ?_
  refine rno [7, 10] ?_
  refine rno [7, 11] ?_
  refine rno [7] ?_
  refine rno [7, 13] ?_
  refine rno [7, 14] ?_
  refine rno [7, 15] ?_
  refine rno [7, 16] ?_
  refine rno [7] ?_
  refine rno [7, 18] ?_
  refine rno [7] ?_
  refine rno [7, 20] ?_
  refine rno [7, 19, 21] ?_
  refine rno [7, 17, 22] ?_
  refine rno [7, 23] ?_
  refine rno [7] ?_
  refine rno [7, 25] ?_
  refine rno [7, 26] ?_
  refine rno [7, 27] ?_
  refine rno [7, 28] ?_
  refine rno [7] ?_
  refine rno [7, 30] ?_
  refine rno [7] ?_
  refine rno [7, 32] ?_
  refine rno [7, 31, 33] ?_
  refine rno [7, 29, 34] ?_
  refine rno [7, 35] ?_
  refine rno [7, 24, 36] ?_
  refine rno [7, 12, 37] ?_
  refine rno [7, 38] ?_
  refine rpv [7, 39] [] ?_
  refine ⟨⟨by kernel_rfl, by kernel_rfl⟩, fun vs => ?_⟩
  apply WL_auto [40]
  ·exact goPk
  ·exact goNrm
  ·kernel_rfl
  ·kernel_rfl
  refine zS ?_
  (apply resK1; exact rfl; exact rfl; exact ⟨rfl, rfl⟩; exact yC)
 ·have hm : f.ids[min i k]? = some (min f.ids[i] f.ids[k]) ∧ f.ids[max i k]? = some (max f.ids[i] f.ids[k]) ∧ f.ids[i] ≠ f.ids[k] := by
   rcases Nat.lt_or_gt_of_ne hik with h | h
   ·have := rises_sorted hr i k hi hk h
    rw [Nat.min_eq_left (by omega), Nat.max_eq_right (by omega), Int.min_eq_left (by omega), Int.max_eq_right (by omega), List.getElem?_eq_getElem hi, List.getElem?_eq_getElem hk]
    exact ⟨rfl, rfl, by omega⟩
   ·have := rises_sorted hr k i hk hi h
    rw [Nat.min_eq_right (by omega), Nat.max_eq_left (by omega), Int.min_eq_right (by omega), Int.max_eq_left (by omega), List.getElem?_eq_getElem hi, List.getElem?_eq_getElem hk]
    exact ⟨rfl, rfl, by omega⟩
  obtain ⟨hm1, hm2, hm3⟩ := hm
  have hsp : speakR f.qs f.ids[i] f.ids[k] = !(f.qs.any fun y => decide ((⟨min f.ids[i] f.ids[k], max f.ids[i] f.ids[k]⟩ : Qu) = y)) := by
   unfold speakR
   rw [decide_eq_true hm3, Bool.and_true]
   congr 2
   funext q
   cases q
   simp only [hits, Qu.mk.injEq]
   rw [← Bool.decide_and]
   exact decide_eq_decide.2 (by constructor <;> rintro ⟨h1, h2⟩ <;> exact ⟨h1.symm, h2.symm⟩)
  rw [hsp]
  refine W_run 41 [5, 6, 7, 8, 9, 10, 11, 12, 13, 14, 15, 16, 17, 18, 19, 20, 21, 22, 23, 24, 25, 26, 27, 28, 29, 30, 31, 32, 33, 34, 35, 36, 37, 38, 39, 40, 41, 42, 43, 44, 45] [0, 1, 2, 3, 4, 5, 6, 7, 8, 9, 10, 11, 12, 13, 14, 15, 16, 17, 18, 19, 20, 21, 22, 23, 24, 25, 26, 27, 28, 29, 30, 31, 32, 33, 34, 35, 36, 37, 38, 39, 40] Cut.nil rfl goFlt mixedS (by kernel_rfl) rfl ?_
  refine rpv [] [] ?_
  refine rpv [] [] ?_
  refine rpv [1] [] ?_
  refine rpv [] [] ?_
  refine rpv [3] [] ?_
  refine rpv [2, 4] [] ?_
  refine Run.pv [0, 5] [] rfl (fun vs => by apply ltr_pk; exact goPk; (refine ltr ?_; apply LT_bool true; apply lt_neqN; exact rfl; exact rfl; (repeat (first | exact Ints.nil | apply Ints.cons)); (repeat (first | exact Ints.nil | apply Ints.cons)); exact rfl; exact rfl; (simp; omega))) goApp ?_
  refine rpv [6] [] ?_
  refine ryv [7] ?_
  refine ryv [7, 8] ?_
  refine ryv [7, 9] ?_
  refine ryv [7, 10] ?_
  refine ryv [7, 11] ?_
  refine ryv [7] ?_
  refine ryv [7, 13] ?_
  refine ryv [7, 14] ?_
  refine ryv [7, 15] ?_
  refine ryv [7, 16] ?_
  refine ryv [7] ?_
  refine ryv [7, 18] ?_
  refine ryv [7] ?_
  refine ryv [7, 20] ?_
  refine ryx [7, 19, 21] (fun vs => by apply ltr_pk; exact goPk; (refine ltr ?_; apply LT_int ((min i k : Nat) : Int); apply lt_min2; exact rfl; exact rfl; omega)) ?_
  refine ryv [7, 17, 22] ?_
  refine ryv [7, 23] ?_
  refine ryv [7] ?_
  refine ryv [7, 25] ?_
  refine ryv [7, 26] ?_
  refine ryv [7, 27] ?_
  refine ryv [7, 28] ?_
  refine ryv [7] ?_
  refine ryv [7, 30] ?_
  refine ryv [7] ?_
  refine ryv [7, 32] ?_
  refine ryx [7, 31, 33] (fun vs => by apply ltr_pk; exact goPk; (refine ltr ?_; apply LT_int ((max i k : Nat) : Int); apply lt_max2; exact rfl; exact rfl; omega)) ?_
  refine ryv [7, 29, 34] ?_
  refine ryv [7, 35] ?_
  refine ryv [7, 24, 36] ?_
  refine ryx [7, 12, 37] (fun vs => by apply ltr_pk; exact goPk; (refine ltr ?_; refine lt_call ?_ ((containsQ_con f.qs ⟨min f.ids[i] f.ids[k], max f.ids[i] f.ids[k]⟩ (by omega))); exact rfl)) ?_
  refine ryv [7, 38] ?_
  refine rpv [7, 39] [] ?_
  refine ⟨⟨by kernel_rfl, by kernel_rfl⟩, fun vs => ?_⟩
  apply WL_auto [40]
  ·exact goPk
  ·exact goNrm
  ·kernel_rfl
  ·kernel_rfl
  refine zS ?_
  (apply resK1; exact rfl; exact rfl; exact ⟨rfl, rfl⟩; exact yC)
end Go.Proofs.YtihonljdanjfmaaGreatDoor.Sw
namespace Go.Proofs.YtihonljdanjfmaaGreatDoor.Gr
def Cl (L : List (Nat × Nat)) (P : Nat → Bool) : Prop := ∀ p ∈ L, P p.1 = P p.2
def sumP : Nat → (Nat → Int) → (Nat → Bool) → Int
 | 0, _, _ => 0
 | n + 1, x, P => sumP n x P + (if P n then x n else 0)
def cnt : Nat → (Nat → Bool) → Nat
 | 0, _ => 0
 | n + 1, P => cnt n P + (if P n then 1 else 0)
def Zr (n : Nat) (L : List (Nat × Nat)) (x : Nat → Int) : Prop := ∀ P, Cl L P → sumP n x P = 0
def upd (x : Nat → Int) (i : Nat) (c : Int) : Nat → Int := fun v => if v = i then c else x v
def flip (P : Nat → Bool) (i : Nat) (c : Bool) : Nat → Bool := fun v => if v = i then c else P v
theorem sumP_congr {x y : Nat → Int} {P Q : Nat → Bool} : ∀ {n : Nat}, (∀ v, v < n → x v = y v) → (∀ v, v < n → P v = Q v) → sumP n x P = sumP n y Q
 | 0, _, _ => rfl
 | n + 1, h1, h2 => by
  unfold sumP
  rw [sumP_congr (fun v hv => h1 v (by omega)) (fun v hv => h2 v (by omega)), h1 n (by omega), h2 n (by omega)]
theorem sumP_upd {x : Nat → Int} {P : Nat → Bool} {i : Nat} {c : Int} : ∀ {n : Nat}, i < n → sumP n (upd x i c) P = sumP n x P + (if P i then c - x i else 0)
 | n + 1, h => by
  unfold sumP
  by_cases e : i = n
  ·subst e
   rw [sumP_congr (y := x) (Q := P) (fun v hv => by unfold upd; rw [if_neg (by omega)]) (fun _ _ => rfl)]
   simp only [upd, if_true]
   split <;> omega
  ·rw [sumP_upd (by omega)]
   have : upd x i c n = x n := by unfold upd; rw [if_neg (fun e' => e e'.symm)]
   rw [this]
   omega
theorem sumP_flip {x : Nat → Int} {P : Nat → Bool} {i : Nat} {c : Bool} : ∀ {n : Nat}, i < n → sumP n x (flip P i c) = sumP n x P + ((if c then x i else 0) - (if P i then x i else 0))
 | n + 1, h => by
  unfold sumP
  by_cases e : i = n
  ·subst e
   rw [sumP_congr (y := x) (Q := P) (fun _ _ => rfl) (fun v hv => by unfold flip; rw [if_neg (by omega)])]
   simp only [flip, if_true]
   omega
  ·rw [sumP_flip (by omega)]
   have : flip P i c n = P n := by unfold flip; rw [if_neg (fun e' => e e'.symm)]
   rw [this]
   omega
def mv (x : Nat → Int) (i o : Nat) : Nat → Int := upd (upd x o (x o + x i)) i 0
theorem sumP_mv {n : Nat} {x : Nat → Int} {P : Nat → Bool} {i o : Nat} (hi : i < n) (ho : o < n) (hne : i ≠ o) (h : P i = P o) : sumP n (mv x i o) P = sumP n x P := by
 unfold mv
 rw [sumP_upd hi, sumP_upd ho, h]
 have : upd x o (x o + x i) i = x i := by unfold upd; rw [if_neg hne]
 rw [this]
 split <;> omega
theorem mv_i {x : Nat → Int} {i o : Nat} : mv x i o i = 0 := by unfold mv upd; simp
theorem cnt_lt {P Q : Nat → Bool} {t : Nat} (hs : ∀ v, Q v = true → P v = true) (h1 : P t = true) (h2 : Q t = false) : ∀ {n : Nat}, t < n → cnt n Q < cnt n P := by
 have le : ∀ n, cnt n Q ≤ cnt n P := by
  intro n
  induction n with
  | zero => exact Nat.le_refl _
  | succ n ih =>
   unfold cnt
   by_cases h : Q n = true
   ·rw [if_pos h, if_pos (hs n h)]; omega
   ·rw [if_neg h]; omega
 intro n
 induction n with
 | zero => intro h; omega
 | succ n ih =>
  intro h
  unfold cnt
  by_cases e : t = n
  ·subst e
   rw [h1, h2]
   have := le t
   simp; omega
  ·have := ih (by omega)
   by_cases h : Q n = true
   ·rw [if_pos h, if_pos (hs n h)]; omega
   ·rw [if_neg h]; omega
def inc (i : Nat) (p : Nat × Nat) : Bool := decide (p.1 = i) || decide (p.2 = i)
structure Ok (n : Nat) (L : List (Nat × Nat)) : Prop where
 nd : L.Nodup
 lt : ∀ p ∈ L, p.1 < n ∧ p.2 < n ∧ p.1 ≠ p.2
theorem Ok.erase {n : Nat} {L : List (Nat × Nat)} (h : Ok n L) (e : Nat × Nat) : Ok n (L.erase e) := ⟨h.nd.erase e, fun p hp => h.lt p (List.mem_of_mem_erase hp)⟩
def Leaf (L : List (Nat × Nat)) (i : Nat) (e : Nat × Nat) : Prop := e ∈ L ∧ inc i e = true ∧ ∀ p ∈ L, inc i p = true → p = e
def oth (e : Nat × Nat) (i : Nat) : Nat := e.1 + e.2 - i
theorem inc_iff {i : Nat} {e : Nat × Nat} : inc i e = true ↔ e.1 = i ∨ e.2 = i := by simp [inc]
theorem cl_inc {L : List (Nat × Nat)} {P : Nat → Bool} {e : Nat × Nat} {i : Nat} (hi : inc i e = true) (h : P e.1 = P e.2) : P i = P (oth e i) := by
 unfold oth
 rcases inc_iff.1 hi with h1 | h1
 ·subst h1; rw [h]; congr 1; omega
 ·subst h1; rw [← h]; congr 1; omega
theorem leaf_of_bridges {n : Nat} {L : List (Nat × Nat)} (hok : Ok n L) (hb : ∀ e ∈ L, ∃ P, Cl (L.erase e) P ∧ P e.1 ≠ P e.2) : ∀ (m : Nat) (e : Nat × Nat) (P : Nat → Bool), e ∈ L → Cl (L.erase e) P → P e.1 ≠ P e.2 → cnt n P = m → ∃ i e, i < n ∧ Leaf L i e := by
 intro m
 induction m using Nat.strongRecOn with
 | _ m ih =>
  intro e P he hcl hne hm
  obtain ⟨h1, h2, h3⟩ := hok.lt e he
  -- the end within the set
  obtain ⟨s, t, hs, ht, htn, hit, hends⟩ : ∃ s t, P s = false ∧ P t = true ∧ t < n ∧ inc t e = true ∧ ((e.1 = s ∧ e.2 = t) ∨ (e.1 = t ∧ e.2 = s)) := by
   cases ha : P e.1 with
   | true => exact ⟨e.2, e.1, by rw [ha] at hne; simpa using hne.symm, ha, h1, by simp [inc], .inr ⟨rfl, rfl⟩⟩
   | false => exact ⟨e.1, e.2, ha, by rw [ha] at hne; simpa using hne.symm, h2, by simp [inc], .inl ⟨rfl, rfl⟩⟩
  by_cases hl : ∀ p ∈ L, inc t p = true → p = e
  ·exact ⟨t, e, htn, he, hit, hl⟩
  ·obtain ⟨e', hl⟩ := Classical.not_forall.1 hl
   have hl' : e' ∈ L ∧ inc t e' = true ∧ e' ≠ e := by
    by_cases a : e' ∈ L
    ·by_cases b : inc t e' = true
     ·exact ⟨a, b, fun c => hl fun _ _ => c⟩
     ·exact absurd (fun _ h => absurd h b) hl
    ·exact absurd (fun h => absurd h a) hl
   obtain ⟨he', hi', hne'⟩ := hl'
   have hcl' : P e'.1 = P e'.2 := hcl e' ((hok.nd.mem_erase_iff).2 ⟨hne', he'⟩)
   obtain ⟨Q0, hQ, hQne⟩ := hb e' he'
   -- the side of the other end
   obtain ⟨c, hce, hct⟩ : ∃ c, ((e'.1 = t ∧ e'.2 = c) ∨ (e'.1 = c ∧ e'.2 = t)) ∧ P c = true := by
    rcases inc_iff.1 hi' with h | h
    ·exact ⟨e'.2, .inl ⟨h, rfl⟩, by rw [← hcl', h]; exact ht⟩
    ·exact ⟨e'.1, .inr ⟨rfl, h⟩, by rw [hcl', h]; exact ht⟩
   obtain ⟨Q, hQ, hQc, hQt⟩ : ∃ Q, Cl (L.erase e') Q ∧ Q c = true ∧ Q t = false := by
    have hd : Q0 c ≠ Q0 t := by
     rcases hce with ⟨a, b⟩ | ⟨a, b⟩
     ·rw [a, b] at hQne; exact hQne.symm
     ·rw [a, b] at hQne; exact hQne
    cases hc : Q0 c with
    | true => exact ⟨Q0, hQ, hc, by rw [hc] at hd; simpa using hd.symm⟩
    | false => exact ⟨fun v => !Q0 v, fun p hp => by simp [hQ p hp], by simp [hc], by rw [hc] at hd; simpa using hd.symm⟩
   refine ih (cnt n fun v => P v && Q v) (hm ▸ cnt_lt (t := t) (fun v h => by simp at h; exact h.1) ht (by simp [hQt]) htn) e' (fun v => P v && Q v) he' (fun p hp => ?_) ?_ rfl
   ·have hp' := (hok.nd.mem_erase_iff).1 hp
    by_cases hpe : p = e
    ·subst hpe
     rcases hends with ⟨a, b⟩ | ⟨a, b⟩
     ·simp [a, b, hs, hQt]
     ·simp [a, b, hs, hQt]
    ·show (P p.1 && Q p.1) = (P p.2 && Q p.2)
     rw [hcl p ((hok.nd.mem_erase_iff).2 ⟨hpe, hp'.2⟩), hQ p hp]
   ·rcases hce with ⟨a, b⟩ | ⟨a, b⟩
    ·simp [a, b, hQt, hQc, hct]
    ·simp [a, b, hQt, hQc, hct]
def Min (n : Nat) (L : List (Nat × Nat)) (x : Nat → Int) : Prop := ∀ e ∈ L, ¬ Zr n (L.erase e) x
theorem Min.bridges {n : Nat} {L : List (Nat × Nat)} {x : Nat → Int} (hok : Ok n L) (hz : Zr n L x) (hm : Min n L x) : ∀ e ∈ L, ∃ P, Cl (L.erase e) P ∧ P e.1 ≠ P e.2 := fun e he => by
 have h := hm e he
 unfold Zr at h
 obtain ⟨P, h⟩ := Classical.not_forall.1 h
 have h1 : Cl (L.erase e) P := Classical.not_not.1 fun h1 => h fun h2 => absurd h2 h1
 have h2 : sumP n x P ≠ 0 := fun h2 => h fun _ => h2
 refine ⟨P, h1, fun heq => h2 (hz P fun p hp => ?_)⟩
 by_cases hpe : p = e
 ·subst hpe; exact heq
 ·exact h1 p ((hok.nd.mem_erase_iff).2 ⟨hpe, hp⟩)
theorem Min.leaf {n : Nat} {L : List (Nat × Nat)} {x : Nat → Int} (hok : Ok n L) (hz : Zr n L x) (hm : Min n L x) (hne : L ≠ []) : ∃ i e, i < n ∧ Leaf L i e := by
 obtain ⟨e, he⟩ := List.exists_mem_of_ne_nil L hne
 have hb := hm.bridges hok hz
 obtain ⟨P, h1, h2⟩ := hb e he
 exact leaf_of_bridges hok hb _ e P he h1 h2 rfl
theorem oth_spec {n : Nat} {L : List (Nat × Nat)} (hok : Ok n L) {i : Nat} {e : Nat × Nat} (he : e ∈ L) (hi : inc i e = true) : oth e i < n ∧ i ≠ oth e i ∧ i < n ∧ inc (oth e i) e = true := by
 obtain ⟨h1, h2, h3⟩ := hok.lt e he
 unfold oth
 rcases inc_iff.1 hi with h | h
 ·subst h
  have : e.1 + e.2 - e.1 = e.2 := by omega
  rw [this]; exact ⟨h2, h3, h1, by simp [inc]⟩
 ·subst h
  have : e.1 + e.2 - e.2 = e.1 := by omega
  rw [this]; exact ⟨h1, fun e' => h3 e'.symm, h2, by simp [inc]⟩
theorem cl_flip {n : Nat} {L : List (Nat × Nat)} (hok : Ok n L) {i : Nat} {e : Nat × Nat} (hl : Leaf L i e) {P : Nat → Bool} (h : Cl (L.erase e) P) : Cl L (flip P i (P (oth e i))) := fun p hp => by
 obtain ⟨he, hi, ho⟩ := hl
 obtain ⟨_, hne, _, _⟩ := oth_spec hok he hi
 have hself : flip P i (P (oth e i)) i = P (oth e i) := by simp [flip]
 have hoth : flip P i (P (oth e i)) (oth e i) = P (oth e i) := by unfold flip; rw [if_neg (fun e' => hne e'.symm)]
 by_cases hpe : p = e
 ·subst hpe
  rcases inc_iff.1 hi with h1 | h1
  ·have : p.2 = oth p i := by unfold oth; omega
   rw [h1, this, hself, hoth]
  ·have : p.1 = oth p i := by unfold oth; omega
   rw [h1, this, hself, hoth]
 ·have hn : inc i p ≠ true := fun h1 => hpe (ho p hp h1)
  have h1 : p.1 ≠ i := fun h1 => hn (by simp [inc, h1])
  have h2 : p.2 ≠ i := fun h2 => hn (by simp [inc, h2])
  unfold flip
  rw [if_neg h1, if_neg h2]
  exact h p ((hok.nd.mem_erase_iff).2 ⟨hpe, hp⟩)
theorem Min.left {n : Nat} {L : List (Nat × Nat)} {x : Nat → Int} (hok : Ok n L) (hz : Zr n L x) (hm : Min n L x) {i : Nat} {e : Nat × Nat} (hl : Leaf L i e) : x i ≠ 0 := fun h0 => by
 obtain ⟨_, _, hin, _⟩ := oth_spec hok hl.1 hl.2.1
 refine hm e hl.1 fun P h => ?_
 have := hz _ (cl_flip hok hl h)
 rw [sumP_flip hin, h0] at this
 simpa using this
theorem step_zr {n : Nat} {L : List (Nat × Nat)} {x : Nat → Int} (hok : Ok n L) (hz : Zr n L x) {i : Nat} {e : Nat × Nat} (hl : Leaf L i e) : Zr n (L.erase e) (mv x i (oth e i)) := fun P h => by
 obtain ⟨hon, hne, hin, _⟩ := oth_spec hok hl.1 hl.2.1
 have h1 := hz _ (cl_flip hok hl h)
 have h2 : sumP n (mv x i (oth e i)) (flip P i (P (oth e i))) = sumP n x (flip P i (P (oth e i))) := sumP_mv hin hon hne (by unfold flip; rw [if_pos rfl, if_neg (fun e' => hne e'.symm)])
 rw [sumP_flip hin, mv_i, h1] at h2
 simpa using h2
theorem step_zr_back {n : Nat} {L : List (Nat × Nat)} {x : Nat → Int} (hok : Ok n L) {i : Nat} {e : Nat × Nat} (he : e ∈ L) (hi : inc i e = true) (hz : Zr n (L.erase e) (mv x i (oth e i))) : Zr n L x := fun P h => by
 obtain ⟨hon, hne, hin, _⟩ := oth_spec hok he hi
 rw [← sumP_mv (x := x) hin hon hne (cl_inc (L := L) hi (h e he))]
 exact hz P fun p hp => h p (List.mem_of_mem_erase hp)
theorem erase_erase {L : List (Nat × Nat)} {e e' : Nat × Nat} : (L.erase e).erase e' = (L.erase e').erase e := List.erase_comm ..
theorem step_min {n : Nat} {L : List (Nat × Nat)} {x : Nat → Int} (hok : Ok n L) (hm : Min n L x) {i : Nat} {e : Nat × Nat} (hl : Leaf L i e) : Min n (L.erase e) (mv x i (oth e i)) := fun e' he' hz => by
 have h1 := (hok.nd.mem_erase_iff).1 he'
 refine hm e' h1.2 (step_zr_back (hok.erase e') ((hok.nd.mem_erase_iff).2 ⟨fun h => h1.1 h.symm, hl.1⟩) hl.2.1 ?_)
 rw [erase_erase]
 exact hz
theorem exists_min {n : Nat} {x : Nat → Int} : ∀ (m : Nat) {L : List (Nat × Nat)}, L.length = m → Ok n L → Zr n L x → ∃ S, List.Sublist S L ∧ Ok n S ∧ Zr n S x ∧ Min n S x := by
 intro m
 induction m with
 | zero =>
  intro L hl hok hz
  have : L = [] := List.eq_nil_of_length_eq_zero hl
  subst this
  exact ⟨[], List.Sublist.refl _, hok, hz, fun _ h => by cases h⟩
 | succ m ih =>
  intro L hl hok hz
  by_cases h : Min n L x
  ·exact ⟨L, List.Sublist.refl _, hok, hz, h⟩
  ·unfold Min at h
   obtain ⟨e, h⟩ := Classical.not_forall.1 h
   have he : e ∈ L := Classical.not_not.1 fun h1 => h fun h2 => absurd h2 h1
   have hze : Zr n (L.erase e) x := Classical.not_not.1 fun h1 => h fun _ => h1
   obtain ⟨S, h1, h2⟩ := ih (by rw [List.length_erase_of_mem he]; omega) (hok.erase e) hze
   exact ⟨S, h1.trans List.erase_sublist, h2⟩
def deg (L : List (Nat × Nat)) (v : Nat) : Bool := L.any (inc v)
theorem cnt_le (P : Nat → Bool) : ∀ n, cnt n P ≤ n
 | 0 => Nat.le_refl _
 | n + 1 => by unfold cnt; have := cnt_le P n; split <;> omega
theorem cnt_two {P : Nat → Bool} {a b : Nat} (h1 : P a = true) (h2 : P b = true) (hne : a ≠ b) : ∀ {n : Nat}, a < n → b < n → 2 ≤ cnt n P := by
 have one : ∀ {c n}, P c = true → c < n → 1 ≤ cnt n P := by
  intro c n h
  induction n with
  | zero => intro h; omega
  | succ n ih =>
   intro hc
   unfold cnt
   by_cases e : c = n
   ·subst e; rw [if_pos h]; omega
   ·have := ih (by omega); omega
 intro n
 induction n with
 | zero => intro h; omega
 | succ n ih =>
  intro ha hb
  unfold cnt
  by_cases e : a = n
  ·subst e; rw [if_pos h1]; have := one (n := a) h2 (by omega); omega
  ·by_cases e' : b = n
   ·subst e'; rw [if_pos h2]; have := one (n := b) h1 (by omega); omega
   ·have := ih (by omega) (by omega); omega
theorem deg_step {n : Nat} {L : List (Nat × Nat)} (hok : Ok n L) {i : Nat} {e : Nat × Nat} (hl : Leaf L i e) : cnt n (deg (L.erase e)) < cnt n (deg L) := by
 obtain ⟨_, _, hin, _⟩ := oth_spec hok hl.1 hl.2.1
 refine cnt_lt (t := i) (fun v h => ?_) ?_ ?_ hin
 ·obtain ⟨p, hp, h⟩ := List.any_eq_true.1 h
  exact List.any_eq_true.2 ⟨p, List.mem_of_mem_erase hp, h⟩
 ·exact List.any_eq_true.2 ⟨e, hl.1, hl.2.1⟩
 ·refine Bool.eq_false_iff.2 fun h => ?_
  obtain ⟨p, hp, h⟩ := List.any_eq_true.1 h
  have h1 := (hok.nd.mem_erase_iff).1 hp
  exact h1.1 (hl.2.2 p h1.2 h)
theorem Min.size {n : Nat} : ∀ (m : Nat) {L : List (Nat × Nat)} {x : Nat → Int}, L.length = m → Ok n L → Zr n L x → Min n L x → L ≠ [] → L.length + 1 ≤ cnt n (deg L) := by
 intro m
 induction m with
 | zero => intro L x hl _ _ _ hne; exact absurd (List.eq_nil_of_length_eq_zero hl) hne
 | succ m ih =>
  intro L x hl hok hz hm hne
  obtain ⟨i, e, hin, hle⟩ := hm.leaf hok hz hne
  have hd := deg_step hok hle
  have hlen := List.length_erase_of_mem hle.1
  by_cases h0 : L.erase e = []
  ·rw [h0] at hlen
   obtain ⟨hon, hne', _, hio⟩ := oth_spec hok hle.1 hle.2.1
   have := cnt_two (P := deg L) (n := n) (List.any_eq_true.2 ⟨e, hle.1, hle.2.1⟩) (List.any_eq_true.2 ⟨e, hle.1, hio⟩) hne' hin hon
   simp at hlen
   omega
  ·have := ih (x := mv x i (oth e i)) (by omega) (hok.erase e) (step_zr hok hz hle) (step_min hok hm hle) h0
   omega
theorem Min.small {n : Nat} {L : List (Nat × Nat)} {x : Nat → Int} (hok : Ok n L) (hz : Zr n L x) (hm : Min n L x) : L.length = 0 ∨ L.length + 1 ≤ n := by
 by_cases h : L = []
 ·left; rw [h]; rfl
 ·right; exact Nat.le_trans (hm.size _ rfl hok hz h) (cnt_le _ _)
theorem zr_nil {n : Nat} {x : Nat → Int} (h : Zr n [] x) : ∀ v, v < n → x v = 0 := fun v hv => by
 have h1 := h (flip (fun _ => false) v true) (fun _ h => by cases h)
 rw [sumP_flip hv] at h1
 have : ∀ n, sumP n x (fun _ => false) = 0 := by
  intro n
  induction n with
  | zero => rfl
  | succ n ih => unfold sumP; rw [ih]; rfl
 rw [this] at h1
 simpa using h1
theorem zr_zero {n : Nat} {L : List (Nat × Nat)} {x : Nat → Int} (h : ∀ v, v < n → x v = 0) : Zr n L x := fun P _ => by
 have : ∀ m, m ≤ n → sumP m x P = 0 := by
  intro m
  induction m with
  | zero => intro _; rfl
  | succ m ih => intro hm; unfold sumP; rw [ih (by omega), h m (by omega)]; simp
 exact this n (Nat.le_refl _)
end Go.Proofs.YtihonljdanjfmaaGreatDoor.Gr
namespace Go.Proofs.YtihonljdanjfmaaGreatDoor.Gr
open Go.Proofs.YtihonljdanjfmaaGreatDoor.Sw (Pay)
def payLt (a b : Pay) : Bool := if a.a ≠ b.a then decide (a.a < b.a) else if a.b ≠ b.b then decide (a.b < b.b) else decide (a.p < b.p)
def atP (l : List Pay) (x : Pay) : Nat := (l.takeWhile fun y => payLt y x).length
def addP (l : List Pay) (x : Pay) : List Pay := l.take (atP l x) ++ [x] ++ l.drop (atP l x)
def payX (ids : List Int) (i o : Nat) (c : Int) : Pay := if 0 < c then ⟨ids.getD o 0, ids.getD i 0, c⟩ else ⟨ids.getD i 0, ids.getD o 0, -c⟩
def mvL (l : List Int) (i o : Nat) : List Int := (l.set o (l.getD o 0 + l.getD i 0)).set i 0
def lf (l : List Int) : Nat → Int := fun v => l.getD v 0
def leafAt (L : List (Nat × Nat)) (i : Nat) : Option (Nat × (Nat × Nat)) := match L.filter (inc i) with | [e] => some (i, e) | _ => none
def findLeaf (n : Nat) (L : List (Nat × Nat)) : Option (Nat × (Nat × Nat)) := (List.range n).findSome? (leafAt L)
def treeGo (ids : List Int) : Nat → List (Nat × Nat) → List Int → List Pay → Option (List Int × List Pay)
 | 0, _, left, out => some (left, out)
 | m + 1, L, left, out => match findLeaf ids.length L with
  | none => none
  | some (i, e) => if left.getD i 0 = 0 then none else treeGo ids m (L.erase e) (mvL left i (oth e i)) (addP out (payX ids i (oth e i) (left.getD i 0)))
def treeR (ids : List Int) (L : List (Nat × Nat)) (owed : List Int) : Option (List Pay) := match treeGo ids L.length L owed [] with
 | some r => if r.1.all (fun n => decide (n = 0)) = true then some r.2 else none
 | none => none
theorem lf_mvL {l : List Int} {i o : Nat} (hi : i < l.length) (ho : o < l.length) : lf (mvL l i o) = mv (lf l) i o := by
 funext v
 simp only [lf, mvL, mv, upd]
 simp only [List.getD_eq_getElem?_getD, List.getElem?_set, List.length_set]
 by_cases h1 : v = i
 ·subst h1; simp [hi]
 ·rw [if_neg (fun e => h1 e.symm), if_neg h1]
  by_cases h2 : v = o
  ·subst h2; simp [ho]
  ·rw [if_neg (fun e => h2 e.symm), if_neg h2]
theorem mvL_len (l : List Int) (i o : Nat) : (mvL l i o).length = l.length := by simp [mvL]
theorem leafAt_some {L : List (Nat × Nat)} {i j : Nat} {e : Nat × Nat} (h : leafAt L i = some (j, e)) : j = i ∧ Leaf L i e := by
 unfold leafAt at h
 split at h
 ·rename_i e' he
  simp only [Option.some.injEq, Prod.mk.injEq] at h
  obtain ⟨rfl, rfl⟩ := h
  have h1 : e' ∈ L.filter (inc i) := by rw [he]; simp
  have h2 := List.mem_filter.1 h1
  refine ⟨rfl, h2.1, h2.2, fun p hp hi => ?_⟩
  have : p ∈ L.filter (inc i) := List.mem_filter.2 ⟨hp, hi⟩
  rw [he] at this
  simpa using this
 ·cases h
theorem leafAt_of {L : List (Nat × Nat)} (hn : L.Nodup) {i : Nat} {e : Nat × Nat} (h : Leaf L i e) : leafAt L i = some (i, e) := by
 have : L.filter (inc i) = [e] := by
  have hnd := hn.filter (inc i)
  have hm : e ∈ L.filter (inc i) := List.mem_filter.2 ⟨h.1, h.2.1⟩
  have ha : ∀ p ∈ L.filter (inc i), p = e := fun p hp => h.2.2 p (List.mem_filter.1 hp).1 (List.mem_filter.1 hp).2
  match hq : L.filter (inc i), hnd, hm, ha with
  | [], _, hm, _ => cases hm
  | [x], _, _, ha => rw [ha x (by simp)]
  | x :: y :: t, hnd, _, ha =>
   have h1 := ha x (by simp)
   have h2 := ha y (by simp)
   exact absurd (h1.trans h2.symm) (by intro hxy; subst hxy; simp at hnd)
 unfold leafAt
 rw [this]
theorem findLeaf_some {n : Nat} {L : List (Nat × Nat)} {i : Nat} {e : Nat × Nat} (h : findLeaf n L = some (i, e)) : i < n ∧ Leaf L i e := by
 obtain ⟨j, hj, h1⟩ := List.exists_of_findSome?_eq_some h
 obtain ⟨rfl, h2⟩ := leafAt_some h1
 exact ⟨List.mem_range.1 hj, h2⟩
theorem findLeaf_of {n : Nat} {L : List (Nat × Nat)} (hn : L.Nodup) {i : Nat} {e : Nat × Nat} (hi : i < n) (h : Leaf L i e) : ∃ r, findLeaf n L = some r := by
 cases hf : findLeaf n L with
 | some r => exact ⟨r, rfl⟩
 | none =>
  have := List.findSome?_eq_none_iff.1 hf i (List.mem_range.2 hi)
  rw [leafAt_of hn h] at this
  cases this
theorem treeGo_len {ids : List Int} : ∀ {m : Nat} {L : List (Nat × Nat)} {left : List Int} {out : List Pay} {r : List Int × List Pay}, treeGo ids m L left out = some r → r.1.length = left.length
 | 0, _, _, _, _, h => by simp [treeGo] at h; rw [← h]
 | m + 1, L, left, out, r, h => by
  unfold treeGo at h
  split at h
  ·cases h
  ·split at h
   ·cases h
   ·rw [treeGo_len h, mvL_len]
theorem treeGo_zr {ids : List Int} : ∀ {m : Nat} {L : List (Nat × Nat)} {left : List Int} {out : List Pay} {r : List Int × List Pay}, L.length = m → Ok ids.length L → left.length = ids.length → treeGo ids m L left out = some r → (∀ v, v < ids.length → lf r.1 v = 0) → Zr ids.length L (lf left)
 | 0, L, left, out, r, hl, hok, hlen, h, hz => by
  simp [treeGo] at h
  rw [← h] at hz
  exact zr_zero hz
 | m + 1, L, left, out, r, hl, hok, hlen, h, hz => by
  unfold treeGo at h
  split at h
  ·cases h
  ·rename_i i e hf
   split at h
   ·cases h
   ·obtain ⟨hi, hle⟩ := findLeaf_some hf
    obtain ⟨hon, hne, _, _⟩ := oth_spec hok hle.1 hle.2.1
    have h1 := treeGo_zr (by rw [List.length_erase_of_mem hle.1]; omega) (hok.erase e) (by rw [mvL_len, hlen]) h hz
    rw [lf_mvL (by omega) (by omega)] at h1
    exact step_zr_back hok hle.1 hle.2.1 h1
theorem all_zero {l : List Int} : l.all (fun n => decide (n = 0)) = true ↔ ∀ v, v < l.length → lf l v = 0 := by
 rw [List.all_eq_true]
 constructor
 ·intro h v hv
  have := h l[v] (List.getElem_mem hv)
  simpa [lf, List.getD_eq_getElem?_getD, List.getElem?_eq_getElem hv] using this
 ·intro h x hx
  obtain ⟨v, hv, rfl⟩ := List.getElem_of_mem hx
  have := h v hv
  simpa [lf, List.getD_eq_getElem?_getD, List.getElem?_eq_getElem hv] using this
theorem treeR_zr {ids : List Int} {L : List (Nat × Nat)} {owed : List Int} {out : List Pay} (hok : Ok ids.length L) (hlen : owed.length = ids.length) (h : treeR ids L owed = some out) : Zr ids.length L (lf owed) := by
 unfold treeR at h
 split at h
 ·rename_i r hr
  split at h
  ·rename_i ha
   have hl := treeGo_len hr
   exact treeGo_zr rfl hok hlen hr (by have := all_zero.1 ha; rw [hl, hlen] at this; exact this)
  ·cases h
 ·cases h
def pick {α : Type} : List α → Nat → List α
 | [], _ => []
 | p :: l, s => if s % 2 = 1 then p :: pick l (s / 2) else pick l (s / 2)
theorem pick_sub {α : Type} : ∀ (l : List α) (s : Nat), List.Sublist (pick l s) l
 | [], _ => List.Sublist.refl _
 | p :: l, s => by
  unfold pick
  split
  ·exact (pick_sub l _).cons_cons p
  ·exact (pick_sub l _).cons p
theorem sub_pick {α : Type} {S l : List α} (h : List.Sublist S l) : ∃ s, s < 2 ^ l.length ∧ pick l s = S := by
 induction h with
 | slnil => exact ⟨0, by simp, rfl⟩
 | cons a _ ih =>
  obtain ⟨s, h1, h2⟩ := ih
  refine ⟨2 * s, by simp [Nat.pow_succ]; omega, ?_⟩
  unfold pick
  rw [if_neg (by omega), show 2 * s / 2 = s by omega, h2]
 | cons_cons a _ ih =>
  obtain ⟨s, h1, h2⟩ := ih
  refine ⟨2 * s + 1, by simp [Nat.pow_succ]; omega, ?_⟩
  unfold pick
  rw [if_pos (by omega), show (2 * s + 1) / 2 = s by omega, h2]
theorem Ok.sub {n : Nat} {L S : List (Nat × Nat)} (h : Ok n L) (hs : List.Sublist S L) : Ok n S := ⟨h.nd.sublist hs, fun p hp => h.lt p (hs.subset hp)⟩
def mergeH (h : List Nat) (p : Nat × Nat) : List Nat := h.map fun v => if v = max (h.getD p.1 0) (h.getD p.2 0) then min (h.getD p.1 0) (h.getD p.2 0) else v
def headsR (n : Nat) (L : List (Nat × Nat)) : List Nat := L.foldl mergeH (List.range n)
def hf (h : List Nat) : Nat → Nat := fun v => h.getD v 0
theorem headsR_snoc (n : Nat) (L : List (Nat × Nat)) (p : Nat × Nat) : headsR n (L ++ [p]) = mergeH (headsR n L) p := by simp [headsR]
theorem hf_merge {h : List Nat} {p : Nat × Nat} {v : Nat} (hv : v < h.length) : hf (mergeH h p) v = if hf h v = max (hf h p.1) (hf h p.2) then min (hf h p.1) (hf h p.2) else hf h v := by
 simp only [hf, mergeH, List.getD_eq_getElem?_getD, List.getElem?_map, List.getElem?_eq_getElem hv, Option.map_some, Option.getD_some]
structure Lab (n : Nat) (L : List (Nat × Nat)) (h : List Nat) : Prop where
 len : h.length = n
 lt : ∀ v, v < n → hf h v < n
 one : ∀ p ∈ L, hf h p.1 = hf h p.2
 cl : ∀ P, Cl L P → ∀ v, v < n → P (hf h v) = P v
theorem lab_nil (n : Nat) : Lab n [] (List.range n) := by
 have : ∀ v, v < n → hf (List.range n) v = v := fun v hv => by simp [hf, List.getD_eq_getElem?_getD, hv]
 exact ⟨by simp, fun v hv => by rw [this v hv]; exact hv, fun _ h => (by cases h), fun P _ v hv => by rw [this v hv]⟩
theorem Lab.snoc {n : Nat} {L : List (Nat × Nat)} {h : List Nat} {p : Nat × Nat} (k : Lab n L h) (hL : ∀ q ∈ L, q.1 < n ∧ q.2 < n) (h1 : p.1 < n) (h2 : p.2 < n) : Lab n (L ++ [p]) (mergeH h p) := by
 have l1 := k.lt _ h1
 have l2 := k.lt _ h2
 refine ⟨by simp [mergeH, k.len], fun v hv => ?_, fun q hq => ?_, fun P hP v hv => ?_⟩
 ·rw [hf_merge (by rw [k.len]; exact hv)]
  split
  ·omega
  ·exact k.lt v hv
 ·rcases List.mem_append.1 hq with hq | hq
  ·have b := hL q hq
   rw [hf_merge (by rw [k.len]; exact b.1), hf_merge (by rw [k.len]; exact b.2), k.one q hq]
  ·obtain rfl : q = p := by simpa using hq
   rw [hf_merge (by rw [k.len]; exact h1), hf_merge (by rw [k.len]; exact h2)]
   split <;> split <;> omega
 ·have hcl : Cl L P := fun q hq => hP q (List.mem_append.2 (.inl hq))
  have e0 := k.cl P hcl v hv
  have e1 := k.cl P hcl _ h1
  have e2 := k.cl P hcl _ h2
  have e3 : P p.1 = P p.2 := hP p (by simp)
  rw [hf_merge (by rw [k.len]; exact hv)]
  split
  ·rename_i e'
   rw [← e0, e']
   rcases Nat.le_total (hf h p.1) (hf h p.2) with hle | hle
   ·rw [Nat.min_eq_left hle, Nat.max_eq_right hle, e1, e2, e3]
   ·rw [Nat.min_eq_right hle, Nat.max_eq_left hle, e1, e2, e3]
  ·exact e0
theorem lab_heads {n : Nat} {L : List (Nat × Nat)} (h : ∀ p ∈ L, p.1 < n ∧ p.2 < n) : ∀ k, k ≤ L.length → Lab n (L.take k) (headsR n (L.take k)) := by
 intro k
 induction k with
 | zero => intro _; exact lab_nil n
 | succ k ih =>
  intro hk
  have h1 := h L[k] (List.getElem_mem (by omega))
  rw [List.take_succ_eq_append_getElem (by omega), headsR_snoc]
  exact (ih (by omega)).snoc (fun q hq => h q (List.mem_of_mem_take hq)) h1.1 h1.2
theorem lab_all {n : Nat} {L : List (Nat × Nat)} (h : ∀ p ∈ L, p.1 < n ∧ p.2 < n) : Lab n L (headsR n L) := by
 have := lab_heads h L.length (Nat.le_refl _)
 rwa [List.take_length] at this
def sumN : Nat → (Nat → Int) → Int
 | 0, _ => 0
 | n + 1, g => sumN n g + g n
theorem sumN_succ (n : Nat) (g : Nat → Int) : sumN (n + 1) g = sumN n g + g n := rfl
theorem sumN_add (f : Nat → Int) (j : Nat) (c : Int) : ∀ {m : Nat}, j < m → sumN m (fun k => f k + if j = k then c else 0) = sumN m f + c
 | m + 1, h => by
  rw [sumN_succ, sumN_succ]
  by_cases e : j = m
  ·subst e
   have : ∀ m, m ≤ j → sumN m (fun k => f k + if j = k then c else 0) = sumN m f := by
    intro m
    induction m with
    | zero => intro _; rfl
    | succ m ih => intro hm; rw [sumN_succ, sumN_succ, ih (by omega), if_neg (by omega)]; omega
   rw [this j (Nat.le_refl _), if_pos rfl]; omega
  ·rw [sumN_add f j c (by omega), if_neg e]; omega
theorem sumN_zero (m : Nat) : sumN m (fun _ => 0) = 0 := by
 induction m with
 | zero => rfl
 | succ m ih => unfold sumN; rw [ih]; rfl
theorem sumN_congr {f g : Nat → Int} (h : ∀ k, f k = g k) (m : Nat) : sumN m f = sumN m g := by rw [funext h]
theorem sum_by {x : Nat → Int} {P : Nat → Bool} {h : Nat → Nat} {m : Nat} : ∀ {n : Nat}, (∀ v, v < n → h v < m) → (∀ v, v < n → P (h v) = P v) → sumP n x P = sumN m fun k => if P k then sumP n x (fun v => decide (h v = k)) else 0
 | 0, _, _ => by
  rw [sumN_congr (g := fun _ => 0) (fun k => by split <;> rfl), sumN_zero]; rfl
 | n + 1, h1, h2 => by
  have ih := sum_by (x := x) (P := P) (h := h) (m := m) (n := n) (fun v hv => h1 v (by omega)) (fun v hv => h2 v (by omega))
  rw [sumN_congr (g := fun k => (if P k then sumP n x (fun v => decide (h v = k)) else 0) + if h n = k then (if P n then x n else 0) else 0) (fun k => ?_), sumN_add _ _ _ (h1 n (by omega)), ← ih]
  ·rfl
  ·have hs : sumP (n + 1) x (fun v => decide (h v = k)) = sumP n x (fun v => decide (h v = k)) + (if decide (h n = k) = true then x n else 0) := rfl
   rw [hs]
   by_cases e : h n = k
   ·subst e
    rw [if_pos rfl, h2 n (by omega)]
    cases P n <;> simp
   ·rw [if_neg e]
    have : decide (h n = k) = false := decide_eq_false e
    rw [this]
    cases P k <;> simp
theorem even_iff {n : Nat} {L : List (Nat × Nat)} {h : List Nat} {x : Nat → Int} (k : Lab n L h) : (∀ j, sumP n x (fun v => decide (hf h v = j)) = 0) ↔ Zr n L x := by
 constructor
 ·intro h0 P hP
  rw [sum_by (m := n) k.lt (k.cl P hP), sumN_congr (g := fun _ => 0) (fun j => by rw [h0 j]; split <;> rfl), sumN_zero]
 ·intro hz j
  exact hz _ fun p hp => by rw [k.one p hp]
def Forest (L : List (Nat × Nat)) : Prop := ∀ e ∈ L, ∃ P, Cl (L.erase e) P ∧ P e.1 ≠ P e.2
structure Side (L : List (Nat × Nat)) (e : Nat × Nat) (i o : Nat) (Q : Nat → Bool) : Prop where
 cl : Cl (L.erase e) Q
 inn : Q i = true
 out : Q o = false
theorem sumP_split (n : Nat) (x : Nat → Int) (P Q : Nat → Bool) : sumP n x P = sumP n x (fun v => P v && Q v) + sumP n x (fun v => P v && !Q v) := by
 induction n with
 | zero => rfl
 | succ n ih =>
  unfold sumP
  rw [ih]
  dsimp only
  by_cases hP : P n = true <;> by_cases hQ : Q n = true <;> simp [hP, hQ] <;> omega
theorem sumP_or (n : Nat) (x : Nat → Int) (P Q : Nat → Bool) : sumP n x (fun v => P v || Q v) = sumP n x P + sumP n x Q - sumP n x (fun v => P v && Q v) := by
 induction n with
 | zero => rfl
 | succ n ih =>
  unfold sumP
  rw [ih]
  dsimp only
  by_cases hP : P n = true <;> by_cases hQ : Q n = true <;> simp [hP, hQ] <;> omega
theorem sumP_not (n : Nat) (x : Nat → Int) (P : Nat → Bool) : sumP n x (fun v => !P v) = sumP n x (fun _ => true) - sumP n x P := by
 induction n with
 | zero => rfl
 | succ n ih =>
  unfold sumP
  rw [ih]
  dsimp only
  by_cases hP : P n = true <;> simp [hP] <;> omega
theorem cl_of_erase {L : List (Nat × Nat)} {e : Nat × Nat} {Q : Nat → Bool} (hn : L.Nodup) (h : Cl (L.erase e) Q) (he : e ∈ L → Q e.1 = Q e.2) : Cl L Q := fun p hp => by
 by_cases hpe : p = e
 ·subst hpe; exact he hp
 ·exact h p ((hn.mem_erase_iff).2 ⟨hpe, hp⟩)
def Ends (e : Nat × Nat) (i o : Nat) : Prop := (e.1 = i ∧ e.2 = o) ∨ (e.1 = o ∧ e.2 = i)
theorem Ends.swap {e : Nat × Nat} {i o : Nat} (h : Ends e i o) : Ends e o i := h.elim (fun h => .inr h) (fun h => .inl h)
theorem side_sum {n : Nat} {L : List (Nat × Nat)} {x : Nat → Int} (hn : L.Nodup) (hz : Zr n L x) {e : Nat × Nat} {i o : Nat} (he : Ends e i o) {Q R : Nat → Bool} (h : Side L e i o Q) (k : Side L e i o R) : sumP n x Q = sumP n x R := by
 have z1 : sumP n x (fun v => Q v && !R v) = 0 := hz _ (cl_of_erase (e := e) hn (fun p hp => by show (Q p.1 && !R p.1) = _; rw [h.cl p hp, k.cl p hp]) fun _ => by
  rcases he with ⟨a, b⟩ | ⟨a, b⟩ <;> simp [a, b, h.inn, h.out, k.inn, k.out])
 have z2 : sumP n x (fun v => R v && !Q v) = 0 := hz _ (cl_of_erase (e := e) hn (fun p hp => by show (R p.1 && !Q p.1) = _; rw [h.cl p hp, k.cl p hp]) fun _ => by
  rcases he with ⟨a, b⟩ | ⟨a, b⟩ <;> simp [a, b, h.inn, h.out, k.inn, k.out])
 have s1 := sumP_split n x Q R
 have s2 := sumP_split n x R Q
 have e3 : sumP n x (fun v => Q v && R v) = sumP n x (fun v => R v && Q v) := sumP_congr (fun _ _ => rfl) (fun v _ => Bool.and_comm _ _)
 omega
theorem Side.swap {L : List (Nat × Nat)} {e : Nat × Nat} {i o : Nat} {Q : Nat → Bool} (h : Side L e i o Q) : Side L e o i (fun v => !Q v) := ⟨fun p hp => by show (!Q p.1) = _; rw [h.cl p hp], by simp [h.out], by simp [h.inn]⟩
theorem side_of {L : List (Nat × Nat)} (hf : Forest L) {e : Nat × Nat} (he : e ∈ L) {i o : Nat} (hio : Ends e i o) : ∃ Q, Side L e i o Q := by
 obtain ⟨P, h1, h2⟩ := hf e he
 have hne : P i ≠ P o := by rcases hio with ⟨a, b⟩ | ⟨a, b⟩ <;> rw [a, b] at h2 <;> first | exact h2 | exact h2.symm
 cases hi : P i with
 | true => exact ⟨P, h1, hi, by rw [hi] at hne; simpa using hne.symm⟩
 | false => exact ⟨fun v => !P v, fun p hp => by show (!P p.1) = _; rw [h1 p hp], by simp [hi], by rw [hi] at hne; simpa using hne.symm⟩
noncomputable def amt (n : Nat) (x : Nat → Int) (L : List (Nat × Nat)) (e : Nat × Nat) : Int := @dite _ (∃ Q, Side L e e.2 e.1 Q) (Classical.propDecidable _) (fun h => sumP n x h.choose) fun _ => 0
theorem amt_side {n : Nat} {L : List (Nat × Nat)} {x : Nat → Int} (hn : L.Nodup) (hz : Zr n L x) {e : Nat × Nat} {Q : Nat → Bool} (h : Side L e e.2 e.1 Q) : amt n x L e = sumP n x Q := by
 have hex : ∃ Q, Side L e e.2 e.1 Q := ⟨Q, h⟩
 unfold amt
 rw [dif_pos hex]
 exact side_sum hn hz (.inr ⟨rfl, rfl⟩) hex.choose_spec h
theorem amt_swap {n : Nat} {L : List (Nat × Nat)} {x : Nat → Int} (hn : L.Nodup) (hz : Zr n L x) {e : Nat × Nat} {Q : Nat → Bool} (h : Side L e e.1 e.2 Q) : amt n x L e = - sumP n x Q := by
 rw [amt_side hn hz h.swap, sumP_not, hz (fun _ => true) (fun _ _ => rfl)]; omega
noncomputable def payE (ids : List Int) (x : Nat → Int) (L : List (Nat × Nat)) (e : Nat × Nat) : Pay :=
 if amt ids.length x L e < 0 then ⟨ids.getD e.2 0, ids.getD e.1 0, - amt ids.length x L e⟩ else ⟨ids.getD e.1 0, ids.getD e.2 0, amt ids.length x L e⟩
theorem payE_side {ids : List Int} {L : List (Nat × Nat)} {x : Nat → Int} (hn : L.Nodup) (hz : Zr ids.length L x) {e : Nat × Nat} {i : Nat} (hi : inc i e = true) {Q : Nat → Bool} (h : Side L e i (oth e i) Q) (h0 : sumP ids.length x Q ≠ 0) : payE ids x L e = payX ids i (oth e i) (sumP ids.length x Q) := by
 unfold payE payX
 rcases inc_iff.1 hi with h1 | h1
 ·have h2 : oth e i = e.2 := by unfold oth; omega
  rw [h2] at h ⊢
  subst h1
  rw [amt_swap hn hz h]
  by_cases hc : 0 < sumP ids.length x Q
  ·rw [if_pos hc, if_pos (by omega), Int.neg_neg]
  ·rw [if_neg hc, if_neg (by omega)]
 ·have h2 : oth e i = e.1 := by unfold oth; omega
  rw [h2] at h ⊢
  subst h1
  rw [amt_side hn hz h]
  by_cases hc : 0 < sumP ids.length x Q
  ·rw [if_pos hc, if_neg (by omega)]
  ·rw [if_neg hc, if_pos (by omega)]
def behS (at_ fr : Nat) (b : Nat → Int) (n : Int) (p : Nat × Nat) : Int :=
 (fun n1 : Int => if p.2 = at_ ∧ p.1 ≠ fr then n1 + b p.1 else n1) (if p.1 = at_ ∧ p.2 ≠ fr then n + b p.2 else n)
def behR (x : Nat → Int) (L : List (Nat × Nat)) : Nat → Nat → Nat → Int
 | 0, _, _ => 0
 | m + 1, a, fr => L.foldl (behS a fr fun b => behR x L m b a) (x a)
structure Good (n : Nat) (L : List (Nat × Nat)) (m a fr : Nat) : Prop where
 go : ∃ e ∈ L, Ends e a fr ∧ ∃ P, Side L e a fr P ∧ cnt n P ≤ m
def Ord (L : List (Nat × Nat)) : Prop := ∀ p ∈ L, p.1 < p.2
theorem ends_uniq {L : List (Nat × Nat)} (ho : Ord L) {p e : Nat × Nat} (hp : p ∈ L) (he : e ∈ L) {a b : Nat} (h1 : Ends p a b) (h2 : Ends e a b) : p = e := by
 have := ho p hp
 have := ho e he
 obtain ⟨p1, p2⟩ := p
 obtain ⟨e1, e2⟩ := e
 unfold Ends at h1 h2
 simp only [Prod.mk.injEq] at *
 rcases h1 with ⟨r1, r2⟩ | ⟨r1, r2⟩ <;> rcases h2 with ⟨r3, r4⟩ | ⟨r3, r4⟩ <;> omega
theorem cnt_pos {P : Nat → Bool} {t : Nat} (h : P t = true) : ∀ {n : Nat}, t < n → 0 < cnt n P
 | n + 1, ht => by
  unfold cnt
  by_cases e : t = n
  ·subst e; rw [if_pos h]; omega
  ·have := cnt_pos h (n := n) (by omega); omega
theorem good_pos {n : Nat} {L : List (Nat × Nat)} (hok : Ok n L) {m a fr : Nat} (h : Good n L m a fr) : 0 < m ∧ a < n ∧ fr < n := by
 obtain ⟨e, he, hio, P, hs, hc⟩ := h.go
 obtain ⟨h1, h2, _⟩ := hok.lt e he
 have ha : a < n ∧ fr < n := by rcases hio with ⟨r1, r2⟩ | ⟨r1, r2⟩ <;> omega
 have := cnt_pos hs.inn ha.1
 exact ⟨by omega, ha⟩
theorem good_step {n : Nat} {L : List (Nat × Nat)} (hok : Ok n L) (ho : Ord L) (hf : Forest L) {m a fr : Nat} (h : Good n L (m + 1) a fr) {p : Nat × Nat} (hp : p ∈ L) {b : Nat} (hpb : Ends p a b) (hb : b ≠ fr) : Good n L m b a := by
 have h0 := good_pos hok h
 obtain ⟨e, he, hio, P, hs, hc⟩ := h.go
 have hpe : p ≠ e := fun heq => by
  subst heq
  have := ho p hp
  rcases hpb with ⟨r1, r2⟩ | ⟨r1, r2⟩ <;> rcases hio with ⟨r3, r4⟩ | ⟨r3, r4⟩ <;> omega
 obtain ⟨Q, hQ⟩ := side_of hf hp hpb.swap
 have hPp : P p.1 = P p.2 := hs.cl p ((hok.nd.mem_erase_iff).2 ⟨hpe, hp⟩)
 have hPb : P b = true := by rcases hpb with ⟨r1, r2⟩ | ⟨r1, r2⟩ <;> rw [r1, r2] at hPp <;> (rw [← hs.inn]; first | exact hPp | exact hPp.symm)
 have hQe : Q e.1 = Q e.2 := hQ.cl e ((hok.nd.mem_erase_iff).2 ⟨fun h => hpe h.symm, he⟩)
 have hQfr : Q fr = false := by rcases hio with ⟨r1, r2⟩ | ⟨r1, r2⟩ <;> rw [r1, r2] at hQe <;> (rw [← hQ.out]; first | exact hQe | exact hQe.symm)
 refine ⟨p, hp, hpb.swap, fun v => P v && Q v, ⟨fun q hq => ?_, by simp [hPb, hQ.inn], by simp [hQ.out]⟩, ?_⟩
 ·have hq' := (hok.nd.mem_erase_iff).1 hq
  show (P q.1 && Q q.1) = (P q.2 && Q q.2)
  by_cases hqe : q = e
  ·subst hqe
   rcases hio with ⟨r1, r2⟩ | ⟨r1, r2⟩ <;> simp [r1, r2, hs.out, hQ.out, hQfr]
  ·rw [hQ.cl q hq, hs.cl q ((hok.nd.mem_erase_iff).2 ⟨hqe, hq'.2⟩)]
 ·have := cnt_lt (P := P) (Q := fun v => P v && Q v) (t := a) (fun v h => by simp at h; exact h.1) hs.inn (by simp [hQ.out]) (n := n) h0.2.1
  omega
theorem sumP_none (n : Nat) (x : Nat → Int) : sumP n x (fun _ => false) = 0 := by
 induction n with
 | zero => rfl
 | succ n ih => unfold sumP; rw [ih]; rfl
theorem beh_sum {n : Nat} {x : Nat → Int} {L : List (Nat × Nat)} (hok : Ok n L) (ho : Ord L) (hf : Forest L) (hz : Zr n L x) : ∀ (m a fr : Nat) (e : Nat × Nat), e ∈ L → Ends e a fr → Good n L m a fr → ∃ Q, Side L e a fr Q ∧ behR x L m a fr = sumP n x Q := by
 intro m
 induction m with
 | zero => intro a fr e _ _ hg; exact absurd (good_pos hok hg).1 (Nat.lt_irrefl _)
 | succ m ih =>
  intro a fr e he hio hg
  obtain ⟨_, han, hfn⟩ := good_pos hok hg
  have haf : a ≠ fr := by
   have := (hok.lt e he).2.2
   rcases hio with ⟨r1, r2⟩ | ⟨r1, r2⟩ <;> omega
  have key : ∀ (L2 L1 : List (Nat × Nat)) (U : Nat → Bool), L = L1 ++ L2 → U a = true → U fr = false → (∀ p ∈ L, inc a p = false → U p.1 = U p.2) → (∀ p ∈ L1, p ≠ e → inc a p = true → U p.1 = U p.2) → (∀ p ∈ L2, p ≠ e → ∀ c, Ends p a c → U c = false) →
    ∃ Q, Side L e a fr Q ∧ L2.foldl (behS a fr fun b => behR x L m b a) (sumP n x U) = sumP n x Q := by
   intro L2
   induction L2 with
   | nil =>
    intro L1 U hL ha hfr hB hC _
    rw [List.append_nil] at hL
    subst hL
    refine ⟨U, ⟨fun p hp => ?_, ha, hfr⟩, rfl⟩
    have hp' := (hok.nd.mem_erase_iff).1 hp
    cases hi : inc a p with
    | true => exact hC p hp'.2 hp'.1 hi
    | false => exact hB p hp'.2 hi
   | cons p L2 ih2 =>
    intro L1 U hL ha hfr hB hC hD
    have hpL : p ∈ L := by rw [hL]; simp
    have hL' : L = (L1 ++ [p]) ++ L2 := by rw [hL]; simp
    rw [List.foldl_cons]
    have hsub2 : ∀ q ∈ L2, q ∈ L ∧ q ≠ p := fun q hq => ⟨by rw [hL]; simp [hq], fun h => by
     have := hok.nd
     rw [hL, List.nodup_append] at this
     have h2 := this.2.1
     rw [List.nodup_cons] at h2
     exact h2.1 (h ▸ hq)⟩
    -- a step by an edge from a to b
    have go : ∀ b, Ends p a b → b ≠ fr → ∃ Q, Side L e a fr Q ∧ L2.foldl (behS a fr fun b => behR x L m b a) (sumP n x U + behR x L m b a) = sumP n x Q := by
     intro b hpb hb
     have hpe : p ≠ e := fun heq => by
      subst heq
      rcases hpb with ⟨r1, r2⟩ | ⟨r1, r2⟩ <;> rcases hio with ⟨r3, r4⟩ | ⟨r3, r4⟩ <;> omega
     obtain ⟨Q, hQ, hbq⟩ := ih b a p hpL hpb.swap (good_step hok ho hf hg hpL hpb hb)
     have hQc : ∀ q ∈ L, q ≠ p → ∀ c, Ends q a c → Q c = false := fun q hq hne c hc => by
      have := hQ.cl q ((hok.nd.mem_erase_iff).2 ⟨hne, hq⟩)
      rcases hc with ⟨r1, r2⟩ | ⟨r1, r2⟩ <;> rw [r1, r2] at this <;> (rw [← hQ.out]; first | exact this | exact this.symm)
     have hUb : U b = false := hD p (by simp) hpe b hpb
     have hR : sumP n x (fun v => U v && Q v) = 0 := hz _ fun q hq => by
      show (U q.1 && Q q.1) = (U q.2 && Q q.2)
      cases hi : inc a q with
      | false =>
       have hqp : q ≠ p := fun h => by subst h; rcases hpb with ⟨r1, r2⟩ | ⟨r1, r2⟩ <;> simp [inc, r1, r2] at hi
       rw [hB q hq hi, hQ.cl q ((hok.nd.mem_erase_iff).2 ⟨hqp, hq⟩)]
      | true =>
       by_cases hqp : q = p
       ·subst hqp
        rcases hpb with ⟨r1, r2⟩ | ⟨r1, r2⟩ <;> simp [r1, r2, hUb, hQ.out]
       ·rcases inc_iff.1 hi with r | r
        ·have := hQc q hq hqp q.2 (.inl ⟨r, rfl⟩)
         simp [r, this, hQ.out]
        ·have := hQc q hq hqp q.1 (.inr ⟨rfl, r⟩)
         simp [r, this, hQ.out]
     have hs : sumP n x U + behR x L m b a = sumP n x (fun v => U v || Q v) := by rw [sumP_or, hR, hbq]; omega
     rw [hs]
     refine ih2 (L1 ++ [p]) _ hL' (by simp [ha]) (by simp [hfr, hQc e he (fun h => hpe h.symm) fr hio]) (fun q hq hi => ?_) (fun q hq hne hi => ?_) (fun q hq hne c hc => ?_)
     ·show (U q.1 || Q q.1) = (U q.2 || Q q.2)
      have hqp : q ≠ p := fun h => by subst h; rcases hpb with ⟨r1, r2⟩ | ⟨r1, r2⟩ <;> simp [inc, r1, r2] at hi
      rw [hB q hq hi, hQ.cl q ((hok.nd.mem_erase_iff).2 ⟨hqp, hq⟩)]
     ·show (U q.1 || Q q.1) = (U q.2 || Q q.2)
      rcases List.mem_append.1 hq with hq | hq
      ·have := hC q hq hne hi
       rcases inc_iff.1 hi with r | r
       ·rw [r, ha] at this; simp [r, ha, ← this]
       ·rw [r, ha] at this; simp [r, ha, this]
      ·have : q = p := by simpa using hq
       subst this
       rcases hpb with ⟨r1, r2⟩ | ⟨r1, r2⟩ <;> simp [r1, r2, ha, hQ.inn]
     ·simp [hD q (by simp [hq]) hne c hc, hQc q (hsub2 q hq).1 (hsub2 q hq).2 c hc]
    have stay : (∀ b, Ends p a b → b = fr) → ∃ Q, Side L e a fr Q ∧ L2.foldl (behS a fr fun b => behR x L m b a) (sumP n x U) = sumP n x Q := by
     intro hall
     refine ih2 (L1 ++ [p]) U hL' ha hfr hB (fun q hq hne hi => ?_) (fun q hq hne c hc => hD q (by simp [hq]) hne c hc)
     rcases List.mem_append.1 hq with hq | hq
     ·exact hC q hq hne hi
     ·have : q = p := by simpa using hq
      subst this
      exfalso
      rcases inc_iff.1 hi with r | r
      ·have h1 := hall q.2 (.inl ⟨r, rfl⟩)
       exact hne (ends_uniq ho hpL he (.inl ⟨r, h1⟩) hio)
      ·have h1 := hall q.1 (.inr ⟨rfl, r⟩)
       exact hne (ends_uniq ho hpL he (.inr ⟨h1, r⟩) hio)
    have hlt := (hok.lt p hpL).2.2
    unfold behS
    by_cases c1 : p.1 = a ∧ p.2 ≠ fr
    ·rw [if_pos c1]
     dsimp only
     rw [if_neg (fun h => hlt (c1.1.trans h.1.symm))]
     exact go p.2 (.inl ⟨c1.1, rfl⟩) c1.2
    ·rw [if_neg c1]
     dsimp only
     by_cases c2 : p.2 = a ∧ p.1 ≠ fr
     ·rw [if_pos c2]
      exact go p.1 (.inr ⟨rfl, c2.1⟩) c2.2
     ·rw [if_neg c2]
      refine stay fun b hb => ?_
      rcases hb with ⟨r1, r2⟩ | ⟨r1, r2⟩
      ·exact Classical.not_not.1 fun h => c1 ⟨r1, by rw [r2]; exact h⟩
      ·exact Classical.not_not.1 fun h => c2 ⟨r2, by rw [r1]; exact h⟩
  have hU := key L [] (flip (fun _ => false) a true) rfl (by simp [flip]) (by unfold flip; rw [if_neg (fun h => haf h.symm)]) (fun p hp hi => by
   have h1 : p.1 ≠ a := fun h => by simp [inc, h] at hi
   have h2 : p.2 ≠ a := fun h => by simp [inc, h] at hi
   unfold flip; rw [if_neg h1, if_neg h2]) (fun p hp => by cases hp) (fun p hp hne c hc => by
   have := (hok.lt p hp).2.2
   unfold flip
   rw [if_neg]
   rcases hc with ⟨r1, r2⟩ | ⟨r1, r2⟩ <;> omega)
  rw [sumP_flip han, sumP_none] at hU
  simpa [behR] using hU
theorem beh_amt {n : Nat} {x : Nat → Int} {L : List (Nat × Nat)} (hok : Ok n L) (ho : Ord L) (hf : Forest L) (hz : Zr n L x) {e : Nat × Nat} (he : e ∈ L) : behR x L n e.2 e.1 = amt n x L e := by
 have hE : Ends e e.2 e.1 := .inr ⟨rfl, rfl⟩
 obtain ⟨P, hP⟩ := side_of hf he hE
 obtain ⟨Q, h1, h2⟩ := beh_sum hok ho hf hz n e.2 e.1 e he hE ⟨e, he, hE, P, hP, cnt_le _ _⟩
 rw [h2, amt_side hok.nd hz h1]
def SortedP (l : List Pay) : Prop := l.Pairwise fun a b => payLt b a = false
theorem payLt_iff {a b : Pay} : payLt a b = true ↔ a.a < b.a ∨ (a.a = b.a ∧ (a.b < b.b ∨ (a.b = b.b ∧ a.p < b.p))) := by
 unfold payLt
 by_cases h1 : a.a = b.a
 ·by_cases h2 : a.b = b.b
  ·simp [h1, h2]
  ·simp [h1, h2]
 ·simp [h1]
theorem payLt_no {a b : Pay} : payLt a b = false ↔ b.a < a.a ∨ (a.a = b.a ∧ (b.b < a.b ∨ (a.b = b.b ∧ b.p ≤ a.p))) := by
 rw [← Bool.not_eq_true, payLt_iff]
 omega
theorem payLt_anti {a b : Pay} (h : payLt a b = false) (k : payLt b a = false) : a = b := by
 rw [payLt_no] at h k
 obtain ⟨a1, a2, a3⟩ := a
 obtain ⟨b1, b2, b3⟩ := b
 simp only [Pay.mk.injEq] at *
 omega
theorem sorted_uniq : ∀ {l l' : List Pay}, SortedP l → SortedP l' → l.Perm l' → l = l'
 | [], l', _, _, p => p.nil_eq
 | a :: t, l', h, h', p => by
  obtain ⟨h1, h2⟩ := List.pairwise_cons.1 h
  match l', p with
  | [], p => exact absurd p.length_eq (by simp)
  | b :: t', p =>
   obtain ⟨h3, h4⟩ := List.pairwise_cons.1 h'
   have hab : a = b := by
    have ha : a ∈ b :: t' := p.mem_iff.1 (by simp)
    have hb : b ∈ a :: t := p.mem_iff.2 (by simp)
    rcases List.mem_cons.1 ha with e | ha
    ·exact e
    ·rcases List.mem_cons.1 hb with e | hb
     ·exact e.symm
     ·exact payLt_anti (h3 a ha |> fun q => by simpa using q) (by simpa using h1 b hb) |>.symm ▸ rfl
   subst hab
   rw [sorted_uniq h2 h4 ((List.perm_cons a).1 p)]
theorem addP_perm (l : List Pay) (x : Pay) : (addP l x).Perm (x :: l) := by
 unfold addP
 rw [List.append_assoc]
 refine (List.perm_append_comm_assoc _ _ _).trans ?_
 simp
theorem takeWhile_split (q : Pay → Bool) : ∀ l : List Pay, l.take (l.takeWhile q).length = l.takeWhile q ∧ l.drop (l.takeWhile q).length = l.dropWhile q
 | [] => ⟨rfl, rfl⟩
 | a :: t => by
  have ih := takeWhile_split q t
  cases h : q a with
  | true => simp [h, ih.1, ih.2]
  | false => simp [h]
theorem dropWhile_head {q : Pay → Bool} : ∀ {l : List Pay} {b : Pay} {t : List Pay}, l.dropWhile q = b :: t → q b = false
 | [], _, _, h => by cases h
 | a :: l, b, t, h => by
  cases ha : q a with
  | true => rw [List.dropWhile_cons_of_pos ha] at h; exact dropWhile_head h
  | false => rw [List.dropWhile_cons_of_neg (by simp [ha])] at h; injection h with h1 h2; rw [← h1]; exact ha
theorem addP_sorted {l : List Pay} {x : Pay} (h : SortedP l) : SortedP (addP l x) := by
 unfold addP atP
 obtain ⟨e1, e2⟩ := takeWhile_split (fun y => payLt y x) l
 rw [e1, e2, List.append_assoc]
 have hl : l = l.takeWhile (fun y => payLt y x) ++ l.dropWhile (fun y => payLt y x) := (List.takeWhile_append_dropWhile).symm
 have h' : SortedP (l.takeWhile (fun y => payLt y x) ++ l.dropWhile (fun y => payLt y x)) := by rw [← hl]; exact h
 obtain ⟨k1, k2, k3⟩ := List.pairwise_append.1 h'
 have hx : ∀ b ∈ l.dropWhile (fun y => payLt y x), payLt b x = false := fun b hb => by
  cases hd : l.dropWhile (fun y => payLt y x) with
  | nil => rw [hd] at hb; cases hb
  | cons c t =>
   have hc := dropWhile_head hd
   rw [hd] at hb k2
   rcases List.mem_cons.1 hb with rfl | hb
   ·exact hc
   ·have := (List.pairwise_cons.1 k2).1 b hb
    rw [payLt_no] at hc this ⊢
    omega
 refine List.pairwise_append.2 ⟨k1, List.pairwise_cons.2 ⟨hx, k2⟩, fun a ha b hb => ?_⟩
 have ha' : payLt a x = true := by
  have := List.all_takeWhile (p := fun y => payLt y x) (l := l)
  exact List.all_eq_true.1 this a ha
 rcases List.mem_cons.1 hb with rfl | hb
 ·rw [payLt_iff] at ha'
  rw [payLt_no]; omega
 ·exact k3 a ha b hb
theorem Forest.sub {L S : List (Nat × Nat)} (h : Forest L) (hL : L.Nodup) (hn : S.Nodup) (hs : ∀ p ∈ S, p ∈ L) : Forest S := fun e he => by
 obtain ⟨P, h1, h2⟩ := h e (hs e he)
 exact ⟨P, fun p hp => h1 p (by
  have := (hn.mem_erase_iff).1 hp
  exact (hL.mem_erase_iff).2 ⟨this.1, hs p this.2⟩), h2⟩
theorem forest_back {n : Nat} {L : List (Nat × Nat)} (hok : Ok n L) {i : Nat} {e : Nat × Nat} (hl : Leaf L i e) (h : Forest (L.erase e)) : Forest L := fun e' he' => by
 obtain ⟨he, hi, hu⟩ := hl
 obtain ⟨_, hne, hin, _⟩ := oth_spec hok he hi
 have noi : ∀ p ∈ L, p ≠ e → p.1 ≠ i ∧ p.2 ≠ i := fun p hp hpe => by
  have : inc i p ≠ true := fun h => hpe (hu p hp h)
  exact ⟨fun h => this (by simp [inc, h]), fun h => this (by simp [inc, h])⟩
 by_cases hee : e' = e
 ·subst hee
  refine ⟨flip (fun _ => false) i true, fun p hp => ?_, ?_⟩
  ·have hp' := (hok.nd.mem_erase_iff).1 hp
   obtain ⟨a, b⟩ := noi p hp'.2 hp'.1
   unfold flip; rw [if_neg a, if_neg b]
  ·have := (hok.lt e' he).2.2
   rcases inc_iff.1 hi with r | r
   ·unfold flip; rw [if_pos r, if_neg (fun h => this (r.trans h.symm))]; simp
   ·unfold flip; rw [if_pos r, if_neg (fun h => this (h.trans r.symm))]; simp
 ·obtain ⟨P, h1, h2⟩ := h e' ((hok.nd.mem_erase_iff).2 ⟨hee, he'⟩)
  have hl' : Leaf (L.erase e') i e := ⟨(hok.nd.mem_erase_iff).2 ⟨fun h => hee h.symm, he⟩, hi, fun p hp h => hu p (List.mem_of_mem_erase hp) h⟩
  refine ⟨_, cl_flip (hok.erase e') hl' (P := P) (by rw [erase_erase]; exact h1), ?_⟩
  obtain ⟨a, b⟩ := noi e' he' hee
  unfold flip; rw [if_neg a, if_neg b]; exact h2
theorem Forest.leaf {n : Nat} {L : List (Nat × Nat)} (hok : Ok n L) (hf : Forest L) (hne : L ≠ []) : ∃ i e, i < n ∧ Leaf L i e := by
 obtain ⟨e, he⟩ := List.exists_mem_of_ne_nil L hne
 obtain ⟨P, h1, h2⟩ := hf e he
 exact leaf_of_bridges hok hf _ e P he h1 h2 rfl
theorem treeGo_forest {ids : List Int} : ∀ {m : Nat} {L : List (Nat × Nat)} {left : List Int} {out : List Pay} {r : List Int × List Pay}, L.length = m → Ok ids.length L → treeGo ids m L left out = some r → Forest L
 | 0, L, _, _, _, hl, _, _ => fun e he => by rw [List.eq_nil_of_length_eq_zero hl] at he; cases he
 | m + 1, L, left, out, r, hl, hok, h => by
  unfold treeGo at h
  split at h
  ·cases h
  ·rename_i i e hf
   split at h
   ·cases h
   ·obtain ⟨hi, hle⟩ := findLeaf_some hf
    exact forest_back hok hle (treeGo_forest (by rw [List.length_erase_of_mem hle.1]; omega) (hok.erase e) h)
structure TI (ids : List Int) (x : Nat → Int) (L0 L : List (Nat × Nat)) (left : List Int) : Prop where
 ok : Ok ids.length L
 sub : ∀ p ∈ L, p ∈ L0
 len : left.length = ids.length
 zr : Zr ids.length L (lf left)
 inv : ∀ e ∈ L, ∀ Q, Cl (L0.erase e) Q → sumP ids.length (lf left) Q = sumP ids.length x Q
theorem TI.step {ids : List Int} {x : Nat → Int} {L0 L : List (Nat × Nat)} {left : List Int} (hn : L0.Nodup) (h : TI ids x L0 L left) {i : Nat} {e : Nat × Nat} (hl : Leaf L i e) : TI ids x L0 (L.erase e) (mvL left i (oth e i)) := by
 obtain ⟨hon, hne, hin, _⟩ := oth_spec h.ok hl.1 hl.2.1
 have hz := step_zr h.ok h.zr hl
 refine ⟨h.ok.erase e, fun p hp => h.sub p (List.mem_of_mem_erase hp), by rw [mvL_len, h.len], by rw [lf_mvL (by rw [h.len]; exact hin) (by rw [h.len]; exact hon)]; exact hz, fun e' he' Q hQ => ?_⟩
 have he2 := (h.ok.nd.mem_erase_iff).1 he'
 have hQe : Q i = Q (oth e i) := cl_inc (L := L) hl.2.1 (hQ e ((hn.mem_erase_iff).2 ⟨fun h => he2.1 h.symm, h.sub e hl.1⟩))
 rw [lf_mvL (by rw [h.len]; exact hin) (by rw [h.len]; exact hon), sumP_mv hin hon hne hQe]
 exact h.inv e' he2.2 Q hQ
theorem TI.left {ids : List Int} {x : Nat → Int} {L0 L : List (Nat × Nat)} {left : List Int} (hn : L0.Nodup) (h : TI ids x L0 L left) {i : Nat} {e : Nat × Nat} (hl : Leaf L i e) {Q : Nat → Bool} (hQ : Side L0 e i (oth e i) Q) : left.getD i 0 = sumP ids.length x Q := by
 obtain ⟨hon, hne, hin, _⟩ := oth_spec h.ok hl.1 hl.2.1
 have h1 := h.zr (flip Q i false) fun p hp => by
  by_cases hpe : p = e
  ·subst hpe
   rcases inc_iff.1 hl.2.1 with r | r
   ·have : p.2 = oth p i := by unfold oth; omega
    unfold flip; rw [if_pos r, this, if_neg (fun h => hne h.symm), hQ.out]
   ·have : p.1 = oth p i := by unfold oth; omega
    unfold flip; rw [if_pos r, this, if_neg (fun h => hne h.symm), hQ.out]
  ·have : inc i p ≠ true := fun h => hpe (hl.2.2 p hp h)
   unfold flip
   rw [if_neg (fun h => this (by simp [inc, h])), if_neg (fun h => this (by simp [inc, h]))]
   exact hQ.cl p ((hn.mem_erase_iff).2 ⟨hpe, h.sub p hp⟩)
 rw [sumP_flip hin, h.inv e hl.1 Q hQ.cl] at h1
 simp [hQ.inn, lf] at h1 ⊢
 omega
theorem inc_ends {e : Nat × Nat} {i : Nat} (h : inc i e = true) : Ends e i (oth e i) := by
 rcases inc_iff.1 h with r | r
 ·exact .inl ⟨r, by unfold oth; omega⟩
 ·exact .inr ⟨by unfold oth; omega, r⟩
theorem amt_zero {n : Nat} {L : List (Nat × Nat)} {x : Nat → Int} (hn : L.Nodup) (hz : Zr n L x) {e : Nat × Nat} {i : Nat} (hi : inc i e = true) {Q : Nat → Bool} (h : Side L e i (oth e i) Q) : amt n x L e = 0 ↔ sumP n x Q = 0 := by
 rcases inc_iff.1 hi with h1 | h1
 ·have h2 : oth e i = e.2 := by unfold oth; omega
  rw [h2] at h; subst h1
  rw [amt_swap hn hz h]; omega
 ·have h2 : oth e i = e.1 := by unfold oth; omega
  rw [h2] at h; subst h1
  rw [amt_side hn hz h]
theorem treeGo_out {ids : List Int} {x : Nat → Int} {L0 : List (Nat × Nat)} (hn : L0.Nodup) (hf : Forest L0) (hz : Zr ids.length L0 x) : ∀ {m : Nat} {L : List (Nat × Nat)} {left : List Int} {out : List Pay} {r : List Int × List Pay}, L.length = m → TI ids x L0 L left → SortedP out → treeGo ids m L left out = some r →
  (∀ e ∈ L, amt ids.length x L0 e ≠ 0) ∧ SortedP r.2 ∧ r.2.Perm (out ++ L.map (payE ids x L0))
 | 0, L, left, out, r, hl, h, hs, hr => by
  have : L = [] := List.eq_nil_of_length_eq_zero hl
  subst this
  simp [treeGo] at hr
  subst hr
  exact ⟨fun _ h => (by cases h), hs, by simp⟩
 | m + 1, L, left, out, r, hl, h, hs, hr => by
  unfold treeGo at hr
  split at hr
  ·cases hr
  ·rename_i i e hfl
   split at hr
   ·cases hr
   ·rename_i hne
    obtain ⟨hi, hle⟩ := findLeaf_some hfl
    obtain ⟨Q, hQ⟩ := side_of hf (h.sub e hle.1) (inc_ends hle.2.1)
    have hlv := h.left hn hle hQ
    obtain ⟨k1, k2, k3⟩ := treeGo_out hn hf hz (by rw [List.length_erase_of_mem hle.1]; omega) (h.step hn hle) (addP_sorted hs) hr
    have hx : sumP ids.length x Q ≠ 0 := by rw [← hlv]; exact hne
    have hpe := payE_side hn hz hle.2.1 hQ hx
    refine ⟨fun e' he' => ?_, k2, ?_⟩
    ·by_cases hee : e' = e
     ·subst hee; exact fun h => hx ((amt_zero hn hz hle.2.1 hQ).1 h)
     ·exact k1 e' ((h.ok.nd.mem_erase_iff).2 ⟨hee, he'⟩)
    ·refine k3.trans ?_
     rw [hlv, ← hpe]
     refine ((addP_perm out _).append_right _).trans ?_
     have h1 : (L.map (payE ids x L0)).Perm (payE ids x L0 e :: (L.erase e).map (payE ids x L0)) := (List.perm_cons_erase hle.1).map _
     refine List.Perm.trans ?_ (h1.symm.append_left out)
     rw [List.cons_append]
     exact List.perm_middle.symm
theorem treeGo_some {ids : List Int} {x : Nat → Int} {L0 : List (Nat × Nat)} (hn : L0.Nodup) (hf : Forest L0) (hz : Zr ids.length L0 x) : ∀ {m : Nat} {L : List (Nat × Nat)} {left : List Int} {out : List Pay}, L.length = m → TI ids x L0 L left → (∀ e ∈ L, amt ids.length x L0 e ≠ 0) → ∃ r, treeGo ids m L left out = some r ∧ ∀ v, v < ids.length → lf r.1 v = 0
 | 0, L, left, out, hl, h, _ => by
  have : L = [] := List.eq_nil_of_length_eq_zero hl
  subst this
  exact ⟨(left, out), rfl, zr_nil h.zr⟩
 | m + 1, L, left, out, hl, h, hm => by
  obtain ⟨i0, e0, hi0, hl0⟩ := (hf.sub hn h.ok.nd h.sub).leaf h.ok (by intro h; rw [h] at hl; simp at hl)
  obtain ⟨⟨i, e⟩, hfl⟩ := findLeaf_of h.ok.nd hi0 hl0
  obtain ⟨hi, hle⟩ := findLeaf_some hfl
  obtain ⟨Q, hQ⟩ := side_of hf (h.sub e hle.1) (inc_ends hle.2.1)
  have hlv := h.left hn hle hQ
  have hx : left.getD i 0 ≠ 0 := by rw [hlv]; exact fun h => hm e hle.1 ((amt_zero hn hz hle.2.1 hQ).2 h)
  unfold treeGo
  rw [hfl]
  dsimp only
  rw [if_neg hx]
  exact treeGo_some hn hf hz (by rw [List.length_erase_of_mem hle.1]; omega) (h.step hn hle) fun e' he' => hm e' (List.mem_of_mem_erase he')
theorem treeR_iff {ids : List Int} {L : List (Nat × Nat)} {owed : List Int} {out : List Pay} (hok : Ok ids.length L) (hlen : owed.length = ids.length) :
  treeR ids L owed = some out ↔ Forest L ∧ Zr ids.length L (lf owed) ∧ (∀ e ∈ L, amt ids.length (lf owed) L e ≠ 0) ∧ SortedP out ∧ out.Perm (L.map (payE ids (lf owed) L)) := by
 have ti : Zr ids.length L (lf owed) → TI ids (lf owed) L L owed := fun hz => ⟨hok, fun _ h => h, hlen, hz, fun _ _ _ _ => rfl⟩
 constructor
 ·intro h
  have hz := treeR_zr hok hlen h
  unfold treeR at h
  split at h
  ·rename_i r hr
   split at h
   ·have hf := treeGo_forest rfl hok hr
    obtain ⟨k1, k2, k3⟩ := treeGo_out hok.nd hf hz rfl (ti hz) List.Pairwise.nil hr
    injection h with h
    subst h
    exact ⟨hf, hz, k1, k2, by simpa using k3⟩
   ·cases h
  ·cases h
 ·rintro ⟨hf, hz, hm, hs, hp⟩
  obtain ⟨r, hr, h0⟩ := treeGo_some (out := []) hok.nd hf hz rfl (ti hz) hm
  obtain ⟨_, k2, k3⟩ := treeGo_out hok.nd hf hz rfl (ti hz) List.Pairwise.nil hr
  unfold treeR
  rw [hr]
  dsimp only
  rw [if_pos (all_zero.2 (by rw [treeGo_len hr, hlen]; exact h0))]
  exact congrArg some (sorted_uniq k2 hs ((by simpa using k3 : r.2.Perm _).trans hp.symm))
theorem forest_snoc {L : List (Nat × Nat)} {p : Nat × Nat} (hn : (L ++ [p]).Nodup) : Forest (L ++ [p]) ↔ Forest L ∧ ∃ R, Cl L R ∧ R p.1 ≠ R p.2 := by
 have hnL : L.Nodup := (List.nodup_append.1 hn).1
 have hpL : p ∉ L := fun h => (List.nodup_append.1 hn).2.2 p h p (by simp) rfl
 have her : (L ++ [p]).erase p = L := by rw [List.erase_append_right _ hpL]; simp
 constructor
 ·intro h
  refine ⟨h.sub hn hnL fun q hq => by simp [hq], ?_⟩
  obtain ⟨P, h1, h2⟩ := h p (by simp)
  rw [her] at h1
  exact ⟨P, h1, h2⟩
 ·rintro ⟨h, R, hR1, hR2⟩ e he
  rcases List.mem_append.1 he with he | he
  ·obtain ⟨P, h1, h2⟩ := h e he
   have hpe : p ≠ e := fun h => hpL (h ▸ he)
   have her2 : ∀ q ∈ (L ++ [p]).erase e, q ∈ L.erase e ∨ q = p := fun q hq => by
    have := (hn.mem_erase_iff).1 hq
    rcases List.mem_append.1 this.2 with h | h
    ·exact .inl ((hnL.mem_erase_iff).2 ⟨this.1, h⟩)
    ·exact .inr (by simpa using h)
   by_cases hPp : P p.1 = P p.2
   ·refine ⟨P, fun q hq => ?_, h2⟩
    rcases her2 q hq with h | rfl
    ·exact h1 q h
    ·exact hPp
   ·refine ⟨fun v => P v ^^ R v, fun q hq => ?_, ?_⟩
    ·rcases her2 q hq with h | rfl
     ·show (P q.1 ^^ R q.1) = (P q.2 ^^ R q.2)
      rw [h1 q h, hR1 q (List.mem_of_mem_erase h)]
     ·show (P q.1 ^^ R q.1) = (P q.2 ^^ R q.2)
      revert hPp hR2
      cases P q.1 <;> cases P q.2 <;> cases R q.1 <;> cases R q.2 <;> simp
    ·show (P e.1 ^^ R e.1) ≠ (P e.2 ^^ R e.2)
     rw [hR1 e he]
     revert h2
     cases P e.1 <;> cases P e.2 <;> cases R e.2 <;> simp
  ·have : e = p := by simpa using he
   subst this
   rw [her]
   exact ⟨R, hR1, hR2⟩
theorem lab_apart {n : Nat} {L : List (Nat × Nat)} {h : List Nat} (k : Lab n L h) {a b : Nat} (ha : a < n) (hb : b < n) : hf h a ≠ hf h b ↔ ∃ R, Cl L R ∧ R a ≠ R b := by
 constructor
 ·intro hne
  exact ⟨fun v => decide (hf h v = hf h a), fun p hp => by show decide (hf h p.1 = _) = decide (hf h p.2 = _); rw [k.one p hp], by simpa using fun e => hne e.symm⟩
 ·rintro ⟨R, h1, h2⟩ e
  exact h2 (by rw [← k.cl R h1 a ha, ← k.cl R h1 b hb, e])
end Go.Proofs.YtihonljdanjfmaaGreatDoor.Gr
namespace Go.Proofs.YtihonljdanjfmaaGreatDoor.Sw
open Go.RowKit Go Go.Shelf Go.Proofs
open Go.Proofs.YtihonljdanjfmaaGreatDoor.Gr (mergeH headsR hf)
def nC (v : Nat) : List AV := [.val (.int .i64 (v : Int))]
instance : OneF nC := ⟨fun _ => inferInstanceAs (OneL [_])⟩
instance : LenF nC 1 := ⟨fun _ => rfl⟩
instance zeroN : ZeroF Tryz.prog 3 nC 0 := zeroF (z := .int .i64 0) (n := 1) (b := 8) (zs := [.int .i64 0]) (by kernel_rfl) rfl (fun _ => ⟨rfl, trivial⟩)
def pnC (p : Nat × Nat) : List AV := [.val (.int .i64 (p.1 : Int)), .val (.int .i64 (p.2 : Int))]
instance {p : Nat × Nat} : OneL (pnC p) := inferInstanceAs (OneL [_, _])
instance : OneF pnC := ⟨fun _ => inferInstanceAs (OneL [_, _])⟩
instance : LenF pnC 2 := ⟨fun _ => rfl⟩
theorem mergeH_step {h : List Nat} {a b : Nat} {m : Nat} (hm : m < h.length) : ((h.take m).map (fun v => if v = max a b then min a b else v) ++ h.drop m).set m (if h[m] = max a b then min a b else h[m]) = (h.take (m + 1)).map (fun v => if v = max a b then min a b else v) ++ h.drop (m + 1) := by
 rw [List.set_append_right _ _ (by simp; omega), List.length_map, List.length_take, show m - min m h.length = 0 by omega, List.drop_eq_getElem_cons hm, List.set_cons_zero, List.take_succ_eq_append_getElem hm, List.map_append]
 simp
theorem mergeH_get {h : List Nat} {a b : Nat} {m : Nat} (hm : m < h.length) : ((h.take m).map (fun v => if v = max a b then min a b else v) ++ h.drop m)[m]? = some h[m] := by
 rw [List.getElem?_append_right (by simp; omega), List.length_map, List.length_take, show m - min m h.length = 0 by omega, List.getElem?_drop]
 simp [List.getElem?_eq_getElem hm]
theorem headsR_take {n : Nat} {L : List (Nat × Nat)} {k : Nat} (hk : k < L.length) : headsR n (L.take (k + 1)) = mergeH (headsR n (L.take k)) L[k] := by
 rw [List.take_succ_eq_append_getElem hk]; exact Gr.headsR_snoc _ _ _
theorem headsR_len (n : Nat) : ∀ L, (headsR n L).length = n := by
 have : ∀ (L : List (Nat × Nat)) (h : List Nat), (L.foldl mergeH h).length = h.length := by
  intro L
  induction L with
  | nil => intro h; rfl
  | cons p L ih => intro h; rw [List.foldl_cons, ih]; simp [mergeH]
 intro L
 unfold headsR
 rw [this]; simp
theorem nat_max (a b : Nat) : (max (a : Int) (b : Int)) = ((max a b : Nat) : Int) := by omega
theorem nat_min (a b : Nat) : (min (a : Int) (b : Int)) = ((min a b : Nat) : Int) := by omega
theorem groups_con (ph ow : Value) (f : Flo) (L : List (Nat × Nat)) (hn : f.ids.length ≤ 1000) (hl : L.length ≤ 1000) (hL : ∀ p ∈ L, p.1 < f.ids.length ∧ p.2 < f.ids.length) : Con Tryz.prog 70 [.val ph, .sl 2 pnC L] [hsB ph f ow] (TokW 3 1 nC (headsR f.ids.length L) [hsB ph f ow]) := by
 refine con_of Tryz.func70 rfl (enters_of Tryz.func70 (by kernel_rfl) rfl) rfl ?_; intro n w0 F0 G0
 refine zS ?_;repeat(refine yA ?_;intro p hp;refine zS ?_)
 (apply wl_make nC; exact inferInstance; exact inferInstance; exact inferInstance; exact inferInstance; exact rfl; exact rfl; exact rfl; (first | omega | (simp; omega)); exact rfl)
 intro v
 refine zS ?_;repeat(refine yA ?_;intro p hp;refine zS ?_)
 have hln : (List.replicate f.ids.length 0 : List Nat).length = f.ids.length := List.length_replicate
 refine W_loopJ (fun (i : Nat) => ⟨[(0, .val ph), (1, .sl 2 pnC L), (5, .val v), (20, .val (.int .i64 f.ids.length)), (21, .val (.int .i64 i))], [.row v 3 1 nC (List.range i ++ List.replicate (f.ids.length - i) 0), hsB ph f ow]⟩) (fun i => i ≤ f.ids.length) (fun i => f.ids.length - i) 0 (fun _ _ st => by rw [hln] at st; exact st_sub2 st zR zP) (Nat.zero_le _) ?_
 rintro i hi
 refine zS ?_;repeat(refine yA ?_;intro p hp;refine zS ?_)
 refine w_cond rfl (fun hlt => ?_) (fun hlt => ?_)
 ·have hi' : i < f.ids.length := by simpa using hlt
  have hil : i < (List.range i ++ List.replicate (f.ids.length - i) 0).length := by simp; omega
  have hst0 : (List.range i ++ List.replicate (f.ids.length - i) 0).set i i = List.range (i + 1) ++ List.replicate (f.ids.length - (i + 1)) 0 := by
   rw [List.set_append_right _ _ (by simp), List.length_range, Nat.sub_self, show f.ids.length - i = (f.ids.length - (i + 1)) + 1 by omega, List.replicate_succ, List.set_cons_zero, List.range_succ]; simp
  refine zS ?_;repeat(refine yA ?_;intro p hp;refine zS ?_)
  rw [hst0]
  (refine ⟨i + 1, fun _ _ st => st_sub2 st ?_ ?_, ?_, ?_⟩; exact zR; exact zP)
  ·omega
  ·omega
 ·have hii : i = f.ids.length := by simp at hlt; omega
  subst hii
  rw [Nat.sub_self, List.replicate_zero, List.append_nil]
  refine zS ?_;repeat(refine yA ?_;intro p hp;refine zS ?_)
  refine W_loopJ (fun (k : Nat) => ⟨[(0, .val ph), (5, .val v), (29, .sl 2 pnC L), (30, .val (.int .i64 L.length)), (31, .val (.int .i64 k))], [.row v 3 1 nC (headsR f.ids.length (L.take k)), hsB ph f ow]⟩) (fun k => k ≤ L.length) (fun k => L.length - k) 0 (fun _ _ st => st_sub2 st zR zP) (Nat.zero_le _) ?_
  rintro k hk
  refine zS ?_;repeat(refine yA ?_;intro p hp;refine zS ?_)
  refine w_cond rfl (fun hlt2 => ?_) (fun hlt2 => ?_)
  ·have hk' : k < L.length := by simpa using hlt2
   obtain ⟨ha, hb⟩ := hL _ (List.getElem_mem hk')
   have hhl := headsR_len f.ids.length (L.take k)
   have hmg : mergeH (headsR f.ids.length (L.take k)) L[k] = headsR f.ids.length (L.take (k + 1)) := (headsR_take hk').symm
   generalize headsR f.ids.length (L.take k) = h at hhl hmg ⊢
   have hq1 : h[L[k].1]? = some h[L[k].1] := List.getElem?_eq_getElem (by omega)
   have hq2 : h[L[k].2]? = some h[L[k].2] := List.getElem?_eq_getElem (by omega)
   have hg1 : hf h L[k].1 = h[L[k].1] := by simp [hf, List.getD_eq_getElem?_getD, hq1]
   have hg2 : hf h L[k].2 = h[L[k].2] := by simp [hf, List.getD_eq_getElem?_getD, hq2]
   have hmg2 : h.map (fun v => if v = max (hf h L[k].1) (hf h L[k].2) then min (hf h L[k].1) (hf h L[k].2) else v) = headsR f.ids.length (L.take (k + 1)) := hmg
   rw [hg1, hg2] at hmg2
   have hi1 : L[k].1 < h.length := by omega
   have hi2 : L[k].2 < h.length := by omega
   refine zS ?_;repeat(refine yA ?_;intro p hp;refine zS ?_)
   refine W_run 11 [35, 36, 37, 38, 39, 40, 41, 42, 43, 44, 9] [0, 1, 2, 3, 4, 5, 6, 7, 8, 9, 10] Cut.nil rfl goFlt mixedS (by kernel_rfl) rfl ?_
   refine rpv [] [] ?_
   refine rpv [] [] ?_
   refine rpv [1] [] ?_
   refine rpv [0, 2] [] ?_
   refine rpv [3] [] ?_
   refine rpv [] [] ?_
   refine rpv [] [] ?_
   refine rpv [6] [] ?_
   refine rpv [5, 7] [] ?_
   refine rpv [8] [] ?_
   refine rpv [4] [] ?_
   refine ⟨⟨by kernel_rfl, by kernel_rfl⟩, fun vs => ?_⟩
   apply WL_auto [9, 10]
   ·exact goPk
   ·exact goNrm
   ·kernel_rfl
   ·kernel_rfl
   refine zS ?_;repeat(refine yA ?_;intro p hp;refine zS ?_)
   generalize h[L[k].1] = a at hmg2 ⊢
   generalize h[L[k].2] = b at hmg2 ⊢
   refine zS ?_;repeat(refine yA ?_;intro p hp;refine zS ?_)
   refine W_loopJ (fun (m : Nat) => ⟨[(0, .val ph), (5, .val v), (29, .sl 2 pnC L), (30, .val (.int .i64 L.length)), (31, .val (.int .i64 k)), (9, .val (.int .i64 a)), (10, .val (.int .i64 b)), (46, .val (.int .i64 h.length)), (47, .val (.int .i64 m))], [.row v 3 1 nC ((h.take m).map (fun v => if v = max a b then min a b else v) ++ h.drop m), hsB ph f ow]⟩) (fun m => m ≤ h.length) (fun m => h.length - m) 0 (fun _ _ st => st_sub2 st zR zP) (Nat.zero_le _) ?_
   rintro m hm
   refine zS ?_;repeat(refine yA ?_;intro p hp;refine zS ?_)
   refine w_cond rfl (fun hlt3 => ?_) (fun hlt3 => ?_)
   ·have hm' : m < h.length := by simpa using hlt3
    have hcl : m < ((h.take m).map (fun v => if v = max a b then min a b else v) ++ h.drop m).length := by simp; omega
    have hce : ((h.take m).map (fun v => if v = max a b then min a b else v) ++ h.drop m)[m] = h[m] := by
     have := mergeH_get (a := a) (b := b) hm'
     rw [List.getElem?_eq_getElem hcl] at this
     exact Option.some.inj this
    have hst := mergeH_step (a := a) (b := b) hm'
    refine zS ?_;repeat(refine yA ?_;intro p hp;refine zS ?_)
    rw [hce, nat_max]
    refine w_cond rfl (fun he => ?_) (fun he => ?_)
    ·have he' : h[m] = max a b := by have := of_decide_eq_true he; omega
     rw [if_pos he'] at hst
     refine zS ?_;repeat(refine yA ?_;intro p hp;refine zS ?_)
     rw [nat_min]
     refine zS ?_;repeat(refine yA ?_;intro p hp;refine zS ?_)
     rw [hst]
     (refine ⟨m + 1, fun _ _ st => st_sub2 st ?_ ?_, ?_, ?_⟩; exact zR; exact zP)
     ·omega
     ·omega
    ·have he' : h[m] ≠ max a b := fun e => by rw [e] at he; simp at he
     rw [if_neg he'] at hst
     have hst2 : ((h.take m).map (fun v => if v = max a b then min a b else v) ++ h.drop m) = (h.take (m + 1)).map (fun v => if v = max a b then min a b else v) ++ h.drop (m + 1) := by
      rw [← hst, ← hce, List.set_getElem_self]
     rw [hst2]
     refine zS ?_;repeat(refine yA ?_;intro p hp;refine zS ?_)
     (refine ⟨m + 1, fun _ _ st => st_sub2 st ?_ ?_, ?_, ?_⟩; exact zR; exact zP)
     ·omega
     ·omega
   ·have hmm : m = h.length := by simp at hlt3; omega
    subst hmm
    rw [List.drop_length, List.append_nil, List.take_length, hmg2]
    refine zS ?_;repeat(refine yA ?_;intro p hp;refine zS ?_)
    (refine ⟨k + 1, fun _ _ st => st_sub2 st ?_ ?_, ?_, ?_⟩; exact zR; exact zP)
    ·omega
    ·omega
  ·have hkk : k = L.length := by simp at hlt2; omega
   subst hkk
   rw [List.take_length]
   refine zS ?_;repeat(refine yA ?_;intro p hp;refine zS ?_)
   (apply resK; exact rfl; exact rfl; (apply Cut.cons; exact zN; apply Cut.cons (h := hsB ph f ow); exact zN; exact Cut.nil); exact ⟨_, rfl, rfl⟩)
end Go.Proofs.YtihonljdanjfmaaGreatDoor.Sw
namespace Go.Proofs.YtihonljdanjfmaaGreatDoor.Sw
open Go.RowKit Go
theorem flat_cut {α : Type} {f : α → List AV} {n : Nat} {xs : List α} (h : ∀ x ∈ xs, (f x).length = n) {k : Nat} (hk : k < xs.length) : ((xs.flatMap f).drop (k * n)).take n = f xs[k] := by
 have hlen := h _ (List.getElem_mem hk)
 have hl := lenL h
 have hle : (k + 1) * n ≤ xs.length * n := Nat.mul_le_mul_right n hk
 rw [Nat.succ_mul] at hle
 apply List.ext_getElem?
 intro j
 by_cases hj : j < n
 ·rw [List.getElem?_take, if_pos hj, List.getElem?_drop]
  exact flat_get h k hk j hj
 ·rw [List.getElem?_eq_none (by rw [List.length_take]; omega), List.getElem?_eq_none (by omega)]
theorem flat_setN {α : Type} {f : α → List AV} {n : Nat} {x' : α} : ∀ {xs : List α}, (∀ x ∈ xs, (f x).length = n) → ∀ (k : Nat), k < xs.length → (f x').length = n → (xs.set k x').flatMap f = (xs.flatMap f).take (k * n) ++ f x' ++ (xs.flatMap f).drop (k * n + n)
 | x :: xs, h, 0, _, hl => by
  rw [List.set_cons_zero, List.flatMap_cons, List.flatMap_cons, Nat.zero_mul, Nat.zero_add, List.take_zero, List.nil_append, List.drop_append_of_le_length (by rw [h x (by simp)]; exact Nat.le_refl _), List.drop_of_length_le (by rw [h x (by simp)]; exact Nat.le_refl _), List.nil_append]
 | x :: xs, h, k + 1, hk, hl => by
  have hx := h x (by simp)
  have e1 : ∀ R : List AV, (f x ++ R).take (k * n + n) = f x ++ R.take (k * n) := fun R => by
   rw [List.take_append, List.take_of_length_le (by omega), hx, Nat.add_sub_cancel]
  have e2 : ∀ R : List AV, (f x ++ R).drop (k * n + n + n) = R.drop (k * n + n) := fun R => by
   rw [List.drop_append, List.drop_of_length_le (by omega), hx, Nat.add_sub_cancel, List.nil_append]
  rw [List.set_cons_succ, List.flatMap_cons, List.flatMap_cons, flat_setN (fun y hy => h y (by simp [hy])) k (by simpa using hk) hl, Nat.succ_mul, e1, e2]
  simp only [List.append_assoc]
 | [], _, _, hk, _ => absurd hk (Nat.not_lt_zero _)
theorem take_mid {α : Type} {l us : List α} {A L : Nat} (h : A + us.length ≤ L) (hL : L ≤ l.length) : (l.take A ++ us ++ l.drop (A + us.length)).take L = (l.take L).take A ++ us ++ (l.take L).drop (A + us.length) := by
 have hx : (l.take A ++ us).length = A + us.length := by rw [List.length_append, List.length_take]; omega
 rw [List.take_append, List.take_of_length_le (by omega), hx, List.take_take, Nat.min_eq_left (by omega), List.drop_take]
section
variable {P : Program} {rs : List (Nat × AV)} {hsR : List HA} {d : Option Nat} {ty : TypeId} {pos : String} {af : Array Edge} {g : Option (Nat × Bool)}
theorem lt_loadRN {α : Type} {x : Operand} {t e : TypeId} {n k : Nat} [hT : TyN P t n] {v : Value} {f : α → List AV} {xs : List α} (hx : opv rs x = some (.rat v n k 0)) (hk : k < xs.length) : LT P ⟨d, .load t x, ty, pos, af, g⟩ rs [.row v e n f xs] (Is (.agg (f xs[k])) [.row v e n f xs]) :=
 LT_read (fun _ e => by cases e) fun a w G F hR hG hrow => by
  obtain ⟨b', len, cap', ev, e1⟩ : (AV.rat v n k 0).P G (a.eval x) := opv_ok hR hx
  rcases row_val hrow with ⟨_, rfl⟩ | ⟨b, cap, cur, vs, ev', hnc, _, hb, hcs, hl, hf, htake, _⟩
  ·exact absurd hk (Nat.not_lt_zero _)
  ·rw [ev] at ev'
   simp only [Value.slice.injEq, Option.some.injEq, Addr.mk.injEq] at ev'
   obtain ⟨⟨rfl, _⟩, rfl, rfl⟩ := ev'
   have hfit := (Fits.cut n (Fits.cut (k * n) hf).1).2
   rw [flat_cut hl hk] at hfit
   refine ⟨.agg ((vs.drop (k * n)).take n).toArray, ⟨_, rfl, hfit⟩, ?_⟩
   have hlt : k * n + n ≤ xs.length * n := by
    calc k * n + n = (k + 1) * n := (Nat.succ_mul k n).symm
     _ ≤ xs.length * n := Nat.mul_le_mul_right n hk
   have hlen := hfit.length
   have hln := hl _ (List.getElem_mem hk)
   simp only [execOp, e1, Sem.run_bind]
   rw [Nat.add_zero, run_loadN (n := n) (vs := (vs.drop (k * n)).take n) (by rw [hlen, hln]) (fun j u ej => by
    rw [cell_of_row w b' _ _ _ _ hb]
    rw [List.getElem?_take] at ej
    split at ej
    ·rw [List.getElem?_drop, ← htake, List.getElem?_take, if_pos (by omega)] at ej
     simpa using ej
    ·cases ej)]
   rfl
theorem lt_storeRN {α : Type} {x y : Operand} {t e : TypeId} {n k : Nat} [hs : TySz P t n] {v : Value} {f : α → List AV} {xs : List α} {x' : α} [hO : OneF f] (hx : opv rs x = some (.rat v n k 0)) (hy : opv rs y = some (.agg (f x'))) (hk : k < xs.length) (hlx : (f x').length = n) :
  LT P ⟨d, .store t x y, ty, pos, af, g⟩ rs [.row v e n f xs] (Is (.val undef) [.row v e n f (xs.set k x')]) :=
 LT_eff (fun _ e => by cases e) fun a w G F hR hI => by
  obtain ⟨F1, F2, ep, hrow, h2⟩ := hI.hs
  have h2' : F2 = [] := h2
  subst h2'
  obtain ⟨b', len, cap', ev, e1⟩ : (AV.rat v n k 0).P G (a.eval x) := opv_ok hR hx
  rcases row_val hrow with ⟨_, rfl⟩ | ⟨b, cap, cur, vs, ev', hnc, hF1, hb, hcs, hl, hf, htake, hone, hcm⟩
  ·exact absurd hk (Nat.not_lt_zero _)
  ·rw [ev] at ev'
   simp only [Value.slice.injEq, Option.some.injEq, Addr.mk.injEq] at ev'
   obtain ⟨⟨rfl, _⟩, rfl, rfl⟩ := ev'
   subst hF1
   have hF : F = [b'] := List.perm_singleton.1 (by simpa using ep)
   subst hF
   obtain ⟨us, hue, huf⟩ : (AV.agg (f x')).P G (a.eval y) := opv_ok hR hy
   have hul : us.length = n := huf.length.trans hlx
   have huo : ∀ q ∈ us, q.oneCell' = true := fits_one (hO.out x') huf
   have hg := (hI.own b' (by simp)).2
   have hlt : k * n + n ≤ xs.length * n := by
    calc k * n + n = (k + 1) * n := (Nat.succ_mul k n).symm
     _ ≤ xs.length * n := Nat.mul_le_mul_right n hk
   have hlc : xs.length * n ≤ cap' * n := Nat.mul_le_mul_right n hnc
   have hcl : cur.toList.length = cap' * n := by simpa using hcs
   let cur' : Array Value := (cur.toList.take (k * n) ++ us ++ cur.toList.drop (k * n + us.length)).toArray
   obtain ⟨f1, f2⟩ := fr_setRow hI.gin hg cur'
   have hvl : vs.length = xs.length * n := by rw [hf.length, lenL hl]
   have hl' : ∀ y ∈ xs.set k x', (f y).length = n := fun y hy => by
    rcases List.mem_or_eq_of_mem_set hy with h | rfl
    ·exact hl y h
    ·exact hlx
   refine ⟨_, w.setRow b' cur', undef, _, _, G, [b'], ?_, .inr ⟨rfl, rfl⟩, ⟨rfl, rfl⟩, f1, ⟨f2, by simp, fun q hq => ?_, [b'], [], by simp, ⟨vs.take (k * n) ++ us ++ vs.drop (k * n + us.length), by rw [ev]; rfl, hl', ?_, ?_, ?_⟩, rfl⟩, rfl⟩
   ·have hst := run_storeCells_at P b' (k * n) e us 0 cur w hb (by rw [Nat.add_zero, hul, hcs]; omega) huo
    simp only [Nat.add_zero] at hst
    have hc : us.toArray.size = n := by simpa using hul
    simp only [execOp, e1, Instr.storeAt, Instr.sureAddr, storeVar, Sem.run_bind, Sem.run_pure, Result.andThen_ok, hue, Value.cells, hs.size w, Nat.add_zero]
    simp [hc, hst, cur']
   ·rw [List.mem_singleton] at hq; subst hq; simp only [setRow_size]; exact hI.own _ (by simp)
   ·rw [flat_setN hl k hk hlx, hul]
    exact ((hf.take (k * n)).append huf).append (hf.drop _)
   ·intro q hq
    rcases List.mem_append.1 hq with hq | hq
    ·rcases List.mem_append.1 hq with hq | hq
     ·exact hone q (List.mem_of_mem_take hq)
     ·exact huo q hq
    ·exact hone q (List.mem_of_mem_drop hq)
   ·rw [ev]
    have hsz : (vs.take (k * n) ++ us ++ vs.drop (k * n + us.length)).length = xs.length * n := by
     simp only [List.length_append, List.length_take, List.length_drop]; omega
    refine ⟨by rw [hsz, List.length_set], .inr ⟨b', cap', cur', by rw [List.length_set], Nat.zero_le _, setRow_heap w b' _ _ e _ hb, by rw [List.length_set]; exact hnc, hcm, ?_, ?_⟩⟩
    ·simp only [cur', List.size_toArray, List.length_append, List.length_take, List.length_drop]; omega
    ·rw [List.length_set]
     simp only [cur']
     rw [← htake]
     exact take_mid (by rw [hul]; omega) (by omega)
theorem lt_fieldRat {x : Operand} {t : TypeId} {fd off : Nat} [h : TyF P t fd off] {v : Value} {n k j j' : Nat} (hx : opv rs x = some (.rat v n k j)) (hj : j + off = j') : LT P ⟨d, .fieldAddr t x fd, ty, pos, af, g⟩ rs [] (Is (.rat v n k j') []) :=
 LT_val (fun _ e => by cases e) fun a w G hR hG => by
  obtain ⟨b, len, cap, ev, e1⟩ : (AV.rat v n k j).P G (a.eval x) := opv_ok hR hx
  refine ⟨.pointer (some ⟨b, k * n + j', none⟩), ⟨b, len, cap, ev, rfl⟩, ?_⟩
  simp only [execOp, e1, Sem.run_bind]
  rw [h.run, add_plain, Nat.add_assoc, hj]
  rfl
theorem ltr_loadRN {α : Type} {x : Operand} {t e : TypeId} {n kk : Nat} [TyN P t n] {v : Value} {f : α → List AV} {xs : List α} {h : HA → List HA} (hx : opv rs x = some (.rat v n kk 0)) (hat : At hsR (.row v e n f xs) h) {y : α} (hk : xs[kk]? = some y) : LTr P ⟨d, .load t x, ty, pos, af, g⟩ rs hsR [] (Is (.agg (f y)) []) := by
 obtain ⟨hl, rfl⟩ := List.getElem?_eq_some_iff.1 hk
 exact ltr_rd (lt_loadRN hx hl) hat
end
section
variable {c : Cx} {rs : List (Nat × AV)} {hs : List HA} {Q : Exit → S → Prop} {ops : Array Oper} {tl : List Oper} {d : Nat} {ty : TypeId} {pos : String} {af : Array Edge}
theorem wl_loadRN {α : Type} {x : Operand} {t e : TypeId} {n kk : Nat} [TyN c.P t n] {v : Value} {f : α → List AV} {xs : List α} {g : HA → List HA} (hx : opv rs x = some (.rat v n kk 0)) (hat : At hs (.row v e n f xs) g) (hk : kk < xs.length) (hd : Nat.blt d c.nt = true) (k : WL c ops tl ⟨(d, .agg (f xs[kk])) :: rs, hs⟩ Q) : WL c ops (⟨some d, .load t x, ty, pos, af, none⟩ :: tl) ⟨rs, hs⟩ Q := wl_rd (lt_loadRN hx hk) hat hd k
theorem wl_fieldRat {x : Operand} {t : TypeId} {fd off : Nat} [TyF c.P t fd off] {v : Value} {n kk j j' : Nat} (hx : opv rs x = some (.rat v n kk j)) (hj : j + off = j') (hd : Nat.blt d c.nt = true) (k : WL c ops tl ⟨(d, .rat v n kk j') :: rs, hs⟩ Q) : WL c ops (⟨some d, .fieldAddr t x fd, ty, pos, af, none⟩ :: tl) ⟨rs, hs⟩ Q := wl_ex (lt_fieldRat hx hj) hd k
end
def gall (G : Nat → Option Obj) (F : List Nat) (w : World) : Nat → Option Obj := fun b => if b ∈ F then w.heap[b]? else G b
theorem gall_le {G : Nat → Option Obj} {F : List Nat} {w : World} (h : ∀ b ∈ F, G b = none) : Gle G (gall G F w) := fun b o e => by
 unfold gall
 rw [if_neg (fun hb => by rw [h b hb] at e; cases e)]; exact e
theorem gall_in {G : Nat → Option Obj} {F : List Nat} {w : World} (h : Gin G w) : Gin (gall G F w) w := fun b o e => by
 unfold gall at e
 split at e
 ·exact e
 ·exact h b o e
theorem row_view {α β : Type} {G : Nat → Option Obj} {F F1 : List Nat} {w : World} {v : Value} {e : TypeId} {n : Nat} {f : α → List AV} {f' : β → List AV} {xs : List α} {ys : List β} (h : (HA.row v e n f xs).P G F1 w) (hsub : ∀ b ∈ F1, b ∈ F) (hlen : ys.length = xs.length)
  (hv : ∀ i (h1 : i < xs.length) (h2 : i < ys.length) (j : Nat) (av' : AV), (f' ys[i])[j]? = some av' → ∃ av : AV, (f xs[i])[j]? = some av ∧ ∀ u, av.P G u → av'.P (gall G F w) u) : (AV.sl n f' ys).P (gall G F w) v := by
 rcases row_val h with ⟨rfl, rfl⟩ | ⟨b, cap, cur, vs, rfl, hnc, hF1, hb, hcs, hl, hf, htake, _⟩
 ·exact ⟨none, 0, by rw [hlen]; rfl, by rw [hlen]; exact Nat.le_refl _, fun i hi => by rw [hlen] at hi; exact absurd hi (Nat.not_lt_zero _)⟩
 ·refine ⟨some ⟨b, 0, none⟩, cap, by rw [hlen], by rw [hlen]; exact hnc, fun i hi => ⟨b, 0, rfl, fun j av' ej => ?_⟩⟩
  have hi' : i < xs.length := by omega
  obtain ⟨av, e1, e2⟩ := hv i hi' hi j av' ej
  have hjn : j < n := by
   have := (List.getElem?_eq_some_iff.1 e1).1
   rwa [hl _ (List.getElem_mem hi')] at this
  obtain ⟨u, hu, hp⟩ := hf.get (i := i * n + j) (av := av) (by rw [flat_get hl i hi' j hjn]; exact e1)
  refine ⟨u, ?_, e2 u hp⟩
  have hlt : i * n + j < xs.length * n := by
   calc i * n + j < i * n + n := by omega
    _ = (i + 1) * n := (Nat.succ_mul i n).symm
    _ ≤ xs.length * n := Nat.mul_le_mul_right n hi'
  have hbF : b ∈ F := hsub b (by rw [hF1]; simp)
  unfold cellG gall
  rw [if_pos hbF, hb]
  simp only [Nat.zero_add]
  rw [← htake, List.getElem?_take, if_pos hlt] at hu
  simpa using hu
theorem row_view1 {α : Type} {G : Nat → Option Obj} {F F1 : List Nat} {w : World} {v : Value} {e : TypeId} {n : Nat} {f : α → List AV} {xs : List α} (h : (HA.row v e n f xs).P G F1 w) (hsub : ∀ b ∈ F1, b ∈ F) (hle : Gle G (gall G F w)) : (AV.sl n f xs).P (gall G F w) v :=
 row_view h hsub rfl fun i h1 h2 j av' ej => ⟨av', ej, fun u hu => av'.mono hle hu⟩
structure Thaw (h : HA) (av av' : AV) : Prop where
 out : ∀ (G : Nat → Option Obj) (F : List Nat) (w : World), h.P G F w → Gle G (gall G F w) → ∀ v, av.P G v → av'.P (gall G F w) v
structure Pers (hs : List HA) : Prop where
 out : ∀ G F w, hsP hs G F w → F = []
theorem Pers.nil : Pers [] := ⟨fun _ _ _ h => h⟩
theorem Pers.cons {h : HA} {t : List HA} (h1 : ∀ G F w, h.P G F w → F = []) (k : Pers t) : Pers (h :: t) := ⟨fun G F w ⟨F1, F2, e, a, b⟩ => by
 have := h1 _ _ _ a; have := k.out _ _ _ b; subst_vars; simpa using e⟩
theorem Pers.glob {g : Nat} {cs : List AV} {t : List HA} (k : Pers t) : Pers (.glob g cs :: t) := .cons (fun _ _ _ h => h.1) k
theorem lt_borrow {P : Program} {o : Oper} {rs : List (Nat × AV)} {h : HA} {pers : List HA} {i : Nat} {av av' : AV} {cv : Value} (hl : look rs i = some av) (ht : Thaw h av av') (hp : Pers pers) (k : LT P o ((i, av') :: rs) pers (Is (.val cv) pers)) : LT P o rs (h :: pers) (Is (.val cv) (h :: pers)) := by
 refine ⟨?_⟩
 intro F n hF a w G Fp K Q hR hI hk
 obtain ⟨F1, F2, ep, hh, hps⟩ := hI.hs
 have h2 := hp.out _ _ _ hps
 subst h2
 rw [List.append_nil] at ep
 have hm : ∀ b, b ∈ F1 ↔ b ∈ Fp := fun b => ep.mem_iff.symm
 have hle : Gle G (gall G F1 w) := gall_le fun b hb => (hI.own b ((hm b).1 hb)).2
 have hle3 : ∀ {G2}, Gle (gall G F1 w) G2 → Gle G (fun b => if b ∈ F1 then none else G2 b) := fun {G2} h2 b o e => by
  have hb : b ∉ F1 := fun hb => by rw [(hI.own b ((hm b).1 hb)).2] at e; cases e
  show (if b ∈ F1 then none else G2 b) = some o
  rw [if_neg hb]; exact h2 b o (hle b o e)
 refine k.go F n hF a w (gall G F1 w) [] K Q (fun j u e => ?_) ⟨gall_in hI.gin, List.nodup_nil, fun _ hb => (by cases hb), hps.mono hle⟩ fun v x prod G2 F2' w' ⟨e1, e2⟩ hfr hi hv => ?_
 ·simp only [look] at e
  cases hb : Nat.beq i j with
  | true =>
   rw [hb] at e
   obtain rfl := Nat.eq_of_beq_eq_true hb
   simp only [cond_true, Option.some.injEq] at e
   subst e
   exact ht.out G F1 w hh hle _ (hR _ _ hl)
  | false => rw [hb] at e; exact AV.mono _ hle (hR j u (by simpa using e))
 ·subst e1 e2
  have hF2 := hp.out _ _ _ hi.hs
  subst hF2
  have hsame : ∀ b ∈ F1, w'.heap[b]? = w.heap[b]? := fun b hb => by
   have hlt := (hI.own b ((hm b).1 hb)).1
   have : gall G F1 w b = some w.heap[b] := by unfold gall; rw [if_pos hb, Array.getElem?_eq_getElem hlt]
   rw [hi.gin b _ (hfr.gle b _ this), Array.getElem?_eq_getElem hlt]
  refine hk v _ _ (fun b => if b ∈ F1 then none else G2 b) Fp w' ⟨rfl, rfl⟩ ⟨hfr.os, hfr.tape, hfr.output, hfr.size, fun b hb _ => hfr.same b hb (by simp), fun b hb => .inl hb, hle3 hfr.gle, fun b o e => ?_⟩ ⟨fun b o e => ?_, hI.nd, fun b hb => ⟨Nat.lt_of_lt_of_le (hI.own b hb).1 hfr.size, if_pos ((hm b).2 hb)⟩, F1, [], by rw [List.append_nil]; exact ep, HA.mono _ (hle3 hfr.gle) (HA.loc _ hsame hh), (hps.mono (hle3 hfr.gle)).loc fun b hb => (by cases hb)⟩ hv
  ·split at e
   ·cases e
   ·rename_i hb
    rcases hfr.newG b o e with h | h | h
    ·unfold gall at h; rw [if_neg hb] at h; exact .inl h
    ·cases h
    ·exact .inr (.inr h)
  ·split at e
   ·cases e
   ·exact hi.gin b o e
theorem wl_borrow {c : Cx} {rs : List (Nat × AV)} {hs pers r : List HA} {Q : Exit → S → Prop} {ops : Array Oper} {tl : List Oper} {d : Nat} {ty : TypeId} {pos : String} {af : Array Edge} {k : FuncId} {xs : List Operand} {ts : Array TypeId} {avs : List AV} {h : HA} {av av' : AV} {cv : Value} (i : Nat) (ht : Thaw h av av') (hc : Con c.P k avs pers (Is (.val cv) pers)) (hl : look rs i = some av) (hx : opvs ((i, av') :: rs) xs = some avs) (hcut : Cut hs (h :: pers) r) (hp : Pers pers) (hd : Nat.blt d c.nt = true) (kk : WL c ops tl ⟨(d, .val cv) :: rs, h :: (pers ++ r)⟩ Q) : WL c ops (⟨some d, .call { callee := .value (.func k), args := xs.toArray, argTypes := ts }, ty, pos, af, none⟩ :: tl) ⟨rs, hs⟩ Q :=
 WL_lt (cons := h :: pers) (rest := r) hd rfl (fun _ _ _ hh => hcut.sel hh) (lt_borrow hl ht hp (lt_call hx hc)) fun av pr ⟨e1, e2⟩ => by subst e1; subst e2; exact kk
def HA.fact (p : Prop) : HA := ⟨fun _ F _ => F = [] ∧ p, fun _ h => h, fun _ h => h⟩
theorem hsP.fact {p : Prop} {t : List HA} {G : Nat → Option Obj} {F : List Nat} {w : World} : hsP (.fact p :: t) G F w ↔ p ∧ hsP t G F w :=
 ⟨fun ⟨_, _, e, ⟨e1, h⟩, k⟩ => by subst e1; exact ⟨h, k.perm (by simpa using e)⟩, fun ⟨h, k⟩ => ⟨[], F, .refl _, ⟨rfl, h⟩, k⟩⟩
theorem WL_exs {c : Cx} {rs : List (Nat × AV)} {hs r : List HA} {Q : Exit → S → Prop} {ops : Array Oper} {l : List Oper} {σ : Type} {h : σ → List HA} (hr : Rm hs (.exs h) r) (k : ∀ s, WL c ops l ⟨rs, h s ++ r⟩ Q) : WL c ops l ⟨rs, hs⟩ Q := ⟨fun a w st => by
 obtain ⟨G, F, hI, rr⟩ := st
 obtain ⟨F1, F2, e, ⟨s, h1⟩, h2⟩ := hr.sel hI.hs
 exact (k s).out a w ⟨G, F, ⟨hI.gin, hI.nd, hI.own, (hsP.append h1 h2).perm e⟩, rr⟩⟩
section
variable {P : Program} {rs : List (Nat × AV)} {d : Option Nat} {ty : TypeId} {pos : String} {af : Array Edge} {g : Option (Nat × Bool)}
theorem lt_eqlNil {α : Type} {x : Operand} {t t' e : TypeId} {n m : Nat} (hT : TyS P t e m) {f : α → List AV} {xs : List α} (hx : opv rs x = some (.sl n f xs)) : LT P ⟨d, .binOp .eql t x (.const (.slice none 0 0)) t', ty, pos, af, g⟩ rs [] (fun av y => ∃ b : Bool, av = .val (.bool b) ∧ y = [] ∧ (b = true → xs = [])) :=
 LT_eff (fun _ e => by cases e) fun a w G F hR hI => by
  obtain ⟨p, cap, e1, hc, hs⟩ : (AV.sl n f xs).P G (a.eval x) := opv_ok hR hx
  refine ⟨.value (.bool p.isNone), w, .bool p.isNone, _, [], G, F, ?_, .inl rfl, ⟨p.isNone, rfl, rfl, fun hb => ?_⟩, Fr.refl _ _ _, hI, rfl⟩
  ·simp only [execOp, e1]
   have h1 : (eqGuard .eql t x (.const (.slice none 0 0)) (.slice p xs.length cap) (a.eval (.const (.slice none 0 0)))).run P w = .ok () w := by simp [eqGuard, Act.eval, go_sem]
   have h2 : (binOp .eql t (.slice p xs.length cap) (a.eval (.const (.slice none 0 0)))).run P w = .ok (.bool p.isNone) w := run_eql_slice_nil w t e p _ _ hT.und
   simp only [Sem.run_bind, h1, h2, Result.andThen_ok]
   rfl
  ·cases xs with
   | nil => rfl
   | cons y ys =>
    obtain ⟨b, o, e2, _⟩ := hs 0 (by simp)
    rw [e2] at hb; cases hb
end
section
variable {c : Cx} {rs : List (Nat × AV)} {hs : List HA} {Q : Exit → S → Prop} {ops : Array Oper} {tl : List Oper} {d : Nat} {ty : TypeId} {pos : String} {af : Array Edge}
theorem wl_eqlNil {α : Type} {x : Operand} {t t' e : TypeId} {n m : Nat} {f : α → List AV} {xs : List α} (hx : opv rs x = some (.sl n f xs)) (hT : TyS c.P t e m) (hd : Nat.blt d c.nt = true) (k : ∀ b : Bool, (b = true → xs = []) → WL c ops tl ⟨(d, .val (.bool b)) :: rs, hs⟩ Q) : WL c ops (⟨some d, .binOp .eql t x (.const (.slice none 0 0)) t', ty, pos, af, none⟩ :: tl) ⟨rs, hs⟩ Q :=
 WL_lt (cons := []) (rest := hs) hd rfl (fun _ _ _ h => h) (lt_eqlNil hT hx) fun av pr ⟨b, e1, e2, hb⟩ => by subst e1; subst e2; exact k b hb
end
theorem HA.ext' {a b : HA} (h : a.P = b.P) : a = b := by
 cases a; cases b; cases h; rfl
theorem row_map {α β : Type} {v : Value} {e : TypeId} {n : Nat} {f : β → List AV} {g : α → β} {xs : List α} : HA.row v e n f (xs.map g) = HA.row v e n (fun x => f (g x)) xs := by
 refine HA.ext' ?_
 funext G F w
 simp only [HA.row, List.length_map, List.flatMap_map, List.forall_mem_map]
theorem resKN {P : Program} {fn : Func} {x : Tmp} {t tb : TypeId} {n : Nat} {post : AV → List HA → Prop} {rs : List (Nat × AV)} {hs kept r : List HA} {p : Value} {cs : List AV} {f : HA → List HA} (hr : fn.results = #[.cell x t]) (hx : look rs x = some (.val p)) (hat : At hs (.box p cs tb) f) (hT : TyN P t n) (hn : cs.length = n) (hp : post (.agg cs) kept) (hcut : Cut hs kept r) : Res P fn post ⟨rs, hs⟩ := by
 refine ⟨_, kept, hp, fun a w G F hR hI => ?_⟩
 obtain ⟨rest, hs'⟩ := hat.sel
 obtain ⟨F1, F2, e, ⟨b, vs, hpb, hF1, hf, hb⟩, h2⟩ := (hs' _ _ _ _).1 (by rw [hat.self]; exact hI.hs)
 obtain ⟨F3, h1, h2⟩ := inv_keep (rest := r) ⟨hI.gin, hI.nd, hI.own, hcut.sel hI.hs⟩
 refine ⟨.agg vs.toArray, G, F3, ?_, h2, h1, ⟨vs, rfl, hf⟩⟩
 have hxv : a.tmps.getD x undef = p := hR _ _ hx
 rw [Array.getD_eq_getD_getElem?] at hxv
 have h1 := run_loadN (P := P) (t := t) (n := n) (w := w) (b := b) (j := 0) (vs := vs) (by rw [hf.length, hn]) (fun k u e => by rw [cell_of_row w b _ _ _ _ hb]; simpa using e)
 simp only [Instr.loadAt, Instr.sureAddr, Sem.run_bind, Sem.run_pure, Result.andThen_ok] at h1
 simp [results, hr, hxv, hpb, asAddr, h1]
theorem resKN1 {P : Program} {fn : Func} {x u : Tmp} {t tb : TypeId} {n : Nat} {post : AV → List HA → Prop} {rs : List (Nat × AV)} {hs kept r : List HA} {p : Value} {cs : List AV} {bv : AV} {f : HA → List HA} (hr : fn.results = #[.cell x t, .tmp u]) (hx : look rs x = some (.val p)) (hat : At hs (.box p cs tb) f) (hT : TyN P t n) (hn : cs.length = n) (hl2 : look rs u = some bv) (hp : post (.tup [.agg cs, bv]) kept) (hcut : Cut hs kept r) : Res P fn post ⟨rs, hs⟩ := by
 refine ⟨_, kept, hp, fun a w G F hR hI => ?_⟩
 obtain ⟨rest, hs'⟩ := hat.sel
 obtain ⟨F1, F2, e, ⟨b, vs, hpb, hF1, hf, hb⟩, h2⟩ := (hs' _ _ _ _).1 (by rw [hat.self]; exact hI.hs)
 obtain ⟨F3, h1, h2⟩ := inv_keep (rest := r) ⟨hI.gin, hI.nd, hI.own, hcut.sel hI.hs⟩
 refine ⟨.tuple #[.agg vs.toArray, a.tmps.getD u undef], G, F3, ?_, h2, h1, ⟨[.agg vs.toArray, _], rfl, ⟨vs, rfl, hf⟩, hR _ _ hl2, trivial⟩⟩
 have hxv : a.tmps.getD x undef = p := hR _ _ hx
 rw [Array.getD_eq_getD_getElem?] at hxv
 have h1 := run_loadN (P := P) (t := t) (n := n) (w := w) (b := b) (j := 0) (vs := vs) (by rw [hf.length, hn]) (fun k u e => by rw [cell_of_row w b _ _ _ _ hb]; simpa using e)
 simp only [Instr.loadAt, Instr.sureAddr, Sem.run_bind, Sem.run_pure, Result.andThen_ok] at h1
 simp [results, hr, hxv, hpb, asAddr, h1]
theorem Res_row0 {α : Type} {P : Program} {fn : Func} {post : AV → List HA → Prop} {rs : List (Nat × AV)} {hs : List HA} (e : TypeId) (n : Nat) (f : α → List AV) (k : Res P fn post ⟨rs, .row (.slice none 0 0) e n f [] :: hs⟩) : Res P fn post ⟨rs, hs⟩ := by
 obtain ⟨av, prod, hp, h⟩ := k
 exact ⟨av, prod, hp, fun a w G F hR hI => h a w G F hR ⟨hI.gin, hI.nd, hI.own, [], F, .refl _, ⟨[], rfl, fun _ h => (by cases h), trivial, fun _ h => (by cases h), ⟨by simp, .inl ⟨rfl, rfl⟩⟩⟩, hI.hs⟩⟩
theorem st_pack0 {c : Cx} {rs : List (Nat × AV)} {hs : List HA} {a : Act} {w : World} (st : St c ⟨rs, hs⟩ a w) : St c ⟨rs, .pack [] :: hs⟩ a w := by
 obtain ⟨G, F, hI, r⟩ := st
 exact ⟨G, F, ⟨hI.gin, hI.nd, hI.own, [], F, .refl _, rfl, hI.hs⟩, r⟩
theorem st_snoc {c : Cx} {rs : List (Nat × AV)} {hs r r' l : List HA} {h : HA} {a : Act} {w : World} (hr : Rm hs (.pack l) r) (hr2 : Rm r h r') (st : St c ⟨rs, hs⟩ a w) : St c ⟨rs, .pack (l ++ [h]) :: r'⟩ a w := by
 obtain ⟨G, F, hI, rr⟩ := st
 refine ⟨G, F, ⟨hI.gin, hI.nd, hI.own, ?_⟩, rr⟩
 obtain ⟨A, B, e, hA, hB⟩ := hr.sel hI.hs
 obtain ⟨C, D, e2, hC, hD⟩ := hr2.sel hB
 exact ⟨A ++ C, D, e.trans ((e2.append_left A).trans (by rw [List.append_assoc])), hsP.append hA (show hsP [h] G C w from ⟨C, [], by simp, hC, rfl⟩), hD⟩
theorem WL_snoc {c : Cx} {rs : List (Nat × AV)} {hs r r' l : List HA} {h : HA} {Q : Exit → S → Prop} {ops : Array Oper} {tl : List Oper} (hr : Rm hs (.pack l) r) (hr2 : Rm r h r') (k : WL c ops tl ⟨rs, .pack (l ++ [h]) :: r'⟩ Q) : WL c ops tl ⟨rs, hs⟩ Q := ⟨fun a w st => k.out a w (st_snoc hr hr2 st)⟩
theorem st_exs {c : Cx} {rs : List (Nat × AV)} {hs r : List HA} {σ : Type} {h : σ → List HA} (s : σ) {a : Act} {w : World} (hc : Cut hs (h s) r) (st : St c ⟨rs, hs⟩ a w) : St c ⟨rs, .exs h :: r⟩ a w := by
 obtain ⟨G, F, hI, rr⟩ := st
 refine ⟨G, F, ⟨hI.gin, hI.nd, hI.own, ?_⟩, rr⟩
 obtain ⟨A, B, e, hA, hB⟩ := hsP.split (hc.sel hI.hs)
 exact ⟨A, B, e, ⟨s, hA⟩, hB⟩
theorem W_mkExs {c : Cx} {rs : List (Nat × AV)} {hs r : List HA} {Q : Exit → S → Prop} {x : Code} {σ : Type} {h : σ → List HA} (s : σ) (hc : Cut hs (h s) r) (k : W c x ⟨rs, .exs h :: r⟩ Q) : W c x ⟨rs, hs⟩ Q := ⟨fun a w st => k.out a w (st_exs s hc st)⟩
theorem WL_mkExs {c : Cx} {rs : List (Nat × AV)} {hs r : List HA} {Q : Exit → S → Prop} {ops : Array Oper} {tl : List Oper} {σ : Type} {h : σ → List HA} (s : σ) (hc : Cut hs (h s) r) (k : WL c ops tl ⟨rs, .exs h :: r⟩ Q) : WL c ops tl ⟨rs, hs⟩ Q := ⟨fun a w st => k.out a w (st_exs s hc st)⟩
theorem st_fact {c : Cx} {rs : List (Nat × AV)} {hs : List HA} {p : Prop} (hp : p) {a : Act} {w : World} (st : St c ⟨rs, hs⟩ a w) : St c ⟨rs, .fact p :: hs⟩ a w := by
 obtain ⟨G, F, hI, rr⟩ := st
 exact ⟨G, F, ⟨hI.gin, hI.nd, hI.own, hsP.fact.2 ⟨hp, hI.hs⟩⟩, rr⟩
theorem W_mkFact {c : Cx} {rs : List (Nat × AV)} {hs : List HA} {Q : Exit → S → Prop} {x : Code} {p : Prop} (hp : p) (k : W c x ⟨rs, .fact p :: hs⟩ Q) : W c x ⟨rs, hs⟩ Q := ⟨fun a w st => k.out a w (st_fact hp st)⟩
theorem WL_mkFact {c : Cx} {rs : List (Nat × AV)} {hs : List HA} {Q : Exit → S → Prop} {ops : Array Oper} {tl : List Oper} {p : Prop} (hp : p) (k : WL c ops tl ⟨rs, .fact p :: hs⟩ Q) : WL c ops tl ⟨rs, hs⟩ Q := ⟨fun a w st => k.out a w (st_fact hp st)⟩
theorem wl_storeRx {α : Type} {c : Cx} {rs : List (Nat × AV)} {hs : List HA} {Q : Exit → S → Prop} {ops : Array Oper} {tl : List Oper} {ty : TypeId} {pos : String} {af : Array Edge} {x y : Operand} {t e : TypeId} {n kk j : Nat} {v : Value} {f : α → List AV} {xs : List α} {av : AV} (x' : α) {g : HA → List HA} (hx : opv rs x = some (.rat v n kk j)) (hat : At hs (.row v e n f xs) g) (hy : opv rs y = some av) (hS : TySz c.P t 1) (ho : One av) (hk : kk < xs.length) (hj : j < n) (hf' : f x' = (f xs[kk]).set j av) (k : WL c ops tl ⟨rs, g (.row v e n f (xs.set kk x'))⟩ Q) : WL c ops (⟨none, .store t x y, ty, pos, af, none⟩ :: tl) ⟨rs, hs⟩ Q := wl_at0 (lt_storeR1 hx hy hk hj hf') hat k
theorem wl_storeRNx {α : Type} {c : Cx} {rs : List (Nat × AV)} {hs : List HA} {Q : Exit → S → Prop} {ops : Array Oper} {tl : List Oper} {ty : TypeId} {pos : String} {af : Array Edge} {x y : Operand} {t e : TypeId} {n kk : Nat} {v : Value} {f : α → List AV} {xs : List α} (x' : α) {g : HA → List HA} (hx : opv rs x = some (.rat v n kk 0)) (hat : At hs (.row v e n f xs) g) (hy : opv rs y = some (.agg (f x'))) (hS : TySz c.P t n) (hO : OneF f) (hk : kk < xs.length) (hl : (f x').length = n) (k : WL c ops tl ⟨rs, g (.row v e n f (xs.set kk x'))⟩ Q) : WL c ops (⟨none, .store t x y, ty, pos, af, none⟩ :: tl) ⟨rs, hs⟩ Q := wl_at0 (lt_storeRN hx hy hk hl) hat k
end Go.Proofs.YtihonljdanjfmaaGreatDoor.Sw
