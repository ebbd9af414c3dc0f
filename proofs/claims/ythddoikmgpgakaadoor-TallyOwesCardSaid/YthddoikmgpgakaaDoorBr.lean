/- The contracts of old, over what is known of a frame: tallies, lists of them, rates. -/
import Derived.Test.YthddoikmgpgakaaDoorSwR
import Derived.Test.YthddoikmgpgakaaDoorTy
import Derived.Test.YthddoikmgpgakaaDoorRefOwed2
import Derived.Test.YthddoikmgpgakaaDoorLeaf2
namespace Go.Proofs.YthddoikmgpgakaaDoor.Sw
open Go.RowKit Go

/-- A tally's cells, rates' cells, a span's cells. -/
def tC (t : Tl) : List AV := [.val (.int .i64 t.id), .val (.int .i64 t.hs), .sl 1 iC t.st, .sl 1 iC t.fo]
def rC (r : Rt) : List AV := [.val (.int .i64 r.skin), .val (.int .i64 r.half), .val (.int .i64 r.barrel), .val (.int .i64 r.paid)]
def pC (s : Int × Int) : List AV := [.val (.int .i64 s.1), .val (.int .i64 s.2)]
instance {t : Tl} : OneL (tC t) := inferInstanceAs (OneL [_, _, _, _])
instance : OneF tC := ⟨fun _ => inferInstance⟩
instance : LenF tC 4 := ⟨fun _ => rfl⟩
instance {t : Rt} : OneL (rC t) := inferInstanceAs (OneL [_, _, _, _])
instance {t : Int × Int} : OneL (pC t) := inferInstanceAs (OneL [_, _])
instance : OneF pC := ⟨fun _ => inferInstance⟩
instance : LenF pC 2 := ⟨fun _ => rfl⟩

theorem rdI_of {G : Nat → Option Obj} {w : World} (hG : Gin G w) {a : Option Addr} {xs : List Int} (h : SlP G 1 iC a xs) : RdI w a xs := fun i hi => by
  obtain ⟨b, o, e, h1⟩ := h i hi
  obtain ⟨u, h2, h3⟩ := h1 0 _ rfl
  refine ⟨b, o, e, ?_⟩
  have h3' : u = .int .i64 xs[i] := h3
  have := cellG.cell hG h2
  rw [h3'] at this
  simpa using this
theorem fits_tl {G : Nat → Option Obj} {w : World} (hG : Gin G w) {t : Tl} {v : Value} (h : (AV.agg (tC t)).P G v) : ∃ sa sc fa fc, v = .agg #[.int .i64 t.id, .int .i64 t.hs, .slice sa t.st.length sc, .slice fa t.fo.length fc] ∧ RdI w sa t.st ∧ RdI w fa t.fo := by
  obtain ⟨us, e, hu⟩ := h
  match us, hu with
  | [v0, v1, v2, v3], ⟨h0, h1, ⟨a1, c1, h2, _, h4⟩, ⟨a2, c2, h3, _, h5⟩, _⟩ =>
    have h0' : v0 = _ := h0
    have h1' : v1 = _ := h1
    subst e h0' h1' h2 h3
    exact ⟨a1, c1, a2, c2, rfl, rdI_of hG h4, rdI_of hG h5⟩
theorem fits_tls {G : Nat → Option Obj} {w : World} (hG : Gin G w) {ts : List Tl} {v : Value} (h : (AV.sl 4 tC ts).P G v) : ∃ la lc, v = .slice la ts.length lc ∧ RdT w la ts := by
  obtain ⟨a, c, e, _, hs⟩ := h
  refine ⟨a, c, e, fun i hi => ?_⟩
  obtain ⟨b, o, ea, h1⟩ := hs i hi
  obtain ⟨u0, g0, k0⟩ := h1 0 _ rfl
  obtain ⟨u1, g1, k1⟩ := h1 1 _ rfl
  obtain ⟨u2, g2, ⟨a2, c2, k2, _, q2⟩⟩ := h1 2 _ rfl
  obtain ⟨u3, g3, ⟨a3, c3, k3, _, q3⟩⟩ := h1 3 _ rfl
  have k0' : u0 = _ := k0
  have k1' : u1 = _ := k1
  subst k0' k1' k2 k3
  exact ⟨b, o, a2, c2, a3, c3, ea, by simpa using cellG.cell hG g0, cellG.cell hG g1, cellG.cell hG g2, cellG.cell hG g3, rdI_of hG q2, rdI_of hG q3⟩
theorem fits_rt {G : Nat → Option Obj} {r : Rt} {v : Value} (h : (AV.agg (rC r)).P G v) : v = r.val := by
  obtain ⟨us, e, hu⟩ := h
  match us, hu with
  | [v0, v1, v2, v3], ⟨h0, h1, h2, h3, _⟩ =>
    have h0' : v0 = _ := h0
    have h1' : v1 = _ := h1
    have h2' : v2 = _ := h2
    have h3' : v3 = _ := h3
    subst e h0' h1' h2' h3'
    rfl
/-- The table of checks, as it is laid. -/
def TabG (G : Nat → Option Obj) : Prop := cellG G 0 0 = some (.func (.func 164) #[] #[]) ∧ cellG G 0 1 = some (.func (.func 165) #[] #[]) ∧ cellG G 0 2 = some (.func (.func 166) #[] #[])
def HA.tab : HA := ⟨fun G F _ => F = [] ∧ TabG G, fun h k => ⟨k.1, cellG.le h k.2.1, cellG.le h k.2.2.1, cellG.le h k.2.2.2⟩, fun _ k => k⟩
theorem con_tab {P : Program} {k : FuncId} {args : List AV} {av : AV} (he : ∀ args w, (callFunc k args).run P w = .ok (.enter k args) w)
    (h : ∀ (G : Nat → Option Obj) (vs : List Value) (w : World), Fits G args vs → Gin G w → Tab w → Calls P k vs.toArray w fun e w' => ∃ v, e = .returned v ∧ av.P G v ∧ Below w.heap.size w w') : Con P k args [HA.tab] (Is av [HA.tab]) :=
  ⟨he, fun G Fp vs w hf hi => by
    obtain ⟨F1, F2, ep, ⟨hF1, hT⟩, hF2⟩ := hi.hs
    have hF2' : F2 = [] := hF2
    subst hF1 hF2'
    obtain rfl : Fp = [] := List.Perm.eq_nil (by simpa using ep)
    refine (h G vs w hf hi.gin ⟨cellG.cell hi.gin hT.1, cellG.cell hi.gin hT.2.1, cellG.cell hi.gin hT.2.2⟩).mono fun e w' ⟨v, h1, h2, h3⟩ => ?_
    exact ⟨v, av, [HA.tab], G, [], h1, ⟨rfl, rfl⟩, ⟨h3.os, h3.tape, h3.output, h3.size, fun b hb _ => h3.block b hb, fun _ h => .inl h, Gle.refl _, fun _ _ h => .inl h⟩, ⟨fun b o e => (h3.block b (hi.gin.lt e)).trans (hi.gin b o e), by simp, fun b hb => (by cases hb), [], [], .refl _, ⟨rfl, hT⟩, rfl⟩, h2⟩⟩
theorem great_con (t : Tl) : Con Tryd.prog 18 [.agg (tC t)] [] (Is (.val (.bool (decide ((30 : Int) < t.st.length) || decide ((30 : Int) < t.fo.length)))) []) := by
  refine con_same (enters_of Tryd.func18 (by kernel_rfl) rfl) fun G vs w hf hG => ?_
  match vs, hf with
  | [v], ⟨h, _⟩ =>
    obtain ⟨sa, sc, fa, fc, rfl, h1, h2⟩ := fits_tl hG h
    exact (great_any t.id t.hs sa t.st.length sc fa t.fo.length fc w).mono fun e w' ⟨h, hb⟩ => ⟨_, h, rfl, hb⟩
def sameTl (t u : Tl) : Bool := sameT t.id t.hs u.id u.hs t.st t.fo u.st u.fo
theorem sameTl_self (t : Tl) : sameTl t t = true := by simp [sameTl, sameT]
theorem same_con (t u : Tl) (h1 : t.st.length ≤ 1000) (h2 : t.fo.length ≤ 1000) : Con Tryd.prog 24 [.agg (tC t), .agg (tC u)] [] (Is (.val (.bool (sameTl t u))) []) := by
  refine con_same (enters_of Tryd.func24 (by kernel_rfl) rfl) fun G vs w hf hG => ?_
  match vs, hf with
  | [v, v'], ⟨h, h', _⟩ =>
    obtain ⟨sa, sc, fa, fc, rfl, g1, g2⟩ := fits_tl hG h
    obtain ⟨sa', sc', fa', fc', rfl, g3, g4⟩ := fits_tl hG h'
    exact (same_any _ _ _ _ _ _ _ _ _ _ _ _ _ _ _ _ w (by omega) (by omega) g1 g2 g3 g4).mono fun e w' ⟨h, hb⟩ => ⟨_, h, rfl, hb⟩
theorem tally_con (t : Tl) (h1 : t.st.length ≤ 1000) (h2 : t.fo.length ≤ 1000) : Con Tryd.prog 76 [.agg (tC t)] [] (Is (.val (.bool (okT t.id t.hs t.st t.fo))) []) := by
  refine con_same (enters_of Tryd.func76 (by kernel_rfl) rfl) fun G vs w hf hG => ?_
  match vs, hf with
  | [v], ⟨h, _⟩ =>
    obtain ⟨sa, sc, fa, fc, rfl, g1, g2⟩ := fits_tl hG h
    exact (tally_any t.id t.hs _ _ _ _ _ _ w (by omega) (by omega) g1 g2).mono fun e w' ⟨h, hb⟩ => ⟨_, h, rfl, hb⟩
theorem within_con (n lo hi : Int) : Con Tryd.prog 78 [.val (.int .i64 n), .val (.int .i64 lo), .val (.int .i64 hi)] [] (Is (.val (.bool (decide (lo ≤ n) && decide (n ≤ hi)))) []) := by
  refine con_same (enters_of Tryd.func78 (by kernel_rfl) rfl) fun G vs w hf hG => ?_
  match vs, hf with
  | [v0, v1, v2], ⟨h0, h1, h2, _⟩ =>
    have h0' : v0 = _ := h0
    have h1' : v1 = _ := h1
    have h2' : v2 = _ := h2
    subst h0' h1' h2'
    exact (within_any n lo hi w).mono fun e w' ⟨h, hb⟩ => ⟨_, h, rfl, hb ▸ Below.refl _ _⟩
/-- What 'Kinds' tells. -/
noncomputable def kindsR (a : Tl) (k : Int) : (Int × Int) × Int := if okT a.id a.hs a.st a.fo = true then (if 1 ≤ k ∧ k ≤ 4 then (spanF (kindW k) a.st a.fo, 0) else ((0, 0), 72)) else ((0, 0), 70)
theorem kindsR_eq {a : Tl} {k lo hi e : Int} (h : KindsR a k lo hi e) : kindsR a k = ((lo, hi), e) := by
  unfold KindsR at h
  unfold kindsR
  split at h
  · rename_i h1
    rw [if_pos h1]
    split at h
    · rename_i h2
      rw [if_pos h2, spanF_eq h.1, h.2]
    · rename_i h2
      obtain ⟨rfl, rfl, rfl⟩ := h
      rw [if_neg h2]
  · rename_i h1
    obtain ⟨rfl, rfl, rfl⟩ := h
    rw [if_neg h1]
/-- A span and an error. -/
def seA (s : (Int × Int) × Int) : AV := .tup [.agg (pC s.1), .val (.int .i64 s.2)]
theorem seA_ok (s : (Int × Int) × Int) (G : Nat → Option Obj) : (seA s).P G (.tuple #[.agg #[.int .i64 s.1.1, .int .i64 s.1.2], .int .i64 s.2]) := ⟨[_, _], rfl, ⟨[_, _], rfl, rfl, rfl, trivial⟩, rfl, trivial⟩
theorem kinds_con (t : Tl) (k : Int) (h1 : t.st.length ≤ 1000) (h2 : t.fo.length ≤ 1000) : Con Tryd.prog 42 [.agg (tC t), .val (.int .i64 k)] [HA.tab] (Is (seA (kindsR t k)) [HA.tab]) := by
  refine con_tab (enters_of Tryd.func42 (by kernel_rfl) rfl) fun G vs w hf hG hT => ?_
  match vs, hf with
  | [v, v'], ⟨h, h', _⟩ =>
    obtain ⟨sa, sc, fa, fc, rfl, g1, g2⟩ := fits_tl hG h
    have h'' : v' = _ := h'
    subst h''
    exact (kindsP_any t k sa fa sc fc w hT h1 h2 g1 g2).mono fun e w' ⟨lo, hi, er, h, hk, hb⟩ => ⟨_, h, by rw [kindsR_eq hk]; exact seA_ok ((lo, hi), er) G, hb⟩
theorem owed_con (t : Tl) (r : Rt) (h1 : t.st.length ≤ 1000) (h2 : t.fo.length ≤ 1000) : Con Tryd.prog 44 [.agg (tC t), .agg (rC r)] [HA.tab] (Is (seA (owedR t r)) [HA.tab]) := by
  refine con_tab (enters_of Tryd.func44 (by kernel_rfl) rfl) fun G vs w hf hG hT => ?_
  match vs, hf with
  | [v, v'], ⟨h, h', _⟩ =>
    obtain ⟨sa, sc, fa, fc, rfl, g1, g2⟩ := fits_tl hG h
    obtain rfl := fits_rt h'
    exact (owed_any t r sa fa sc fc w hT h1 h2 g1 g2).mono fun e w' ⟨h, hb⟩ => ⟨_, h, seA_ok _ G, hb⟩
theorem owes_con (ts : List Tl) (house : Int) (r : Rt) (hl : ts.length ≤ 4000) (hs : ∀ t ∈ ts, t.st.length ≤ 1000 ∧ t.fo.length ≤ 1000) : Con Tryd.prog 46 [.sl 4 tC ts, .val (.int .i64 house), .agg (rC r)] [HA.tab] (Is (seA (owesR ts house r)) [HA.tab]) := by
  refine con_tab (enters_of Tryd.func46 (by kernel_rfl) rfl) fun G vs w hf hG hT => ?_
  match vs, hf with
  | [v, v', v''], ⟨h, h', h'', _⟩ =>
    obtain ⟨la, lc, rfl, g⟩ := fits_tls hG h
    have hh : v' = _ := h'
    subst hh
    obtain rfl := fits_rt h''
    exact (owes_any ts house r la lc w hT hl hs g).mono fun e w' ⟨h, hb⟩ => ⟨_, h, seA_ok _ G, hb⟩
theorem refOwed_con (t : Tl) (r : Rt) (h1 : t.st.length ≤ 1000) (h2 : t.fo.length ≤ 1000) : Con Tryd.prog 45 [.agg (tC t), .agg (rC r)] [] (Is (seA (owedR t r)) []) := by
  refine con_same (enters_of Tryd.func45 (by kernel_rfl) rfl) fun G vs w hf hG => ?_
  match vs, hf with
  | [v, v'], ⟨h, h', _⟩ =>
    obtain ⟨sa, sc, fa, fc, rfl, g1, g2⟩ := fits_tl hG h
    obtain rfl := fits_rt h'
    exact (refOwed_any t r sa fa sc fc w h1 h2 g1 g2).mono fun e w' ⟨h, hb⟩ => ⟨_, h, seA_ok _ G, hb⟩
theorem refOwes_con (ts : List Tl) (house : Int) (r : Rt) (hl : ts.length ≤ 4000) (hs : ∀ t ∈ ts, t.st.length ≤ 1000 ∧ t.fo.length ≤ 1000) : Con Tryd.prog 47 [.sl 4 tC ts, .val (.int .i64 house), .agg (rC r)] [] (Is (seA (owesR ts house r)) []) := by
  refine con_same (enters_of Tryd.func47 (by kernel_rfl) rfl) fun G vs w hf hG => ?_
  match vs, hf with
  | [v, v', v''], ⟨h, h', h'', _⟩ =>
    obtain ⟨la, lc, rfl, g⟩ := fits_tls hG h
    have hh : v' = _ := h'
    subst hh
    obtain rfl := fits_rt h''
    exact (refOwes_any ts house r la lc w hl hs g).mono fun e w' ⟨h, hb⟩ => ⟨_, h, seA_ok _ G, hb⟩
theorem refComes_con (t : Tl) (W : Int → Int) (h1 : t.st.length ≤ 1000) (h2 : t.fo.length ≤ 1000) (o1 : okN t.st = true) (o2 : okN t.fo = true) (w0 : W 0 = 0) (wb : ∀ n, -1000 ≤ W n ∧ W n ≤ 1000) :
    Con Tryd.prog 93 [.agg (tC t), .agg [.val (.int .i64 (W 0)), .val (.int .i64 (W 1)), .val (.int .i64 (W 2)), .val (.int .i64 (W 3)), .val (.int .i64 (W 4))]] [] (Is (.agg (pC (spanF W t.st t.fo))) []) := by
  refine con_same (enters_of Tryd.func93 (by kernel_rfl) rfl) fun G vs w hf hG => ?_
  match vs, hf with
  | [v, v'], ⟨h, h', _⟩ =>
    obtain ⟨sa, sc, fa, fc, rfl, g1, g2⟩ := fits_tl hG h
    obtain ⟨us, rfl, hu⟩ := h'
    match us, hu with
    | [u0, u1, u2, u3, u4], ⟨k0, k1, k2, k3, k4, _⟩ =>
      have k0' : u0 = _ := k0
      have k1' : u1 = _ := k1
      have k2' : u2 = _ := k2
      have k3' : u3 = _ := k3
      have k4' : u4 = _ := k4
      subst k0' k1' k2' k3' k4'
      exact (refComes_any t W sa fa sc fc w h1 h2 o1 o2 w0 wb g1 g2).mono fun e w' ⟨h, hb⟩ => ⟨_, h, ⟨[_, _], rfl, rfl, rfl, trivial⟩, hb⟩
end Go.Proofs.YthddoikmgpgakaaDoor.Sw
