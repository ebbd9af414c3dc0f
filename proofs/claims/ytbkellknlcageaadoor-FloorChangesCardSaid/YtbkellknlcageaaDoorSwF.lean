/- Boxes that are frozen, function values, tables that are laid once, parts of values. -/
import Derived.Test.YtbkellknlcageaaDoorSwR
import Derived.LoopNIn
namespace Go.Proofs.YtbkellknlcageaaDoor.Sw
open Go.RowKit Go

/-- A pointer to frozen cells. -/
abbrev AV.fp (n : Nat) (cs : List AV) : AV := .el n (fun _ : Unit => cs) [()] 0 0
instance {α : Type} {n : Nat} {f : α → List AV} {xs : List α} {k j : Nat} : One (.el n f xs k j) := ⟨fun _ _ ⟨_, _, h, _⟩ => by subst h; rfl⟩
theorem slP_unit {G : Nat → Option Obj} {b n : Nat} {cs : List AV} {vs : List Value} {t : TypeId} {z : Nat × Nat} (hg : G b = some (.cells vs.toArray t z)) (hf : Fits G cs vs) : SlP G n (fun _ : Unit => cs) (some ⟨b, 0, none⟩) [()] := fun i hi => by
  simp only [List.length_cons, List.length_nil] at hi
  obtain rfl : i = 0 := by omega
  refine ⟨b, 0, rfl, fun j av e => ?_⟩
  obtain ⟨v, hv, hp⟩ := hf.get e
  refine ⟨v, ?_, hp⟩
  unfold cellG
  rw [hg]
  simpa using hv
theorem box_freeze {G : Nat → Option Obj} {F : List Nat} {w : World} {p : Value} {cs : List AV} {t : TypeId} {rest : List HA} (n : Nat) (h : Inv G F (.box p cs t :: rest) w) :
    ∃ G' F', Inv G' F' rest w ∧ Fr w w F F' G G' ∧ (AV.fp n cs).P G' p := by
  obtain ⟨F1, F2, ep, ⟨b, vs, rfl, hF1, hf, hb⟩, h2⟩ := h.hs
  have nd := ep.nodup_iff.1 h.nd
  have hm : ∀ k, k ∈ F2 → k ∈ F := fun k hk => ep.mem_iff.2 (by simp [hk])
  subst hF1
  have hbF : b ∈ F := ep.mem_iff.2 (by simp)
  have hgb := (h.own b hbF).2
  have hbn : b ∉ F2 := fun hin => (List.nodup_append.1 nd).2.2 b (by simp) b hin rfl
  have hself : gadd G b (.cells vs.toArray t (0, 0)) b = some (.cells vs.toArray t (0, 0)) := by unfold gadd; rw [if_pos rfl]
  refine ⟨gadd G b (.cells vs.toArray t (0, 0)), F2, ⟨fun k o ek => ?_, (List.nodup_append.1 nd).2.1, fun k hk => ⟨(h.own k (hm k hk)).1, ?_⟩, hsP.mono (gle_add hgb) h2⟩, ⟨rfl, rfl, rfl, Nat.le_refl _, fun _ _ _ => rfl, fun k hk => .inl (hm k hk), gle_add hgb, fun k o ek => ?_⟩, b, 0, by simp, slP_unit hself (Fits.mono (gle_add hgb) hf)⟩
  · unfold gadd at ek
    by_cases hk : k = b
    · subst hk; rw [if_pos rfl] at ek; cases ek; exact hb
    · rw [if_neg hk] at ek; exact h.gin k o ek
  · unfold gadd
    rw [if_neg (fun e => by subst e; exact hbn hk)]
    exact (h.own k (hm k hk)).2
  · unfold gadd at ek
    by_cases hk : k = b
    · subst hk; exact .inr (.inl hbF)
    · rw [if_neg hk] at ek; exact .inl ek
theorem st_frzb {c : Cx} {rs : List (Nat × AV)} {hs r : List HA} {cs : List AV} {t : TypeId} {p : Value} {i : Nat} {a : Act} {w : World} (n : Nat) (hl : look rs i = some (.val p)) (hr : Rm hs (.box p cs t) r) (st : St c ⟨rs, hs⟩ a w) : St c ⟨(i, AV.fp n cs) :: rs, r⟩ a w := by
  obtain ⟨G, F, hI, hF, hR, rr⟩ := st
  obtain ⟨G', F', h1, h2, h3⟩ := box_freeze n (rest := r) ⟨hI.gin, hI.nd, hI.own, hr.sel hI.hs⟩
  refine ⟨G', F', h1, hF.trans h2, fun k av ek => ?_, rr.1, rr.2.step h2⟩
  simp only [look] at ek
  cases hb : Nat.beq i k with
  | true =>
    rw [hb] at ek
    obtain rfl := Nat.eq_of_beq_eq_true hb
    simp only [cond_true, Option.some.injEq] at ek
    subst ek
    have : a.tmps.getD i undef = p := hR _ _ hl
    rw [this]; exact h3
  | false => rw [hb] at ek; exact av.mono h2.gle (hR k av (by simpa using ek))
theorem W_frzb {c : Cx} {rs : List (Nat × AV)} {hs r : List HA} {Q : Exit → S → Prop} {x : Code} {cs : List AV} {t : TypeId} {p : Value} (i n : Nat) (hl : look rs i = some (.val p)) (hr : Rm hs (.box p cs t) r) (k : W c x ⟨(i, AV.fp n cs) :: rs, r⟩ Q) : W c x ⟨rs, hs⟩ Q := ⟨fun a w st => k.out a w (st_frzb n hl hr st)⟩
theorem WL_frzb {c : Cx} {rs : List (Nat × AV)} {hs r : List HA} {Q : Exit → S → Prop} {ops : Array Oper} {l : List Oper} {cs : List AV} {t : TypeId} {p : Value} (i n : Nat) (hl : look rs i = some (.val p)) (hr : Rm hs (.box p cs t) r) (k : WL c ops l ⟨(i, AV.fp n cs) :: rs, r⟩ Q) : WL c ops l ⟨rs, hs⟩ Q := ⟨fun a w st => k.out a w (st_frzb n hl hr st)⟩

instance {k : FuncId} {caps : List AV} : One (.clo k caps) := ⟨fun _ _ ⟨_, h, _⟩ => by subst h; rfl⟩
section
variable {P : Program} {rs : List (Nat × AV)} {d : Option Nat} {ty : TypeId} {pos : String} {af : Array Edge} {g : Option (Nat × Bool)}
theorem lt_makeClo {f : FuncId} {xs : Array Operand} {vs : List AV} (hx : opvs rs xs.toList = some vs) : LT P ⟨d, .makeFunc (.func f) #[] xs, ty, pos, af, g⟩ rs [] (Is (.clo f vs) []) :=
  LT_val (fun _ e => by cases e) fun a w G hR hG => by
    have h := opvs_ok hR hx
    refine ⟨.func (.func f) #[] (xs.map a.eval), ⟨xs.toList.map a.eval, (by rw [← Array.toList_map, Array.toArray_toList]), h⟩, ?_⟩
    simp only [execOp]
    simp [Instr.makeFunc, go_sem]
/-- A call of a function value. -/
theorem lt_callV {x : Operand} {k : FuncId} {caps : List AV} {xs : List Operand} {ts : Array TypeId} {avs : List AV} {pre : List HA} {post : AV → List HA → Prop} (hf : opv rs x = some (.clo k caps)) (hx : opvs rs xs = some avs) (hc : Con P k (avs ++ caps) pre post) :
    LT P ⟨d, .call { callee := .value x, args := xs.toArray, argTypes := ts }, ty, pos, af, g⟩ rs pre post := by
  refine ⟨?_⟩
  intro F n hF a w G Fp K Q hR hI hk
  obtain ⟨us, e1, hu⟩ : (AV.clo k caps).P G (a.eval x) := opv_ok hR hf
  have hv := opvs_ok hR hx
  have hcalls := hc.calls G Fp (xs.map a.eval ++ us) w (hv.append hu) hI
  unfold Oper.wpIn
  refine ⟨fun f _ => hF.fn f, ?_⟩
  rw [Oper.semAt_eq _ _ _ (fun _ e => by cases e)]
  have hr : (execOp a.eval ⟨d, .call { callee := .value x, args := xs.toArray, argTypes := ts }, ty, pos, af, g⟩).run P w = .ok (.enter k (xs.map a.eval ++ us).toArray) w := by
    simp [execOp, resolve, e1, Deferred.ofValue, invoke, hc.enters]
  rw [hr]
  refine ⟨fun h => (by rw [hF.depth] at h; cases h), hF.calls (hcalls.mono ?_)⟩
  rintro e w' ⟨v, av, prod, G', F', rfl, hp, hfr, hi, hv⟩
  exact hk v av prod G' F' w' hp hfr hi hv
/-- Cells of a global that stay. -/
def HA.glob (g : Nat) (cs : List AV) : HA := ⟨fun G F _ => F = [] ∧ ∃ vs, Fits G cs vs ∧ ∀ j u, vs[j]? = some u → cellG G g j = some u, fun h ⟨e, vs, k1, k2⟩ => ⟨e, vs, k1.mono h, fun j u e => cellG.le h (k2 j u e)⟩, fun _ k => k⟩
theorem lt_loadG {gl : Nat} {t : TypeId} {n : Nat} [TyN P t n] {cs : List AV} (hn : cs.length = n) : LT P ⟨d, .load t (.global gl), ty, pos, af, g⟩ rs [.glob gl cs] (Is (.agg cs) [.glob gl cs]) := by
  refine ⟨?_⟩
  intro F m hF a w G Fp K Q hR hI hk
  obtain ⟨F1, F2, e, ⟨hF1, vs, hf, hc⟩, h2⟩ := hI.hs
  unfold Oper.wpIn
  refine ⟨fun f _ => hF.fn f, ?_⟩
  rw [Oper.semAt_eq _ _ _ (fun _ e => by cases e)]
  have hr : (execOp a.eval ⟨d, .load t (.global gl), ty, pos, af, g⟩).run P w = .ok (.value (.agg vs.toArray)) w := by
    have e1 : a.eval (.global gl) = .pointer (some ⟨gl, 0, none⟩) := rfl
    simp only [execOp, e1, Sem.run_bind]
    rw [run_loadN (n := n) (vs := vs) (by rw [hf.length, hn]) (fun k u e => by rw [Nat.zero_add]; exact cellG.cell hI.gin (hc k u e))]
    rfl
  rw [hr]
  exact hk (.agg vs.toArray) _ _ G Fp w ⟨rfl, rfl⟩ (Fr.refl _ _ _) hI ⟨vs, rfl, hf⟩
/-- A part of an array's value, of one cell. -/
theorem lt_indexV1 {x y : Operand} {t : TypeId} {len : Nat} {e : TypeId} (hu : P.underlying t = some (.array len e)) [Ty1 P e] {cs : List AV} {i : Int} {k : Nat} {kd : IntKind} {av : AV} (hx : opv rs x = some (.agg cs)) (hy : opv rs y = some (.val (.int kd i))) (hi : i = (k : Int)) (hk : k < len) (hc : cs[k]? = some av) :
    LT P ⟨d, .index t x y, ty, pos, af, g⟩ rs [] (Is av []) :=
  LT_val (fun _ e => by cases e) fun a w G hR hG => by
    obtain ⟨vs, e1, hf⟩ : (AV.agg cs).P G (a.eval x) := opv_ok hR hx
    have e2 : a.eval y = _ := opv_ok hR hy
    obtain ⟨v, hv, hp⟩ := hf.get hc
    refine ⟨v, hp, ?_⟩
    subst hi
    have h1 : (Ty1.agg (P := P) (t := e) w) = (Ty1.agg (P := P) (t := e) w) := rfl
    simp only [execOp, e1, e2, Instr.index, asIntOf, Sem.run_bind, Sem.run_pure, Result.andThen_ok]
    rw [show (underlying t).run P w = .ok (.array len e) w by simp [underlying, Sem.run, hu, go_sem]]
    simp only [Result.andThen_ok]
    rw [if_pos (by omega)]
    simp only [part, Sem.run_bind, Ty1.size (P := P) (t := e) w, Ty1.agg (P := P) (t := e) w, Result.andThen_ok]
    simp [hv, Sem.run_pure]
end
/-- A box that a function value has caught is frozen. -/
theorem st_frzC {c : Cx} {rs : List (Nat × AV)} {hs r : List HA} {cs caps : List AV} {t : TypeId} {p : Value} {k : FuncId} {i j : Nat} {a : Act} {w : World} (n : Nat) (hl : look rs i = some (.clo k caps)) (hj : caps[j]? = some (.val p)) (hr : Rm hs (.box p cs t) r) (st : St c ⟨rs, hs⟩ a w) : St c ⟨(i, .clo k (caps.set j (AV.fp n cs))) :: rs, r⟩ a w := by
  obtain ⟨G, F, hI, hF, hR, rr⟩ := st
  obtain ⟨G', F', h1, h2, h3⟩ := box_freeze n (rest := r) ⟨hI.gin, hI.nd, hI.own, hr.sel hI.hs⟩
  refine ⟨G', F', h1, hF.trans h2, fun q av ek => ?_, rr.1, rr.2.step h2⟩
  simp only [look] at ek
  cases hb : Nat.beq i q with
  | true =>
    rw [hb] at ek
    obtain rfl := Nat.eq_of_beq_eq_true hb
    simp only [cond_true, Option.some.injEq] at ek
    subst ek
    obtain ⟨vs, e1, hf⟩ : (AV.clo k caps).P G (a.tmps.getD i undef) := hR _ _ hl
    obtain ⟨u, hu, hu2⟩ := hf.get hj
    have hu3 : u = p := hu2
    subst hu3
    refine ⟨vs, e1, ?_⟩
    have := (hf.mono h2.gle).set j h3
    rwa [show vs.set j u = vs from by
      obtain ⟨hlt, rfl⟩ := List.getElem?_eq_some_iff.1 hu
      exact List.set_getElem_self hlt] at this
  | false => rw [hb] at ek; exact av.mono h2.gle (hR q av (by simpa using ek))
theorem WL_frzC {c : Cx} {rs : List (Nat × AV)} {hs r : List HA} {Q : Exit → S → Prop} {ops : Array Oper} {l : List Oper} {cs caps : List AV} {t : TypeId} {p : Value} {k : FuncId} (i j n : Nat) (hl : look rs i = some (.clo k caps)) (hj : caps[j]? = some (.val p)) (hr : Rm hs (.box p cs t) r) (kk : WL c ops l ⟨(i, .clo k (caps.set j (AV.fp n cs))) :: rs, r⟩ Q) : WL c ops l ⟨rs, hs⟩ Q := ⟨fun a w st => kk.out a w (st_frzC n hl hj hr st)⟩
section
variable {c : Cx} {rs : List (Nat × AV)} {hs : List HA} {Q : Exit → S → Prop} {ops : Array Oper} {tl : List Oper} {d : Nat} {ty : TypeId} {pos : String} {af : Array Edge}
theorem wl_makeClo {f : FuncId} {xs : Array Operand} {vs : List AV} (hx : opvs rs xs.toList = some vs) (hd : Nat.blt d c.nt = true) (k : WL c ops tl ⟨(d, .clo f vs) :: rs, hs⟩ Q) : WL c ops (⟨some d, .makeFunc (.func f) #[] xs, ty, pos, af, none⟩ :: tl) ⟨rs, hs⟩ Q := wl_ex (lt_makeClo hx) hd k
theorem wl_callV {x : Operand} {k : FuncId} {caps : List AV} {xs : List Operand} {ts : Array TypeId} {avs : List AV} {av : AV} (hc : Con c.P k (avs ++ caps) [] (Is av [])) (hf : opv rs x = some (.clo k caps)) (hx : opvs rs xs = some avs) (hd : Nat.blt d c.nt = true) (kk : WL c ops tl ⟨(d, av) :: rs, hs⟩ Q) : WL c ops (⟨some d, .call { callee := .value x, args := xs.toArray, argTypes := ts }, ty, pos, af, none⟩ :: tl) ⟨rs, hs⟩ Q := wl_ex (lt_callV hf hx hc) hd kk
theorem wl_loadG {gl : Nat} {t : TypeId} {n : Nat} [TyN c.P t n] {cs : List AV} {f : HA → List HA} (hat : At hs (.glob gl cs) f) (hn : cs.length = n) (hd : Nat.blt d c.nt = true) (k : WL c ops tl ⟨(d, .agg cs) :: rs, hs⟩ Q) : WL c ops (⟨some d, .load t (.global gl), ty, pos, af, none⟩ :: tl) ⟨rs, hs⟩ Q := wl_rd (lt_loadG hn) hat hd k
theorem wl_indexV1 {x y : Operand} {t : TypeId} {len : Nat} {e : TypeId} (hu : c.P.underlying t = some (.array len e)) [Ty1 c.P e] {cs : List AV} {i : Int} {k : Nat} {kd : IntKind} {av : AV} (hx : opv rs x = some (.agg cs)) (hy : opv rs y = some (.val (.int kd i))) (hi : i = (k : Int)) (hk : k < len) (hc : cs[k]? = some av) (hd : Nat.blt d c.nt = true) (kk : WL c ops tl ⟨(d, av) :: rs, hs⟩ Q) : WL c ops (⟨some d, .index t x y, ty, pos, af, none⟩ :: tl) ⟨rs, hs⟩ Q := wl_ex (lt_indexV1 hu hx hy hi hk hc) hd kk
end
section
variable {P : Program} {rs : List (Nat × AV)} {hsR : List HA} {d : Option Nat} {ty : TypeId} {pos : String} {af : Array Edge} {g : Option (Nat × Bool)}
theorem ltr_indexRow {α : Type} {x y : Operand} {t e e' : TypeId} {n : Nat} [TyS P t e' n] {v : Value} {f : α → List AV} {xs : List α} {i : Int} {kk : Nat} {kd : IntKind} {h : HA → List HA} (hx : opv rs x = some (.val v)) (hat : At hsR (.row v e n f xs) h) (hy : opv rs y = some (.val (.int kd i))) (hi : i = (kk : Int)) (hk : kk < xs.length) :
    LTr P ⟨d, .indexAddr t x y, ty, pos, af, g⟩ rs hsR [] (Is (.rat v n kk 0) []) := ltr_rd (lt_indexRow hx hy hi hk) hat
theorem ltr_lenRow {α : Type} {x : Operand} {t e e' : TypeId} {n n' : Nat} [TyS P t e' n'] {v : Value} {f : α → List AV} {xs : List α} {h : HA → List HA} (hx : opv rs x = some (.val v)) (hat : At hsR (.row v e n f xs) h) :
    LTr P ⟨d, .call { callee := .builtin .len, args := #[x], argTypes := #[t] }, ty, pos, af, g⟩ rs hsR [] (Is (.val (.int .i64 xs.length)) []) := ltr_rd (lt_lenRow hx) hat
theorem ltr_loadR1 {α : Type} {x : Operand} {t e : TypeId} {n kk j : Nat} [Ty1 P t] {v : Value} {f : α → List AV} {xs : List α} {av : AV} {h : HA → List HA} (hx : opv rs x = some (.rat v n kk j)) (hat : At hsR (.row v e n f xs) h) {y : α} (hk : xs[kk]? = some y) (hc : (f y)[j]? = some av) :
    LTr P ⟨d, .load t x, ty, pos, af, g⟩ rs hsR [] (Is av []) := by
  obtain ⟨hl, rfl⟩ := List.getElem?_eq_some_iff.1 hk
  exact ltr_rd (lt_loadR1 hx hl hc) hat
theorem lt_quo {x y : Operand} {m n : Int} {t t' : TypeId} (hx : opv rs x = some (.val (.int .i64 m))) (hy : opv rs y = some (.val (.int .i64 n))) (h0 : 0 < n) (h1 : 0 ≤ m) (h2 : m ≤ 9223372036854775807) :
    LT P ⟨d, .binOp .quo t x y t', ty, pos, af, g⟩ rs [] (Is (.val (.int .i64 (m / n))) []) :=
  LT_val (fun _ e => by cases e) fun a w G hR _ => ⟨_, rfl, by
    have e1 : a.eval x = _ := opv_ok hR hx
    have e2 : a.eval y = _ := opv_ok hR hy
    have hq : m.tdiv n = m / n := Int.tdiv_eq_ediv_of_nonneg h1
    have hr1 : 0 ≤ m / n := Int.ediv_nonneg h1 (by omega)
    have hr2 : m / n ≤ m := Int.ediv_le_self n h1
    have hz : n ≠ 0 := by omega
    simp only [execOp, e1, e2]
    simp [go_sem, hz, hq, IntWalk.i64_in (m / n) (by omega)]⟩
end
theorem wl_quo {c : Cx} {rs : List (Nat × AV)} {hs : List HA} {Q : Exit → S → Prop} {ops : Array Oper} {tl : List Oper} {d : Nat} {ty : TypeId} {pos : String} {af : Array Edge} {x y : Operand} {m n : Int} {t t' : TypeId} (hx : opv rs x = some (.val (.int .i64 m))) (hy : opv rs y = some (.val (.int .i64 n))) (h0 : 0 < n) (h1 : 0 ≤ m) (h2 : m ≤ 9223372036854775807) (hd : Nat.blt d c.nt = true) (k : WL c ops tl ⟨(d, .val (.int .i64 (m / n))) :: rs, hs⟩ Q) : WL c ops (⟨some d, .binOp .quo t x y t', ty, pos, af, none⟩ :: tl) ⟨rs, hs⟩ Q := wl_ex (lt_quo hx hy h0 h1 h2) hd k
/-- A register by another word for the same. -/
theorem WL_as {c : Cx} {rs : List (Nat × AV)} {hs : List HA} {Q : Exit → S → Prop} {ops : Array Oper} {l : List Oper} (i : Nat) (av : AV) (h : look rs i = some av) (k : WL c ops l ⟨(i, av) :: rs, hs⟩ Q) : WL c ops l ⟨rs, hs⟩ Q := ⟨fun a w st => by
  obtain ⟨G, F, hI, hF, hR, r⟩ := st
  refine k.out a w ⟨G, F, hI, hF, fun j u e => ?_, r⟩
  simp only [look] at e
  cases hb : Nat.beq i j with
  | true =>
    rw [hb] at e
    obtain rfl := Nat.eq_of_beq_eq_true hb
    simp only [cond_true, Option.some.injEq] at e
    subst e
    exact hR _ _ h
  | false => rw [hb] at e; exact hR j u (by simpa using e)⟩
theorem LT.imp {P : Program} {o : Oper} {rs : List (Nat × AV)} {cons : List HA} {post post' : AV → List HA → Prop} (h : LT P o rs cons post) (k : ∀ x y, post x y → post' x y) : LT P o rs cons post' := ⟨fun F n hF a w G Fp K Q hR hI hk => h.go F n hF a w G Fp K Q hR hI fun v av prod G' F' w' hp => hk v av prod G' F' w' (k av prod hp)⟩
theorem lt_allocT {P : Program} {rs : List (Nat × AV)} {d : Option Nat} {ty : TypeId} {pos : String} {af : Array Edge} {g : Option (Nat × Bool)} {t : TypeId} {zs : List Value} [TyZ P t zs] : LT P ⟨d, .alloc t, ty, pos, af, g⟩ rs [] (fun x y => ∃ u, x = .val u ∧ y = [.box u (zs.map AV.val) t]) :=
  lt_alloc.imp fun x y ⟨p, _, h1, h2⟩ => ⟨p, h1, h2⟩
/-- A pointer to an own box is one cell. -/
theorem WL_oneB {c : Cx} {rs : List (Nat × AV)} {hs : List HA} {Q : Exit → S → Prop} {ops : Array Oper} {l : List Oper} {cs : List AV} {t : TypeId} {p : Value} {g : HA → List HA} (hat : At hs (.box p cs t) g) (k : One (.val p) → WL c ops l ⟨rs, hs⟩ Q) : WL c ops l ⟨rs, hs⟩ Q := ⟨fun a w st => by
  have st' := st
  obtain ⟨G, F, hI, _⟩ := st'
  obtain ⟨rest, hs'⟩ := hat.sel
  obtain ⟨F1, F2, _, ⟨b, vs, rfl, _⟩, _⟩ := (hs' _ G F w).1 (by rw [hat.self]; exact hI.hs)
  exact (k ⟨fun G v' h => by (have h' : v' = _ := h); subst h'; rfl⟩).out a w st⟩
/-- What is known, written out. -/
theorem WL_to {c : Cx} {rs : List (Nat × AV)} {hs : List HA} {Q : Exit → S → Prop} {ops : Array Oper} {l : List Oper} (rs' : List (Nat × AV)) (hs' : List HA) (h1 : hs = hs') (h2 : rs'.map (fun p => look rs p.1) = rs'.map (fun p => some p.2)) (k : WL c ops l ⟨rs', hs'⟩ Q) : WL c ops l ⟨rs, hs⟩ Q := by
  subst h1
  refine ⟨fun a w st => ?_⟩
  obtain ⟨G, F, hI, hF, hR, r⟩ := st
  refine k.out a w ⟨G, F, hI, hF, fun j u e => ?_, r⟩
  have hm : ∃ p ∈ rs', p.1 = j ∧ p.2 = u := by
    clear h2 k
    induction rs' with
    | nil => simp [look] at e
    | cons q t ih =>
      obtain ⟨i, x⟩ := q
      simp only [look] at e
      cases hb : Nat.beq i j with
      | true =>
        rw [hb] at e
        simp only [cond_true, Option.some.injEq] at e
        exact ⟨(i, x), by simp, Nat.eq_of_beq_eq_true hb, e⟩
      | false =>
        rw [hb] at e
        obtain ⟨p, h1, h2⟩ := ih (by simpa using e)
        exact ⟨p, by simp [h1], h2⟩
  obtain ⟨p, hp, rfl, rfl⟩ := hm
  exact hR _ _ (List.map_inj_left.1 h2 p hp)
section
variable {P : Program} {rs : List (Nat × AV)} {hsR : List HA} {d : Option Nat} {ty : TypeId} {pos : String} {af : Array Edge} {g : Option (Nat × Bool)}
theorem lt_nilCheck {x : Operand} {p : Value} {cs : List AV} {tb : TypeId} (hx : opv rs x = some (.val p)) : LT P ⟨d, .nilCheck x, ty, pos, af, g⟩ rs [.box p cs tb] (Is (.val p) [.box p cs tb]) :=
  LT_read (fun _ e => by cases e) fun a w G F hR _ ⟨b, vs, hp, _, hf, hb⟩ => by
    have e : a.eval x = p := opv_ok hR hx
    exact ⟨p, rfl, by simp only [execOp, e, hp]; rfl⟩
theorem lt_nilCheckE {α : Type} {x : Operand} {n k j : Nat} {f : α → List AV} {xs : List α} (hx : opv rs x = some (.el n f xs k j)) : LT P ⟨d, .nilCheck x, ty, pos, af, g⟩ rs [] (Is (.el n f xs k j) []) :=
  LT_val (fun _ e => by cases e) fun a w G hR hG => by
    have hv : (AV.el n f xs k j).P G (a.eval x) := opv_ok hR hx
    obtain ⟨b, o, e1, hs⟩ := hv
    exact ⟨_, ⟨b, o, rfl, hs⟩, by simp only [execOp, e1]; rfl⟩
theorem ltr_nilCheck {x : Operand} {p : Value} {cs : List AV} {tb : TypeId} {f : HA → List HA} (hx : opv rs x = some (.val p)) (hat : At hsR (.box p cs tb) f) : LTr P ⟨d, .nilCheck x, ty, pos, af, g⟩ rs hsR [] (Is (.val p) []) := ltr_rd (lt_nilCheck hx) hat
theorem ltr_indexArr {x y : Operand} {t tb : TypeId} {len n : Nat} [TyA P t len n] {p : Value} {cs : List AV} {i : Int} {kk : Nat} {kd : IntKind} {f : HA → List HA} (hx : opv rs x = some (.val p)) (hat : At hsR (.box p cs tb) f) (hy : opv rs y = some (.val (.int kd i))) (hi : i = (kk : Int)) (hk : kk < len) :
    LTr P ⟨d, .indexAddr t x y, ty, pos, af, g⟩ rs hsR [] (Is (.at p (kk * n)) []) := ltr_rd (lt_indexArr hx hy hi hk) hat
theorem ltr_callR {k : FuncId} {xs : List Operand} {ts : Array TypeId} {avs : List AV} {av : AV} {h : HA} {f : HA → List HA} (hc : Con P k avs [h] (Is av [h])) (hx : opvs rs xs = some avs) (hat : At hsR h f) : LTr P ⟨d, .call { callee := .value (.func k), args := xs.toArray, argTypes := ts }, ty, pos, af, g⟩ rs hsR [] (Is av []) := ltr_rd (lt_call hx hc) hat
end
section
variable {c : Cx} {rs : List (Nat × AV)} {hs : List HA} {Q : Exit → S → Prop} {ops : Array Oper} {tl : List Oper} {d : Nat} {ty : TypeId} {pos : String} {af : Array Edge}
theorem wl_nilCheck {x : Operand} {p : Value} {cs : List AV} {tb : TypeId} {f : HA → List HA} (hx : opv rs x = some (.val p)) (hat : At hs (.box p cs tb) f) (hd : Nat.blt d c.nt = true) (k : WL c ops tl ⟨(d, .val p) :: rs, hs⟩ Q) : WL c ops (⟨some d, .nilCheck x, ty, pos, af, none⟩ :: tl) ⟨rs, hs⟩ Q := wl_rd (lt_nilCheck hx) hat hd k
theorem wl_nilCheckE {α : Type} {x : Operand} {n kk j : Nat} {f : α → List AV} {xs : List α} (hx : opv rs x = some (.el n f xs kk j)) (hd : Nat.blt d c.nt = true) (k : WL c ops tl ⟨(d, .el n f xs kk j) :: rs, hs⟩ Q) : WL c ops (⟨some d, .nilCheck x, ty, pos, af, none⟩ :: tl) ⟨rs, hs⟩ Q := wl_ex (lt_nilCheckE hx) hd k
end
/-- Registers of a drawn part, those that are asked later, written out. -/
inductive Pk (ds : List Nat) (sp : List Sp) (vs : Nat → Value) (rsB : List (Nat × AV)) : List Nat → List (Nat × AV) → List (Nat × AV) → Prop
  | nil : Pk ds sp vs rsB [] [] rsB
  | pv {j d : Nat} {l : List Nat} {pk rs : List (Nat × AV)} {deps cons rd : List Nat} {av : AV} (h1 : ds[j]? = some d) (h2 : sp[j]? = some ⟨deps, cons, .pv av, rd⟩) (k : Pk ds sp vs rsB l pk rs) : Pk ds sp vs rsB (j :: l) ((d, av) :: pk) ((d, av) :: rs)
  | tok {j d : Nat} {l : List Nat} {pk rs : List (Nat × AV)} {deps cons rd : List Nat} {prod : Value → List HA} (h1 : ds[j]? = some d) (h2 : sp[j]? = some ⟨deps, cons, .tok prod, rd⟩) (k : Pk ds sp vs rsB l pk rs) : Pk ds sp vs rsB (j :: l) ((d, .val (vs j)) :: pk) ((d, .val (vs j)) :: rs)
theorem Pk.eq {ds : List Nat} {sp : List Sp} {vs : Nat → Value} {rsB : List (Nat × AV)} {l : List Nat} {pk rs : List (Nat × AV)} (h : Pk ds sp vs rsB l pk rs) : rs = pk ++ rsB := by
  induction h with
  | nil => rfl
  | pv _ _ _ ih => rw [ih]; rfl
  | tok _ _ _ ih => rw [ih]; rfl
theorem nthN_of {ds : List Nat} : ∀ {l : List Nat} {j d : Nat}, l[j]? = some d → nthN l j = d
  | [], _, _, h => by simp at h
  | x :: _, 0, d, h => by simpa [nthN] using h
  | _ :: l, j + 1, d, h => nthN_of (ds := ds) (l := l) (by simpa using h)
theorem Pk.eqD {ds : List Nat} {sp : List Sp} {vs : Nat → Value} {rsB : List (Nat × AV)} {l : List Nat} {pk rs : List (Nat × AV)} (h : Pk ds sp vs rsB l pk rs) : regsD ds sp vs l rsB = rs := by
  induction h with
  | nil => rfl
  | pv h1 h2 _ ih => simp only [regsD]; rw [ih, nthN_of (ds := ds) h1, h2]; rfl
  | tok h1 h2 _ ih => simp only [regsD]; rw [ih, nthN_of (ds := ds) h1, h2]; rfl
theorem ltr_pk {P : Program} {o : Oper} {ds : List Nat} {sp : List Sp} {vs : Nat → Value} {rsB : List (Nat × AV)} {l : List Nat} {pk rs : List (Nat × AV)} {hsR cons : List HA} {post : AV → List HA → Prop} (h : Pk ds sp vs rsB l pk rs) (k : LTr P o rs hsR cons post) : LTr P o (regsD ds sp vs l rsB) hsR cons post := h.eqD ▸ k
theorem look_pk {ds : List Nat} {sp : List Sp} {vs : Nat → Value} {rsB : List (Nat × AV)} {l : List Nat} {pk rs : List (Nat × AV)} {i : Nat} {av : AV} (h : Pk ds sp vs rsB l pk rs) (k : look rs i = some av) : look (regsD ds sp vs l rsB) i = some av := h.eqD ▸ k
theorem look_regsD {ds : List Nat} {sp : List Sp} {vs : Nat → Value} {rsB : List (Nat × AV)} {i : Nat} : ∀ {lr : List Nat}, memN (lr.map (nthN ds)) i = false → look (regsD ds sp vs lr rsB) i = look rsB i
  | [], _ => rfl
  | j :: lr, h => by
    simp only [List.map_cons, memN] at h
    simp only [regsD, look]
    cases hb : Nat.beq (nthN ds j) i with
    | true => rw [hb] at h; cases h
    | false => rw [hb] at h; exact look_regsD (by simpa using h)
theorem look_mem {i : Nat} {av : AV} : ∀ {b : List (Nat × AV)}, look b i = some av → ∃ x, (i, x) ∈ b
  | [], h => by cases h
  | (j, x) :: t, h => by
    simp only [look] at h
    cases hb : Nat.beq j i with
    | true => obtain rfl := Nat.eq_of_beq_eq_true hb; exact ⟨x, by simp⟩
    | false => rw [hb] at h; obtain ⟨y, hy⟩ := look_mem (by simpa using h); exact ⟨y, by simp [hy]⟩
theorem look_append {a b : List (Nat × AV)} {i : Nat} {av : AV} (h : look (a ++ b) i = some av) : (i, av) ∈ a ∨ (look b i = some av ∧ ∃ x, (i, x) ∈ b) := by
  induction a with
  | nil =>
    exact .inr ⟨h, look_mem h⟩
  | cons q t ih =>
    obtain ⟨j, x⟩ := q
    simp only [List.cons_append, look] at h
    cases hb : Nat.beq j i with
    | true =>
      rw [hb] at h
      obtain rfl := Nat.eq_of_beq_eq_true hb
      simp only [cond_true, Option.some.injEq] at h
      subst h
      exact .inl (by simp)
    | false =>
      rw [hb] at h
      rcases ih (by simpa using h) with h | h
      · exact .inl (by simp [h])
      · exact .inr h
theorem WL_auto {c : Cx} {ds : List Nat} {sp : List Sp} {vs : Nat → Value} {lr : List Nat} {rsB : List (Nat × AV)} {hs : List HA} {Q : Exit → S → Prop} {ops : Array Oper} {l : List Oper} (ks : List Nat) {pk rs' : List (Nat × AV)} {hs' : List HA} (hp : Pk ds sp vs rsB ks pk rs') (hn : Nrm hs hs') (h2 : pk.map (fun p => look (regsD ds sp vs lr rsB) p.1) = pk.map (fun p => some p.2)) (h3 : rsB.all (fun p => !memN (lr.map (nthN ds)) p.1) = true) (k : WL c ops l ⟨rs', hs'⟩ Q) : WL c ops l ⟨regsD ds sp vs lr rsB, hs⟩ Q := by
  rw [hn.eq]
  refine ⟨fun a w st => ?_⟩
  obtain ⟨G, F, hI, hF, hR, r⟩ := st
  refine k.out a w ⟨G, F, hI, hF, fun j u e => ?_, r⟩
  rw [hp.eq] at e
  refine hR _ _ ?_
  rcases look_append e with h | ⟨h, x, hx⟩
  · exact List.map_inj_left.1 h2 (j, u) h
  · rw [show (⟨regsD ds sp vs lr rsB, hs'⟩ : S).rs = regsD ds sp vs lr rsB from rfl, look_regsD (by simpa using List.all_eq_true.1 h3 (j, x) hx)]; exact h
/-- An own slice that lies in a struct's value is frozen. -/
theorem st_frzA {α : Type} {c : Cx} {rs : List (Nat × AV)} {hs r : List HA} {e : TypeId} {n : Nat} {f : α → List AV} {xs : List α} {v : Value} {i j : Nat} {cs : List AV} {a : Act} {w : World} (hl : look rs i = some (.agg cs)) (hj : cs[j]? = some (.val v)) (hr : Rm hs (.row v e n f xs) r) (st : St c ⟨rs, hs⟩ a w) : St c ⟨(i, .agg (cs.set j (.sl n f xs))) :: rs, r⟩ a w := by
  obtain ⟨G, F, hI, hF, hR, rr⟩ := st
  obtain ⟨G', F', h1, h2, h3⟩ := row_freeze (rest := r) ⟨hI.gin, hI.nd, hI.own, hr.sel hI.hs⟩
  refine ⟨G', F', h1, hF.trans h2, fun k av ek => ?_, rr.1, rr.2.step h2⟩
  simp only [look] at ek
  cases hb : Nat.beq i k with
  | true =>
    rw [hb] at ek
    obtain rfl := Nat.eq_of_beq_eq_true hb
    simp only [cond_true, Option.some.injEq] at ek
    subst ek
    obtain ⟨vs, e1, hf⟩ : (AV.agg cs).P G (a.tmps.getD i undef) := hR _ _ hl
    obtain ⟨u, hu, hu2⟩ := hf.get hj
    have hu3 : u = v := hu2
    subst hu3
    refine ⟨vs, e1, ?_⟩
    have := (hf.mono h2.gle).set j h3
    rwa [show vs.set j u = vs from by
      obtain ⟨hlt, rfl⟩ := List.getElem?_eq_some_iff.1 hu
      exact List.set_getElem_self hlt] at this
  | false => rw [hb] at ek; exact av.mono h2.gle (hR k av (by simpa using ek))
theorem WL_frzA {α : Type} {c : Cx} {rs : List (Nat × AV)} {hs r : List HA} {Q : Exit → S → Prop} {ops : Array Oper} {l : List Oper} {e : TypeId} {n : Nat} {f : α → List AV} {xs : List α} {v : Value} {cs : List AV} (i j : Nat) (hl : look rs i = some (.agg cs)) (hj : cs[j]? = some (.val v)) (hr : Rm hs (.row v e n f xs) r) (k : WL c ops l ⟨(i, .agg (cs.set j (.sl n f xs))) :: rs, r⟩ Q) : WL c ops l ⟨rs, hs⟩ Q := ⟨fun a w st => k.out a w (st_frzA hl hj hr st)⟩
theorem inv_keep {G : Nat → Option Obj} {F : List Nat} {kept rest : List HA} {w : World} (h : Inv G F (kept ++ rest) w) : ∃ F1, Inv G F1 kept w ∧ Fr w w F F1 G G := by
  obtain ⟨F1, F2, e, h1, h2⟩ := hsP.split h.hs
  have nd := (e.nodup_iff).1 h.nd
  exact ⟨F1, ⟨h.gin, (List.nodup_append.1 nd).1, fun b hb => h.own b (e.mem_iff.2 (by simp [hb])), h1⟩, rfl, rfl, rfl, Nat.le_refl _, fun _ _ _ => rfl, fun b hb => .inl (e.mem_iff.2 (by simp [hb])), Gle.refl _, fun _ _ h => .inl h⟩
/-- A result, with what is handed back beside it. -/
theorem resK {P : Program} {fn : Func} {t : Tmp} {post : AV → List HA → Prop} {rs : List (Nat × AV)} {hs kept r : List HA} {av : AV} (hr : fn.results = #[.tmp t]) (hl : look rs t = some av) (hcut : Cut hs kept r) (hp : post av kept) : Res P fn post ⟨rs, hs⟩ :=
  ⟨av, kept, hp, fun a w G F hR hI => by
    obtain ⟨F1, h1, h2⟩ := inv_keep (rest := r) ⟨hI.gin, hI.nd, hI.own, hcut.sel hI.hs⟩
    exact ⟨_, G, F1, results_tmp hr _ _ _, h2, h1, hR _ _ hl⟩⟩
/-- A call that is lent some of what is owned, and hands back what it says. -/
theorem wl_callC {c : Cx} {rs : List (Nat × AV)} {hs pre r : List HA} {Q : Exit → S → Prop} {ops : Array Oper} {tl : List Oper} {d : Nat} {ty : TypeId} {pos : String} {af : Array Edge} {k : FuncId} {xs : List Operand} {ts : Array TypeId} {avs : List AV} {post : AV → List HA → Prop} (hc : Con c.P k avs pre post) (hx : opvs rs xs = some avs) (hcut : Cut hs pre r) (hd : Nat.blt d c.nt = true) (kk : ∀ av prod, post av prod → WL c ops tl ⟨(d, av) :: rs, prod ++ r⟩ Q) : WL c ops (⟨some d, .call { callee := .value (.func k), args := xs.toArray, argTypes := ts }, ty, pos, af, none⟩ :: tl) ⟨rs, hs⟩ Q :=
  WL_lt (cons := pre) (rest := r) hd rfl (fun _ _ _ h => hcut.sel h) (lt_call hx hc) kk
/-- nil, as a slice without elements. -/
theorem Res_nil {α : Type} {P : Program} {fn : Func} {post : AV → List HA → Prop} {rs : List (Nat × AV)} {hs : List HA} (i n : Nat) (f : α → List AV) (hl : look rs i = some (.val (.slice none 0 0))) (k : Res P fn post ⟨(i, .sl n f []) :: rs, hs⟩) : Res P fn post ⟨rs, hs⟩ := by
  obtain ⟨av, prod, hp, h⟩ := k
  refine ⟨av, prod, hp, fun a w G F hR hI => h a w G F (fun j u e => ?_) hI⟩
  simp only [look] at e
  cases hb : Nat.beq i j with
  | true =>
    rw [hb] at e
    obtain rfl := Nat.eq_of_beq_eq_true hb
    simp only [cond_true, Option.some.injEq] at e
    subst e
    have h1 : a.tmps.getD i undef = _ := hR _ _ hl
    rw [h1]
    exact ⟨none, 0, rfl, Nat.le_refl _, fun i hi => by cases hi⟩
  | false => rw [hb] at e; exact hR j u (by simpa using e)
theorem results_tmp3 {P : Program} {fn : Func} {t u v : Tmp} (hr : fn.results = #[.tmp t, .tmp u, .tmp v]) (tm : Array Value) (w : World) : (results fn tm).run P w = .ok (.tuple #[tm.getD t undef, tm.getD u undef, tm.getD v undef]) w := by
  simp [results, hr, go_sem]
theorem res3 {P : Program} {fn : Func} {t u x : Tmp} {post : AV → List HA → Prop} {s : S} {av bv cv : AV} (hr : fn.results = #[.tmp t, .tmp u, .tmp x]) (hl : look s.rs t = some av) (hl2 : look s.rs u = some bv) (hl3 : look s.rs x = some cv) (hp : post (.tup [av, bv, cv]) []) : Res P fn post s :=
  ⟨_, [], hp, fun a w G F hR hI => ⟨_, G, [], results_tmp3 hr _ _, (inv_drop hI).2, (inv_drop hI).1, ⟨[_, _, _], rfl, hR _ _ hl, hR _ _ hl2, hR _ _ hl3, trivial⟩⟩⟩
/-- An own slice, by some value. -/
def Tok {α : Type} (e : TypeId) (n : Nat) (f : α → List AV) (xs : List α) : AV → List HA → Prop := fun x y => ∃ u, x = .val u ∧ y = [.row u e n f xs]
/-- A guard that was itself passed over. -/
theorem wl_noU {c : Cx} {rs : List (Nat × AV)} {hs : List HA} {Q : Exit → S → Prop} {ops : Array Oper} {tl : List Oper} {d : Nat} {op : Op} {ty : TypeId} {pos : String} {af : Array Edge} {j dj : Nat} {b : Bool} (hj : gdst ops j = some dj) (hl : look rs dj = some (.val undef)) (hd2 : Nat.blt d c.nt = true) (h : WL c ops tl ⟨(d, .val undef) :: rs, hs⟩ Q) : WL c ops (⟨some d, op, ty, pos, af, some (j, b)⟩ :: tl) ⟨rs, hs⟩ Q := ⟨fun a w st => by
  obtain ⟨G, F, hI, hF, hR, hn, hd'⟩ := st
  have h1 : a.tmps.getD dj undef = undef := hR _ _ hl
  have hy : yielded ops a.tmps j = none := by
    unfold gdst at hj
    rw [Array.getD_eq_getD_getElem?] at h1
    cases h : a.tmps[dj]? with
    | none => simp [yielded, hj, h]
    | some v => rw [h] at h1; simp at h1; subst h1; simp [yielded, hj, h, undef]
  unfold wpListIn
  rw [if_neg (by simp [Region.wanted, hy])]
  refine ⟨fun f _ => c.wd.fn f, h.out _ _ ⟨G, F, hI, hF, RegOK.put hR hn (d := some d) hd2 rfl, ?_, ?_⟩⟩
  · rw [(size_put a _ _).1, hn]
  · rw [(size_put a _ _).2]; exact hd'⟩
/-- A truth value that is known. -/
theorem LT_bool {P : Program} {o : Oper} {rs : List (Nat × AV)} {cons : List HA} {b : Bool} (b' : Bool) (k : LT P o rs cons (Is (.val (.bool b)) [])) (h : b = b') : LT P o rs cons (Is (.val (.bool b')) []) := h ▸ k
theorem LT_int {P : Program} {o : Oper} {rs : List (Nat × AV)} {cons : List HA} {kd : IntKind} {b : Int} (b' : Int) (k : LT P o rs cons (Is (.val (.int kd b)) [])) (h : b = b') : LT P o rs cons (Is (.val (.int kd b')) []) := h ▸ k
/-- So many rounds of a loop, one by one. -/
def WR (c : Cx) (x : Code) (Q : Exit → S → Prop) : Nat → S → Prop
  | 0, _ => False
  | m + 1, s => W c x s (thenQ (fun s' => WR c x Q m s') Q)
theorem WR.out {c : Cx} {x : Code} {Q : Exit → S → Prop} : ∀ (m : Nat) {s : S}, WR c x Q m s → ∀ a w, St c s a w → Code.roundsIn c.F c.n c.P x (Post c Q) m a w
  | 0, _, h, _, _, _ => h.elim
  | m + 1, _, h, a, w, st => by
    refine Go.wpIn_mono (W.out (show W c x _ (thenQ (fun s' => WR c x Q m s') Q) from h) a w st) fun e a' w' ⟨s', st', q⟩ => ?_
    cases e with
    | normal => exact WR.out m q a' w' st'
    | _ => exact ⟨s', st', q⟩
theorem W_rounds {c : Cx} {s : S} {Q : Exit → S → Prop} {x : Code} (m : Nat) (h : WR c x Q m s) : W c (.loop x) s Q := ⟨fun a w st => wpIn_loop_rounds m (h.out m a w st)⟩
theorem WR_step {c : Cx} {s : S} {Q : Exit → S → Prop} {x : Code} {m : Nat} (h : W c x s (thenQ (fun s' => WR c x Q m s') Q)) : WR c x Q (m + 1) s := h
end Go.Proofs.YtbkellknlcageaaDoor.Sw
