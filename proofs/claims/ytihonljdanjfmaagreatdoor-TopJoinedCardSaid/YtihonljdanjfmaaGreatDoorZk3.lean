/- Proofs for the seat's cards: SwF, SwG, SwH, Ty8, DoorG, FloorR, FloorR2, FloorC, FloorJ. No condition of its own. -/
import Derived.LoopNIn
import Derived.RangeFuncBound
import Derived.Test.YtihonljdanjfmaaGreatDoorProg
import Derived.Test.YtihonljdanjfmaaGreatDoorCards
import Derived.Test.YtihonljdanjfmaaGreatDoorTie
import Derived.WalkKit
import Derived.ProofKit
import Derived.OpenShut
import Derived.LaidMore
import Derived.LaidOnce
import Derived.ChangeOld
import Derived.Below
import Derived.Stop.Joined
import Derived.Lib.SmallJoins
import Derived.Deep.Slices
import Derived.WalkSmall
import Derived.Shelf.Abstract
import Derived.Laws.EntriesVeiled
import Derived.Test.YtihonljdanjfmaaGreatDoorZk2
set_option linter.unusedVariables false
set_option linter.unusedSimpArgs false
set_option maxRecDepth 40000
set_option maxHeartbeats 32000000
namespace Go.Proofs.YtihonljdanjfmaaGreatDoor.Sw
open Go.RowKit Go
abbrev AV.fp (n : Nat) (cs : List AV) : AV := .el n (fun _ : Unit => cs) [()] 0 0
theorem slP_unit {G : Nat → Option Obj} {b n : Nat} {cs : List AV} {vs : List Value} {t : TypeId} {z : Nat × Nat} (hg : G b = some (.cells vs.toArray t z)) (hf : Fits G cs vs) : SlP G n (fun _ : Unit => cs) (some ⟨b, 0, none⟩) [()] := fun i hi => by
 simp only [List.length_cons, List.length_nil] at hi
 obtain rfl : i = 0 := by omega
 refine ⟨b, 0, rfl, fun j av e => ?_⟩
 obtain ⟨v, hv, hp⟩ := hf.get e
 refine ⟨v, ?_, hp⟩
 unfold cellG
 rw [hg]
 simpa using hv
theorem box_freeze {G : Nat → Option Obj} {F : List Nat} {w : World} {p : Value} {cs : List AV} {t : TypeId} {rest : List HA} (n : Nat) (h : Inv G F (.box p cs t :: rest) w) :
  ∃ G' F', Inv G' F' rest w ∧ Fr w w F F' G G' ∧ (AV.fp n cs).P G' p := by
 obtain ⟨F1, F2, ep, ⟨b, vs, rfl, hF1, hf, hb⟩, h2⟩ := h.hs
 have nd := ep.nodup_iff.1 h.nd
 have hm : ∀ k, k ∈ F2 → k ∈ F := fun k hk => ep.mem_iff.2 (by simp [hk])
 subst hF1
 have hbF : b ∈ F := ep.mem_iff.2 (by simp)
 have hgb := (h.own b hbF).2
 have hbn : b ∉ F2 := fun hin => (List.nodup_append.1 nd).2.2 b (by simp) b hin rfl
 have hself : gadd G b (.cells vs.toArray t (0, 0)) b = some (.cells vs.toArray t (0, 0)) := by unfold gadd; rw [if_pos rfl]
 refine ⟨gadd G b (.cells vs.toArray t (0, 0)), F2, ⟨fun k o ek => ?_, (List.nodup_append.1 nd).2.1, fun k hk => ⟨(h.own k (hm k hk)).1, ?_⟩, hsP.mono (gle_add hgb) h2⟩, ⟨rfl, rfl, rfl, Nat.le_refl _, fun _ _ _ => rfl, fun k hk => .inl (hm k hk), gle_add hgb, fun k o ek => ?_⟩, b, 0, by simp, slP_unit hself (Fits.mono (gle_add hgb) hf)⟩
 ·unfold gadd at ek
  by_cases hk : k = b
  ·subst hk; rw [if_pos rfl] at ek; cases ek; exact hb
  ·rw [if_neg hk] at ek; exact h.gin k o ek
 ·unfold gadd
  rw [if_neg (fun e => by subst e; exact hbn hk)]
  exact (h.own k (hm k hk)).2
 ·unfold gadd at ek
  by_cases hk : k = b
  ·subst hk; exact .inr (.inl hbF)
  ·rw [if_neg hk] at ek; exact .inl ek
theorem st_frzb {c : Cx} {rs : List (Nat × AV)} {hs r : List HA} {cs : List AV} {t : TypeId} {p : Value} {i : Nat} {a : Act} {w : World} (n : Nat) (hl : look rs i = some (.val p)) (hr : Rm hs (.box p cs t) r) (st : St c ⟨rs, hs⟩ a w) : St c ⟨(i, AV.fp n cs) :: rs, r⟩ a w := by
 obtain ⟨G, F, hI, hF, hR, rr⟩ := st
 obtain ⟨G', F', h1, h2, h3⟩ := box_freeze n (rest := r) ⟨hI.gin, hI.nd, hI.own, hr.sel hI.hs⟩
 refine ⟨G', F', h1, hF.trans h2, fun k av ek => ?_, rr.1, rr.2.step h2⟩
 simp only [look] at ek
 cases hb : Nat.beq i k with
 | true =>
  rw [hb] at ek
  obtain rfl := Nat.eq_of_beq_eq_true hb
  simp only [cond_true, Option.some.injEq] at ek
  subst ek
  have : a.tmps.getD i undef = p := hR _ _ hl
  rw [this]; exact h3
 | false => rw [hb] at ek; exact av.mono h2.gle (hR k av (by simpa using ek))
theorem W_frzb {c : Cx} {rs : List (Nat × AV)} {hs r : List HA} {Q : Exit → S → Prop} {x : Code} {cs : List AV} {t : TypeId} {p : Value} (i n : Nat) (hl : look rs i = some (.val p)) (hr : Rm hs (.box p cs t) r) (k : W c x ⟨(i, AV.fp n cs) :: rs, r⟩ Q) : W c x ⟨rs, hs⟩ Q := ⟨fun a w st => k.out a w (st_frzb n hl hr st)⟩
theorem WL_frzb {c : Cx} {rs : List (Nat × AV)} {hs r : List HA} {Q : Exit → S → Prop} {ops : Array Oper} {l : List Oper} {cs : List AV} {t : TypeId} {p : Value} (i n : Nat) (hl : look rs i = some (.val p)) (hr : Rm hs (.box p cs t) r) (k : WL c ops l ⟨(i, AV.fp n cs) :: rs, r⟩ Q) : WL c ops l ⟨rs, hs⟩ Q := ⟨fun a w st => k.out a w (st_frzb n hl hr st)⟩
instance {k : FuncId} {caps : List AV} : One (.clo k caps) := ⟨fun _ _ ⟨_, h, _⟩ => by subst h; rfl⟩
section
variable {P : Program} {rs : List (Nat × AV)} {d : Option Nat} {ty : TypeId} {pos : String} {af : Array Edge} {g : Option (Nat × Bool)}
theorem lt_makeClo {f : FuncId} {xs : Array Operand} {vs : List AV} (hx : opvs rs xs.toList = some vs) : LT P ⟨d, .makeFunc (.func f) #[] xs, ty, pos, af, g⟩ rs [] (Is (.clo f vs) []) :=
 LT_val (fun _ e => by cases e) fun a w G hR hG => by
  have h := opvs_ok hR hx
  refine ⟨.func (.func f) #[] (xs.map a.eval), ⟨xs.toList.map a.eval, (by rw [← Array.toList_map, Array.toArray_toList]), h⟩, ?_⟩
  simp only [execOp]
  simp [Instr.makeFunc, go_sem]
theorem lt_callV {x : Operand} {k : FuncId} {caps : List AV} {xs : List Operand} {ts : Array TypeId} {avs : List AV} {pre : List HA} {post : AV → List HA → Prop} (hf : opv rs x = some (.clo k caps)) (hx : opvs rs xs = some avs) (hc : Con P k (avs ++ caps) pre post) :
  LT P ⟨d, .call { callee := .value x, args := xs.toArray, argTypes := ts }, ty, pos, af, g⟩ rs pre post := by
 refine ⟨?_⟩
 intro F n hF a w G Fp K Q hR hI hk
 obtain ⟨us, e1, hu⟩ : (AV.clo k caps).P G (a.eval x) := opv_ok hR hf
 have hv := opvs_ok hR hx
 have hcalls := hc.calls G Fp (xs.map a.eval ++ us) w (hv.append hu) hI
 unfold Oper.wpIn
 refine ⟨fun f _ => hF.fn f, ?_⟩
 rw [Oper.semAt_eq _ _ _ (fun _ e => by cases e)]
 have hr : (execOp a.eval ⟨d, .call { callee := .value x, args := xs.toArray, argTypes := ts }, ty, pos, af, g⟩).run P w = .ok (.enter k (xs.map a.eval ++ us).toArray) w := by
  simp [execOp, resolve, e1, Deferred.ofValue, invoke, hc.enters]
 rw [hr]
 refine ⟨fun h => (by rw [hF.depth] at h; cases h), hF.calls (hcalls.mono ?_)⟩
 rintro e w' ⟨v, av, prod, G', F', rfl, hp, hfr, hi, hv⟩
 exact hk v av prod G' F' w' hp hfr hi hv
def HA.glob (g : Nat) (cs : List AV) : HA := ⟨fun G F _ => F = [] ∧ ∃ vs, Fits G cs vs ∧ ∀ j u, vs[j]? = some u → cellG G g j = some u, fun h ⟨e, vs, k1, k2⟩ => ⟨e, vs, k1.mono h, fun j u e => cellG.le h (k2 j u e)⟩, fun _ k => k⟩
theorem lt_loadG {gl : Nat} {t : TypeId} {n : Nat} [TyN P t n] {cs : List AV} (hn : cs.length = n) : LT P ⟨d, .load t (.global gl), ty, pos, af, g⟩ rs [.glob gl cs] (Is (.agg cs) [.glob gl cs]) := by
 refine ⟨?_⟩
 intro F m hF a w G Fp K Q hR hI hk
 obtain ⟨F1, F2, e, ⟨hF1, vs, hf, hc⟩, h2⟩ := hI.hs
 unfold Oper.wpIn
 refine ⟨fun f _ => hF.fn f, ?_⟩
 rw [Oper.semAt_eq _ _ _ (fun _ e => by cases e)]
 have hr : (execOp a.eval ⟨d, .load t (.global gl), ty, pos, af, g⟩).run P w = .ok (.value (.agg vs.toArray)) w := by
  have e1 : a.eval (.global gl) = .pointer (some ⟨gl, 0, none⟩) := rfl
  simp only [execOp, e1, Sem.run_bind]
  rw [run_loadN (n := n) (vs := vs) (by rw [hf.length, hn]) (fun k u e => by rw [Nat.zero_add]; exact cellG.cell hI.gin (hc k u e))]
  rfl
 rw [hr]
 exact hk (.agg vs.toArray) _ _ G Fp w ⟨rfl, rfl⟩ (Fr.refl _ _ _) hI ⟨vs, rfl, hf⟩
theorem lt_indexV1 {x y : Operand} {t : TypeId} {len : Nat} {e : TypeId} (hu : P.underlying t = some (.array len e)) [Ty1 P e] {cs : List AV} {i : Int} {k : Nat} {kd : IntKind} {av : AV} (hx : opv rs x = some (.agg cs)) (hy : opv rs y = some (.val (.int kd i))) (hi : i = (k : Int)) (hk : k < len) (hc : cs[k]? = some av) :
  LT P ⟨d, .index t x y, ty, pos, af, g⟩ rs [] (Is av []) :=
 LT_val (fun _ e => by cases e) fun a w G hR hG => by
  obtain ⟨vs, e1, hf⟩ : (AV.agg cs).P G (a.eval x) := opv_ok hR hx
  have e2 : a.eval y = _ := opv_ok hR hy
  obtain ⟨v, hv, hp⟩ := hf.get hc
  refine ⟨v, hp, ?_⟩
  subst hi
  have h1 : (Ty1.agg (P := P) (t := e) w) = (Ty1.agg (P := P) (t := e) w) := rfl
  simp only [execOp, e1, e2, Instr.index, asIntOf, Sem.run_bind, Sem.run_pure, Result.andThen_ok]
  rw [show (underlying t).run P w = .ok (.array len e) w by simp [underlying, Sem.run, hu, go_sem]]
  simp only [Result.andThen_ok]
  rw [if_pos (by omega)]
  simp only [part, Sem.run_bind, Ty1.size (P := P) (t := e) w, Ty1.agg (P := P) (t := e) w, Result.andThen_ok]
  simp [hv, Sem.run_pure]
end
theorem st_frzC {c : Cx} {rs : List (Nat × AV)} {hs r : List HA} {cs caps : List AV} {t : TypeId} {p : Value} {k : FuncId} {i j : Nat} {a : Act} {w : World} (n : Nat) (hl : look rs i = some (.clo k caps)) (hj : caps[j]? = some (.val p)) (hr : Rm hs (.box p cs t) r) (st : St c ⟨rs, hs⟩ a w) : St c ⟨(i, .clo k (caps.set j (AV.fp n cs))) :: rs, r⟩ a w := by
 obtain ⟨G, F, hI, hF, hR, rr⟩ := st
 obtain ⟨G', F', h1, h2, h3⟩ := box_freeze n (rest := r) ⟨hI.gin, hI.nd, hI.own, hr.sel hI.hs⟩
 refine ⟨G', F', h1, hF.trans h2, fun q av ek => ?_, rr.1, rr.2.step h2⟩
 simp only [look] at ek
 cases hb : Nat.beq i q with
 | true =>
  rw [hb] at ek
  obtain rfl := Nat.eq_of_beq_eq_true hb
  simp only [cond_true, Option.some.injEq] at ek
  subst ek
  obtain ⟨vs, e1, hf⟩ : (AV.clo k caps).P G (a.tmps.getD i undef) := hR _ _ hl
  obtain ⟨u, hu, hu2⟩ := hf.get hj
  have hu3 : u = p := hu2
  subst hu3
  refine ⟨vs, e1, ?_⟩
  have := (hf.mono h2.gle).set j h3
  rwa [show vs.set j u = vs from by
   obtain ⟨hlt, rfl⟩ := List.getElem?_eq_some_iff.1 hu
   exact List.set_getElem_self hlt] at this
 | false => rw [hb] at ek; exact av.mono h2.gle (hR q av (by simpa using ek))
theorem WL_frzC {c : Cx} {rs : List (Nat × AV)} {hs r : List HA} {Q : Exit → S → Prop} {ops : Array Oper} {l : List Oper} {cs caps : List AV} {t : TypeId} {p : Value} {k : FuncId} (i j n : Nat) (hl : look rs i = some (.clo k caps)) (hj : caps[j]? = some (.val p)) (hr : Rm hs (.box p cs t) r) (kk : WL c ops l ⟨(i, .clo k (caps.set j (AV.fp n cs))) :: rs, r⟩ Q) : WL c ops l ⟨rs, hs⟩ Q := ⟨fun a w st => kk.out a w (st_frzC n hl hj hr st)⟩
section
variable {c : Cx} {rs : List (Nat × AV)} {hs : List HA} {Q : Exit → S → Prop} {ops : Array Oper} {tl : List Oper} {d : Nat} {ty : TypeId} {pos : String} {af : Array Edge}
theorem wl_makeClo {f : FuncId} {xs : Array Operand} {vs : List AV} (hx : opvs rs xs.toList = some vs) (hd : Nat.blt d c.nt = true) (k : WL c ops tl ⟨(d, .clo f vs) :: rs, hs⟩ Q) : WL c ops (⟨some d, .makeFunc (.func f) #[] xs, ty, pos, af, none⟩ :: tl) ⟨rs, hs⟩ Q := wl_ex (lt_makeClo hx) hd k
theorem wl_callV {x : Operand} {k : FuncId} {caps : List AV} {xs : List Operand} {ts : Array TypeId} {avs : List AV} {av : AV} (hc : Con c.P k (avs ++ caps) [] (Is av [])) (hf : opv rs x = some (.clo k caps)) (hx : opvs rs xs = some avs) (hd : Nat.blt d c.nt = true) (kk : WL c ops tl ⟨(d, av) :: rs, hs⟩ Q) : WL c ops (⟨some d, .call { callee := .value x, args := xs.toArray, argTypes := ts }, ty, pos, af, none⟩ :: tl) ⟨rs, hs⟩ Q := wl_ex (lt_callV hf hx hc) hd kk
theorem wl_loadG {gl : Nat} {t : TypeId} {n : Nat} [TyN c.P t n] {cs : List AV} {f : HA → List HA} (hat : At hs (.glob gl cs) f) (hn : cs.length = n) (hd : Nat.blt d c.nt = true) (k : WL c ops tl ⟨(d, .agg cs) :: rs, hs⟩ Q) : WL c ops (⟨some d, .load t (.global gl), ty, pos, af, none⟩ :: tl) ⟨rs, hs⟩ Q := wl_rd (lt_loadG hn) hat hd k
theorem wl_indexV1 {x y : Operand} {t : TypeId} {len : Nat} {e : TypeId} (hu : c.P.underlying t = some (.array len e)) [Ty1 c.P e] {cs : List AV} {i : Int} {k : Nat} {kd : IntKind} {av : AV} (hx : opv rs x = some (.agg cs)) (hy : opv rs y = some (.val (.int kd i))) (hi : i = (k : Int)) (hk : k < len) (hc : cs[k]? = some av) (hd : Nat.blt d c.nt = true) (kk : WL c ops tl ⟨(d, av) :: rs, hs⟩ Q) : WL c ops (⟨some d, .index t x y, ty, pos, af, none⟩ :: tl) ⟨rs, hs⟩ Q := wl_ex (lt_indexV1 hu hx hy hi hk hc) hd kk
end
section
variable {P : Program} {rs : List (Nat × AV)} {hsR : List HA} {d : Option Nat} {ty : TypeId} {pos : String} {af : Array Edge} {g : Option (Nat × Bool)}
theorem ltr_indexRow {α : Type} {x y : Operand} {t e e' : TypeId} {n : Nat} [TyS P t e' n] {v : Value} {f : α → List AV} {xs : List α} {i : Int} {kk : Nat} {kd : IntKind} {h : HA → List HA} (hx : opv rs x = some (.val v)) (hat : At hsR (.row v e n f xs) h) (hy : opv rs y = some (.val (.int kd i))) (hi : i = (kk : Int)) (hk : kk < xs.length) :
  LTr P ⟨d, .indexAddr t x y, ty, pos, af, g⟩ rs hsR [] (Is (.rat v n kk 0) []) := ltr_rd (lt_indexRow hx hy hi hk) hat
theorem ltr_loadR1 {α : Type} {x : Operand} {t e : TypeId} {n kk j : Nat} [Ty1 P t] {v : Value} {f : α → List AV} {xs : List α} {av : AV} {h : HA → List HA} (hx : opv rs x = some (.rat v n kk j)) (hat : At hsR (.row v e n f xs) h) {y : α} (hk : xs[kk]? = some y) (hc : (f y)[j]? = some av) :
  LTr P ⟨d, .load t x, ty, pos, af, g⟩ rs hsR [] (Is av []) := by
 obtain ⟨hl, rfl⟩ := List.getElem?_eq_some_iff.1 hk
 exact ltr_rd (lt_loadR1 hx hl hc) hat
theorem lt_quo {x y : Operand} {m n : Int} {t t' : TypeId} (hx : opv rs x = some (.val (.int .i64 m))) (hy : opv rs y = some (.val (.int .i64 n))) (h0 : 0 < n) (h1 : 0 ≤ m) (h2 : m ≤ 9223372036854775807) :
  LT P ⟨d, .binOp .quo t x y t', ty, pos, af, g⟩ rs [] (Is (.val (.int .i64 (m / n))) []) :=
 LT_val (fun _ e => by cases e) fun a w G hR _ => ⟨_, rfl, by
  have e1 : a.eval x = _ := opv_ok hR hx
  have e2 : a.eval y = _ := opv_ok hR hy
  have hq : m.tdiv n = m / n := Int.tdiv_eq_ediv_of_nonneg h1
  have hr1 : 0 ≤ m / n := Int.ediv_nonneg h1 (by omega)
  have hr2 : m / n ≤ m := Int.ediv_le_self n h1
  have hz : n ≠ 0 := by omega
  simp only [execOp, e1, e2]
  simp [go_sem, hz, hq, IntWalk.i64_in (m / n) (by omega)]⟩
end
theorem wl_quo {c : Cx} {rs : List (Nat × AV)} {hs : List HA} {Q : Exit → S → Prop} {ops : Array Oper} {tl : List Oper} {d : Nat} {ty : TypeId} {pos : String} {af : Array Edge} {x y : Operand} {m n : Int} {t t' : TypeId} (hx : opv rs x = some (.val (.int .i64 m))) (hy : opv rs y = some (.val (.int .i64 n))) (h0 : 0 < n) (h1 : 0 ≤ m) (h2 : m ≤ 9223372036854775807) (hd : Nat.blt d c.nt = true) (k : WL c ops tl ⟨(d, .val (.int .i64 (m / n))) :: rs, hs⟩ Q) : WL c ops (⟨some d, .binOp .quo t x y t', ty, pos, af, none⟩ :: tl) ⟨rs, hs⟩ Q := wl_ex (lt_quo hx hy h0 h1 h2) hd k
theorem WL_as {c : Cx} {rs : List (Nat × AV)} {hs : List HA} {Q : Exit → S → Prop} {ops : Array Oper} {l : List Oper} (i : Nat) (av : AV) (h : look rs i = some av) (k : WL c ops l ⟨(i, av) :: rs, hs⟩ Q) : WL c ops l ⟨rs, hs⟩ Q := ⟨fun a w st => by
 obtain ⟨G, F, hI, hF, hR, r⟩ := st
 refine k.out a w ⟨G, F, hI, hF, fun j u e => ?_, r⟩
 simp only [look] at e
 cases hb : Nat.beq i j with
 | true =>
  rw [hb] at e
  obtain rfl := Nat.eq_of_beq_eq_true hb
  simp only [cond_true, Option.some.injEq] at e
  subst e
  exact hR _ _ h
 | false => rw [hb] at e; exact hR j u (by simpa using e)⟩
theorem LT.imp {P : Program} {o : Oper} {rs : List (Nat × AV)} {cons : List HA} {post post' : AV → List HA → Prop} (h : LT P o rs cons post) (k : ∀ x y, post x y → post' x y) : LT P o rs cons post' := ⟨fun F n hF a w G Fp K Q hR hI hk => h.go F n hF a w G Fp K Q hR hI fun v av prod G' F' w' hp => hk v av prod G' F' w' (k av prod hp)⟩
theorem lt_allocT {P : Program} {rs : List (Nat × AV)} {d : Option Nat} {ty : TypeId} {pos : String} {af : Array Edge} {g : Option (Nat × Bool)} {t : TypeId} {zs : List Value} [TyZ P t zs] : LT P ⟨d, .alloc t, ty, pos, af, g⟩ rs [] (fun x y => ∃ u, x = .val u ∧ y = [.box u (zs.map AV.val) t]) :=
 lt_alloc.imp fun x y ⟨p, _, h1, h2⟩ => ⟨p, h1, h2⟩
theorem WL_oneB {c : Cx} {rs : List (Nat × AV)} {hs : List HA} {Q : Exit → S → Prop} {ops : Array Oper} {l : List Oper} {cs : List AV} {t : TypeId} {p : Value} {g : HA → List HA} (hat : At hs (.box p cs t) g) (k : One (.val p) → WL c ops l ⟨rs, hs⟩ Q) : WL c ops l ⟨rs, hs⟩ Q := ⟨fun a w st => by
 have st' := st
 obtain ⟨G, F, hI, _⟩ := st'
 obtain ⟨rest, hs'⟩ := hat.sel
 obtain ⟨F1, F2, _, ⟨b, vs, rfl, _⟩, _⟩ := (hs' _ G F w).1 (by rw [hat.self]; exact hI.hs)
 exact (k ⟨fun G v' h => by (have h' : v' = _ := h); subst h'; rfl⟩).out a w st⟩
theorem WL_to {c : Cx} {rs : List (Nat × AV)} {hs : List HA} {Q : Exit → S → Prop} {ops : Array Oper} {l : List Oper} (rs' : List (Nat × AV)) (hs' : List HA) (h1 : hs = hs') (h2 : rs'.map (fun p => look rs p.1) = rs'.map (fun p => some p.2)) (k : WL c ops l ⟨rs', hs'⟩ Q) : WL c ops l ⟨rs, hs⟩ Q := by
 subst h1
 refine ⟨fun a w st => ?_⟩
 obtain ⟨G, F, hI, hF, hR, r⟩ := st
 refine k.out a w ⟨G, F, hI, hF, fun j u e => ?_, r⟩
 have hm : ∃ p ∈ rs', p.1 = j ∧ p.2 = u := by
  clear h2 k
  induction rs' with
  | nil => simp [look] at e
  | cons q t ih =>
   obtain ⟨i, x⟩ := q
   simp only [look] at e
   cases hb : Nat.beq i j with
   | true =>
    rw [hb] at e
    simp only [cond_true, Option.some.injEq] at e
    exact ⟨(i, x), by simp, Nat.eq_of_beq_eq_true hb, e⟩
   | false =>
    rw [hb] at e
    obtain ⟨p, h1, h2⟩ := ih (by simpa using e)
    exact ⟨p, by simp [h1], h2⟩
 obtain ⟨p, hp, rfl, rfl⟩ := hm
 exact hR _ _ (List.map_inj_left.1 h2 p hp)
section
variable {P : Program} {rs : List (Nat × AV)} {hsR : List HA} {d : Option Nat} {ty : TypeId} {pos : String} {af : Array Edge} {g : Option (Nat × Bool)}
theorem lt_nilCheck {x : Operand} {p : Value} {cs : List AV} {tb : TypeId} (hx : opv rs x = some (.val p)) : LT P ⟨d, .nilCheck x, ty, pos, af, g⟩ rs [.box p cs tb] (Is (.val p) [.box p cs tb]) :=
 LT_read (fun _ e => by cases e) fun a w G F hR _ ⟨b, vs, hp, _, hf, hb⟩ => by
  have e : a.eval x = p := opv_ok hR hx
  exact ⟨p, rfl, by simp only [execOp, e, hp]; rfl⟩
theorem ltr_nilCheck {x : Operand} {p : Value} {cs : List AV} {tb : TypeId} {f : HA → List HA} (hx : opv rs x = some (.val p)) (hat : At hsR (.box p cs tb) f) : LTr P ⟨d, .nilCheck x, ty, pos, af, g⟩ rs hsR [] (Is (.val p) []) := ltr_rd (lt_nilCheck hx) hat
theorem ltr_indexArr {x y : Operand} {t tb : TypeId} {len n : Nat} [TyA P t len n] {p : Value} {cs : List AV} {i : Int} {kk : Nat} {kd : IntKind} {f : HA → List HA} (hx : opv rs x = some (.val p)) (hat : At hsR (.box p cs tb) f) (hy : opv rs y = some (.val (.int kd i))) (hi : i = (kk : Int)) (hk : kk < len) :
  LTr P ⟨d, .indexAddr t x y, ty, pos, af, g⟩ rs hsR [] (Is (.at p (kk * n)) []) := ltr_rd (lt_indexArr hx hy hi hk) hat
theorem ltr_callR {k : FuncId} {xs : List Operand} {ts : Array TypeId} {avs : List AV} {av : AV} {h : HA} {f : HA → List HA} (hc : Con P k avs [h] (Is av [h])) (hx : opvs rs xs = some avs) (hat : At hsR h f) : LTr P ⟨d, .call { callee := .value (.func k), args := xs.toArray, argTypes := ts }, ty, pos, af, g⟩ rs hsR [] (Is av []) := ltr_rd (lt_call hx hc) hat
end
section
variable {c : Cx} {rs : List (Nat × AV)} {hs : List HA} {Q : Exit → S → Prop} {ops : Array Oper} {tl : List Oper} {d : Nat} {ty : TypeId} {pos : String} {af : Array Edge}
theorem wl_nilCheck {x : Operand} {p : Value} {cs : List AV} {tb : TypeId} {f : HA → List HA} (hx : opv rs x = some (.val p)) (hat : At hs (.box p cs tb) f) (hd : Nat.blt d c.nt = true) (k : WL c ops tl ⟨(d, .val p) :: rs, hs⟩ Q) : WL c ops (⟨some d, .nilCheck x, ty, pos, af, none⟩ :: tl) ⟨rs, hs⟩ Q := wl_rd (lt_nilCheck hx) hat hd k
end
inductive Pk (ds : List Nat) (sp : List Sp) (vs : Nat → Value) (rsB : List (Nat × AV)) : List Nat → List (Nat × AV) → List (Nat × AV) → Prop
 | nil : Pk ds sp vs rsB [] [] rsB
 | pv {j d : Nat} {l : List Nat} {pk rs : List (Nat × AV)} {deps cons rd : List Nat} {av : AV} (h1 : ds[j]? = some d) (h2 : sp[j]? = some ⟨deps, cons, .pv av, rd⟩) (k : Pk ds sp vs rsB l pk rs) : Pk ds sp vs rsB (j :: l) ((d, av) :: pk) ((d, av) :: rs)
 | tok {j d : Nat} {l : List Nat} {pk rs : List (Nat × AV)} {deps cons rd : List Nat} {prod : Value → List HA} (h1 : ds[j]? = some d) (h2 : sp[j]? = some ⟨deps, cons, .tok prod, rd⟩) (k : Pk ds sp vs rsB l pk rs) : Pk ds sp vs rsB (j :: l) ((d, .val (vs j)) :: pk) ((d, .val (vs j)) :: rs)
 | tk {j d : Nat} {l : List Nat} {pk rs : List (Nat × AV)} {deps cons rd : List Nat} {r : Value → AV} {prod : Value → List HA} (h1 : ds[j]? = some d) (h2 : sp[j]? = some ⟨deps, cons, .tk r prod, rd⟩) (k : Pk ds sp vs rsB l pk rs) : Pk ds sp vs rsB (j :: l) ((d, .both (r (vs j)) (vs j)) :: pk) ((d, .both (r (vs j)) (vs j)) :: rs)
theorem Pk.eq {ds : List Nat} {sp : List Sp} {vs : Nat → Value} {rsB : List (Nat × AV)} {l : List Nat} {pk rs : List (Nat × AV)} (h : Pk ds sp vs rsB l pk rs) : rs = pk ++ rsB := by
 induction h with
 | nil => rfl
 | pv _ _ _ ih => rw [ih]; rfl
 | tok _ _ _ ih => rw [ih]; rfl
 | tk _ _ _ ih => rw [ih]; rfl
theorem nthN_of {ds : List Nat} : ∀ {l : List Nat} {j d : Nat}, l[j]? = some d → nthN l j = d
 | [], _, _, h => by simp at h
 | x :: _, 0, d, h => by simpa [nthN] using h
 | _ :: l, j + 1, d, h => nthN_of (ds := ds) (l := l) (by simpa using h)
theorem Pk.eqD {ds : List Nat} {sp : List Sp} {vs : Nat → Value} {rsB : List (Nat × AV)} {l : List Nat} {pk rs : List (Nat × AV)} (h : Pk ds sp vs rsB l pk rs) : regsD ds sp vs l rsB = rs := by
 induction h with
 | nil => rfl
 | pv h1 h2 _ ih => simp only [regsD]; rw [ih, nthN_of (ds := ds) h1, h2]; rfl
 | tok h1 h2 _ ih => simp only [regsD]; rw [ih, nthN_of (ds := ds) h1, h2]; rfl
 | tk h1 h2 _ ih => simp only [regsD]; rw [ih, nthN_of (ds := ds) h1, h2]; rfl
theorem ltr_pk {P : Program} {o : Oper} {ds : List Nat} {sp : List Sp} {vs : Nat → Value} {rsB : List (Nat × AV)} {l : List Nat} {pk rs : List (Nat × AV)} {hsR cons : List HA} {post : AV → List HA → Prop} (h : Pk ds sp vs rsB l pk rs) (k : LTr P o rs hsR cons post) : LTr P o (regsD ds sp vs l rsB) hsR cons post := h.eqD ▸ k
theorem rpv {P : Program} {ops : Array Oper} {ds : List Nat} {hs0 hsR : List HA} {rsB : List (Nat × AV)} {K : List Sp → Prop} {acc : List Sp} {o : Oper} {l : List Oper} (deps cons : List Nat) {av : AV} {acc' : List Sp} (k : Run P ops ds hs0 hsR rsB K acc' l) (hg : o.guard = none := by exact rfl)
  (h : ∀ vs, LTr P o (regsD ds acc vs deps rsB) hsR (cons.flatMap (cont acc hs0 vs)) (Is av []) := by intro vs; apply ltr_pk; exact goPk; exact goLtr) (ha : App acc ⟨deps, cons, .pv av, []⟩ acc' := by exact goApp) : Run P ops ds hs0 hsR rsB K acc (o :: l) := Run.pv deps cons hg h ha k
theorem look_pk {ds : List Nat} {sp : List Sp} {vs : Nat → Value} {rsB : List (Nat × AV)} {l : List Nat} {pk rs : List (Nat × AV)} {i : Nat} {av : AV} (h : Pk ds sp vs rsB l pk rs) (k : look rs i = some av) : look (regsD ds sp vs l rsB) i = some av := h.eqD ▸ k
theorem look_regsD {ds : List Nat} {sp : List Sp} {vs : Nat → Value} {rsB : List (Nat × AV)} {i : Nat} : ∀ {lr : List Nat}, memN (lr.map (nthN ds)) i = false → look (regsD ds sp vs lr rsB) i = look rsB i
 | [], _ => rfl
 | j :: lr, h => by
  simp only [List.map_cons, memN] at h
  simp only [regsD, look]
  cases hb : Nat.beq (nthN ds j) i with
  | true => rw [hb] at h; cases h
  | false => rw [hb] at h; exact look_regsD (by simpa using h)
theorem look_mem {i : Nat} {av : AV} : ∀ {b : List (Nat × AV)}, look b i = some av → ∃ x, (i, x) ∈ b
 | [], h => by cases h
 | (j, x) :: t, h => by
  simp only [look] at h
  cases hb : Nat.beq j i with
  | true => obtain rfl := Nat.eq_of_beq_eq_true hb; exact ⟨x, by simp⟩
  | false => rw [hb] at h; obtain ⟨y, hy⟩ := look_mem (by simpa using h); exact ⟨y, by simp [hy]⟩
theorem look_append {a b : List (Nat × AV)} {i : Nat} {av : AV} (h : look (a ++ b) i = some av) : (i, av) ∈ a ∨ (look b i = some av ∧ ∃ x, (i, x) ∈ b) := by
 induction a with
 | nil =>
  exact .inr ⟨h, look_mem h⟩
 | cons q t ih =>
  obtain ⟨j, x⟩ := q
  simp only [List.cons_append, look] at h
  cases hb : Nat.beq j i with
  | true =>
   rw [hb] at h
   obtain rfl := Nat.eq_of_beq_eq_true hb
   simp only [cond_true, Option.some.injEq] at h
   subst h
   exact .inl (by simp)
  | false =>
   rw [hb] at h
   rcases ih (by simpa using h) with h | h
   ·exact .inl (by simp [h])
   ·exact .inr h
theorem WL_auto {c : Cx} {ds : List Nat} {sp : List Sp} {vs : Nat → Value} {lr : List Nat} {rsB : List (Nat × AV)} {hs : List HA} {Q : Exit → S → Prop} {ops : Array Oper} {l : List Oper} (ks : List Nat) {pk rs' : List (Nat × AV)} {hs' : List HA} (hp : Pk ds sp vs rsB ks pk rs') (hn : Nrm hs hs') (h2 : pk.map (fun p => look (regsD ds sp vs lr rsB) p.1) = pk.map (fun p => some p.2)) (h3 : rsB.all (fun p => !memN (lr.map (nthN ds)) p.1) = true) (k : WL c ops l ⟨rs', hs'⟩ Q) : WL c ops l ⟨regsD ds sp vs lr rsB, hs⟩ Q := by
 rw [hn.eq]
 refine ⟨fun a w st => ?_⟩
 obtain ⟨G, F, hI, hF, hR, r⟩ := st
 refine k.out a w ⟨G, F, hI, hF, fun j u e => ?_, r⟩
 rw [hp.eq] at e
 refine hR _ _ ?_
 rcases look_append e with h | ⟨h, x, hx⟩
 ·exact List.map_inj_left.1 h2 (j, u) h
 ·rw [show (⟨regsD ds sp vs lr rsB, hs'⟩ : S).rs = regsD ds sp vs lr rsB from rfl, look_regsD (by simpa using List.all_eq_true.1 h3 (j, x) hx)]; exact h
theorem inv_keep {G : Nat → Option Obj} {F : List Nat} {kept rest : List HA} {w : World} (h : Inv G F (kept ++ rest) w) : ∃ F1, Inv G F1 kept w ∧ Fr w w F F1 G G := by
 obtain ⟨F1, F2, e, h1, h2⟩ := hsP.split h.hs
 have nd := (e.nodup_iff).1 h.nd
 exact ⟨F1, ⟨h.gin, (List.nodup_append.1 nd).1, fun b hb => h.own b (e.mem_iff.2 (by simp [hb])), h1⟩, rfl, rfl, rfl, Nat.le_refl _, fun _ _ _ => rfl, fun b hb => .inl (e.mem_iff.2 (by simp [hb])), Gle.refl _, fun _ _ h => .inl h⟩
theorem resK {P : Program} {fn : Func} {t : Tmp} {post : AV → List HA → Prop} {rs : List (Nat × AV)} {hs kept r : List HA} {av : AV} (hr : fn.results = #[.tmp t]) (hl : look rs t = some av) (hcut : Cut hs kept r) (hp : post av kept) : Res P fn post ⟨rs, hs⟩ :=
 ⟨av, kept, hp, fun a w G F hR hI => by
  obtain ⟨F1, h1, h2⟩ := inv_keep (rest := r) ⟨hI.gin, hI.nd, hI.own, hcut.sel hI.hs⟩
  exact ⟨_, G, F1, results_tmp hr _ _ _, h2, h1, hR _ _ hl⟩⟩
theorem wl_callC {c : Cx} {rs : List (Nat × AV)} {hs pre r : List HA} {Q : Exit → S → Prop} {ops : Array Oper} {tl : List Oper} {d : Nat} {ty : TypeId} {pos : String} {af : Array Edge} {k : FuncId} {xs : List Operand} {ts : Array TypeId} {avs : List AV} {post : AV → List HA → Prop} (hc : Con c.P k avs pre post) (hx : opvs rs xs = some avs) (hcut : Cut hs pre r) (hd : Nat.blt d c.nt = true) (kk : ∀ av prod, post av prod → WL c ops tl ⟨(d, av) :: rs, prod ++ r⟩ Q) : WL c ops (⟨some d, .call { callee := .value (.func k), args := xs.toArray, argTypes := ts }, ty, pos, af, none⟩ :: tl) ⟨rs, hs⟩ Q :=
 WL_lt (cons := pre) (rest := r) hd rfl (fun _ _ _ h => hcut.sel h) (lt_call hx hc) kk
theorem Res_nil {α : Type} {P : Program} {fn : Func} {post : AV → List HA → Prop} {rs : List (Nat × AV)} {hs : List HA} (i n : Nat) (f : α → List AV) (hl : look rs i = some (.val (.slice none 0 0))) (k : Res P fn post ⟨(i, .sl n f []) :: rs, hs⟩) : Res P fn post ⟨rs, hs⟩ := by
 obtain ⟨av, prod, hp, h⟩ := k
 refine ⟨av, prod, hp, fun a w G F hR hI => h a w G F (fun j u e => ?_) hI⟩
 simp only [look] at e
 cases hb : Nat.beq i j with
 | true =>
  rw [hb] at e
  obtain rfl := Nat.eq_of_beq_eq_true hb
  simp only [cond_true, Option.some.injEq] at e
  subst e
  have h1 : a.tmps.getD i undef = _ := hR _ _ hl
  rw [h1]
  exact ⟨none, 0, rfl, Nat.le_refl _, fun i hi => by cases hi⟩
 | false => rw [hb] at e; exact hR j u (by simpa using e)
theorem results_tmp3 {P : Program} {fn : Func} {t u v : Tmp} (hr : fn.results = #[.tmp t, .tmp u, .tmp v]) (tm : Array Value) (w : World) : (results fn tm).run P w = .ok (.tuple #[tm.getD t undef, tm.getD u undef, tm.getD v undef]) w := by
 simp [results, hr, go_sem]
def Tok {α : Type} (e : TypeId) (n : Nat) (f : α → List AV) (xs : List α) : AV → List HA → Prop := fun x y => ∃ u, x = .val u ∧ y = [.row u e n f xs]
theorem wl_noU {c : Cx} {rs : List (Nat × AV)} {hs : List HA} {Q : Exit → S → Prop} {ops : Array Oper} {tl : List Oper} {d : Nat} {op : Op} {ty : TypeId} {pos : String} {af : Array Edge} {j dj : Nat} {b : Bool} (hj : gdst ops j = some dj) (hl : look rs dj = some (.val undef)) (hd2 : Nat.blt d c.nt = true) (h : WL c ops tl ⟨(d, .val undef) :: rs, hs⟩ Q) : WL c ops (⟨some d, op, ty, pos, af, some (j, b)⟩ :: tl) ⟨rs, hs⟩ Q := ⟨fun a w st => by
 obtain ⟨G, F, hI, hF, hR, hn, hd'⟩ := st
 have h1 : a.tmps.getD dj undef = undef := hR _ _ hl
 have hy : yielded ops a.tmps j = none := by
  unfold gdst at hj
  rw [Array.getD_eq_getD_getElem?] at h1
  cases h : a.tmps[dj]? with
  | none => simp [yielded, hj, h]
  | some v => rw [h] at h1; simp at h1; subst h1; simp [yielded, hj, h, undef]
 unfold wpListIn
 rw [if_neg (by simp [Region.wanted, hy])]
 refine ⟨fun f _ => c.wd.fn f, h.out _ _ ⟨G, F, hI, hF, RegOK.put hR hn (d := some d) hd2 rfl, ?_, ?_⟩⟩
 ·rw [(size_put a _ _).1, hn]
 ·rw [(size_put a _ _).2]; exact hd'⟩
theorem LT_bool {P : Program} {o : Oper} {rs : List (Nat × AV)} {cons : List HA} {b : Bool} (b' : Bool) (k : LT P o rs cons (Is (.val (.bool b)) [])) (h : b = b') : LT P o rs cons (Is (.val (.bool b')) []) := h ▸ k
theorem LT_int {P : Program} {o : Oper} {rs : List (Nat × AV)} {cons : List HA} {kd : IntKind} {b : Int} (b' : Int) (k : LT P o rs cons (Is (.val (.int kd b)) [])) (h : b = b') : LT P o rs cons (Is (.val (.int kd b')) []) := h ▸ k
def WR (c : Cx) (x : Code) (Q : Exit → S → Prop) : Nat → S → Prop
 | 0, _ => False
 | m + 1, s => W c x s (thenQ (fun s' => WR c x Q m s') Q)
theorem WR.out {c : Cx} {x : Code} {Q : Exit → S → Prop} : ∀ (m : Nat) {s : S}, WR c x Q m s → ∀ a w, St c s a w → Code.roundsIn c.F c.n c.P x (Post c Q) m a w
 | 0, _, h, _, _, _ => h.elim
 | m + 1, _, h, a, w, st => by
  refine Go.wpIn_mono (W.out (show W c x _ (thenQ (fun s' => WR c x Q m s') Q) from h) a w st) fun e a' w' ⟨s', st', q⟩ => ?_
  cases e with
  | normal => exact WR.out m q a' w' st'
  | _ => exact ⟨s', st', q⟩
theorem W_rounds {c : Cx} {s : S} {Q : Exit → S → Prop} {x : Code} (m : Nat) (h : WR c x Q m s) : W c (.loop x) s Q := ⟨fun a w st => wpIn_loop_rounds m (h.out m a w st)⟩
theorem WR_step {c : Cx} {s : S} {Q : Exit → S → Prop} {x : Code} {m : Nat} (h : W c x s (thenQ (fun s' => WR c x Q m s') Q)) : WR c x Q (m + 1) s := h
theorem ryv {P : Program} {ops : Array Oper} {ds : List Nat} {hs0 hsR : List HA} {rsB : List (Nat × AV)} {K : List Sp → Prop} {acc : List Sp} {o : Oper} {l : List Oper} (deps : List Nat) {av : AV} {j dj : Nat} {b : Bool} {acc' : List Sp} (k : Run P ops ds hs0 hsR rsB K acc' l) (hg : o.guard = some (j, b) := by exact rfl) (hj : gdst ops j = some dj := by exact rfl) (hl : ∀ vs, look (regsD ds acc vs deps rsB) dj = some (.val (.bool b)) := by intro vs; apply look_pk; exact goPk; exact rfl)
 (h : ∀ vs, LTr P o (regsD ds acc vs deps rsB) hsR (([] : List Nat).flatMap (cont acc hs0 vs)) (Is av []) := by intro vs; apply ltr_pk; exact goPk; exact goLtr) (ha : App acc ⟨deps, [], .pv av, []⟩ acc' := by exact goApp) : Run P ops ds hs0 hsR rsB K acc (o :: l) := Run.yes deps [] hg hj hl h ha k
theorem ryx {P : Program} {ops : Array Oper} {ds : List Nat} {hs0 hsR : List HA} {rsB : List (Nat × AV)} {K : List Sp → Prop} {acc : List Sp} {o : Oper} {l : List Oper} (deps : List Nat) {av : AV} {j dj : Nat} {b : Bool} {acc' : List Sp} (h : ∀ vs, LTr P o (regsD ds acc vs deps rsB) hsR (([] : List Nat).flatMap (cont acc hs0 vs)) (Is av [])) (k : Run P ops ds hs0 hsR rsB K acc' l) (hg : o.guard = some (j, b) := by exact rfl) (hj : gdst ops j = some dj := by exact rfl) (hl : ∀ vs, look (regsD ds acc vs deps rsB) dj = some (.val (.bool b)) := by intro vs; apply look_pk; exact goPk; exact rfl)
 (ha : App acc ⟨deps, [], .pv av, []⟩ acc' := by exact goApp) : Run P ops ds hs0 hsR rsB K acc (o :: l) := Run.yes deps [] hg hj hl h ha k
theorem rno {P : Program} {ops : Array Oper} {ds : List Nat} {hs0 hsR : List HA} {rsB : List (Nat × AV)} {K : List Sp → Prop} {acc : List Sp} {o : Oper} {l : List Oper} (deps : List Nat) {j dj : Nat} {b bv : Bool} {acc' : List Sp} (k : Run P ops ds hs0 hsR rsB K acc' l) (hg : o.guard = some (j, b) := by exact rfl) (hj : gdst ops j = some dj := by exact rfl) (hl : ∀ vs, look (regsD ds acc vs deps rsB) dj = some (.val (.bool bv)) := by intro vs; apply look_pk; exact goPk; exact rfl) (hb : (bv == b) = false := by exact rfl)
 (ha : App acc ⟨deps, [], .pv (.val undef), []⟩ acc' := by exact goApp) : Run P ops ds hs0 hsR rsB K acc (o :: l) := Run.no deps [] hg hj hl hb ha k
def HA.pack (l : List HA) : HA := ⟨fun G F w => hsP l G F w, fun h k => hsP.mono h k, fun h k => hsP.loc h k⟩
def HA.exs {σ : Type} (h : σ → List HA) : HA := ⟨fun G F w => ∃ s, hsP (h s) G F w, fun h ⟨s, k⟩ => ⟨s, hsP.mono h k⟩, fun h ⟨s, k⟩ => ⟨s, hsP.loc h k⟩⟩
theorem hsP.pack {G : Nat → Option Obj} {w : World} {l hs : List HA} {F : List Nat} : hsP (.pack l :: hs) G F w ↔ hsP (l ++ hs) G F w :=
 ⟨fun ⟨_, _, e, h1, h2⟩ => (hsP.append (show hsP l G _ w from h1) h2).perm e, fun h => let ⟨F1, F2, e, h1, h2⟩ := hsP.split h; ⟨F1, F2, e, h1, h2⟩⟩
structure Yield (P : Program) (v : Value) (args : List AV) (pre : List HA) (post : AV → List HA → Prop) : Prop where
 go : ∀ (G : Nat → Option Obj) (Fp : List Nat) (us : List Value) (w : World), Fits G args us → Inv G Fp pre w → ∃ l, v = .func (.yield l) #[] #[] ∧ ∀ (F : Fence) (n : Nat), Wd F →
  YieldAt F n P l us.toArray w fun e w' => ∃ v av prod G' F', e = .returned v ∧ post av prod ∧ Fr w w' Fp F' G G' ∧ Inv G' F' prod w' ∧ av.P G' v
theorem lt_yield {P : Program} {rs : List (Nat × AV)} {d : Option Nat} {ty : TypeId} {pos : String} {af : Array Edge} {g : Option (Nat × Bool)} {x : Operand} {y : Value} {xs : List Operand} {ts : Array TypeId} {avs : List AV} {pre : List HA} {post : AV → List HA → Prop} (hf : opv rs x = some (.val y)) (hx : opvs rs xs = some avs) (hc : Yield P y avs pre post) :
  LT P ⟨d, .call { callee := .value x, args := xs.toArray, argTypes := ts }, ty, pos, af, g⟩ rs pre post := by
 refine ⟨?_⟩
 intro F n hF a w G Fp K Q hR hI hk
 have e1 : a.eval x = y := opv_ok hR hf
 have hv := opvs_ok hR hx
 obtain ⟨l, rfl, hy⟩ := hc.go G Fp (xs.map a.eval) w hv hI
 obtain ⟨fn, tmps, assign, body, hr1, hr2⟩ := hy F (n - 1) hF
 unfold Oper.wpIn
 refine ⟨fun f _ => hF.fn f, ?_⟩
 rw [Oper.semAt_eq _ _ _ (fun _ e => by cases e)]
 have hr : (execOp a.eval ⟨d, .call { callee := .value x, args := xs.toArray, argTypes := ts }, ty, pos, af, g⟩).run P w = .ok (.round l fn tmps assign body) w := by
  simp [execOp, resolve, e1, Deferred.ofValue, invoke, hr1, Result.andThen]
 rw [hr]
 refine ⟨fun h => (by rw [hF.depth] at h; cases h), hr2.mono ?_⟩
 rintro e w' ⟨v, av, prod, G', F', rfl, hp, hfr, hi, hv⟩
 exact hk v av prod G' F' w' hp hfr hi hv
structure Iter {α τ : Type} (P : Program) (g : FuncId) (caps : List AV) (own : List HA) (f : α → τ → List AV) (t : α → τ → List HA) (xs : List α) : Prop where
 con : ∀ (yv : Value) (β βx : Type) (H : β → List HA) (Hx : βx → List HA) (I : Nat → β → Prop) (Ix : Nat → βx → Prop), One (.val yv) →
  (∀ k (hk : k < xs.length) b (u : τ), I k b → Yield P yv (f xs[k] u) ((own ++ t xs[k] u) ++ [.pack (H b)]) fun av prod => (av = .val (.bool true) ∧ ∃ b', I (k + 1) b' ∧ prod = own ++ [.pack (H b')]) ∨ (av = .val (.bool false) ∧ ∃ b', Ix (k + 1) b' ∧ prod = own ++ [.pack (Hx b')])) →
  ∀ b0, I 0 b0 → Con P g (.val yv :: caps) (own ++ [.pack (H b0)]) fun _ prod => (∃ b, I xs.length b ∧ prod = own ++ [.pack (H b)]) ∨ ∃ k b, 0 < k ∧ k ≤ xs.length ∧ Ix k b ∧ prod = own ++ [.pack (Hx b)]
def Rec (l : Nat) (w : World) (F : List Nat) (G : Nat → Option Obj) : Prop := l ∉ F ∧ G l = none ∧ ∃ r, w.heap[l]? = some (.loop r)
def codeOf : Exit → Code
 | .ret => .ret
 | .exit id => .exit id
 | _ => .skip
def roundQ {β : Type} (c : Cx) (own : List HA) (H : β → List HA) (Hx : Exit → β → List HA) (N : β → Prop) (X : Exit → β → Prop) : Exit → S → Prop
 | .normal, s => ∃ b', N b' ∧ ∀ a w, St c s a w → St c ⟨[], own ++ H b'⟩ a w
 | .ret, s => ∃ b', X .ret b' ∧ ∀ a w, St c s a w → St c ⟨[], own ++ Hx .ret b'⟩ a w
 | .exit id, s => ∃ b', X (.exit id) b' ∧ ∀ a w, St c s a w → St c ⟨[], own ++ Hx (.exit id) b'⟩ a w
 | _, _ => False
def zipR : List Nat → List AV → List (Nat × AV) → List (Nat × AV)
 | p :: ps, x :: xs, rs => zipR ps xs ((p, x) :: rs)
 | _, _, rs => rs
theorem zip_ok {G : Nat → Option Obj} : ∀ {ps : List Nat} {avs : List AV} {us : List Value} {tm : Array Value} {rs : List (Nat × AV)} {ds : List Deferred}, Fits G avs us → ps.length = avs.length → (∀ p ∈ ps, p < tm.size) → RegOK rs G ⟨tm, ds⟩ →
  RegOK (zipR ps avs rs) G ⟨(ps.zip us).foldl (fun t (p, v) => t.setIfInBounds p v) tm, ds⟩ ∧ ((ps.zip us).foldl (fun t (p, v) => t.setIfInBounds p v) tm).size = tm.size
 | [], _, _, _, _, _, _, _, _, h => by simp [zipR]; exact h
 | p :: ps, [], _, _, _, _, _, e, _, _ => by cases e
 | p :: ps, av :: avs, [], _, _, _, hf, _, _, _ => hf.elim
 | p :: ps, av :: avs, u :: us, tm, rs, ds, hf, e, hp, h => by
  have h1 : RegOK ((p, av) :: rs) G ⟨tm.setIfInBounds p u, ds⟩ :=
   RegOK.put (a := ⟨tm, ds⟩) h (d := some p) rfl (by simp only [okD, Nat.blt_eq]; exact hp p (by simp)) hf.1
  obtain ⟨h2, h3⟩ := zip_ok (ps := ps) hf.2 (by simpa using e) (fun q hq => by simpa using hp q (by simp [hq])) h1
  exact ⟨h2, by rw [List.zip_cons_cons, List.foldl_cons, h3]; simp⟩
def HA.lrec (l : Nat) (r : Loop) : HA := ⟨fun _ F w => F = [l] ∧ w.heap[l]? = some (.loop r), fun _ h => h, fun h k => ⟨k.1, (h l (by rw [k.1]; simp)).trans k.2⟩⟩
def HA.regs (rs : List (Nat × AV)) (a : Act) : HA := ⟨fun G F _ => F = [] ∧ RegOK rs G a, fun h k => ⟨k.1, k.2.mono h⟩, fun _ k => k⟩
theorem Fr.put {w w' : World} {F F' : List Nat} {G G' : Nat → Option Obj} (h : Fr w w' F F' G G') {l : Nat} (o : Obj) (hl : l ∈ F ∨ w.heap.size ≤ l) : Fr w (w'.putObj l o) F F' G G' :=
 ⟨h.os, h.tape, h.output, by rw [World.putObj_size]; exact h.size, fun b hb hn => (World.putObj_heap_other (fun (e : b = l) => by subst e; rcases hl with hl | hl; exact hn hl; omega)).trans (h.same b hb hn), h.newF, h.gle, h.newG⟩
theorem Inv.put {w : World} {F : List Nat} {G : Nat → Option Obj} {hs : List HA} (h : Inv G F hs w) {l : Nat} (o : Obj) (hl : l ∉ F) (hg : G l = none) : Inv G F hs (w.putObj l o) :=
 ⟨fun b o' e => (World.putObj_heap_other (fun (e' : b = l) => by subst e'; rw [hg] at e; cases e)).trans (h.gin b o' e), h.nd, fun b hb => by rw [World.putObj_size]; exact h.own b hb, h.hs.loc fun b hb => World.putObj_heap_other fun e => hl (e ▸ hb)⟩
theorem Inv.drop {w : World} {F : List Nat} {G : Nat → Option Obj} {kept rest : List HA} (h : Inv G F (kept ++ rest) w) : ∃ F1 F2, F.Perm (F1 ++ F2) ∧ Inv G F1 kept w ∧ hsP rest G F2 w ∧ ∀ b ∈ F2, b ∉ F1 ∧ b ∈ F := by
 obtain ⟨F1, F2, e, h1, h2⟩ := hsP.split h.hs
 have nd := (e.nodup_iff).1 h.nd
 exact ⟨F1, F2, e, ⟨h.gin, (List.nodup_append.1 nd).1, fun b hb => h.own b (e.mem_iff.2 (by simp [hb])), h1⟩, h2, fun b hb => ⟨fun h1 => (List.nodup_append.1 nd).2.2 b h1 b hb rfl, e.mem_iff.2 (by simp [hb])⟩⟩
theorem inv_rec {G : Nat → Option Obj} {F : List Nat} {w : World} {own H : List HA} {l : Nat} {r : Loop} {rs : List (Nat × AV)} {a : Act} :
  Inv G F (own ++ [.pack (.lrec l r :: .regs rs a :: H)]) w ↔ ∃ F1, F.Perm (l :: F1) ∧ Inv G F1 (own ++ H) w ∧ l ∉ F1 ∧ G l = none ∧ w.heap[l]? = some (.loop r) ∧ RegOK rs G a := by
 constructor
 ·intro h
  have hp : hsP (own ++ [HA.pack (.lrec l r :: .regs rs a :: H)]) G F w := h.hs
  obtain ⟨A, B, e, h1, h2⟩ := hsP.split hp
  rw [hsP.pack, List.append_nil] at h2
  obtain ⟨B1, B2, e2, ⟨hB1, hr⟩, ⟨B3, B4, e3, ⟨hB3, hg⟩, h3⟩⟩ := h2
  subst hB1; subst hB3
  have e4 : F.Perm (l :: (A ++ B4)) := e.trans (((e2.trans (e3.append_left [l])).append_left A).trans (by simp))
  have nd := e4.nodup_iff.1 h.nd
  have nd' := List.nodup_cons.1 nd
  refine ⟨A ++ B4, e4, ⟨h.gin, nd'.2, fun b hb => h.own b (e4.mem_iff.2 (List.mem_cons_of_mem _ hb)), hsP.append h1 h3⟩, nd'.1, (h.own l (e4.mem_iff.2 (by simp))).2, hr, hg⟩
 ·rintro ⟨F1, e, h, hl, hg, hr, hR⟩
  refine ⟨h.gin, e.nodup_iff.2 (List.nodup_cons.2 ⟨hl, h.nd⟩), fun b hb => ?_, ?_⟩
  ·rcases List.mem_cons.1 (e.mem_iff.1 hb) with rfl | hb
   ·exact ⟨(Array.getElem?_eq_some_iff.1 hr).1, hg⟩
   ·exact h.own b hb
  ·obtain ⟨A, B, e2, h1, h2⟩ := hsP.split h.hs
   have h3 : hsP [HA.pack (.lrec l r :: .regs rs a :: H)] G (l :: B) w := hsP.pack.2 (by
    rw [List.append_nil]
    exact ⟨[l], B, .refl _, ⟨rfl, hr⟩, [], B, .refl _, ⟨rfl, hR⟩, h2⟩)
   exact (hsP.append h1 h3).perm (e.trans ((e2.cons l).trans List.perm_middle.symm))
section
variable {c : Cx} {rs : List (Nat × AV)} {hs : List HA} {Q : Exit → S → Prop} {g : Operand} {ps : Array Tmp} {assign body : Code} {gf : FuncId} {caps : List AV} {own r : List HA} {α β τ : Type} {f : α → τ → List AV} {t : α → τ → List HA} {xs : List α}
def Rounds (P : Program) (nt : Nat) (ps : List Nat) (assign body : Code) (rs : List (Nat × AV)) (own : List HA) (f : α → τ → List AV) (t : α → τ → List HA) (xs : List α) (I : Nat → β → Prop) (H : β → List HA) (Ix : Exit → β → Prop) (Hx : Exit → β → List HA) : Prop :=
 ∀ l n w1 F1 G1, Rec l w1 F1 G1 → ∀ k (hk : k < xs.length) b (u : τ), I k b →
  W (Cx.mk (Fence.wide.inRound l) n P w1 F1 G1 nt (.inr ⟨l, rfl⟩)) assign ⟨zipR ps (f xs[k] u) rs, (own ++ t xs[k] u) ++ H b⟩ (thenQ (fun s => ∀ w2 F2 G2, Rec l w2 F2 G2 → W (Cx.mk (Fence.wide.inRound l) n P w2 F2 G2 nt (.inr ⟨l, rfl⟩)) body s (roundQ (Cx.mk (Fence.wide.inRound l) n P w2 F2 G2 nt (.inr ⟨l, rfl⟩)) own H Hx (I (k + 1)) Ix)) (fun _ _ => False))
theorem round_yield {P : Program} {nt l : Nat} {rc : Loop} {a : Act} (hps : ∀ x ∈ xs, ∀ u, (f x u).length = ps.toList.length) (hpt : ∀ p ∈ ps.toList, p < nt) (hsz : a.tmps.size = nt) (hrt : rc.tmps = a.tmps) (hrp : rc.params = ps) (hra : rc.assign = assign) (hrb : rc.body = body)
  (I : Nat → β → Prop) (H : β → List HA) (Ix : Exit → β → Prop) (Hx : Exit → β → List HA) (hbody : Rounds P nt ps.toList assign body rs own f t xs I H Ix Hx)
  {k : Nat} (hk : k < xs.length) {b : β} (u : τ) (hI : I k b) :
  Yield P (.func (.yield l) #[] #[]) (f xs[k] u) ((own ++ t xs[k] u) ++ [.pack (.lrec l { rc with state := .ready, pending := none } :: .regs rs a :: H b)]) fun av prod =>
   (av = .val (.bool true) ∧ ∃ b', I (k + 1) b' ∧ prod = own ++ [.pack (.lrec l { rc with state := .ready, pending := none } :: .regs rs a :: H b')]) ∨
   (av = .val (.bool false) ∧ ∃ b' : Exit × β, ((b'.1 = .ret ∨ ∃ id, b'.1 = .exit id) ∧ Ix b'.1 b'.2) ∧ prod = own ++ [.pack (.lrec l { rc with state := .done, pending := some (codeOf b'.1) } :: .regs rs a :: Hx b'.1 b'.2)]) := by
 subst hrp; subst hra; subst hrb
 refine ⟨fun G Fp us w hfit hInv => ⟨l, rfl, fun F n hF => ?_⟩⟩
 obtain ⟨F1, ep, hI1, hl1, hg1, hr1, hR1⟩ := inv_rec.1 hInv
 have hlen := hfit.length
 have hsz1 : us.toArray.size = rc.params.size := by simp; rw [hlen, hps _ (List.getElem_mem hk) u]; simp
 have hy := run_yield (P := P) hr1 hsz1
 refine ⟨rc.fn, _, rc.assign, rc.body, hy, ?_⟩
 have hlw : l < w.heap.size := (Array.getElem?_eq_some_iff.1 hr1).1
 have hlp : l ∈ Fp := ep.mem_iff.2 (by simp)
 have key : ∀ R, RoundIn Fence.wide n P l rc.fn ((rc.params.zip us.toArray).foldl (fun t (p, v) => t.setIfInBounds p v) rc.tmps) rc.assign rc.body w R → RoundIn F n P l rc.fn ((rc.params.zip us.toArray).foldl (fun t (p, v) => t.setIfInBounds p v) rc.tmps) rc.assign rc.body w R := fun R h => by
  rcases hF with rfl | ⟨l', rfl⟩ <;> exact h
 refine key _ (roundIn_of_wpIn trivial ?_)
 rw [hrt]
 have hzip := zip_ok (ps := rc.params.toList) (tm := a.tmps) (rs := rs) (ds := []) hfit (by rw [hps _ (List.getElem_mem hk) u]) (fun p hp => by rw [hsz]; exact hpt p hp) hR1
 have hfold : (rc.params.zip us.toArray).foldl (fun t (p, v) => t.setIfInBounds p v) a.tmps = (rc.params.toList.zip us).foldl (fun t (p, v) => t.setIfInBounds p v) a.tmps := by
  rw [← Array.foldl_toList]; simp
 rw [hfold]
 refine Go.wpIn_mono ((hbody l n w F1 G ⟨hl1, hg1, _, hr1⟩ k hk b u hI).out ⟨_, []⟩ w ⟨G, F1, hI1, Fr.refl _ _ _, hzip.1, by rw [← hsz]; exact hzip.2, Mk.nil _ _ _ _⟩) ?_
 rintro e a1 wa ⟨s1, ⟨Ga, Fa, hIa, hFa, hRa, hna, hda⟩, q⟩
 cases e with
 | normal =>
  have hFa' : Fr w wa F1 Fa G Ga := hFa
  have hla : l ∉ Fa := fun h => by
   rcases hFa'.newF l h with h | h
   ·exact hl1 h
   ·omega
  have hga : Ga l = none := by
   cases hg : Ga l with
   | none => rfl
   | some o =>
    rcases hFa'.newG l o hg with h | h | h
    ·rw [hg1] at h; cases h
    ·exact absurd h hl1
    ·omega
  have hra : wa.heap[l]? = some (.loop { rc with state := .ready, pending := none }) := (hFa'.same l hlw hl1).trans hr1
  refine ⟨_, run_beginRound hra rfl, ?_⟩
  have hlwa : l < wa.heap.size := (Array.getElem?_eq_some_iff.1 hra).1
  have hr2 : (wa.putObj l (.loop { rc with state := .busy, pending := none })).heap[l]? = some (.loop { rc with state := .busy, pending := none }) := World.putObj_heap_same hlwa
  have hda' : Mk (Cx.mk (Fence.wide.inRound l) n P (wa.putObj l (.loop { rc with state := .busy, pending := none })) Fa Ga nt (.inr ⟨l, rfl⟩)) Ga Fa (wa.putObj l (.loop { rc with state := .busy, pending := none })) a1.defers := by
   obtain ⟨Ds, e, nd, hD, hz⟩ := hda
   rw [e, hz (by simp)]
   exact Mk.nil _ _ _ _
  refine Go.wpIn_mono ((q _ Fa Ga ⟨hla, hga, _, hr2⟩).out a1 _ ⟨Ga, Fa, hIa.put _ hla hga, Fr.refl _ _ _, hRa, hna, hda'⟩) ?_
  have fin : ∀ (jump : Option Code) (s : LoopState) (_ : (if jump.isNone then .ready else .done) = s) (w3 : World) (s2 : S) (a2 : Act) (H' : List HA), St (Cx.mk (Fence.wide.inRound l) n P (wa.putObj l (.loop { rc with state := .busy, pending := none })) Fa Ga nt (.inr ⟨l, rfl⟩)) ⟨[], own ++ H'⟩ a2 w3 →
    ∃ v w', (Instr.endRound l jump).run P w3 = .ok v w' ∧ v = .bool jump.isNone ∧ ∃ G' F', Fr w w' Fp F' G G' ∧ Inv G' F' (own ++ [.pack (.lrec l { rc with state := s, pending := jump } :: .regs rs a :: H')]) w' := fun jump s hsj w3 s2 a2 H' st => by
   subst hsj
   obtain ⟨G3, F3, hI3, hF3, _⟩ := st
   have hF3' : Fr (wa.putObj l (.loop { rc with state := .busy, pending := none })) w3 Fa F3 Ga G3 := hF3
   have hs2 : (wa.putObj l (.loop { rc with state := .busy, pending := none })).heap.size = wa.heap.size := World.putObj_size
   have hl3 : l ∉ F3 := fun h => by
    rcases hF3'.newF l h with h | h
    ·exact hla h
    ·omega
   have hg3 : G3 l = none := by
    cases hg : G3 l with
    | none => rfl
    | some o =>
     rcases hF3'.newG l o hg with h | h | h
     ·rw [hga] at h; cases h
     ·exact absurd h hla
     ·omega
   have hr3 := (hF3'.same l (by omega) hla).trans hr2
   have hlw3 : l < w3.heap.size := (Array.getElem?_eq_some_iff.1 hr3).1
   refine ⟨_, _, run_endRound jump hr3, rfl, G3, l :: F3, ⟨?_, ?_, ?_, ?_, fun b hb hn => ?_, fun b hb => ?_, ?_, fun b o hb => ?_⟩, inv_rec.2 ⟨F3, .refl _, hI3.put _ hl3 hg3, hl3, hg3, World.putObj_heap_same hlw3, hR1.mono (hFa'.gle.trans hF3'.gle)⟩⟩
   ·exact hF3'.os.trans hFa'.os
   ·exact hF3'.tape.trans hFa'.tape
   ·exact hF3'.output.trans hFa'.output
   ·rw [World.putObj_size]; exact Nat.le_trans hFa'.size (hs2 ▸ hF3'.size)
   ·have hbl : b ≠ l := fun e => hn (e ▸ hlp)
    have hb1 : b ∉ F1 := fun h => hn (ep.mem_iff.2 (by simp [h]))
    have hba : b ∉ Fa := fun h => by
     rcases hFa'.newF b h with h | h
     ·exact hb1 h
     ·omega
    rw [World.putObj_heap_other hbl, hF3'.same b (by have := hFa'.size; omega) hba, World.putObj_heap_other hbl, hFa'.same b hb hb1]
   ·rcases List.mem_cons.1 hb with rfl | hb
    ·exact .inl hlp
    ·rcases hF3'.newF b hb with h | h
     ·rcases hFa'.newF b h with h | h
      ·exact .inl (ep.mem_iff.2 (by simp [h]))
      ·exact .inr h
     ·exact .inr (by have := hFa'.size; omega)
   ·exact hFa'.gle.trans hF3'.gle
   ·rcases hF3'.newG b o hb with h | h | h
    ·rcases hFa'.newG b o h with h | h | h
     ·exact .inl h
     ·exact .inr (.inl (ep.mem_iff.2 (by simp [h])))
     ·exact .inr (.inr h)
    ·rcases hFa'.newF b h with h | h
     ·exact .inr (.inl (ep.mem_iff.2 (by simp [h])))
     ·exact .inr (.inr h)
    ·exact .inr (.inr (by have := hFa'.size; omega))
  rintro e a3 w3 ⟨s2, st2, q2⟩
  cases e with
  | normal =>
   obtain ⟨b', hb', hst⟩ := q2
   obtain ⟨v, w', h1, h2, G', F', h3, h4⟩ := fin none _ rfl w3 s2 a3 _ (hst _ _ st2)
   rw [hrt] at h4
   exact ⟨v, w', h1, v, .val v, _, G', F', rfl, .inl ⟨by rw [h2]; rfl, b', hb', rfl⟩, h3, h4, rfl⟩
  | ret =>
   obtain ⟨b', hb', hst⟩ := q2
   obtain ⟨v, w', h1, h2, G', F', h3, h4⟩ := fin (some .ret) _ rfl w3 s2 a3 _ (hst _ _ st2)
   rw [hrt] at h4
   exact ⟨v, w', h1, v, .val v, _, G', F', rfl, .inr ⟨by rw [h2]; rfl, (.ret, b'), ⟨.inl rfl, hb'⟩, rfl⟩, h3, h4, rfl⟩
  | exit id =>
   obtain ⟨b', hb', hst⟩ := q2
   obtain ⟨v, w', h1, h2, G', F', h3, h4⟩ := fin (some (.exit id)) _ rfl w3 s2 a3 _ (hst _ _ st2)
   rw [hrt] at h4
   exact ⟨v, w', h1, v, .val v, _, G', F', rfl, .inr ⟨by rw [h2]; rfl, (.exit id, b'), ⟨.inr ⟨id, rfl⟩, hb'⟩, rfl⟩, h3, h4, rfl⟩
  | _ => exact q2.elim
 | _ => exact q.elim
instance one_yield {l : Nat} : One (.val (.func (.yield l) #[] #[])) := ⟨fun _ _ h => by subst h; rfl⟩
theorem range_core {a : Act} {w : World} (hst : St c ⟨rs, hs⟩ a w) (hg : opv rs g = some (.clo gf caps)) (it : Iter c.P gf caps own f t xs) (hcut : Cut hs own r)
  (I : Nat → β → Prop) (H : β → List HA) (Ix : Exit → β → Prop) (Hx : Exit → β → List HA) (b0 : β) (hi0 : I 0 b0) (hH0 : ∀ {G F w}, hsP r G F w → ∃ F1 F2, F.Perm (F1 ++ F2) ∧ hsP (H b0) G F1 w)
  (hps : ∀ x ∈ xs, ∀ u, (f x u).length = ps.toList.length) (hpt : ∀ p ∈ ps.toList, p < c.nt) (hbody : Rounds c.P c.nt ps.toList assign body rs own f t xs I H Ix Hx)
  (hdone : ∀ b, I xs.length b → Q .normal ⟨rs, own ++ H b⟩) (hjump : ∀ e b, e = .ret ∨ (∃ id, e = .exit id) → Ix e b → Q e ⟨rs, own ++ Hx e b⟩)
  (henter : ∀ fn, ∃ l mk w1 D, (Instr.enterLoop fn a.tmps ps assign body c.F.round).run c.P w = .ok (l, mk) w1 ∧ w.heap.size ≤ l ∧ w1.heap[l]? = some (.loop { state := .ready, pending := none, fn, tmps := a.tmps, params := ps, assign, body, defers := D }) ∧ Below w.heap.size w w1 ∧
   (mk = [] ∨ ∃ z, mk = [mark z] ∧ w.heap.size ≤ z ∧ z ≠ l ∧ w1.heap[z]? = some (.deferred (some [])) ∧ c.F.round = none)) :
  (Code.rangeFunc g ps assign body).wpIn c.F c.n c.P (Post c Q) a w := by
 refine wpIn_rangeFunc fun fn hfn => ?_
 obtain ⟨l, mk, w1, D, hen, hlw, hlr, hbel, hmk⟩ := henter fn
 obtain ⟨G, F, hI, hF, hR, hn, hd⟩ := hst
 obtain ⟨us, e1, hus⟩ : (AV.clo gf caps).P G (a.eval g) := opv_ok hR hg
 -- what is kept
 obtain ⟨A, B, eAB, hA, hB⟩ := hsP.split (hcut.sel hI.hs)
 obtain ⟨B1, B2, eB, hB1⟩ := hH0 hB
 have nd := (eAB.trans (eB.append_left A)).nodup_iff.1 hI.nd
 have hsub : ∀ b ∈ A ++ B1, b ∈ F := fun b hb => (eAB.trans (eB.append_left A)).mem_iff.2 (by rcases List.mem_append.1 hb with h | h <;> simp [h])
 have hlt : ∀ b ∈ A ++ B1, b < w.heap.size := fun b hb => (hI.own b (hsub b hb)).1
 have hl1 : l ∉ A ++ B1 := fun h => by have := hlt l h; omega
 have hgl : ∀ b, w.heap.size ≤ b → G b = none := fun b hb => by
  cases hg : G b with
  | none => rfl
  | some o => have := hI.gin.lt hg; omega
 have h1 : Inv G (A ++ B1) (own ++ H b0) w1 := ⟨fun b o e => (hbel.block b (hI.gin.lt e)).trans (hI.gin b o e), (List.nodup_append.1 (by rw [← List.append_assoc] at nd; exact nd)).1, fun b hb => ⟨Nat.lt_of_lt_of_le (hlt b hb) hbel.size, (hI.own b (hsub b hb)).2⟩,
  (hsP.append hA hB1).loc fun b hb => hbel.block b (hlt b hb)⟩
 let rc : Loop := { state := .ready, pending := none, fn, tmps := a.tmps, params := ps, assign, body, defers := D }
 have h2 : Inv G (l :: (A ++ B1)) (own ++ [.pack (.lrec l { rc with state := .ready, pending := none } :: .regs rs a :: H b0)]) w1 := inv_rec.2 ⟨_, .refl _, h1, hl1, hgl l hlw, hlr, hR⟩
 have hcon := it.con (.func (.yield l) #[] #[]) β (Exit × β) (fun b => .lrec l { rc with state := .ready, pending := none } :: .regs rs a :: H b) (fun b => .lrec l { rc with state := .done, pending := some (codeOf b.1) } :: .regs rs a :: Hx b.1 b.2) I (fun _ b => (b.1 = .ret ∨ ∃ id, b.1 = .exit id) ∧ Ix b.1 b.2) inferInstance
  (fun k hk b u hb => round_yield (rc := rc) hps hpt hn rfl rfl rfl rfl I H Ix Hx hbody hk u hb) b0 hi0
 have hcalls := hcon.calls G _ (.func (.yield l) #[] #[] :: us) w1 ⟨rfl, hus⟩ h2
 refine ⟨l, mk, w1, { target := .fn (.func gf) us.toArray, args := #[.func (.yield l) #[] #[]] }, w1, gf, #[.func (.yield l) #[] #[]] ++ us.toArray, w1, hen, ?_, ?_, ?_, ?_, ?_⟩
 ·simp only [resolve, e1]; simp [go_sem]
 ·exact fun f' _ => c.wd.fn f'
 ·simp [invoke, go_sem, hcon.enters]
 ·exact fun h => by rw [c.wd.depth] at h; cases h
 have hargs : #[Value.func (.yield l) #[] #[]] ++ us.toArray = (Value.func (.yield l) #[] #[] :: us).toArray := by simp
 rw [hargs]
 refine c.wd.calls (hcalls.mono ?_)
 rintro e w2 ⟨v, av, prod, G', F', rfl, hp, hfr, hi, hv⟩
 have hsz1 := hbel.size
 have fin : ∀ (s : LoopState) (p : Option Code) (H' : List HA), s ≠ .busy → Inv G' F' (own ++ [.pack (.lrec l { rc with state := s, pending := p } :: .regs rs a :: H')]) w2 →
   ∃ w3, (Instr.endLoop l).run c.P w2 = .ok p w3 ∧ St c ⟨rs, own ++ H'⟩ { a with defers := mk ++ a.defers } w3 := fun s p H' hs hi => by
  obtain ⟨F3, e3, h3, hl3, hg3, hr3, hR3⟩ := inv_rec.1 hi
  refine ⟨_, run_endLoop hr3 hs, G', F3, h3.put _ hl3 hg3, ?_, hR3, hn, ?_⟩
  ·refine hF.trans ⟨?_, ?_, ?_, ?_, fun b hb hnF => ?_, fun b hb => ?_, hfr.gle, fun b o hb => ?_⟩
   ·exact hfr.os.trans hbel.os
   ·exact hfr.tape.trans hbel.tape
   ·exact hfr.output.trans hbel.output
   ·rw [World.putObj_size]; exact Nat.le_trans hsz1 hfr.size
   ·have hbl : b ≠ l := fun e => by omega
    rw [World.putObj_heap_other hbl, hfr.same b (by omega) (by rw [List.mem_cons, not_or]; exact ⟨hbl, fun h => hnF (hsub b h)⟩), hbel.block b hb]
   ·rcases hfr.newF b (e3.mem_iff.2 (List.mem_cons_of_mem _ hb)) with h | h
    ·rcases List.mem_cons.1 h with rfl | h
     ·exact absurd hb hl3
     ·exact .inl (hsub b h)
    ·exact .inr (by omega)
   ·rcases hfr.newG b o hb with h | h | h
    ·exact .inl h
    ·rcases List.mem_cons.1 h with rfl | h
     ·rw [hg3] at hb; cases hb
     ·exact .inr (.inl (hsub b h))
    ·exact .inr (.inr (by omega))
  ·-- the marks
   have step : ∀ D, w.heap.size ≤ D ∨ D ∉ F → D ≠ l → D < w1.heap.size → G D = none → w1.heap[D]? = some (.deferred (some [])) → D ∉ F3 ∧ G' D = none ∧ (w2.putObj l (.loop { rc with state := .exhausted, pending := p })).heap[D]? = some (.deferred (some [])) := fun D hD hDl hD1 hDG hDh => by
    have hn1 : D ∉ l :: (A ++ B1) := by
     rw [List.mem_cons, not_or]
     exact ⟨hDl, fun h => by rcases hD with hD | hD; (have := hlt D h; omega); exact hD (hsub D h)⟩
    refine ⟨fun h => ?_, ?_, ?_⟩
    ·rcases hfr.newF D (e3.mem_iff.2 (List.mem_cons_of_mem _ h)) with h | h
     ·exact hn1 h
     ·omega
    ·cases hg : G' D with
     | none => rfl
     | some o =>
      rcases hfr.newG D o hg with h | h | h
      ·rw [hDG] at h; cases h
      ·exact absurd h hn1
      ·omega
    ·rw [World.putObj_heap_other hDl, hfr.same D hD1 hn1]; exact hDh
   obtain ⟨Ds, ed, nd, hD, hz⟩ := hd
   have hold : ∀ D ∈ Ds, c.w0.heap.size ≤ D ∧ D ∉ F3 ∧ G' D = none ∧ (w2.putObj l (.loop { rc with state := .exhausted, pending := p })).heap[D]? = some (.deferred (some [])) := fun D hDm => by
    obtain ⟨k1, k2, k3, k4⟩ := hD D hDm
    have hlt := (Array.getElem?_eq_some_iff.1 k4).1
    exact ⟨k1, step D (.inr k2) (by omega) (by omega) k3 ((hbel.block D hlt).trans k4)⟩
   rcases hmk with rfl | ⟨z, rfl, hz1, hz2, hz3, hz4⟩
   ·exact ⟨Ds, by simpa using ed, nd, hold, hz⟩
   ·refine ⟨z :: Ds, by rw [List.map_cons, ← ed]; rfl, List.nodup_cons.2 ⟨fun h => ?_, nd⟩, fun D hDm => ?_, fun h => absurd hz4 h⟩
    ·have := (Array.getElem?_eq_some_iff.1 (hD z h).2.2.2).1; omega
    ·rcases List.mem_cons.1 hDm with rfl | hDm
     ·exact ⟨Nat.le_trans hF.size hz1, step D (.inl hz1) hz2 (Array.getElem?_eq_some_iff.1 hz3).1 (hgl D hz1) hz3⟩
     ·exact hold D hDm
 rcases hp with ⟨b, hb, rfl⟩ | ⟨k, b, _, _, ⟨he, hb⟩, rfl⟩
 ·obtain ⟨w3, h1, h2⟩ := fin _ _ _ (fun h => by cases h) hi
  exact ⟨none, w3, h1, _, h2, hdone b hb⟩
 ·obtain ⟨w3, h1, h2⟩ := fin _ _ _ (fun h => by cases h) hi
  refine ⟨_, w3, h1, ?_⟩
  obtain ⟨e, b⟩ := b
  have hj := hjump e b he hb
  rcases he with rfl | ⟨id, rfl⟩
  ·exact wpIn_ret ⟨_, h2, hj⟩
  ·exact wpIn_exit ⟨_, h2, hj⟩
end
theorem W_range {n : Nat} {P : Program} {w0 : World} {F0 : List Nat} {G0 : Nat → Option Obj} {nt : Nat} {wd : Wd Fence.wide} {rs : List (Nat × AV)} {hs : List HA} {Q : Exit → S → Prop} {g : Operand} {ps : Array Tmp} {assign body : Code} {gf : FuncId} {caps : List AV} {own r : List HA} {α β τ : Type} {f : α → τ → List AV} {t : α → τ → List HA} {xs : List α}
  (hg : opv rs g = some (.clo gf caps)) (it : Iter P gf caps own f t xs) (hcut : Cut hs own r) (I : Nat → β → Prop) (H : β → List HA) (Ix : Exit → β → Prop) (Hx : Exit → β → List HA) (b0 : β) (hi0 : I 0 b0) (hH0 : SubP (H b0) r)
  (hps : ∀ x ∈ xs, ∀ u, (f x u).length = ps.toList.length) (hpt : ps.toList.all (fun p => Nat.blt p nt) = true) (hbody : Rounds P nt ps.toList assign body rs own f t xs I H Ix Hx)
  (hdone : ∀ b, I xs.length b → Q .normal ⟨rs, own ++ H b⟩) (hjump : ∀ e b, e = .ret ∨ (∃ id, e = .exit id) → Ix e b → Q e ⟨rs, own ++ Hx e b⟩) :
  W (Cx.mk Fence.wide n P w0 F0 G0 nt wd) (.rangeFunc g ps assign body) ⟨rs, hs⟩ Q := ⟨fun a w st =>
 range_core st hg it hcut I H Ix Hx b0 hi0 (fun h => hH0.ok h) hps (fun p hp => by have := List.all_eq_true.1 hpt p hp; simpa only [Nat.blt_eq] using this) hbody hdone hjump fun fn =>
  ⟨w.heap.size + 1, _, _, w.heap.size, run_enterLoop_outer fn a.tmps ps assign body, by omega, by have h := World.alloc_heap_new (w.alloc (.deferred (some []))) (.loop { state := .ready, pending := none, fn, tmps := a.tmps, params := ps, assign, body, defers := w.heap.size }); rw [World.size_alloc] at h; exact h,
   ((Below.refl w.heap.size w).alloc (Nat.le_refl _) _).alloc (by simp) _, .inr ⟨w.heap.size, rfl, Nat.le_refl _, by omega, (Below.heap_alloc _ _ _ (by simp)).trans (World.alloc_heap_new w _), rfl⟩⟩⟩
section
variable {P : Program} {rs : List (Nat × AV)} {hsR : List HA} {d : Option Nat} {ty : TypeId} {pos : String} {af : Array Edge} {g : Option (Nat × Bool)}
theorem Fits.cut {G : Nat → Option Obj} : ∀ {cs : List AV} {vs : List Value} (k : Nat), Fits G cs vs → Fits G (cs.drop k) (vs.drop k) ∧ Fits G (cs.take k) (vs.take k)
 | [], [], k, _ => by simp [Fits]
 | [], _ :: _, _, h => h.elim
 | _ :: _, [], _, h => h.elim
 | c :: cs, v :: vs, 0, h => ⟨h, trivial⟩
 | c :: cs, v :: vs, k + 1, h => ⟨(Fits.cut k h.2).1, h.1, (Fits.cut k h.2).2⟩
theorem lt_indexVN {x y : Operand} {t : TypeId} {len : Nat} {e : TypeId} {n : Nat} (hu : P.underlying t = some (.array len e)) [hE : TyN P e n] {cs : List AV} {i : Int} {k : Nat} {kd : IntKind} (hx : opv rs x = some (.agg cs)) (hy : opv rs y = some (.val (.int kd i))) (hi : i = (k : Int)) (hk : k < len) :
  LT P ⟨d, .index t x y, ty, pos, af, g⟩ rs [] (Is (.agg ((cs.drop (k * n)).take n)) []) :=
 LT_val (fun _ e => by cases e) fun a w G hR hG => by
  obtain ⟨vs, e1, hf⟩ : (AV.agg cs).P G (a.eval x) := opv_ok hR hx
  have e2 : a.eval y = _ := opv_ok hR hy
  refine ⟨.agg ((vs.drop (k * n)).take n).toArray, ⟨_, rfl, (Fits.cut n (Fits.cut (k * n) hf).1).2⟩, ?_⟩
  subst hi
  simp only [execOp, e1, e2, Instr.index, asIntOf, Sem.run_bind, Sem.run_pure, Result.andThen_ok]
  rw [show (underlying t).run P w = .ok (.array len e) w by simp [underlying, Sem.run, hu, go_sem]]
  simp only [Result.andThen_ok]
  rw [if_pos (by omega)]
  simp only [part, Sem.run_bind, hE.size w, hE.agg w, Result.andThen_ok, if_true]
  simp [Sem.run_pure, List.take_drop]
end
section
variable {c : Cx} {rs : List (Nat × AV)} {hs : List HA} {Q : Exit → S → Prop} {ops : Array Oper} {tl : List Oper} {d : Nat} {ty : TypeId} {pos : String} {af : Array Edge}
theorem wl_indexVN {x y : Operand} {t : TypeId} {len : Nat} {e : TypeId} {n : Nat} (hu : c.P.underlying t = some (.array len e)) [TyN c.P e n] {cs : List AV} {i : Int} {k : Nat} {kd : IntKind} (hx : opv rs x = some (.agg cs)) (hy : opv rs y = some (.val (.int kd i))) (hi : i = (k : Int)) (hk : k < len) {cs' : List AV} (he : (cs.drop (k * n)).take n = cs') (hd : Nat.blt d c.nt = true) (kk : WL c ops tl ⟨(d, .agg cs') :: rs, hs⟩ Q) : WL c ops (⟨some d, .index t x y, ty, pos, af, none⟩ :: tl) ⟨rs, hs⟩ Q := wl_ex (lt_indexVN hu hx hy hi hk) hd (he ▸ kk)
theorem wl_callV0 {x : Operand} {k : FuncId} {xs : List Operand} {ts : Array TypeId} {avs : List AV} {av : AV} (hc : Con c.P k avs [] (Is av [])) (hf : opv rs x = some (.clo k [])) (hx : opvs rs xs = some avs) (hd : Nat.blt d c.nt = true) (kk : WL c ops tl ⟨(d, av) :: rs, hs⟩ Q) : WL c ops (⟨some d, .call { callee := .value x, args := xs.toArray, argTypes := ts }, ty, pos, af, none⟩ :: tl) ⟨rs, hs⟩ Q := wl_callV (caps := []) (by rw [List.append_nil]; exact hc) hf hx hd kk
theorem wl_slTo {α : Type} {f : α → List AV} {xs : List α} {x y : Operand} {t e : TypeId} {n : Nat} {h : Nat} {hi : Int} (hE : TyE c.P t e n) (hx : opv rs x = some (.sl n f xs)) (hy : opv rs y = some (.val (.int .i64 hi))) (hh : hi = (h : Int)) (h2 : h ≤ xs.length) (hd : Nat.blt d c.nt = true) (k : WL c ops tl ⟨(d, .sl n f (xs.take h)) :: rs, hs⟩ Q) : WL c ops (⟨some d, .slice t x none (some y) none, ty, pos, af, none⟩ :: tl) ⟨rs, hs⟩ Q :=
 wl_slice (l := 0) (h := h) (li := 0) hx (.inr ⟨rfl, rfl⟩) rfl (.inl (by rw [Option.map_some, hy])) hh (Nat.zero_le _) h2 hd (by rw [List.drop_zero]; exact k)
end
theorem resK1 {P : Program} {fn : Func} {t : Tmp} {post : AV → List HA → Prop} {rs : List (Nat × AV)} {hs kept r : List HA} {av : AV} (hr : fn.results = #[.tmp t]) (hl : look rs t = some av) (hp : post av kept) (hcut : Cut hs kept r) : Res P fn post ⟨rs, hs⟩ := resK hr hl hcut hp
theorem resK0 {P : Program} {fn : Func} {post : AV → List HA → Prop} {rs : List (Nat × AV)} {hs kept r : List HA} (hr : fn.results = #[]) (hp : post (.tup []) kept) (hcut : Cut hs kept r) : Res P fn post ⟨rs, hs⟩ :=
 ⟨_, kept, hp, fun a w G F hR hI => by
  obtain ⟨F1, h1, h2⟩ := inv_keep (rest := r) ⟨hI.gin, hI.nd, hI.own, hcut.sel hI.hs⟩
  exact ⟨.tuple #[], G, F1, by simp [results, hr, go_sem], h2, h1, ⟨[], rfl, trivial⟩⟩⟩
theorem resK2 {P : Program} {fn : Func} {t u : Tmp} {post : AV → List HA → Prop} {rs : List (Nat × AV)} {hs kept r : List HA} {av bv : AV} (hr : fn.results = #[.tmp t, .tmp u]) (hl : look rs t = some av) (hl2 : look rs u = some bv) (hp : post (.tup [av, bv]) kept) (hcut : Cut hs kept r) : Res P fn post ⟨rs, hs⟩ :=
 ⟨_, kept, hp, fun a w G F hR hI => by
  obtain ⟨F1, h1, h2⟩ := inv_keep (rest := r) ⟨hI.gin, hI.nd, hI.own, hcut.sel hI.hs⟩
  exact ⟨_, G, F1, results_tmp2 hr _ _ _, h2, h1, ⟨[_, _], rfl, hR _ _ hl, hR _ _ hl2, trivial⟩⟩⟩
theorem resK3 {P : Program} {fn : Func} {t u x : Tmp} {post : AV → List HA → Prop} {rs : List (Nat × AV)} {hs kept r : List HA} {av bv cv : AV} (hr : fn.results = #[.tmp t, .tmp u, .tmp x]) (hl : look rs t = some av) (hl2 : look rs u = some bv) (hl3 : look rs x = some cv) (hp : post (.tup [av, bv, cv]) kept) (hcut : Cut hs kept r) : Res P fn post ⟨rs, hs⟩ :=
 ⟨_, kept, hp, fun a w G F hR hI => by
  obtain ⟨F1, h1, h2⟩ := inv_keep (rest := r) ⟨hI.gin, hI.nd, hI.own, hcut.sel hI.hs⟩
  exact ⟨_, G, F1, results_tmp3 hr _ _, h2, h1, ⟨[_, _, _], rfl, hR _ _ hl, hR _ _ hl2, hR _ _ hl3, trivial⟩⟩⟩
theorem wl_callP {c : Cx} {rs : List (Nat × AV)} {hs pre r : List HA} {Q : Exit → S → Prop} {ops : Array Oper} {tl : List Oper} {d : Nat} {ty : TypeId} {pos : String} {af : Array Edge} {k : FuncId} {xs : List Operand} {ts : Array TypeId} {avs : List AV} {post : AV → List HA → Prop} (hc : Con c.P k avs pre post) (hx : opvs rs xs = some avs) (hcut : Cut hs pre r) (hd : Nat.blt d c.nt = true) (kk : ∀ av prod, post av prod → WL c ops tl ⟨(d, av) :: rs, prod ++ r⟩ Q) : WL c ops (⟨some d, .call { callee := .value (.func k), args := xs.toArray, argTypes := ts }, ty, pos, af, none⟩ :: tl) ⟨rs, hs⟩ Q := wl_callC hc hx hcut hd kk
theorem Res_frz {α : Type} {P : Program} {fn : Func} {post : AV → List HA → Prop} {rs : List (Nat × AV)} {hs r : List HA} {e : TypeId} {n : Nat} {f : α → List AV} {xs : List α} {v : Value} (i : Nat) (hl : look rs i = some (.val v)) (hr : Rm hs (.row v e n f xs) r) (k : Res P fn post ⟨(i, .sl n f xs) :: rs, r⟩) : Res P fn post ⟨rs, hs⟩ := by
 obtain ⟨av, prod, hp, h⟩ := k
 refine ⟨av, prod, hp, fun a w G F hR hI => ?_⟩
 obtain ⟨G', F', h1, h2, h3⟩ := row_freeze (rest := r) ⟨hI.gin, hI.nd, hI.own, hr.sel hI.hs⟩
 obtain ⟨u, G2, F2, k1, k2, k3, k4⟩ := h a w G' F' (fun j av ek => by
  simp only [look] at ek
  cases hb : Nat.beq i j with
  | true =>
   rw [hb] at ek
   obtain rfl := Nat.eq_of_beq_eq_true hb
   simp only [cond_true, Option.some.injEq] at ek
   subst ek
   have : a.tmps.getD i undef = v := hR _ _ hl
   rw [this]; exact h3
  | false => rw [hb] at ek; exact av.mono h2.gle (hR j av (by simpa using ek))) h1
 exact ⟨u, G2, F2, k1, h2.trans k2, k3, k4⟩
instance : Ty1 Tryz.prog 3 := ⟨fun w => by kernel_rfl, fun w => by kernel_rfl⟩
instance : Ty1 Tryz.prog 4 := ⟨fun w => by kernel_rfl, fun w => by kernel_rfl⟩
instance : Ty1 Tryz.prog 22 := ⟨fun w => by kernel_rfl, fun w => by kernel_rfl⟩
instance : Ty1 Tryz.prog 23 := ⟨fun w => by kernel_rfl, fun w => by kernel_rfl⟩
instance : Ty1 Tryz.prog 24 := ⟨fun w => by kernel_rfl, fun w => by kernel_rfl⟩
instance : Ty1 Tryz.prog 25 := ⟨fun w => by kernel_rfl, fun w => by kernel_rfl⟩
instance : TyN Tryz.prog 27 4 := ⟨fun w => by kernel_rfl, fun w => by kernel_rfl⟩
instance : Ty1 Tryz.prog 30 := ⟨fun w => by kernel_rfl, fun w => by kernel_rfl⟩
instance : TyN Tryz.prog 42 3 := ⟨fun w => by kernel_rfl, fun w => by kernel_rfl⟩
instance : Ty1 Tryz.prog 47 := ⟨fun w => by kernel_rfl, fun w => by kernel_rfl⟩
instance : TyN Tryz.prog 49 4 := ⟨fun w => by kernel_rfl, fun w => by kernel_rfl⟩
instance : TyN Tryz.prog 52 2 := ⟨fun w => by kernel_rfl, fun w => by kernel_rfl⟩
instance : TyN Tryz.prog 67 4 := ⟨fun w => by kernel_rfl, fun w => by kernel_rfl⟩
instance : TyN Tryz.prog 69 4 := ⟨fun w => by kernel_rfl, fun w => by kernel_rfl⟩
instance : TyN Tryz.prog 73 2 := ⟨fun w => by kernel_rfl, fun w => by kernel_rfl⟩
instance : TyN Tryz.prog 87 2 := ⟨fun w => by kernel_rfl, fun w => by kernel_rfl⟩
instance : Ty1 Tryz.prog 100 := ⟨fun w => by kernel_rfl, fun w => by kernel_rfl⟩
instance : Ty1 Tryz.prog 105 := ⟨fun w => by kernel_rfl, fun w => by kernel_rfl⟩
instance : Ty1 Tryz.prog 108 := ⟨fun w => by kernel_rfl, fun w => by kernel_rfl⟩
instance : Ty1 Tryz.prog 114 := ⟨fun w => by kernel_rfl, fun w => by kernel_rfl⟩
instance : Ty1 Tryz.prog 119 := ⟨fun w => by kernel_rfl, fun w => by kernel_rfl⟩
instance : TyN Tryz.prog 122 2 := ⟨fun w => by kernel_rfl, fun w => by kernel_rfl⟩
instance : TyN Tryz.prog 155 1 := ⟨fun w => by kernel_rfl, fun w => by kernel_rfl⟩
instance : TyN Tryz.prog 156 4 := ⟨fun w => by kernel_rfl, fun w => by kernel_rfl⟩
instance : Ty1 Tryz.prog 163 := ⟨fun w => by kernel_rfl, fun w => by kernel_rfl⟩
instance : Ty1 Tryz.prog 172 := ⟨fun w => by kernel_rfl, fun w => by kernel_rfl⟩
instance : TyZ Tryz.prog 4 [.bool false] := ⟨fun w => ⟨.bool false, by kernel_rfl, rfl⟩⟩
instance : TyZ Tryz.prog 27 [.slice none 0 0, .slice none 0 0, .slice none 0 0, .slice none 0 0] := ⟨fun w => ⟨.agg #[.slice none 0 0, .slice none 0 0, .slice none 0 0, .slice none 0 0], by kernel_rfl, rfl⟩⟩
instance : TyZ Tryz.prog 42 [.int .i64 0, .int .i64 0, .int .i64 0] := ⟨fun w => ⟨.agg #[.int .i64 0, .int .i64 0, .int .i64 0], by kernel_rfl, rfl⟩⟩
instance : TyZ Tryz.prog 49 [.int .i64 0, .int .i64 0, .int .i64 0, .slice none 0 0] := ⟨fun w => ⟨.agg #[.int .i64 0, .int .i64 0, .int .i64 0, .slice none 0 0], by kernel_rfl, rfl⟩⟩
instance : TyZ Tryz.prog 52 [.int .i64 0, .int .i64 0] := ⟨fun w => ⟨.agg #[.int .i64 0, .int .i64 0], by kernel_rfl, rfl⟩⟩
instance : TyZ Tryz.prog 67 [.int .i64 0, .int .i64 0, .slice none 0 0, .slice none 0 0] := ⟨fun w => ⟨.agg #[.int .i64 0, .int .i64 0, .slice none 0 0, .slice none 0 0], by kernel_rfl, rfl⟩⟩
instance : TyZ Tryz.prog 69 [.int .i64 0, .int .i64 0, .int .i64 0, .int .i64 0] := ⟨fun w => ⟨.agg #[.int .i64 0, .int .i64 0, .int .i64 0, .int .i64 0], by kernel_rfl, rfl⟩⟩
instance : TyZ Tryz.prog 73 [.int .i64 0, .int .i64 0] := ⟨fun w => ⟨.agg #[.int .i64 0, .int .i64 0], by kernel_rfl, rfl⟩⟩
instance : TyZ Tryz.prog 87 [.int .i64 0, .int .i64 0] := ⟨fun w => ⟨.agg #[.int .i64 0, .int .i64 0], by kernel_rfl, rfl⟩⟩
instance : TyZ Tryz.prog 108 [.slice none 0 0] := ⟨fun w => ⟨.slice none 0 0, by kernel_rfl, rfl⟩⟩
instance : TyZ Tryz.prog 119 [.slice none 0 0] := ⟨fun w => ⟨.slice none 0 0, by kernel_rfl, rfl⟩⟩
instance : TyZ Tryz.prog 122 [.int .i64 0, .int .i64 0] := ⟨fun w => ⟨.agg #[.int .i64 0, .int .i64 0], by kernel_rfl, rfl⟩⟩
instance : TyZ Tryz.prog 155 [.nilFunc] := ⟨fun w => ⟨.agg #[.nilFunc], by kernel_rfl, rfl⟩⟩
instance : TyZ Tryz.prog 172 [.nilFunc] := ⟨fun w => ⟨.nilFunc, by kernel_rfl, rfl⟩⟩
instance : TyF Tryz.prog 27 0 0 := ⟨fun a w => by kernel_rfl⟩
instance : TyF Tryz.prog 27 1 1 := ⟨fun a w => by kernel_rfl⟩
instance : TyF Tryz.prog 27 2 2 := ⟨fun a w => by kernel_rfl⟩
instance : TyF Tryz.prog 27 3 3 := ⟨fun a w => by kernel_rfl⟩
instance : TyF Tryz.prog 42 0 0 := ⟨fun a w => by kernel_rfl⟩
instance : TyF Tryz.prog 42 1 1 := ⟨fun a w => by kernel_rfl⟩
instance : TyF Tryz.prog 42 2 2 := ⟨fun a w => by kernel_rfl⟩
instance : TyF Tryz.prog 49 0 0 := ⟨fun a w => by kernel_rfl⟩
instance : TyF Tryz.prog 49 1 1 := ⟨fun a w => by kernel_rfl⟩
instance : TyF Tryz.prog 49 2 2 := ⟨fun a w => by kernel_rfl⟩
instance : TyF Tryz.prog 49 3 3 := ⟨fun a w => by kernel_rfl⟩
instance : TyF Tryz.prog 52 0 0 := ⟨fun a w => by kernel_rfl⟩
instance : TyF Tryz.prog 52 1 1 := ⟨fun a w => by kernel_rfl⟩
instance : TyF Tryz.prog 67 0 0 := ⟨fun a w => by kernel_rfl⟩
instance : TyF Tryz.prog 67 1 1 := ⟨fun a w => by kernel_rfl⟩
instance : TyF Tryz.prog 67 2 2 := ⟨fun a w => by kernel_rfl⟩
instance : TyF Tryz.prog 73 0 0 := ⟨fun a w => by kernel_rfl⟩
instance : TyF Tryz.prog 73 1 1 := ⟨fun a w => by kernel_rfl⟩
instance : TyF Tryz.prog 87 0 0 := ⟨fun a w => by kernel_rfl⟩
instance : TyF Tryz.prog 87 1 1 := ⟨fun a w => by kernel_rfl⟩
instance : TyF Tryz.prog 104 0 0 := ⟨fun a w => by kernel_rfl⟩
instance : TyF Tryz.prog 104 1 4 := ⟨fun a w => by kernel_rfl⟩
instance : TyF Tryz.prog 155 0 0 := ⟨fun a w => by kernel_rfl⟩
instance : TyE Tryz.prog 22 3 1 := tyE (z := .int .i64 0) (b := 8) (by kernel_rfl) (by kernel_rfl) (by decide) rfl (by decide)
instance : TyE Tryz.prog 23 87 2 := tyE (z := .agg #[.int .i64 0, .int .i64 0]) (b := 16) (by kernel_rfl) (by kernel_rfl) (by decide) rfl (by decide)
instance : TyE Tryz.prog 24 49 4 := tyE (z := .agg #[.int .i64 0, .int .i64 0, .int .i64 0, .slice none 0 0]) (b := 48) (by kernel_rfl) (by kernel_rfl) (by decide) rfl (by decide)
instance : TyE Tryz.prog 25 42 3 := tyE (z := .agg #[.int .i64 0, .int .i64 0, .int .i64 0]) (b := 24) (by kernel_rfl) (by kernel_rfl) (by decide) rfl (by decide)
instance : TyE Tryz.prog 47 52 2 := tyE (z := .agg #[.int .i64 0, .int .i64 0]) (b := 16) (by kernel_rfl) (by kernel_rfl) (by decide) rfl (by decide)
instance : TyE Tryz.prog 105 108 1 := tyE (z := .slice none 0 0) (b := 24) (by kernel_rfl) (by kernel_rfl) (by decide) rfl (by decide)
instance : TyE Tryz.prog 119 122 2 := tyE (z := .agg #[.int .i64 0, .int .i64 0]) (b := 16) (by kernel_rfl) (by kernel_rfl) (by decide) rfl (by decide)
instance : TyA Tryz.prog 122 2 1 := ⟨⟨3, by kernel_rfl, fun w => by kernel_rfl⟩, by decide⟩
instance : TyB Tryz.prog 27 [.slice none 0 0, .slice none 0 0, .slice none 0 0, .slice none 0 0] (fun i => (#[(0, 1), (1, 1), (2, 1), (3, 1)] : Array (Nat × Nat))[i]?) := tyB_struct (z := .agg #[.slice none 0 0, .slice none 0 0, .slice none 0 0, .slice none 0 0]) (fs := Program.fieldsOf Tryz.prog 27) (fun w => by kernel_rfl) rfl (by kernel_rfl) (fun w => by kernel_rfl)
instance : TyB Tryz.prog 42 [.int .i64 0, .int .i64 0, .int .i64 0] (fun i => (#[(0, 1), (1, 1), (2, 1)] : Array (Nat × Nat))[i]?) := tyB_struct (z := .agg #[.int .i64 0, .int .i64 0, .int .i64 0]) (fs := Program.fieldsOf Tryz.prog 42) (fun w => by kernel_rfl) rfl (by kernel_rfl) (fun w => by kernel_rfl)
instance : TyB Tryz.prog 49 [.int .i64 0, .int .i64 0, .int .i64 0, .slice none 0 0] (fun i => (#[(0, 1), (1, 1), (2, 1), (3, 1)] : Array (Nat × Nat))[i]?) := tyB_struct (z := .agg #[.int .i64 0, .int .i64 0, .int .i64 0, .slice none 0 0]) (fs := Program.fieldsOf Tryz.prog 49) (fun w => by kernel_rfl) rfl (by kernel_rfl) (fun w => by kernel_rfl)
instance : TyB Tryz.prog 52 [.int .i64 0, .int .i64 0] (fun i => (#[(0, 1), (1, 1)] : Array (Nat × Nat))[i]?) := tyB_struct (z := .agg #[.int .i64 0, .int .i64 0]) (fs := Program.fieldsOf Tryz.prog 52) (fun w => by kernel_rfl) rfl (by kernel_rfl) (fun w => by kernel_rfl)
instance : TyB Tryz.prog 67 [.int .i64 0, .int .i64 0, .slice none 0 0, .slice none 0 0] (fun i => (#[(0, 1), (1, 1), (2, 1), (3, 1)] : Array (Nat × Nat))[i]?) := tyB_struct (z := .agg #[.int .i64 0, .int .i64 0, .slice none 0 0, .slice none 0 0]) (fs := Program.fieldsOf Tryz.prog 67) (fun w => by kernel_rfl) rfl (by kernel_rfl) (fun w => by kernel_rfl)
instance : TyB Tryz.prog 69 [.int .i64 0, .int .i64 0, .int .i64 0, .int .i64 0] (fun i => (#[(0, 1), (1, 1), (2, 1), (3, 1)] : Array (Nat × Nat))[i]?) := tyB_struct (z := .agg #[.int .i64 0, .int .i64 0, .int .i64 0, .int .i64 0]) (fs := Program.fieldsOf Tryz.prog 69) (fun w => by kernel_rfl) rfl (by kernel_rfl) (fun w => by kernel_rfl)
instance : TyB Tryz.prog 73 [.int .i64 0, .int .i64 0] (fun i => (#[(0, 1), (1, 1)] : Array (Nat × Nat))[i]?) := tyB_struct (z := .agg #[.int .i64 0, .int .i64 0]) (fs := Program.fieldsOf Tryz.prog 73) (fun w => by kernel_rfl) rfl (by kernel_rfl) (fun w => by kernel_rfl)
instance : TyB Tryz.prog 87 [.int .i64 0, .int .i64 0] (fun i => (#[(0, 1), (1, 1)] : Array (Nat × Nat))[i]?) := tyB_struct (z := .agg #[.int .i64 0, .int .i64 0]) (fs := Program.fieldsOf Tryz.prog 87) (fun w => by kernel_rfl) rfl (by kernel_rfl) (fun w => by kernel_rfl)
instance : TyB Tryz.prog 104 [.slice none 0 0, .slice none 0 0, .slice none 0 0, .slice none 0 0, .slice none 0 0] (fun i => (#[(0, 4), (4, 1)] : Array (Nat × Nat))[i]?) := tyB_struct (z := .agg #[.slice none 0 0, .slice none 0 0, .slice none 0 0, .slice none 0 0, .slice none 0 0]) (fs := Program.fieldsOf Tryz.prog 104) (fun w => by kernel_rfl) rfl (by kernel_rfl) (fun w => by kernel_rfl)
instance : TyB Tryz.prog 122 [.int .i64 0, .int .i64 0] (fun i => some (i * 1, 1)) := tyB_array (z := .agg #[.int .i64 0, .int .i64 0]) (n := 2) (e := 3) (fun w => by kernel_rfl) rfl (by kernel_rfl) (fun w => by kernel_rfl)
instance : TyQ Tryz.prog 42 3 := ⟨fun x y xs ys w h1 h2 => by
 match xs, ys, h1, h2 with
 | [x0, x1, x2], [y0, y1, y2], _, _ => refine ⟨?_, ?_, ?_, ?_⟩ <;> simp [go_sem] <;> by_cases h10 : x0 = y0 <;> by_cases h11 : x1 = y1 <;> by_cases h12 : x2 = y2 <;> simp [*]⟩
instance : TyQ Tryz.prog 73 2 := ⟨fun x y xs ys w h1 h2 => by
 match xs, ys, h1, h2 with
 | [x0, x1], [y0, y1], _, _ => refine ⟨?_, ?_, ?_, ?_⟩ <;> simp [go_sem] <;> by_cases h10 : x0 = y0 <;> by_cases h11 : x1 = y1 <;> simp [*]⟩
instance : TyQ Tryz.prog 87 2 := ⟨fun x y xs ys w h1 h2 => by
 match xs, ys, h1, h2 with
 | [x0, x1], [y0, y1], _, _ => refine ⟨?_, ?_, ?_, ?_⟩ <;> simp [go_sem] <;> by_cases h10 : x0 = y0 <;> by_cases h11 : x1 = y1 <;> simp [*]⟩
end Go.Proofs.YtihonljdanjfmaaGreatDoor.Sw
namespace Go.Proofs.YtihonljdanjfmaaGreatDoor.Sw
open Go Go.RowKit Go.ChangeShapes Go.WideShapes Go.ChangeAt
def gh (w : World) : Nat → Option Obj := fun b => w.heap[b]?
theorem cellG_gh {w : World} {b i : Nat} {v : Value} (h : w.cell? ⟨b, i, none⟩ = some v) : cellG (gh w) b i = some v := by
 unfold World.cell? at h
 unfold cellG gh
 cases hb : w.heap[b]? with
 | none => rw [hb] at h; cases h
 | some o => rw [hb] at h; cases o <;> first | exact h | cases h
theorem law_of {P : Program} {k : FuncId} {args : List AV} {pre : List HA} (hc : Con P k args pre (Is (.val (.bool true)) [])) {vs : List Value} {w : World} (hp : hsP pre (gh w) [] w) (hf : Fits (gh w) args vs) :
  Calls P k vs.toArray w fun e w' => e = .returned (.bool true) ∧ Below w.heap.size w w' := by
 refine (hc.calls (gh w) [] vs w hf ⟨fun b o h => h, List.nodup_nil, fun b hb => absurd hb (by simp), hp⟩).mono fun e w' ⟨v, av, prod, G', F', h1, h2, h3, _, h5⟩ => ?_
 obtain ⟨rfl, rfl⟩ := h2
 have h5' : v = _ := h5
 subst h5'
 exact ⟨h1, { os := h3.os, tape := h3.tape, output := h3.output, size := h3.size, block := fun b hb => h3.same b hb (by simp) }⟩
def Reads (t : TypeId) {α : Type} (f : α → List AV) : Prop := ∀ {H : Type} {enc : TypeId × Value → H} {W : World} {n : Nat} {cs : List Value} {y : DataW H × List MemPlace}, DataW.trod enc Tryz.prog W 0 (fun _ => true) true n t cs = some y → ∃ x, Fits (gh W) (f x) cs
theorem reads_int {t : TypeId} {k : IntKind} (ht : Tryz.prog.underlying t = some (.int k)) : Reads t fun i : Int => [AV.val (.int k i)] := fun h => by
 obtain ⟨n, rfl, _, _⟩ := DataW.trod_int ht h
 exact ⟨n, rfl, trivial⟩
theorem reads_sl {t e : TypeId} {α : Type} {f : α → List AV} {n : Nat} (ht : Tryz.prog.underlying t = some (.slice e)) (hn : Tryz.prog.cellsOf e = n) (h0 : 0 < n) (hf : ∀ x, (f x).length = n) (he : Reads e f) : Reads t fun xs : List α => [AV.sl n f xs] := fun {H enc W m cs y} h => by
 rcases Go.Deep.open_slice ht h with ⟨rfl, _⟩ | ⟨a, len, cap, m', n', D, Pl, rfl, hb, hl, hm, hmm, _, hx⟩
 ·exact ⟨[], ⟨none, 0, rfl, Nat.le_refl _, fun i hi => (by cases hi)⟩, trivial⟩
 ·simp only [if_true] at hmm
  have key : ∀ i, i < len → ∃ x, Fits (gh W) (f x) ((W.cells? 0 (a.add (i * n)) n).getD []) ∧ (W.cells? 0 (a.add (i * n)) n).isSome = true := fun i hi => by
   obtain ⟨cs', h1, h2⟩ := hx i (by omega)
   rw [hn] at h1
   obtain ⟨x, hxx⟩ := he h2
   exact ⟨x, by rw [h1]; exact hxx, by rw [h1]; rfl⟩
  let F : Fin len → α := fun i => (key i.1 i.2).choose
  have hF : ∀ i (hi : i < len), Fits (gh W) (f (F ⟨i, hi⟩)) ((W.cells? 0 (a.add (i * n)) n).getD []) ∧ (W.cells? 0 (a.add (i * n)) n).isSome = true := fun i hi => (key i hi).choose_spec
  refine ⟨List.ofFn F, ⟨some a, cap, by rw [List.length_ofFn], by rw [List.length_ofFn]; exact hl, fun i hi => ?_⟩, trivial⟩
  rw [List.length_ofFn] at hi
  obtain ⟨g1, g2⟩ := hF i hi
  obtain ⟨cs', hcs⟩ := Option.isSome_iff_exists.1 g2
  rw [hcs] at g1
  simp only [Option.getD_some] at g1
  obtain ⟨_, hlen, hcell⟩ := World.cells?_some hcs
  obtain ⟨b, o, spot⟩ := a
  have hspot : spot = none := by
   obtain ⟨k1, k2⟩ := hF 0 (by omega)
   obtain ⟨cs0, hc0⟩ := Option.isSome_iff_exists.1 k2
   obtain ⟨_, hl0, hcell0⟩ := World.cells?_some hc0
   have h1 := hcell0 0 h0
   rw [List.getElem?_eq_getElem (by omega), Go.Deep.add_add] at h1
   simpa [Addr.add] using World.cell?_spot h1
  subst hspot
  refine ⟨b, o, rfl, fun j av hj => ?_⟩
  rw [List.getElem_ofFn] at hj
  obtain ⟨u, h1, h2⟩ := g1.get hj
  have hjn : j < n := by have := (List.getElem?_eq_some_iff.1 hj).1; rw [hf] at this; exact this
  have h3 := hcell j hjn
  rw [h1, Go.Deep.add_add] at h3
  have ea : (⟨b, o, none⟩ : Addr).add (i * n + j) = ⟨b, o + i * n + j, none⟩ := by unfold Addr.add; split <;> simp <;> omega
  rw [ea] at h3
  exact ⟨u, cellG_gh h3, h2⟩
set_option maxRecDepth 100000 in
theorem arg_agg {H : Type} {enc : TypeId × Value → H} {W : World} {t : TypeId} {fs : Array Field} {α : Type} {g : α → List AV} (hr : Reads t g) {v : Value} {d : DataW H} {p : List MemPlace} {base : Nat} (ht : Tryz.prog.underlying t = some (.struct fs)) (hv : Value.okWide Tryz.prog W .any base t v) (h : DataW.Trod enc Tryz.prog W 0 (fun _ => true) true t v d p) : ∃ x, (AV.agg (g x)).P (gh W) v := by
 obtain ⟨cs, rfl, _⟩ := okWide_struct ht hv
 obtain ⟨m, hm⟩ := h
 obtain ⟨x, h1⟩ := hr hm
 exact ⟨x, cs.toList, rfl, h1⟩
end Go.Proofs.YtihonljdanjfmaaGreatDoor.Sw
namespace Go.Proofs.YtihonljdanjfmaaGreatDoor
open Go Go.ChangeShapes Go.WideShapes Go.ChangeAt Go.RowKit
theorem own : ownKnob Tryz.prog.godebug = none := by kernel_rfl
end Go.Proofs.YtihonljdanjfmaaGreatDoor
namespace Go.Proofs.YtihonljdanjfmaaGreatDoor.Sw
open Go Go.RowKit Go.ChangeShapes Go.WideShapes Go.ChangeAt
set_option maxRecDepth 100000
theorem reads_i : Reads 3 iC := reads_int Tryz.underlying3
theorem reads_is : Reads 22 fun xs : List Int => [AV.sl 1 iC xs] := reads_sl Tryz.underlying22 (n := 1) (by kernel_rfl) Nat.one_pos (fun _ => rfl) reads_i
theorem reads_4 {t : TypeId} {f0 f1 f2 f3 : Field} {α β γ δ : Type} {g0 : α → AV} {g1 : β → AV} {g2 : γ → AV} {g3 : δ → AV} (ht : Tryz.prog.underlying t = some (.struct #[f0, f1, f2, f3])) (hone : Go.Deep.oneCellFields Tryz.prog #[f0, f1, f2, f3] = true) (hC : Tryz.prog.cellsOf t = 4)
  (h0 : Reads f0.type fun x => [g0 x]) (h1 : Reads f1.type fun x => [g1 x]) (h2 : Reads f2.type fun x => [g2 x]) (h3 : Reads f3.type fun x => [g3 x]) : Reads t fun x : α × β × γ × δ => [g0 x.1, g1 x.2.1, g2 x.2.2.1, g3 x.2.2.2] := fun {H enc W n cs y} h => by
 obtain ⟨y0, y1, y2, y3, n, _, hl, k0, k1, k2, k3⟩ := Go.Joins.trod_struct4 ht h
 rw [hC] at hl
 obtain ⟨o0, c0⟩ := Go.Deep.hone_of hone 0 f0 rfl
 obtain ⟨o1, c1⟩ := Go.Deep.hone_of hone 1 f1 rfl
 obtain ⟨o2, c2⟩ := Go.Deep.hone_of hone 2 f2 rfl
 obtain ⟨o3, c3⟩ := Go.Deep.hone_of hone 3 f3 rfl
 match cs, hl with
 | [v0, v1, v2, v3], _ =>
  obtain ⟨x0, e0, _⟩ := h0 (by simpa [o0, c0] using k0)
  obtain ⟨x1, e1, _⟩ := h1 (by simpa [o1, c1] using k1)
  obtain ⟨x2, e2, _⟩ := h2 (by simpa [o2, c2] using k2)
  obtain ⟨x3, e3, _⟩ := h3 (by simpa [o3, c3] using k3)
  exact ⟨⟨x0, x1, x2, x3⟩, e0, e1, e2, e3, trivial⟩
end Go.Proofs.YtihonljdanjfmaaGreatDoor.Sw
namespace Go.Proofs.YtihonljdanjfmaaGreatDoor.Sw
open Go.RowKit Go Go.Shelf Go.Proofs
theorem mixedS : Tryz.prog.follows .mixedOrders = true := by kernel_rfl
structure Pay where
 a : Int
 b : Int
 p : Int
deriving DecidableEq
structure Qu where
 a : Int
 b : Int
deriving DecidableEq
structure Stk where
 fl : Int
 pt : Int
deriving DecidableEq
structure Bil where
 no : Int
 py : Int
 pe : Int
 st : List Stk
deriving DecidableEq
structure Flo where
 ids : List Int
 qs : List Qu
 bs : List Bil
 ps : List Pay
deriving DecidableEq
def payC (x : Pay) : List AV := [.val (.int .i64 x.a), .val (.int .i64 x.b), .val (.int .i64 x.p)]
def quC (x : Qu) : List AV := [.val (.int .i64 x.a), .val (.int .i64 x.b)]
def stC (x : Stk) : List AV := [.val (.int .i64 x.fl), .val (.int .i64 x.pt)]
def biC (x : Bil) : List AV := [.val (.int .i64 x.no), .val (.int .i64 x.py), .val (.int .i64 x.pe), .sl 2 stC x.st]
def flC (x : Flo) : List AV := [.sl 1 iC x.ids, .sl 2 quC x.qs, .sl 4 biC x.bs, .sl 3 payC x.ps]
instance {x : Pay} : OneL (payC x) := inferInstanceAs (OneL [_, _, _])
instance {x : Qu} : OneL (quC x) := inferInstanceAs (OneL [_, _])
instance {x : Stk} : OneL (stC x) := inferInstanceAs (OneL [_, _])
instance {x : Bil} : OneL (biC x) := inferInstanceAs (OneL [_, _, _, _])
instance {x : Flo} : OneL (flC x) := inferInstanceAs (OneL [_, _, _, _])
instance : OneF payC := ⟨fun _ => inferInstance⟩
instance : OneF quC := ⟨fun _ => inferInstance⟩
instance : OneF stC := ⟨fun _ => inferInstance⟩
instance : OneF biC := ⟨fun _ => inferInstance⟩
instance : LenF payC 3 := ⟨fun _ => rfl⟩
instance : LenF quC 2 := ⟨fun _ => rfl⟩
instance : LenF stC 2 := ⟨fun _ => rfl⟩
instance : LenF biC 4 := ⟨fun _ => rfl⟩
def ixOf (l : List Int) (x : Int) : Int := if x ∈ l then (l.idxOf x : Int) else -1
theorem ixOf_none {l : List Int} {x : Int} (h : x ∉ l) : ixOf l x = -1 := if_neg h
theorem ixOf_at {l : List Int} {x : Int} {k : Nat} (hk : k < l.length) (h1 : x ∉ l.take k) (h2 : l[k] = x) : ixOf l x = k := by
 have e : l = l.take k ++ l[k] :: l.drop (k + 1) := by rw [← List.drop_eq_getElem_cons hk, List.take_append_drop]
 unfold ixOf
 rw [if_pos (h2 ▸ List.getElem_mem hk)]
 congr 1
 conv => lhs; rw [e]
 rw [List.idxOf_append, if_neg h1, h2, List.idxOf_cons_self, List.length_take]
 omega
theorem floor_con (f : Flo) (id : Int) (hl : f.ids.length ≤ 1000000) : Con Tryz.prog 23 [.agg (flC f), .val (.int .i64 id)] [] (Is (.val (.int .i64 (ixOf f.ids id))) []) := by
 refine con_of Tryz.func23 rfl (enters_of Tryz.func23 (by kernel_rfl) rfl) rfl ?_; intro n w0 F0 G0
 refine zS ?_;repeat(refine yA ?_;intro p hp;refine zS ?_)
 refine W_loopJ (fun (k : Nat) => ⟨[(1, .val (.int .i64 id)), (2, .val p), (5, .val (.int .i64 k))], [.box p (flC f) 27]⟩) (fun k => k ≤ f.ids.length ∧ id ∉ f.ids.take k) (fun k => f.ids.length - k) 0 (fun _ _ st => st_sub2 st zR zP) ?hj0 ?round
 case hj0 => simp
 case round =>
  rintro k ⟨hk, hno⟩
  refine zS ?_
  refine w_cond rfl (fun hlt => ?_) (fun hlt => ?_)
  ·have hlt' : k < f.ids.length := by simpa using hlt
   refine zS ?_
   refine w_cond rfl (fun he => ?_) (fun he => ?_)
   ·refine zS ?_
    (apply res1; exact rfl; exact rfl; exact ⟨(congrArg (fun b => AV.val (Value.int .i64 b)) (ixOf_at hlt' hno (by simpa using he)).symm), rfl⟩)
   ·refine zS ?_
    (refine ⟨k + 1, fun _ _ st => st_sub2 st ?_ ?_, ?_, ?_⟩; exact zR; exact zP)
    ·refine ⟨by omega, ?_⟩
     rw [List.take_succ_eq_append_getElem hlt', List.mem_append, not_or]
     exact ⟨hno, by simp at he; simpa using Ne.symm he⟩
    ·omega
  ·refine zS ?_
   have hkk : k = f.ids.length := by simp at hlt; omega
   subst hkk
   rw [List.take_length] at hno
   (apply res1; exact rfl; exact rfl; exact ⟨(congrArg (fun b => AV.val (Value.int .i64 b)) (ixOf_none hno).symm), rfl⟩)
theorem within8_con (n lo hi : Int) : Con Tryz.prog 95 [.val (.int .i64 n), .val (.int .i64 lo), .val (.int .i64 hi)] [] (Is (.val (.bool (decide (lo ≤ n) && decide (n ≤ hi)))) []) := by
 refine con_of Tryz.func95 rfl (enters_of Tryz.func95 (by kernel_rfl) rfl) rfl ?_; intro n w0 F0 G0
 refine zS ?_
 refine wl_part rfl rfl (fun h => ?_) (fun h => ?_)
 ·refine zS ?_
  (apply res1; exact rfl; exact rfl; exact ⟨(congrArg (fun b => AV.val (Value.bool b)) (by simp [h])), rfl⟩)
 ·refine zS ?_
  (apply res1; exact rfl; exact rfl; exact ⟨(congrArg (fun b => AV.val (Value.bool b)) (by simp [h])), rfl⟩)
theorem ixOf_neg {l : List Int} {x : Int} : ixOf l x < 0 ↔ x ∉ l := by
 unfold ixOf; split <;> simp_all
theorem ixOf_lt {l : List Int} {x : Int} : decide (ixOf l x < 0) = !decide (x ∈ l) := by
 rw [← decide_not]; exact decide_eq_decide.2 ixOf_neg
theorem ixOf_ge {l : List Int} {x : Int} : decide (0 ≤ ixOf l x) = decide (x ∈ l) := decide_eq_decide.2 (by have := @ixOf_neg l x; by_cases h : x ∈ l <;> simp_all)
theorem drop_step {α : Type} {l : List α} {k : Nat} (h : k < l.length) : l.drop k = l[k] :: l.drop (k + 1) := List.drop_eq_getElem_cons h
def payOk (ids : List Int) (x : Pay) : Bool := decide (x.a ∈ ids) && decide (x.b ∈ ids) && decide (x.a ≠ x.b) && (decide (1 ≤ x.p) && decide (x.p ≤ 1000000))
def stksOk (ids : List Int) : Int → List Stk → Bool
 | _, [] => true
 | last, s :: t => decide (last < s.fl) && decide (s.fl ∈ ids) && (decide (1 ≤ s.pt) && decide (s.pt ≤ 9)) && stksOk ids s.fl t
def bilOk (ids : List Int) (x : Bil) : Bool := decide (x.py ∈ ids) && (decide (1 ≤ x.pe) && decide (x.pe ≤ 1000000)) && decide (x.st ≠ []) && stksOk ids 0 x.st
theorem payment_con (f : Flo) (x : Pay) (hl : f.ids.length ≤ 1000000) : Con Tryz.prog 98 [.agg (flC f), .agg (payC x)] [] (Is (.val (.bool (payOk f.ids x))) []) := by
 refine con_of Tryz.func98 rfl (enters_of Tryz.func98 (by kernel_rfl) rfl) rfl ?_; intro n w0 F0 G0
 refine zS ?_;repeat(refine yA ?_;intro p hp;refine zS ?_)
 (first | (apply wl_call (floor_con f x.a hl); exact rfl; exact rfl) | (apply wl_callR (floor_con f x.a hl); exact rfl; exact zM; exact rfl))
 refine zS ?_
 rw [ixOf_ge]
 refine wl_part rfl rfl (fun h1 => ?_) (fun h1 => ?_)
 rotate_left
 ·refine zS ?_
  (apply res1; exact rfl; exact rfl; exact ⟨(congrArg (fun b => AV.val (Value.bool b)) (by simp [payOk, h1])), rfl⟩)
 ·refine zS ?_
  (first | (apply wl_call (floor_con f x.b hl); exact rfl; exact rfl) | (apply wl_callR (floor_con f x.b hl); exact rfl; exact zM; exact rfl))
  refine zS ?_
  rw [ixOf_ge]
  refine wl_part rfl rfl (fun h2 => ?_) (fun h2 => ?_)
  rotate_left
  ·refine zS ?_
   (apply res1; exact rfl; exact rfl; exact ⟨(congrArg (fun b => AV.val (Value.bool b)) (by simp [payOk, h2])), rfl⟩)
  ·refine zS ?_
   refine wl_part rfl rfl (fun h3 => ?_) (fun h3 => ?_)
   rotate_left
   ·refine zS ?_
    (apply res1; exact rfl; exact rfl; exact ⟨(congrArg (fun b => AV.val (Value.bool b)) (by simp at h3; simp [payOk, h3])), rfl⟩)
   ·refine zS ?_
    (first | (apply wl_call (within8_con _ _ _); exact rfl; exact rfl) | (apply wl_callR (within8_con _ _ _); exact rfl; exact zM; exact rfl))
    refine zS ?_
    (apply res1; exact rfl; exact rfl; exact ⟨(congrArg (fun b => AV.val (Value.bool b)) (by simp at h3; simp [payOk, h1, h2, h3])), rfl⟩)
theorem bill_con (f : Flo) (x : Bil) (hl : f.ids.length ≤ 1000000) (hs : x.st.length ≤ 1000000) : Con Tryz.prog 97 [.agg (flC f), .agg (biC x)] [] (Is (.val (.bool (bilOk f.ids x))) []) := by
 refine con_of Tryz.func97 rfl (enters_of Tryz.func97 (by kernel_rfl) rfl) rfl ?_; intro n w0 F0 G0
 refine zS ?_;repeat(refine yA ?_;intro p hp;refine zS ?_)
 (first | (apply wl_call (floor_con f x.py hl); exact rfl; exact rfl) | (apply wl_callR (floor_con f x.py hl); exact rfl; exact zM; exact rfl))
 refine zS ?_;repeat(refine yA ?_;intro p hp;refine zS ?_)
 rw [ixOf_lt]
 refine wl_part rfl rfl (fun h1 => ?_) (fun h1 => ?_)
 ·refine zS ?_;repeat(refine yA ?_;intro p hp;refine zS ?_)
  (apply res1; exact rfl; exact rfl; exact ⟨(congrArg (fun b => AV.val (Value.bool b)) (by simp at h1; simp [bilOk, h1])), rfl⟩)
 ·have h1' : x.py ∈ f.ids := by simpa using h1
  refine zS ?_;repeat(refine yA ?_;intro p hp;refine zS ?_)
  (first | (apply wl_call (within8_con _ _ _); exact rfl; exact rfl) | (apply wl_callR (within8_con _ _ _); exact rfl; exact zM; exact rfl))
  refine zS ?_;repeat(refine yA ?_;intro p hp;refine zS ?_)
  refine wl_part rfl rfl (fun h2 => ?_) (fun h2 => ?_)
  ·refine zS ?_;repeat(refine yA ?_;intro p hp;refine zS ?_)
   (apply res1; exact rfl; exact rfl; exact ⟨(congrArg (fun b => AV.val (Value.bool b)) (by simp only [Bool.not_eq_true'] at h2; simp [bilOk, h2])), rfl⟩)
  ·have h2' : (decide (1 ≤ x.pe) && decide (x.pe ≤ 1000000)) = true := by simpa using h2
   refine zS ?_;repeat(refine yA ?_;intro p hp;refine zS ?_)
   refine w_cond rfl (fun h3 => ?_) (fun h3 => ?_)
   ·refine zS ?_;repeat(refine yA ?_;intro p hp;refine zS ?_)
    (apply res1; exact rfl; exact rfl; exact ⟨(congrArg (fun b => AV.val (Value.bool b)) (by simp at h3; simp [bilOk, h3])), rfl⟩)
   ·have h3' : x.st ≠ [] := by intro e; rw [e] at h3; simp at h3
    have hW : bilOk f.ids x = stksOk f.ids 0 x.st := by unfold bilOk; rw [h2']; simp [h1', h3']
    rw [hW]
    refine zS ?_;repeat(refine yA ?_;intro p hp;refine zS ?_)
    rename_i pf hpf
    refine W_loopJ (fun (b : Nat × Int) => ⟨[(2, .val pf), (26, .sl 2 stC x.st), (27, .val (.int .i64 x.st.length)), (28, .val (.int .i64 b.1)), (5, .val (.int .i64 b.2))], [.box pf (flC f) 27]⟩) (fun b => b.1 ≤ x.st.length ∧ stksOk f.ids b.2 (x.st.drop b.1) = stksOk f.ids 0 x.st) (fun b => x.st.length - b.1) (0, 0) (fun _ _ st => st_sub2 st zR zP) ?hj0 ?round
    case hj0 => simp
    case round =>
     rintro ⟨k, last⟩ ⟨hk, hno⟩
     dsimp only at hk hno ⊢
     refine zS ?_;repeat(refine yA ?_;intro p hp;refine zS ?_)
     refine w_cond rfl (fun hlt => ?_) (fun hlt => ?_)
     ·have hlt' : k < x.st.length := by simpa using hlt
      rw [drop_step hlt', stksOk] at hno
      refine zS ?_;repeat(refine yA ?_;intro p hp;refine zS ?_)
      refine wl_part rfl rfl (fun g1 => ?_) (fun g1 => ?_)
      ·refine zS ?_;repeat(refine yA ?_;intro p hp;refine zS ?_)
       (apply res1; exact rfl; exact rfl; exact ⟨(congrArg (fun b => AV.val (Value.bool b)) (by rw [← hno]; simp at g1; simp [Int.not_lt.2 g1])), rfl⟩)
      ·have g1' : decide (last < x.st[k].fl) = true := by simpa using g1
       rw [g1', Bool.true_and] at hno
       refine zS ?_;repeat(refine yA ?_;intro p hp;refine zS ?_)
       (first | (apply wl_call (floor_con f _ hl); exact rfl; exact rfl) | (apply wl_callR (floor_con f _ hl); exact rfl; exact zM; exact rfl))
       refine zS ?_;repeat(refine yA ?_;intro p hp;refine zS ?_)
       rw [ixOf_lt]
       refine wl_part rfl rfl (fun g2 => ?_) (fun g2 => ?_)
       ·refine zS ?_;repeat(refine yA ?_;intro p hp;refine zS ?_)
        (apply res1; exact rfl; exact rfl; exact ⟨(congrArg (fun b => AV.val (Value.bool b)) (by rw [← hno]; simp at g2; simp [g2])), rfl⟩)
       ·have g2' : decide (x.st[k].fl ∈ f.ids) = true := by simpa using g2
        rw [g2', Bool.true_and] at hno
        refine zS ?_;repeat(refine yA ?_;intro p hp;refine zS ?_)
        (first | (apply wl_call (within8_con _ _ _); exact rfl; exact rfl) | (apply wl_callR (within8_con _ _ _); exact rfl; exact zM; exact rfl))
        refine zS ?_;repeat(refine yA ?_;intro p hp;refine zS ?_)
        refine w_cond rfl (fun g3 => ?_) (fun g3 => ?_)
        ·refine zS ?_;repeat(refine yA ?_;intro p hp;refine zS ?_)
         (apply res1; exact rfl; exact rfl; exact ⟨(congrArg (fun b => AV.val (Value.bool b)) (by rw [← hno]; simp only [Bool.not_eq_true'] at g3; simp [g3])), rfl⟩)
        ·have g3' : (decide (1 ≤ x.st[k].pt) && decide (x.st[k].pt ≤ 9)) = true := by simpa using g3
         rw [g3', Bool.true_and] at hno
         refine zS ?_;repeat(refine yA ?_;intro p hp;refine zS ?_)
         (refine ⟨(k + 1, x.st[k].fl), fun _ _ st => st_sub2 st ?_ ?_, ?_, ?_⟩; exact zR; exact zP)
         ·exact ⟨hlt', hno⟩
         ·dsimp only; omega
     ·refine zS ?_;repeat(refine yA ?_;intro p hp;refine zS ?_)
      have hkk : k = x.st.length := by simp at hlt; omega
      subst hkk
      rw [List.drop_length, stksOk] at hno
      (apply res1; exact rfl; exact rfl; exact ⟨(congrArg (fun b => AV.val (Value.bool b)) hno), rfl⟩)
structure Sml (f : Flo) : Prop where
 ids : f.ids.length ≤ 1000
 qs : f.qs.length ≤ 1000
 bs : f.bs.length ≤ 1000
 ps : f.ps.length ≤ 1000
 st : ∀ b ∈ f.bs, b.st.length ≤ 1000
def qLt (x y : Qu) : Bool := decide (x.a < y.a) || (decide (x.a = y.a) && decide (x.b < y.b))
def rises : Int → List Int → Bool
 | _, [] => true
 | last, n :: t => (decide (last + 1 ≤ n) && decide (n ≤ 9999)) && rises n t
def okPrev (prev : Option Qu) (q : Qu) : Bool := match prev with | none => true | some p => qLt p q
def qusOk (ids : List Int) : Option Qu → List Qu → Bool
 | _, [] => true
 | prev, q :: t => decide (q.a ∈ ids) && decide (q.b ∈ ids) && decide (q.a < q.b) && okPrev prev q && qusOk ids (some q) t
def bilsOk (ids : List Int) : Int → List Bil → Bool
 | _, [] => true
 | last, x :: t => (decide (last + 1 ≤ x.no) && decide (x.no ≤ 9999)) && bilOk ids x && bilsOk ids x.no t
def paysOk (ids : List Int) : List Pay → Bool
 | [] => true
 | x :: t => payOk ids x && paysOk ids t
def floOk (f : Flo) : Bool := decide (f.ids.length ≤ 6) && decide (f.bs.length ≤ 10) && decide (f.ps.length ≤ 12) && rises 0 f.ids && qusOk f.ids none f.qs && bilsOk f.ids 0 f.bs && paysOk f.ids f.ps
theorem qusOk_cons (ids : List Int) (prev : Option Qu) (q : Qu) (t : List Qu) : qusOk ids prev (q :: t) = (decide (q.a ∈ ids) && decide (q.b ∈ ids) && decide (q.a < q.b) && okPrev prev q && qusOk ids (some q) t) := rfl
def prevQ (l : List Qu) (k : Nat) : Option Qu := match k with | 0 => none | k + 1 => l[k]?
theorem earlier_con (x y : Qu) : Con Tryz.prog 96 [.agg (quC x), .agg (quC y)] [] (Is (.val (.bool (qLt x y))) []) := by
 refine con_of Tryz.func96 rfl (enters_of Tryz.func96 (by kernel_rfl) rfl) rfl ?_; intro n w0 F0 G0
 refine zS ?_;repeat(refine yA ?_;intro p hp;refine zS ?_)
 refine wl_part rfl rfl (fun h1 => ?_) (fun h1 => ?_)
 ·refine zS ?_
  (apply res1; exact rfl; exact rfl; exact ⟨(congrArg (fun b => AV.val (Value.bool b)) (by simp at h1; simp [qLt, h1])), rfl⟩)
 ·refine zS ?_
  refine wl_part rfl rfl (fun h2 => ?_) (fun h2 => ?_)
  ·refine zS ?_
   (apply res1; exact rfl; exact rfl; exact ⟨(congrArg (fun b => AV.val (Value.bool b)) (by simp at h1 h2; simp [qLt, h2])), rfl⟩)
  ·refine zS ?_
   (apply res1; exact rfl; exact rfl; exact ⟨(congrArg (fun b => AV.val (Value.bool b)) (by simp at h1 h2; simp [qLt, h2]; omega)), rfl⟩)
theorem floors_con (f : Flo) (hS : Sml f) : Con Tryz.prog 47 [.agg (flC f)] [] (Is (.val (.bool (floOk f))) []) := by
 refine con_of Tryz.func47 rfl (enters_of Tryz.func47 (by kernel_rfl) rfl) rfl ?_; intro n w0 F0 G0
 refine zS ?_;repeat(refine yA ?_;intro p hp;refine zS ?_)
 have hidsl := hS.ids
 have hqsl := hS.qs
 have hbsl := hS.bs
 have hpsl := hS.ps
 by_cases hg : f.ids.length ≤ 6 ∧ f.bs.length ≤ 10 ∧ f.ps.length ≤ 12
 rotate_left
 ·refine wl_part rfl rfl (fun g1 => ?_) (fun g1 => ?_)
  ·refine zS ?_;repeat(refine yA ?_;intro p hp;refine zS ?_)
   (apply res1; exact rfl; exact rfl; exact ⟨(congrArg (fun b => AV.val (Value.bool b)) (by simp at g1; simp [floOk]; intros; omega)), rfl⟩)
  ·refine zS ?_;repeat(refine yA ?_;intro p hp;refine zS ?_)
   refine wl_part rfl rfl (fun g2 => ?_) (fun g2 => ?_)
   ·refine zS ?_;repeat(refine yA ?_;intro p hp;refine zS ?_)
    (apply res1; exact rfl; exact rfl; exact ⟨(congrArg (fun b => AV.val (Value.bool b)) (by simp at g2; simp [floOk]; intros; omega)), rfl⟩)
   ·refine zS ?_;repeat(refine yA ?_;intro p hp;refine zS ?_)
    refine w_cond rfl (fun g3 => ?_) (fun g3 => ?_)
    ·refine zS ?_;repeat(refine yA ?_;intro p hp;refine zS ?_)
     (apply res1; exact rfl; exact rfl; exact ⟨(congrArg (fun b => AV.val (Value.bool b)) (by simp at g3; simp [floOk]; intros; omega)), rfl⟩)
    ·exact absurd ⟨by simp at g1; omega, by simp at g2; omega, by simp at g3; omega⟩ hg
 ·refine wl_part rfl rfl (fun g => absurd g (by simp; omega)) (fun _ => ?_)
  refine zS ?_;repeat(refine yA ?_;intro p hp;refine zS ?_)
  refine wl_part rfl rfl (fun g => absurd g (by simp; omega)) (fun _ => ?_)
  refine zS ?_;repeat(refine yA ?_;intro p hp;refine zS ?_)
  refine w_cond rfl (fun g => absurd g (by simp; omega)) (fun _ => ?_)
  have hW : floOk f = (rises 0 f.ids && qusOk f.ids none f.qs && bilsOk f.ids 0 f.bs && paysOk f.ids f.ps) := by unfold floOk; simp [hg]
  rw [hW]
  clear hW
  refine zS ?_;repeat(refine yA ?_;intro p hp;refine zS ?_)
  refine W_loopJ (fun (b : Nat × Int) => ⟨[(1, .val p), (29, .sl 1 iC f.ids), (30, .val (.int .i64 f.ids.length)), (31, .val (.int .i64 b.1)), (3, .val (.int .i64 b.2))], [.box p (flC f) 27]⟩) (fun b => b.1 ≤ f.ids.length ∧ rises b.2 (f.ids.drop b.1) = rises 0 f.ids ∧ 0 ≤ b.2 ∧ b.2 ≤ 9999) (fun b => f.ids.length - b.1) (0, 0) (fun _ _ st => st_sub2 st zR zP) ?hj0 ?round
  case hj0 => simp
  case round =>
   rintro ⟨k, last⟩ ⟨hk, hno, hl0, hl1⟩
   dsimp only at hk hno hl0 hl1 ⊢
   refine zS ?_;repeat(refine yA ?_;intro p hp;refine zS ?_)
   refine w_cond rfl (fun hlt => ?_) (fun hlt => ?_)
   ·have hlt' : k < f.ids.length := by simpa using hlt
    rw [drop_step hlt', rises] at hno
    refine zS ?_;repeat(refine yA ?_;intro p hp;refine zS ?_)
    (first | (apply wl_call (within8_con _ _ _); exact rfl; exact rfl) | (apply wl_callR (within8_con _ _ _); exact rfl; exact zM; exact rfl))
    refine zS ?_;repeat(refine yA ?_;intro p hp;refine zS ?_)
    refine w_cond rfl (fun g3 => ?_) (fun g3 => ?_)
    ·refine zS ?_;repeat(refine yA ?_;intro p hp;refine zS ?_)
     (apply res1; exact rfl; exact rfl; exact ⟨(congrArg (fun b => AV.val (Value.bool b)) (by rw [← hno]; simp only [Bool.not_eq_true'] at g3; simp [g3])), rfl⟩)
    ·have g3' : (decide (last + 1 ≤ f.ids[k]) && decide (f.ids[k] ≤ 9999)) = true := by simpa using g3
     rw [g3', Bool.true_and] at hno
     simp only [Bool.and_eq_true, decide_eq_true_eq] at g3'
     refine zS ?_;repeat(refine yA ?_;intro p hp;refine zS ?_)
     (refine ⟨(k + 1, f.ids[k]), fun _ _ st => st_sub2 st ?_ ?_, ?_, ?_⟩; exact zR; exact zP)
     ·exact ⟨hlt', hno, by dsimp only; omega, by dsimp only; omega⟩
     ·dsimp only; omega
   ·refine zS ?_;repeat(refine yA ?_;intro p hp;refine zS ?_)
    have hkk : k = f.ids.length := by simp at hlt; omega
    subst hkk
    rw [List.drop_length, rises] at hno
    rw [← hno, Bool.true_and]
    clear hno hk hlt hl0 hl1
    refine W_loopJ (fun (k : Nat) => ⟨[(1, .val p), (43, .sl 2 quC f.qs), (44, .val (.int .i64 f.qs.length)), (45, .val (.int .i64 k))], [.box p (flC f) 27]⟩) (fun k => k ≤ f.qs.length ∧ qusOk f.ids (prevQ f.qs k) (f.qs.drop k) = qusOk f.ids none f.qs) (fun k => f.qs.length - k) 0 (fun _ _ st => st_sub2 st zR zP) ?hj0 ?round
    case hj0 => simp [prevQ]
    case round =>
     rintro k ⟨hk, hno⟩
     refine zS ?_;repeat(refine yA ?_;intro p hp;refine zS ?_)
     refine w_cond rfl (fun hlt => ?_) (fun hlt => ?_)
     ·have hlt' : k < f.qs.length := by simpa using hlt
      rw [drop_step hlt', qusOk_cons] at hno
      refine zS ?_;repeat(refine yA ?_;intro p hp;refine zS ?_)
      rename_i pf hpf
      (first | (apply wl_call (floor_con f _ (by omega)); exact rfl; exact rfl) | (apply wl_callR (floor_con f _ (by omega)); exact rfl; exact zM; exact rfl))
      refine zS ?_;repeat(refine yA ?_;intro p hp;refine zS ?_)
      rw [ixOf_lt]
      refine wl_part rfl rfl (fun g1 => ?_) (fun g1 => ?_)
      ·refine zS ?_;repeat(refine yA ?_;intro p hp;refine zS ?_)
       (apply res1; exact rfl; exact rfl; exact ⟨(congrArg (fun b => AV.val (Value.bool b)) (by rw [← hno]; simp at g1; simp [g1])), rfl⟩)
      ·have g1' : decide (f.qs[k].a ∈ f.ids) = true := by simpa using g1
       rw [g1', Bool.true_and] at hno
       refine zS ?_;repeat(refine yA ?_;intro p hp;refine zS ?_)
       (first | (apply wl_call (floor_con f _ (by omega)); exact rfl; exact rfl) | (apply wl_callR (floor_con f _ (by omega)); exact rfl; exact zM; exact rfl))
       refine zS ?_;repeat(refine yA ?_;intro p hp;refine zS ?_)
       rw [ixOf_lt]
       refine wl_part rfl rfl (fun g2 => ?_) (fun g2 => ?_)
       ·refine zS ?_;repeat(refine yA ?_;intro p hp;refine zS ?_)
        (apply res1; exact rfl; exact rfl; exact ⟨(congrArg (fun b => AV.val (Value.bool b)) (by rw [← hno]; simp at g2; simp [g2])), rfl⟩)
       ·have g2' : decide (f.qs[k].b ∈ f.ids) = true := by simpa using g2
        rw [g2', Bool.true_and] at hno
        refine zS ?_;repeat(refine yA ?_;intro p hp;refine zS ?_)
        refine w_cond rfl (fun g3 => ?_) (fun g3 => ?_)
        ·refine zS ?_;repeat(refine yA ?_;intro p hp;refine zS ?_)
         (apply res1; exact rfl; exact rfl; exact ⟨(congrArg (fun b => AV.val (Value.bool b)) (by rw [← hno]; simp at g3; simp [Int.not_lt.2 g3])), rfl⟩)
        ·have g3' : decide (f.qs[k].a < f.qs[k].b) = true := by simpa using g3
         rw [g3', Bool.true_and] at hno
         refine zS ?_;repeat(refine yA ?_;intro p hp;refine zS ?_)
         cases k with
         | zero =>
          rw [show okPrev (prevQ f.qs 0) f.qs[0] = true from rfl, Bool.true_and] at hno
          refine W_run 10 [69, 70, 71, 72, 73, 74, 75, 76, 77, 78] [0, 1, 2, 3, 4, 5, 6, 7, 8, 9] Cut.nil rfl goFlt mixedS (by kernel_rfl) rfl ?_
          refine rpv [] [] ?_
          refine rpv [0] [] ?_
          refine rpv [1] [] ?_
          refine rno [2] ?_
          refine rno [2, 3] ?_
          refine rno [2] ?_
          refine rno [2, 5] ?_
          refine rno [2, 4, 6] ?_
          refine rno [2, 7] ?_
          refine rno [2] ?_
          refine ⟨⟨by kernel_rfl, by kernel_rfl⟩, fun vs => ?_⟩
          apply WL_auto [2, 8, 9]
          ·exact goPk
          ·exact goNrm
          ·kernel_rfl
          ·kernel_rfl
          refine zS ?_;repeat(refine yA ?_;intro p hp;refine zS ?_)
          (refine ⟨0 + 1, fun _ _ st => st_sub2 st ?_ ?_, ?_, ?_⟩; exact zR; exact zP)
          ·exact ⟨hlt', by rw [show prevQ f.qs (0 + 1) = some f.qs[0] from List.getElem?_eq_getElem (by omega)]; exact hno⟩
          ·omega
         | succ k =>
          have hq : f.qs[k]? = some f.qs[k] := List.getElem?_eq_getElem (by omega)
          rw [show prevQ f.qs (k + 1) = some f.qs[k] from hq, show okPrev (some f.qs[k]) f.qs[k + 1] = qLt f.qs[k] f.qs[k + 1] from rfl] at hno
          refine W_run 10 [69, 70, 71, 72, 73, 74, 75, 76, 77, 78] [0, 1, 2, 3, 4, 5, 6, 7, 8, 9] Cut.nil rfl goFlt mixedS (by kernel_rfl) rfl ?_
          refine rpv [] [] ?_
          refine Run.pv [0] [] rfl (fun vs => by apply ltr_pk; exact goPk; (refine ltr ?_; apply LT_bool true; apply lt_gtr; exact rfl; exact rfl; (first | (simp; done) | (simp; omega)))) goApp ?_
          refine rpv [1] [] ?_
          refine ryv [2] ?_
          refine ryv [2, 3] ?_
          refine ryv [2] ?_
          refine ryx [2, 5] (fun vs => by apply ltr_pk; exact goPk; (refine ltr ?_; apply LT_int (k : Int); apply lt_sub; exact rfl; exact rfl; omega; omega; omega)) ?_
          refine ryv [2, 4, 6] ?_
          refine ryv [2, 7] ?_
          refine ryv [2] ?_
          refine ⟨⟨by kernel_rfl, by kernel_rfl⟩, fun vs => ?_⟩
          apply WL_auto [2, 8, 9]
          ·exact goPk
          ·exact goNrm
          ·kernel_rfl
          ·kernel_rfl
          refine zS ?_;repeat(refine yA ?_;intro p hp;refine zS ?_)
          (first | (apply wl_call (earlier_con _ _); exact rfl; exact rfl) | (apply wl_callR (earlier_con _ _); exact rfl; exact zM; exact rfl))
          refine zS ?_;repeat(refine yA ?_;intro p hp;refine zS ?_)
          refine zS ?_;repeat(refine yA ?_;intro p hp;refine zS ?_)
          refine w_cond rfl (fun g4 => ?_) (fun g4 => ?_)
          ·refine zS ?_;repeat(refine yA ?_;intro p hp;refine zS ?_)
           (apply res1; exact rfl; exact rfl; exact ⟨(congrArg (fun b => AV.val (Value.bool b)) (by rw [← hno]; simp at g4; simp [g4])), rfl⟩)
          ·have g4' : qLt f.qs[k] f.qs[k + 1] = true := by simpa using g4
           rw [g4', Bool.true_and] at hno
           refine zS ?_;repeat(refine yA ?_;intro p hp;refine zS ?_)
           (refine ⟨k + 1 + 1, fun _ _ st => st_sub2 st ?_ ?_, ?_, ?_⟩; exact zR; exact zP)
           ·exact ⟨hlt', by rw [show prevQ f.qs (k + 1 + 1) = some f.qs[k + 1] from List.getElem?_eq_getElem (by omega)]; exact hno⟩
           ·omega
     ·refine zS ?_;repeat(refine yA ?_;intro p hp;refine zS ?_)
      have hkk : k = f.qs.length := by simp at hlt; omega
      subst hkk
      rw [List.drop_length, qusOk] at hno
      rw [← hno, Bool.true_and]
      clear hno hk hlt
      refine W_loopJ (fun (b : Nat × Int) => ⟨[(1, .val p), (84, .sl 4 biC f.bs), (85, .val (.int .i64 f.bs.length)), (86, .val (.int .i64 b.1)), (3, .val (.int .i64 b.2))], [.box p (flC f) 27]⟩) (fun b => b.1 ≤ f.bs.length ∧ bilsOk f.ids b.2 (f.bs.drop b.1) = bilsOk f.ids 0 f.bs ∧ 0 ≤ b.2 ∧ b.2 ≤ 9999) (fun b => f.bs.length - b.1) (0, 0) (fun _ _ st => st_sub2 st zR zP) ?hj0 ?round
      case hj0 => simp
      case round =>
       rintro ⟨k, last⟩ ⟨hk, hno, hl0, hl1⟩
       dsimp only at hk hno hl0 hl1 ⊢
       refine zS ?_;repeat(refine yA ?_;intro p hp;refine zS ?_)
       refine w_cond rfl (fun hlt => ?_) (fun hlt => ?_)
       ·have hlt' : k < f.bs.length := by simpa using hlt
        rw [drop_step hlt', bilsOk] at hno
        refine zS ?_;repeat(refine yA ?_;intro p hp;refine zS ?_)
        rename_i pf hpf
        (first | (apply wl_call (within8_con _ _ _); exact rfl; exact rfl) | (apply wl_callR (within8_con _ _ _); exact rfl; exact zM; exact rfl))
        refine zS ?_;repeat(refine yA ?_;intro p hp;refine zS ?_)
        refine wl_part rfl rfl (fun g1 => ?_) (fun g1 => ?_)
        ·refine zS ?_;repeat(refine yA ?_;intro p hp;refine zS ?_)
         (apply res1; exact rfl; exact rfl; exact ⟨(congrArg (fun b => AV.val (Value.bool b)) (by rw [← hno]; simp only [Bool.not_eq_true'] at g1; simp [g1])), rfl⟩)
        ·have g1' : (decide (last + 1 ≤ f.bs[k].no) && decide (f.bs[k].no ≤ 9999)) = true := by simpa using g1
         rw [g1', Bool.true_and] at hno
         simp only [Bool.and_eq_true, decide_eq_true_eq] at g1'
         refine zS ?_;repeat(refine yA ?_;intro p hp;refine zS ?_)
         (first | (apply wl_call (bill_con f f.bs[k] (by omega) (by have := hS.st _ (List.getElem_mem hlt'); omega)); exact rfl; exact rfl) | (apply wl_callR (bill_con f f.bs[k] (by omega) (by have := hS.st _ (List.getElem_mem hlt'); omega)); exact rfl; exact zM; exact rfl))
         refine zS ?_;repeat(refine yA ?_;intro p hp;refine zS ?_)
         refine w_cond rfl (fun g2 => ?_) (fun g2 => ?_)
         ·refine zS ?_;repeat(refine yA ?_;intro p hp;refine zS ?_)
          (apply res1; exact rfl; exact rfl; exact ⟨(congrArg (fun b => AV.val (Value.bool b)) (by rw [← hno]; simp only [Bool.not_eq_true'] at g2; simp [g2])), rfl⟩)
         ·have g2' : bilOk f.ids f.bs[k] = true := by simpa using g2
          rw [g2', Bool.true_and] at hno
          refine zS ?_;repeat(refine yA ?_;intro p hp;refine zS ?_)
          (refine ⟨(k + 1, f.bs[k].no), fun _ _ st => st_sub2 st ?_ ?_, ?_, ?_⟩; exact zR; exact zP)
          ·exact ⟨hlt', hno, by dsimp only; omega, by dsimp only; omega⟩
          ·dsimp only; omega
       ·refine zS ?_;repeat(refine yA ?_;intro p hp;refine zS ?_)
        have hkk : k = f.bs.length := by simp at hlt; omega
        subst hkk
        rw [List.drop_length, bilsOk] at hno
        rw [← hno, Bool.true_and]
        clear hno hk hlt hl0 hl1
        refine W_loopJ (fun (k : Nat) => ⟨[(1, .val p), (106, .sl 3 payC f.ps), (107, .val (.int .i64 f.ps.length)), (108, .val (.int .i64 k))], [.box p (flC f) 27]⟩) (fun k => k ≤ f.ps.length ∧ paysOk f.ids (f.ps.drop k) = paysOk f.ids f.ps) (fun k => f.ps.length - k) 0 (fun _ _ st => st_sub2 st zR zP) ?hj0 ?round
        case hj0 => simp
        case round =>
         rintro k ⟨hk, hno⟩
         refine zS ?_;repeat(refine yA ?_;intro p hp;refine zS ?_)
         refine w_cond rfl (fun hlt => ?_) (fun hlt => ?_)
         ·have hlt' : k < f.ps.length := by simpa using hlt
          rw [drop_step hlt', paysOk] at hno
          refine zS ?_;repeat(refine yA ?_;intro p hp;refine zS ?_)
          rename_i pf hpf
          (first | (apply wl_call (payment_con f _ (by omega)); exact rfl; exact rfl) | (apply wl_callR (payment_con f _ (by omega)); exact rfl; exact zM; exact rfl))
          refine zS ?_;repeat(refine yA ?_;intro p hp;refine zS ?_)
          refine w_cond rfl (fun g2 => ?_) (fun g2 => ?_)
          ·refine zS ?_;repeat(refine yA ?_;intro p hp;refine zS ?_)
           (apply res1; exact rfl; exact rfl; exact ⟨(congrArg (fun b => AV.val (Value.bool b)) (by rw [← hno]; simp only [Bool.not_eq_true'] at g2; simp [g2])), rfl⟩)
          ·have g2' : payOk f.ids f.ps[k] = true := by simpa using g2
           rw [g2', Bool.true_and] at hno
           refine zS ?_;repeat(refine yA ?_;intro p hp;refine zS ?_)
           (refine ⟨k + 1, fun _ _ st => st_sub2 st ?_ ?_, ?_, ?_⟩; exact zR; exact zP)
           ·exact ⟨hlt', hno⟩
           ·omega
         ·refine zS ?_;repeat(refine yA ?_;intro p hp;refine zS ?_)
          have hkk : k = f.ps.length := by simp at hlt; omega
          subst hkk
          rw [List.drop_length, paysOk] at hno
          (apply res1; exact rfl; exact rfl; exact ⟨(congrArg (fun b => AV.val (Value.bool b)) hno), rfl⟩)
theorem indexI_con (xs : List Int) (x : Int) (hl : xs.length ≤ 1000000) : Con Tryz.prog 114 [.sl 1 iC xs, .val (.int .i64 x)] [] (Is (.val (.int .i64 (ixOf xs x))) []) := by
 refine con_of Tryz.func114 rfl (enters_of Tryz.func114 (by kernel_rfl) rfl) rfl ?_; intro n w0 F0 G0
 refine zS ?_
 refine W_loopJ (fun (k : Nat) => ⟨[(0, .sl 1 iC xs), (1, .val (.int .i64 x)), (7, .val (.int .i64 xs.length)), (8, .val (.int .i64 k))], []⟩) (fun k => k ≤ xs.length ∧ x ∉ xs.take k) (fun k => xs.length - k) 0 (fun _ _ st => st_sub2 st zR zP) ?hj0 ?round
 case hj0 => simp
 case round =>
  rintro k ⟨hk, hno⟩
  refine zS ?_
  refine w_cond rfl (fun hlt => ?_) (fun hlt => ?_)
  ·have hlt' : k < xs.length := by simpa using hlt
   refine zS ?_
   refine w_cond rfl (fun he => ?_) (fun he => ?_)
   ·refine zS ?_
    (apply res1; exact rfl; exact rfl; exact ⟨(congrArg (fun b => AV.val (Value.int .i64 b)) (ixOf_at hlt' hno (by simp at he; exact he.symm)).symm), rfl⟩)
   ·refine zS ?_
    (refine ⟨k + 1, fun _ _ st => st_sub2 st ?_ ?_, ?_, ?_⟩; exact zR; exact zP)
    ·refine ⟨by omega, ?_⟩
     rw [List.take_succ_eq_append_getElem hlt', List.mem_append, not_or]
     exact ⟨hno, by simp at he; simpa using he⟩
    ·omega
  ·refine zS ?_
   have hkk : k = xs.length := by simp at hlt; omega
   subst hkk
   rw [List.take_length] at hno
   (apply res1; exact rfl; exact rfl; exact ⟨(congrArg (fun b => AV.val (Value.int .i64 b)) (ixOf_none hno).symm), rfl⟩)
theorem containsI_con (xs : List Int) (x : Int) (hl : xs.length ≤ 1000000) : Con Tryz.prog 118 [.sl 1 iC xs, .val (.int .i64 x)] [] (Is (.val (.bool (decide (x ∈ xs)))) []) := by
 refine con_of Tryz.func118 rfl (enters_of Tryz.func118 (by kernel_rfl) rfl) rfl ?_; intro n w0 F0 G0
 refine zS ?_
 (first | (apply wl_call (indexI_con xs x hl); exact rfl; exact rfl) | (apply wl_callR (indexI_con xs x hl); exact rfl; exact zM; exact rfl))
 refine zS ?_
 (apply res1; exact rfl; exact rfl; exact ⟨(congrArg (fun b => AV.val (Value.bool b)) ixOf_ge), rfl⟩)
def fiX {α : Type} (p : α → Bool) (xs : List α) : Int := if xs.any p = true then (xs.findIdx p : Int) else -1
theorem fiX_none {α : Type} {p : α → Bool} {xs : List α} (h : xs.any p = false) : fiX p xs = -1 := by unfold fiX; rw [if_neg (by rw [h]; simp)]
theorem fiX_at {α : Type} {p : α → Bool} {xs : List α} {k : Nat} (hk : k < xs.length) (h1 : (xs.take k).any p = false) (h2 : p xs[k] = true) : fiX p xs = k := by
 unfold fiX
 rw [if_pos (List.any_eq_true.2 ⟨_, List.getElem_mem hk, h2⟩)]
 congr 1
 rw [List.findIdx_eq hk]
 refine ⟨h2, fun j hj => ?_⟩
 have := List.any_eq_false.1 h1 xs[j] (by
  rw [List.mem_iff_getElem]
  exact ⟨j, by rw [List.length_take]; omega, by rw [List.getElem_take]⟩)
 simpa using this
theorem fiX_ge {α : Type} {p : α → Bool} {xs : List α} : decide (0 ≤ fiX p xs) = xs.any p := by
 unfold fiX
 cases h : xs.any p
 ·simp
 ·simp
theorem indexFuncI_con (xs : List Int) (k : FuncId) (caps : List AV) (p : Int → Bool) (hl : xs.length ≤ 1000000) (hc : ∀ x ∈ xs, Con Tryz.prog k ([.val (.int .i64 x)] ++ caps) [] (Is (.val (.bool (p x))) [])) : Con Tryz.prog 139 [.sl 1 iC xs, .clo k caps] [] (Is (.val (.int .i64 (fiX p xs))) []) := by
 refine con_of Tryz.func139 rfl (enters_of Tryz.func139 (by kernel_rfl) rfl) rfl ?_; intro n w0 F0 G0
 refine zS ?_
 refine W_loopJ (fun (m : Nat) => ⟨[(0, .sl 1 iC xs), (1, .clo k caps), (7, .val (.int .i64 xs.length)), (8, .val (.int .i64 m))], []⟩) (fun m => m ≤ xs.length ∧ (xs.take m).any p = false) (fun m => xs.length - m) 0 (fun _ _ st => st_sub2 st zR zP) ?hj0 ?round
 case hj0 => simp
 case round =>
  rintro m ⟨hk, hno⟩
  refine zS ?_
  refine w_cond rfl (fun hlt => ?_) (fun hlt => ?_)
  ·have hlt' : m < xs.length := by simpa using hlt
   refine zS ?_
   (apply wl_callV (hc xs[m] (List.getElem_mem hlt')); exact rfl; exact rfl; exact rfl)
   refine zS ?_
   refine w_cond rfl (fun he => ?_) (fun he => ?_)
   ·refine zS ?_
    (apply res1; exact rfl; exact rfl; exact ⟨(congrArg (fun b => AV.val (Value.int .i64 b)) (fiX_at hlt' hno he).symm), rfl⟩)
   ·refine zS ?_
    (refine ⟨m + 1, fun _ _ st => st_sub2 st ?_ ?_, ?_, ?_⟩; exact zR; exact zP)
    ·refine ⟨by omega, ?_⟩
     rw [List.take_succ_eq_append_getElem hlt', List.any_append, hno]
     simpa using he
    ·omega
  ·refine zS ?_
   have hkk : m = xs.length := by simp at hlt; omega
   subst hkk
   rw [List.take_length] at hno
   (apply res1; exact rfl; exact rfl; exact ⟨(congrArg (fun b => AV.val (Value.int .i64 b)) (fiX_none hno).symm), rfl⟩)
theorem containsFuncI_con (xs : List Int) (k : FuncId) (caps : List AV) (p : Int → Bool) (hl : xs.length ≤ 1000000) (hc : ∀ x ∈ xs, Con Tryz.prog k ([.val (.int .i64 x)] ++ caps) [] (Is (.val (.bool (p x))) [])) : Con Tryz.prog 116 [.sl 1 iC xs, .clo k caps] [] (Is (.val (.bool (xs.any p))) []) := by
 refine con_of Tryz.func116 rfl (enters_of Tryz.func116 (by kernel_rfl) rfl) rfl ?_; intro n w0 F0 G0
 refine zS ?_
 (first | (apply wl_call (indexFuncI_con xs k caps p hl hc); exact rfl; exact rfl) | (apply wl_callR (indexFuncI_con xs k caps p hl hc); exact rfl; exact zM; exact rfl))
 refine zS ?_
 (apply res1; exact rfl; exact rfl; exact ⟨(congrArg (fun b => AV.val (Value.bool b)) fiX_ge), rfl⟩)
theorem in1_con (n lo hi : Int) : Con Tryz.prog 129 [.val (.int .i64 n), .fp 1 [.val (.int .i64 lo)], .fp 1 [.val (.int .i64 hi)]] [] (Is (.val (.bool (decide (n < lo) || decide (hi < n)))) []) := by
 refine con_of Tryz.func129 rfl (enters_of Tryz.func129 (by kernel_rfl) rfl) rfl ?_; intro n w0 F0 G0
 refine zS ?_
 refine wl_part rfl rfl (fun h => ?_) (fun h => ?_)
 ·refine zS ?_
  (apply res1; exact rfl; exact rfl; exact ⟨(congrArg (fun b => AV.val (Value.bool b)) (by simp [h])), rfl⟩)
 ·refine zS ?_
  (apply res1; exact rfl; exact rfl; exact ⟨(congrArg (fun b => AV.val (Value.bool b)) (by simp [h])), rfl⟩)
theorem in_con (lo hi : Int) (xs : List Int) (hl : xs.length ≤ 1000000) : Con Tryz.prog 84 [.val (.int .i64 lo), .val (.int .i64 hi), .sl 1 iC xs] [] (Is (.val (.bool (!xs.any fun n => decide (n < lo) || decide (hi < n)))) []) := by
 refine con_of Tryz.func84 rfl (enters_of Tryz.func84 (by kernel_rfl) rfl) rfl ?_; intro n w0 F0 G0
 refine zS ?_;repeat(refine yA ?_;intro p hp;refine zS ?_)
 (apply WL_frzC 8 0 1; exact rfl; exact rfl; exact zN)
 (apply WL_frzC 8 1 1; exact rfl; exact rfl; exact zN)
 (first | (apply wl_call (containsFuncI_con xs _ _ _ hl (fun x _ => in1_con x lo hi)); exact rfl; exact rfl) | (apply wl_callR (containsFuncI_con xs _ _ _ hl (fun x _ => in1_con x lo hi)); exact rfl; exact zM; exact rfl))
 refine zS ?_
 (apply res1; exact rfl; exact rfl; exact ⟨rfl, rfl⟩)
theorem in_one (lo hi n : Int) : (!([n].any fun n => decide (n < lo) || decide (hi < n))) = (decide (lo ≤ n) && decide (n ≤ hi)) := by
 simp only [List.any_cons, List.any_nil, Bool.or_false, Bool.not_or, ← decide_not, Int.not_lt]
theorem inOne_con (lo hi n : Int) : Con Tryz.prog 84 [.val (.int .i64 lo), .val (.int .i64 hi), .sl 1 iC [n]] [] (Is (.val (.bool (decide (lo ≤ n) && decide (n ≤ hi)))) []) := by
 have := in_con lo hi [n] (by simp)
 rwa [in_one] at this
theorem zE {p : Prop} (h : p := by (repeat (first | exact Elems.nil | (apply Elems.cons; exact rfl; exact inferInstance; exact rfl)))) : p := h
theorem rising_con (xs : List Int) (hl : xs.length ≤ 1000000) : Con Tryz.prog 115 [.sl 1 iC xs] [] (Is (.val (.bool (rises 0 xs))) []) := by
 refine con_of Tryz.func115 rfl (enters_of Tryz.func115 (by kernel_rfl) rfl) rfl ?_; intro n w0 F0 G0
 refine zS ?_
 refine W_loopJ (fun (b : Nat × Int) => ⟨[(6, .sl 1 iC xs), (7, .val (.int .i64 xs.length)), (8, .val (.int .i64 b.1)), (3, .val (.int .i64 b.2))], []⟩) (fun b => b.1 ≤ xs.length ∧ rises b.2 (xs.drop b.1) = rises 0 xs ∧ 0 ≤ b.2 ∧ b.2 ≤ 9999) (fun b => xs.length - b.1) (0, 0) (fun _ _ st => st_sub2 st zR zP) ?hj0 ?round
 case hj0 => simp
 case round =>
  rintro ⟨k, last⟩ ⟨hk, hno, hl0, hl1⟩
  dsimp only at hk hno hl0 hl1 ⊢
  refine zS ?_
  refine w_cond rfl (fun hlt => ?_) (fun hlt => ?_)
  ·have hlt' : k < xs.length := by simpa using hlt
   rw [drop_step hlt', rises] at hno
   refine zS ?_
   (apply wl_litF iC; exact inferInstance; exact inferInstance; exact inferInstance; exact zE; exact rfl; (first | exact (of_decide_eq_true rfl) | decide | (simp; done) | (simp; omega)); exact rfl)
   refine zS ?_
   (first | (apply wl_call (inOne_con _ _ _); exact rfl; exact rfl) | (apply wl_callR (inOne_con _ _ _); exact rfl; exact zM; exact rfl))
   refine zS ?_
   refine w_cond rfl (fun g3 => ?_) (fun g3 => ?_)
   ·refine zS ?_
    (apply res1; exact rfl; exact rfl; exact ⟨(congrArg (fun b => AV.val (Value.bool b)) (by rw [← hno]; simp only [Bool.not_eq_true'] at g3; simp [g3])), rfl⟩)
   ·have g3' : (decide (last + 1 ≤ xs[k]) && decide (xs[k] ≤ 9999)) = true := by simpa using g3
    rw [g3', Bool.true_and] at hno
    simp only [Bool.and_eq_true, decide_eq_true_eq] at g3'
    refine zS ?_
    (refine ⟨(k + 1, xs[k]), fun _ _ st => st_sub2 st ?_ ?_, ?_, ?_⟩; exact zR; exact zP)
    ·exact ⟨hlt', hno, by dsimp only; omega, by dsimp only; omega⟩
    ·dsimp only; omega
  ·refine zS ?_
   have hkk : k = xs.length := by simp at hlt; omega
   subst hkk
   rw [List.drop_length, rises] at hno
   (apply res1; exact rfl; exact rfl; exact ⟨(congrArg (fun b => AV.val (Value.bool b)) hno), rfl⟩)
theorem of1_con (x : Int) (all : List Int) (hl : all.length ≤ 1000000) : Con Tryz.prog 117 [.val (.int .i64 x), .fp 1 [.sl 1 iC all]] [] (Is (.val (.bool (!decide (x ∈ all)))) []) := by
 refine con_of Tryz.func117 rfl (enters_of Tryz.func117 (by kernel_rfl) rfl) rfl ?_; intro n w0 F0 G0
 refine zS ?_
 (first | (apply wl_call (containsI_con all x hl); exact rfl; exact rfl) | (apply wl_callR (containsI_con all x hl); exact rfl; exact zM; exact rfl))
 refine zS ?_
 (apply res1; exact rfl; exact rfl; exact ⟨rfl, rfl⟩)
theorem of_con (xs all : List Int) (hl : xs.length ≤ 1000000) (hl2 : all.length ≤ 1000000) : Con Tryz.prog 71 [.sl 1 iC xs, .sl 1 iC all] [] (Is (.val (.bool (rises 0 xs && !xs.any fun n => !decide (n ∈ all)))) []) := by
 refine con_of Tryz.func71 rfl (enters_of Tryz.func71 (by kernel_rfl) rfl) rfl ?_; intro n w0 F0 G0
 refine zS ?_;repeat(refine yA ?_;intro p hp;refine zS ?_)
 (first | (apply wl_call (rising_con xs hl); exact rfl; exact rfl) | (apply wl_callR (rising_con xs hl); exact rfl; exact zM; exact rfl))
 refine zS ?_
 refine wl_part rfl rfl (fun g => ?_) (fun g => ?_)
 ·refine zS ?_
  (apply WL_frzC 9 0 1; exact rfl; exact rfl; exact zN)
  (first | (apply wl_call (containsFuncI_con xs _ _ _ hl (fun x _ => of1_con x all hl2)); exact rfl; exact rfl) | (apply wl_callR (containsFuncI_con xs _ _ _ hl (fun x _ => of1_con x all hl2)); exact rfl; exact zM; exact rfl))
  refine zS ?_
  (apply res1; exact rfl; exact rfl; exact ⟨(congrArg (fun b => AV.val (Value.bool b)) (by rw [g, Bool.true_and])), rfl⟩)
 ·refine zS ?_
  (apply res1; exact rfl; exact rfl; exact ⟨(congrArg (fun b => AV.val (Value.bool b)) (by rw [g]; rfl)), rfl⟩)
def cmpR (x y : Int) : Int := if x < y then -1 else if y < x then 1 else 0
def firstNZ : List Int → Int
 | [] => 0
 | v :: t => if v = 0 then firstNZ t else v
theorem isNaN_con (x : Int) : Con Tryz.prog 123 [.val (.int .i64 x)] [] (Is (.val (.bool false)) []) := by
 refine con_of Tryz.func123 rfl (enters_of Tryz.func123 (by kernel_rfl) rfl) rfl ?_; intro n w0 F0 G0
 refine zS ?_
 (apply res1; exact rfl; exact rfl; exact ⟨(congrArg (fun b => AV.val (Value.bool b)) (by simp)), rfl⟩)
theorem compare_con (x y : Int) : Con Tryz.prog 77 [.val (.int .i64 x), .val (.int .i64 y)] [] (Is (.val (.int .i64 (cmpR x y))) []) := by
 refine con_of Tryz.func77 rfl (enters_of Tryz.func77 (by kernel_rfl) rfl) rfl ?_; intro n w0 F0 G0
 refine zS ?_
 (first | (apply wl_call (isNaN_con x); exact rfl; exact rfl) | (apply wl_callR (isNaN_con x); exact rfl; exact zM; exact rfl))
 refine zS ?_
 (first | (apply wl_call (isNaN_con y); exact rfl; exact rfl) | (apply wl_callR (isNaN_con y); exact rfl; exact zM; exact rfl))
 refine zS ?_
 refine w_cond rfl (fun h1 => ?_) (fun h1 => ?_)
 ·have : cmpR x y = -1 := if_pos (by simpa using h1)
  refine zS ?_
  (apply res1; exact rfl; exact rfl; exact ⟨(congrArg (fun b => AV.val (Value.int .i64 b)) this.symm), rfl⟩)
 ·refine zS ?_
  refine w_cond rfl (fun h2 => ?_) (fun h2 => ?_)
  ·have : cmpR x y = 1 := by unfold cmpR; rw [if_neg (by simpa using h1), if_pos (by simpa using h2)]
   refine zS ?_
   (apply res1; exact rfl; exact rfl; exact ⟨(congrArg (fun b => AV.val (Value.int .i64 b)) this.symm), rfl⟩)
  ·have : cmpR x y = 0 := by unfold cmpR; rw [if_neg (by simpa using h1), if_neg (by simpa using h2)]
   refine zS ?_
   (apply res1; exact rfl; exact rfl; exact ⟨(congrArg (fun b => AV.val (Value.int .i64 b)) this.symm), rfl⟩)
theorem or_con (xs : List Int) (hl : xs.length ≤ 1000000) : Con Tryz.prog 110 [.sl 1 iC xs] [] (Is (.val (.int .i64 (firstNZ xs))) []) := by
 refine con_of Tryz.func110 rfl (enters_of Tryz.func110 (by kernel_rfl) rfl) rfl ?_; intro n w0 F0 G0
 refine zS ?_
 refine W_loopJ (fun (k : Nat) => ⟨[(3, .val (.int .i64 0)), (6, .sl 1 iC xs), (7, .val (.int .i64 xs.length)), (8, .val (.int .i64 k))], []⟩) (fun k => k ≤ xs.length ∧ firstNZ (xs.drop k) = firstNZ xs) (fun k => xs.length - k) 0 (fun _ _ st => st_sub2 st zR zP) ?hj0 ?round
 case hj0 => simp
 case round =>
  rintro k ⟨hk, hno⟩
  refine zS ?_
  refine w_cond rfl (fun hlt => ?_) (fun hlt => ?_)
  ·have hlt' : k < xs.length := by simpa using hlt
   rw [drop_step hlt', firstNZ] at hno
   refine zS ?_
   refine w_cond rfl (fun he => ?_) (fun he => ?_)
   ·rw [if_neg (by simpa using he)] at hno
    refine zS ?_
    (apply res1; exact rfl; exact rfl; exact ⟨(congrArg (fun b => AV.val (Value.int .i64 b)) hno), rfl⟩)
   ·rw [if_pos (by simpa using he)] at hno
    refine zS ?_
    (refine ⟨k + 1, fun _ _ st => st_sub2 st ?_ ?_, ?_, ?_⟩; exact zR; exact zP)
    ·exact ⟨hlt', hno⟩
    ·omega
  ·refine zS ?_
   have hkk : k = xs.length := by simp at hlt; omega
   subst hkk
   rw [List.drop_length, firstNZ] at hno
   (apply res1; exact rfl; exact rfl; exact ⟨(congrArg (fun b => AV.val (Value.int .i64 b)) hno), rfl⟩)
theorem made_con (f : Flo) (x : Pay) (hl : f.ids.length ≤ 1000000) : Con Tryz.prog 88 [.agg (flC f), .agg (payC x)] [] (Is (.val (.bool (payOk f.ids x))) []) := by
 refine con_of Tryz.func88 rfl (enters_of Tryz.func88 (by kernel_rfl) rfl) rfl ?_; intro n w0 F0 G0
 refine zS ?_;repeat(refine yA ?_;intro p hp;refine zS ?_)
 (first | (apply wl_call (containsI_con f.ids x.a hl); exact rfl; exact rfl) | (apply wl_callR (containsI_con f.ids x.a hl); exact rfl; exact zM; exact rfl))
 refine zS ?_
 refine wl_part rfl rfl (fun h1 => ?_) (fun h1 => ?_)
 rotate_left
 ·refine zS ?_
  (apply res1; exact rfl; exact rfl; exact ⟨(congrArg (fun b => AV.val (Value.bool b)) (by simp [payOk, h1])), rfl⟩)
 ·refine zS ?_
  (first | (apply wl_call (containsI_con f.ids x.b hl); exact rfl; exact rfl) | (apply wl_callR (containsI_con f.ids x.b hl); exact rfl; exact zM; exact rfl))
  refine zS ?_
  refine wl_part rfl rfl (fun h2 => ?_) (fun h2 => ?_)
  rotate_left
  ·refine zS ?_
   (apply res1; exact rfl; exact rfl; exact ⟨(congrArg (fun b => AV.val (Value.bool b)) (by simp [payOk, h2])), rfl⟩)
  ·refine zS ?_
   refine wl_part rfl rfl (fun h3 => ?_) (fun h3 => ?_)
   rotate_left
   ·refine zS ?_
    (apply res1; exact rfl; exact rfl; exact ⟨(congrArg (fun b => AV.val (Value.bool b)) (by simp at h3; simp [payOk, h3])), rfl⟩)
   ·refine zS ?_
    (apply wl_litF iC; exact inferInstance; exact inferInstance; exact inferInstance; exact zE; exact rfl; (first | exact (of_decide_eq_true rfl) | decide | (simp; done) | (simp; omega)); exact rfl)
    refine zS ?_
    (first | (apply wl_call (inOne_con _ _ _); exact rfl; exact rfl) | (apply wl_callR (inOne_con _ _ _); exact rfl; exact zM; exact rfl))
    refine zS ?_
    (apply res1; exact rfl; exact rfl; exact ⟨(congrArg (fun b => AV.val (Value.bool b)) (by simp at h1 h2 h3; simp [payOk, h1, h2, h3])), rfl⟩)
def quCmp (x y : Qu) : Int := firstNZ [cmpR x.a y.a, cmpR x.b y.b]
theorem quCmp_ge (x y : Qu) : decide (0 ≤ quCmp x y) = !qLt x y := by
 unfold quCmp firstNZ firstNZ firstNZ cmpR qLt
 by_cases h1 : x.a < y.a
 ·simp [h1]
 ·by_cases h2 : y.a < x.a
  ·have : ¬ x.a = y.a := by omega
   simp [h1, h2, this]
  ·have e : x.a = y.a := by omega
   by_cases h3 : x.b < y.b
   ·simp [e, h3]
   ·by_cases h4 : y.b < x.b
    ·simp [e, h3, h4]
    ·simp [e, h3, h4]
theorem quarrels_con (x y : Qu) : Con Tryz.prog 92 [.agg (quC x), .agg (quC y)] [] (Is (.val (.int .i64 (quCmp x y))) []) := by
 refine con_of Tryz.func92 rfl (enters_of Tryz.func92 (by kernel_rfl) rfl) rfl ?_; intro n w0 F0 G0
 refine zS ?_;repeat(refine yA ?_;intro p hp;refine zS ?_)
 rename_i pf hpf
 refine W_run 9 [5, 6, 7, 8, 9, 10, 11, 12, 13] [0, 1, 2, 3, 4, 5, 6, 7, 8] Cut.nil rfl goFlt mixedS (by kernel_rfl) rfl ?_
 refine rpv [] [] ?_
 refine rpv [0] [] ?_
 refine rpv [] [] ?_
 refine rpv [2] [] ?_
 refine Run.pv [1, 3] [] rfl (fun vs => by apply ltr_pk; exact goPk; (refine ltr ?_; refine lt_call ?_ ((compare_con x.a y.a)); exact rfl)) goApp ?_
 refine rpv [] [] ?_
 refine rpv [5] [] ?_
 refine rpv [] [] ?_
 refine rpv [7] [] ?_
 refine ⟨⟨by kernel_rfl, by kernel_rfl⟩, fun vs => ?_⟩
 refine WL_to [(9, .val (.int .i64 (cmpR x.a y.a))), (11, .val (.int .i64 x.b)), (13, .val (.int .i64 y.b))] [.box p (quC y) 87, .box pf (quC x) 87] (by kernel_rfl) (by kernel_rfl) ?_
 refine zS ?_
 (first | (apply wl_call (compare_con x.b y.b); exact rfl; exact rfl) | (apply wl_callR (compare_con x.b y.b); exact rfl; exact zM; exact rfl))
 refine zS ?_
 (apply wl_litF iC; exact inferInstance; exact inferInstance; exact inferInstance; exact zE; exact rfl; (first | exact (of_decide_eq_true rfl) | decide | (simp; done) | (simp; omega)); exact rfl)
 refine zS ?_
 (first | (apply wl_call (or_con [cmpR x.a y.a, cmpR x.b y.b] (by simp)); exact rfl; exact rfl) | (apply wl_callR (or_con [cmpR x.a y.a, cmpR x.b y.b] (by simp)); exact rfl; exact zM; exact rfl))
 refine zS ?_
 (apply res1; exact rfl; exact rfl; exact ⟨rfl, rfl⟩)
theorem check1_con (f : Flo) (hS : Sml f) : Con Tryz.prog 199 [.agg (flC f)] [] (Is (.val (.bool (decide (f.ids.length ≤ 6) && decide (f.bs.length ≤ 10) && decide (f.ps.length ≤ 12) && rises 0 f.ids))) []) := by
 have hidsl := hS.ids
 refine con_of Tryz.func199 rfl (enters_of Tryz.func199 (by kernel_rfl) rfl) rfl ?_; intro n w0 F0 G0
 refine zS ?_;repeat(refine yA ?_;intro p hp;refine zS ?_)
 refine wl_part rfl rfl (fun h1 => ?_) (fun h1 => ?_)
 rotate_left
 ·refine zS ?_
  (apply res1; exact rfl; exact rfl; exact ⟨(congrArg (fun b => AV.val (Value.bool b)) (by simp at h1; rw [show decide (f.ids.length ≤ 6) = false from by simp; omega]; rfl)), rfl⟩)
 ·have h1' : decide (f.ids.length ≤ 6) = true := by simp at h1 ⊢; omega
  refine zS ?_
  refine wl_part rfl rfl (fun h2 => ?_) (fun h2 => ?_)
  rotate_left
  ·refine zS ?_
   (apply res1; exact rfl; exact rfl; exact ⟨(congrArg (fun b => AV.val (Value.bool b)) (by simp at h2; rw [h1', show decide (f.bs.length ≤ 10) = false from by simp; omega]; rfl)), rfl⟩)
  ·have h2' : decide (f.bs.length ≤ 10) = true := by simp at h2 ⊢; omega
   refine zS ?_
   refine wl_part rfl rfl (fun h3 => ?_) (fun h3 => ?_)
   rotate_left
   ·refine zS ?_
    (apply res1; exact rfl; exact rfl; exact ⟨(congrArg (fun b => AV.val (Value.bool b)) (by simp at h3; rw [h1', h2', show decide (f.ps.length ≤ 12) = false from by simp; omega]; rfl)), rfl⟩)
   ·have h3' : decide (f.ps.length ≤ 12) = true := by simp at h3 ⊢; omega
    refine zS ?_
    (first | (apply wl_call (rising_con f.ids (by omega)); exact rfl; exact rfl) | (apply wl_callR (rising_con f.ids (by omega)); exact rfl; exact zM; exact rfl))
    refine zS ?_
    (apply res1; exact rfl; exact rfl; exact ⟨(congrArg (fun b => AV.val (Value.bool b)) (by rw [h1', h2', h3']; rfl)), rfl⟩)
theorem chk41_con (f : Flo) (x : Pay) (hl : f.ids.length ≤ 1000000) : Con Tryz.prog 207 [.agg (payC x), .fp 4 (flC f)] [] (Is (.val (.bool (!payOk f.ids x))) []) := by
 refine con_of Tryz.func207 rfl (enters_of Tryz.func207 (by kernel_rfl) rfl) rfl ?_; intro n w0 F0 G0
 refine zS ?_;repeat(refine yA ?_;intro p hp;refine zS ?_)
 (first | (apply wl_call (made_con f x hl); exact rfl; exact rfl) | (apply wl_callR (made_con f x hl); exact rfl; exact zM; exact rfl))
 refine zS ?_
 (apply res1; exact rfl; exact rfl; exact ⟨rfl, rfl⟩)
theorem chk31_con (s : Stk) : Con Tryz.prog 204 [.agg (stC s)] [] (Is (.val (.bool (!(decide (1 ≤ s.pt) && decide (s.pt ≤ 9))))) []) := by
 refine con_of Tryz.func204 rfl (enters_of Tryz.func204 (by kernel_rfl) rfl) rfl ?_; intro n w0 F0 G0
 refine zS ?_;repeat(refine yA ?_;intro p hp;refine zS ?_)
 (apply wl_litF iC; exact inferInstance; exact inferInstance; exact inferInstance; exact zE; exact rfl; (first | exact (of_decide_eq_true rfl) | decide | (simp; done) | (simp; omega)); exact rfl)
 refine zS ?_
 (first | (apply wl_call (inOne_con _ _ _); exact rfl; exact rfl) | (apply wl_callR (inOne_con _ _ _); exact rfl; exact zM; exact rfl))
 refine zS ?_
 (apply res1; exact rfl; exact rfl; exact ⟨rfl, rfl⟩)
theorem indexFuncS_con (xs : List Stk) (k : FuncId) (caps : List AV) (p : Stk → Bool) (hl : xs.length ≤ 1000000) (hc : ∀ x ∈ xs, Con Tryz.prog k ([.agg (stC x)] ++ caps) [] (Is (.val (.bool (p x))) [])) : Con Tryz.prog 208 [.sl 2 stC xs, .clo k caps] [] (Is (.val (.int .i64 (fiX p xs))) []) := by
 refine con_of Tryz.func208 rfl (enters_of Tryz.func208 (by kernel_rfl) rfl) rfl ?_; intro n w0 F0 G0
 refine zS ?_
 refine W_loopJ (fun (m : Nat) => ⟨[(0, .sl 2 stC xs), (1, .clo k caps), (7, .val (.int .i64 xs.length)), (8, .val (.int .i64 m))], []⟩) (fun m => m ≤ xs.length ∧ (xs.take m).any p = false) (fun m => xs.length - m) 0 (fun _ _ st => st_sub2 st zR zP) ?hj0 ?round
 case hj0 => simp
 case round =>
  rintro m ⟨hk, hno⟩
  refine zS ?_
  refine w_cond rfl (fun hlt => ?_) (fun hlt => ?_)
  ·have hlt' : m < xs.length := by simpa using hlt
   refine zS ?_
   (apply wl_callV (hc xs[m] (List.getElem_mem hlt')); exact rfl; exact rfl; exact rfl)
   refine zS ?_
   refine w_cond rfl (fun he => ?_) (fun he => ?_)
   ·refine zS ?_
    (apply res1; exact rfl; exact rfl; exact ⟨(congrArg (fun b => AV.val (Value.int .i64 b)) (fiX_at hlt' hno he).symm), rfl⟩)
   ·refine zS ?_
    (refine ⟨m + 1, fun _ _ st => st_sub2 st ?_ ?_, ?_, ?_⟩; exact zR; exact zP)
    ·refine ⟨by omega, ?_⟩
     rw [List.take_succ_eq_append_getElem hlt', List.any_append, hno]
     simpa using he
    ·omega
  ·refine zS ?_
   have hkk : m = xs.length := by simp at hlt; omega
   subst hkk
   rw [List.take_length] at hno
   (apply res1; exact rfl; exact rfl; exact ⟨(congrArg (fun b => AV.val (Value.int .i64 b)) (fiX_none hno).symm), rfl⟩)
theorem containsFuncS_con (xs : List Stk) (k : FuncId) (caps : List AV) (p : Stk → Bool) (hl : xs.length ≤ 1000000) (hc : ∀ x ∈ xs, Con Tryz.prog k ([.agg (stC x)] ++ caps) [] (Is (.val (.bool (p x))) [])) : Con Tryz.prog 203 [.sl 2 stC xs, .clo k caps] [] (Is (.val (.bool (xs.any p))) []) := by
 refine con_of Tryz.func203 rfl (enters_of Tryz.func203 (by kernel_rfl) rfl) rfl ?_; intro n w0 F0 G0
 refine zS ?_
 (first | (apply wl_call (indexFuncS_con xs k caps p hl hc); exact rfl; exact rfl) | (apply wl_callR (indexFuncS_con xs k caps p hl hc); exact rfl; exact zM; exact rfl))
 refine zS ?_
 (apply res1; exact rfl; exact rfl; exact ⟨(congrArg (fun b => AV.val (Value.bool b)) fiX_ge), rfl⟩)
theorem indexFuncP_con (xs : List Pay) (k : FuncId) (caps : List AV) (p : Pay → Bool) (hl : xs.length ≤ 1000000) (hc : ∀ x ∈ xs, Con Tryz.prog k ([.agg (payC x)] ++ caps) [] (Is (.val (.bool (p x))) [])) : Con Tryz.prog 209 [.sl 3 payC xs, .clo k caps] [] (Is (.val (.int .i64 (fiX p xs))) []) := by
 refine con_of Tryz.func209 rfl (enters_of Tryz.func209 (by kernel_rfl) rfl) rfl ?_; intro n w0 F0 G0
 refine zS ?_
 refine W_loopJ (fun (m : Nat) => ⟨[(0, .sl 3 payC xs), (1, .clo k caps), (7, .val (.int .i64 xs.length)), (8, .val (.int .i64 m))], []⟩) (fun m => m ≤ xs.length ∧ (xs.take m).any p = false) (fun m => xs.length - m) 0 (fun _ _ st => st_sub2 st zR zP) ?hj0 ?round
 case hj0 => simp
 case round =>
  rintro m ⟨hk, hno⟩
  refine zS ?_
  refine w_cond rfl (fun hlt => ?_) (fun hlt => ?_)
  ·have hlt' : m < xs.length := by simpa using hlt
   refine zS ?_
   (apply wl_callV (hc xs[m] (List.getElem_mem hlt')); exact rfl; exact rfl; exact rfl)
   refine zS ?_
   refine w_cond rfl (fun he => ?_) (fun he => ?_)
   ·refine zS ?_
    (apply res1; exact rfl; exact rfl; exact ⟨(congrArg (fun b => AV.val (Value.int .i64 b)) (fiX_at hlt' hno he).symm), rfl⟩)
   ·refine zS ?_
    (refine ⟨m + 1, fun _ _ st => st_sub2 st ?_ ?_, ?_, ?_⟩; exact zR; exact zP)
    ·refine ⟨by omega, ?_⟩
     rw [List.take_succ_eq_append_getElem hlt', List.any_append, hno]
     simpa using he
    ·omega
  ·refine zS ?_
   have hkk : m = xs.length := by simp at hlt; omega
   subst hkk
   rw [List.take_length] at hno
   (apply res1; exact rfl; exact rfl; exact ⟨(congrArg (fun b => AV.val (Value.int .i64 b)) (fiX_none hno).symm), rfl⟩)
theorem containsFuncP_con (xs : List Pay) (k : FuncId) (caps : List AV) (p : Pay → Bool) (hl : xs.length ≤ 1000000) (hc : ∀ x ∈ xs, Con Tryz.prog k ([.agg (payC x)] ++ caps) [] (Is (.val (.bool (p x))) [])) : Con Tryz.prog 206 [.sl 3 payC xs, .clo k caps] [] (Is (.val (.bool (xs.any p))) []) := by
 refine con_of Tryz.func206 rfl (enters_of Tryz.func206 (by kernel_rfl) rfl) rfl ?_; intro n w0 F0 G0
 refine zS ?_
 (first | (apply wl_call (indexFuncP_con xs k caps p hl hc); exact rfl; exact rfl) | (apply wl_callR (indexFuncP_con xs k caps p hl hc); exact rfl; exact zM; exact rfl))
 refine zS ?_
 (apply res1; exact rfl; exact rfl; exact ⟨(congrArg (fun b => AV.val (Value.bool b)) fiX_ge), rfl⟩)
theorem paysOk_any (ids : List Int) : ∀ (l : List Pay), (!l.any fun x => !payOk ids x) = paysOk ids l
 | [] => rfl
 | x :: t => by
  rw [paysOk, ← paysOk_any ids t, List.any_cons]
  cases payOk ids x <;> simp
theorem check4_con (f : Flo) (hS : Sml f) : Con Tryz.prog 205 [.agg (flC f)] [] (Is (.val (.bool (paysOk f.ids f.ps))) []) := by
 have hidsl := hS.ids
 have hpsl := hS.ps
 refine con_of Tryz.func205 rfl (enters_of Tryz.func205 (by kernel_rfl) rfl) rfl ?_; intro n w0 F0 G0
 refine zS ?_;repeat(refine yA ?_;intro p hp;refine zS ?_)
 (apply WL_frzC 5 0 4; exact rfl; exact rfl; exact zN)
 (first | (apply wl_call (containsFuncP_con f.ps _ _ _ (by omega) (fun x _ => chk41_con f x (by omega))); exact rfl; exact rfl) | (apply wl_callR (containsFuncP_con f.ps _ _ _ (by omega) (fun x _ => chk41_con f x (by omega))); exact rfl; exact zM; exact rfl))
 refine zS ?_
 (apply res1; exact rfl; exact rfl; exact ⟨(congrArg (fun b => AV.val (Value.bool b)) (paysOk_any _ _)), rfl⟩)
theorem floorsOf_con (l : List Stk) (hl : l.length ≤ 100000) : Con Tryz.prog 202 [.sl 2 stC l] [] (Is (.sl 1 iC (l.map Stk.fl)) []) := by
 refine con_of Tryz.func202 rfl (enters_of Tryz.func202 (by kernel_rfl) rfl) rfl ?_; intro n w0 F0 G0
 refine zS ?_;repeat(refine yA ?_;intro p hp;refine zS ?_)
 refine W_loopJ (fun (b : Nat × Value) => ⟨[(3, .val b.2), (6, .sl 2 stC l), (7, .val (.int .i64 l.length)), (8, .val (.int .i64 b.1))], [.row b.2 3 1 iC ((l.map Stk.fl).take b.1)]⟩) (fun b => b.1 ≤ l.length) (fun b => l.length - b.1) (0, .slice none 0 0) (fun _ _ st => st_sub2 (st_nil 3 1 iC st) (by exact zR) (by exact zP)) (Nat.zero_le _) ?_
 rintro ⟨k, v⟩ hk
 dsimp only at hk ⊢
 have hll : ((l.map Stk.fl).take k).length ≤ 100000 := by rw [List.length_take, List.length_map]; omega
 refine zS ?_;repeat(refine yA ?_;intro p hp;refine zS ?_)
 refine w_cond rfl (fun hlt => ?_) (fun hlt => ?_)
 ·have hlt' : k < l.length := by simpa using hlt
  have htk : (l.map Stk.fl).take (k + 1) = (l.map Stk.fl).take k ++ [l[k].fl] := by rw [List.take_succ_eq_append_getElem (by simpa using hlt'), List.getElem_map]
  refine zS ?_;repeat(refine yA ?_;intro p hp;refine zS ?_)
  (apply wl_litF iC; exact inferInstance; exact inferInstance; exact inferInstance; exact zE; exact rfl; (first | exact (of_decide_eq_true rfl) | decide | (simp; done) | (simp; omega)); exact rfl)
  (first | (apply wl_append; exact rfl; exact rfl; exact zN; exact inferInstance; exact inferInstance; (first | omega | (simp; omega)); exact rfl) | (apply wl_appendN; exact rfl; exact rfl; exact inferInstance; exact inferInstance; (first | omega | (simp; omega)); exact rfl))
  intro v'
  rw [← htk]
  refine zS ?_;repeat(refine yA ?_;intro p hp;refine zS ?_)
  (refine ⟨(k + 1, v'), fun _ _ st => st_sub2 st ?_ ?_, ?_, ?_⟩; exact zR; exact zP)
  ·dsimp only; omega
  ·dsimp only; omega
 ·have hkk : k = l.length := by simp at hlt; omega
  subst hkk
  rw [List.take_of_length_le (by simp)]
  (apply W_frz 3; exact rfl; exact zN)
  refine zS ?_;repeat(refine yA ?_;intro p hp;refine zS ?_)
  (apply res1; exact rfl; exact rfl; exact ⟨rfl, rfl⟩)
def ofB (xs all : List Int) : Bool := rises 0 xs && !xs.any fun n => !decide (n ∈ all)
theorem rises_all : ∀ {l : List Int} {last : Int}, rises last l = true → ∀ x ∈ l, last + 1 ≤ x ∧ x ≤ 9999
 | [], _, _, x, hx => by cases hx
 | y :: t, last, h, x, hx => by
  simp only [rises, Bool.and_eq_true, decide_eq_true_eq] at h
  rcases List.mem_cons.1 hx with rfl | hx
  ·exact h.1
  ·have := rises_all h.2 x hx; omega
theorem ofB_two {ids : List Int} (h : rises 0 ids = true) (a b : Int) : ofB [a, b] ids = (decide (a ∈ ids) && decide (b ∈ ids) && decide (a < b)) := by
 unfold ofB
 by_cases h1 : a ∈ ids
 ·by_cases h2 : b ∈ ids
  ·have k1 := rises_all h a h1
   have k2 := rises_all h b h2
   by_cases h3 : a < b
   ·simp [rises, h1, h2, h3]; omega
   ·simp [rises, h1, h2, h3]; omega
  ·simp [h2]
 ·simp [h1]
theorem ofTwo_con {ids : List Int} (h : rises 0 ids = true) (hl : ids.length ≤ 1000000) (a b : Int) : Con Tryz.prog 71 [.sl 1 iC [a, b], .sl 1 iC ids] [] (Is (.val (.bool (decide (a ∈ ids) && decide (b ∈ ids) && decide (a < b)))) []) := by
 have := of_con [a, b] ids (by simp) hl
 rwa [show (rises 0 [a, b] && ![a, b].any fun n => !decide (n ∈ ids)) = _ from ofB_two h a b] at this
theorem check2_con (f : Flo) (hS : Sml f) (hr : rises 0 f.ids = true) : Con Tryz.prog 200 [.agg (flC f)] [] (Is (.val (.bool (qusOk f.ids none f.qs))) []) := by
 have hidsl := hS.ids
 have hqsl := hS.qs
 refine con_of Tryz.func200 rfl (enters_of Tryz.func200 (by kernel_rfl) rfl) rfl ?_; intro n w0 F0 G0
 refine zS ?_;repeat(refine yA ?_;intro p hp;refine zS ?_)
 refine W_loopJ (fun (k : Nat) => ⟨[(1, .val p), (6, .sl 2 quC f.qs), (7, .val (.int .i64 f.qs.length)), (8, .val (.int .i64 k))], [.box p (flC f) 27]⟩) (fun k => k ≤ f.qs.length ∧ qusOk f.ids (prevQ f.qs k) (f.qs.drop k) = qusOk f.ids none f.qs) (fun k => f.qs.length - k) 0 (fun _ _ st => st_sub2 st zR zP) ?hj0 ?round
 case hj0 => simp [prevQ]
 case round =>
  rintro k ⟨hk, hno⟩
  refine zS ?_;repeat(refine yA ?_;intro p hp;refine zS ?_)
  refine w_cond rfl (fun hlt => ?_) (fun hlt => ?_)
  ·have hlt' : k < f.qs.length := by simpa using hlt
   rw [drop_step hlt', qusOk_cons] at hno
   have C := ofTwo_con hr (by omega) f.qs[k].a f.qs[k].b
   refine zS ?_;repeat(refine yA ?_;intro p hp;refine zS ?_)
   rename_i pf hpf
   cases hof : decide (f.qs[k].a ∈ f.ids) && decide (f.qs[k].b ∈ f.ids) && decide (f.qs[k].a < f.qs[k].b) with
   | false =>
    rw [hof] at C hno
    rw [Bool.false_and] at hno
    refine W_run 20 [13, 14, 15, 16, 17, 18, 19, 20, 21, 22, 23, 24, 25, 26, 27, 28, 29, 30, 31, 32] [0, 1, 2, 3, 4, 5, 6, 7, 8, 9, 10, 11, 12, 13, 14, 15, 16, 17, 18, 19] Cut.nil rfl goFlt mixedS (by kernel_rfl) rfl ?_
    refine rpv [] [] ?_
    refine rpv [0] [] ?_
    refine rpv [] [] ?_
    refine rpv [2] [] ?_
    refine Run.pv [1, 3] [] rfl (fun vs => by apply ltr_pk; exact goPk; (refine ltr ?_; apply LT_frz; apply lt_lit (f := iC); exact zE; exact rfl; (first | exact (of_decide_eq_true rfl) | decide | (simp; done) | (simp; omega)))) goApp ?_
    refine rpv [] [] ?_
    refine rpv [5] [] ?_
    refine Run.pv [4, 6] [] rfl (fun vs => by apply ltr_pk; exact goPk; (refine ltr ?_; refine lt_call ?_ (C); exact rfl)) goApp ?_
    refine rpv [7] [] ?_
    refine rpv [8] [] ?_
    refine rno [9] ?_
    refine rno [9, 10] ?_
    refine rno [9, 11] ?_
    refine Run.noU [12] [] rfl rfl (fun vs => by apply look_pk; exact goPk; exact rfl) goApp ?_
    refine Run.noU [12, 13] [] rfl rfl (fun vs => by apply look_pk; exact goPk; exact rfl) goApp ?_
    refine Run.noU [12] [] rfl rfl (fun vs => by apply look_pk; exact goPk; exact rfl) goApp ?_
    refine Run.noU [12, 15] [] rfl rfl (fun vs => by apply look_pk; exact goPk; exact rfl) goApp ?_
    refine Run.noU [12, 14, 16] [] rfl rfl (fun vs => by apply look_pk; exact goPk; exact rfl) goApp ?_
    refine Run.noU [12, 17] [] rfl rfl (fun vs => by apply look_pk; exact goPk; exact rfl) goApp ?_
    refine Run.noU [12] [] rfl rfl (fun vs => by apply look_pk; exact goPk; exact rfl) goApp ?_
    refine ⟨⟨by kernel_rfl, by kernel_rfl⟩, fun vs => ?_⟩
    apply WL_auto [9, 12, 18, 19]
    ·exact goPk
    ·exact goNrm
    ·kernel_rfl
    ·kernel_rfl
    refine zS ?_;repeat(refine yA ?_;intro p hp;refine zS ?_)
    (apply res1; exact rfl; exact rfl; exact ⟨(congrArg (fun b => AV.val (Value.bool b)) hno), rfl⟩)
   | true =>
    rw [hof] at C hno
    rw [Bool.true_and] at hno
    cases k with
    | zero =>
     rw [show okPrev (prevQ f.qs 0) f.qs[0] = true from rfl, Bool.true_and] at hno
     refine W_run 20 [13, 14, 15, 16, 17, 18, 19, 20, 21, 22, 23, 24, 25, 26, 27, 28, 29, 30, 31, 32] [0, 1, 2, 3, 4, 5, 6, 7, 8, 9, 10, 11, 12, 13, 14, 15, 16, 17, 18, 19] Cut.nil rfl goFlt mixedS (by kernel_rfl) rfl ?_
     refine rpv [] [] ?_
     refine rpv [0] [] ?_
     refine rpv [] [] ?_
     refine rpv [2] [] ?_
     refine Run.pv [1, 3] [] rfl (fun vs => by apply ltr_pk; exact goPk; (refine ltr ?_; apply LT_frz; apply lt_lit (f := iC); exact zE; exact rfl; (first | exact (of_decide_eq_true rfl) | decide | (simp; done) | (simp; omega)))) goApp ?_
     refine rpv [] [] ?_
     refine rpv [5] [] ?_
     refine Run.pv [4, 6] [] rfl (fun vs => by apply ltr_pk; exact goPk; (refine ltr ?_; refine lt_call ?_ (C); exact rfl)) goApp ?_
     refine rpv [7] [] ?_
     refine rpv [8] [] ?_
     refine ryv [9] ?_
     refine ryx [9, 10] (fun vs => by apply ltr_pk; exact goPk; (refine ltr ?_; apply LT_bool false; apply lt_gtr; exact rfl; exact rfl; simp)) ?_
     refine ryv [9, 11] ?_
     refine rno [12] ?_
     refine rno [12, 13] ?_
     refine rno [12] ?_
     refine rno [12, 15] ?_
     refine rno [12, 14, 16] ?_
     refine rno [12, 17] ?_
     refine rno [12] ?_
     refine ⟨⟨by kernel_rfl, by kernel_rfl⟩, fun vs => ?_⟩
     apply WL_auto [9, 12, 18, 19]
     ·exact goPk
     ·exact goNrm
     ·kernel_rfl
     ·kernel_rfl
     refine zS ?_;repeat(refine yA ?_;intro p hp;refine zS ?_)
     (refine ⟨0 + 1, fun _ _ st => st_sub2 st ?_ ?_, ?_, ?_⟩; exact zR; exact zP)
     ·exact ⟨hlt', by rw [show prevQ f.qs (0 + 1) = some f.qs[0] from List.getElem?_eq_getElem (by omega)]; exact hno⟩
     ·omega
    | succ k =>
     have hq : f.qs[k]? = some f.qs[k] := List.getElem?_eq_getElem (by omega)
     rw [show prevQ f.qs (k + 1) = some f.qs[k] from hq, show okPrev (some f.qs[k]) f.qs[k + 1] = qLt f.qs[k] f.qs[k + 1] from rfl] at hno
     have D := quarrels_con f.qs[k] f.qs[k + 1]
     refine W_run 20 [13, 14, 15, 16, 17, 18, 19, 20, 21, 22, 23, 24, 25, 26, 27, 28, 29, 30, 31, 32] [0, 1, 2, 3, 4, 5, 6, 7, 8, 9, 10, 11, 12, 13, 14, 15, 16, 17, 18, 19] Cut.nil rfl goFlt mixedS (by kernel_rfl) rfl ?_
     refine rpv [] [] ?_
     refine rpv [0] [] ?_
     refine rpv [] [] ?_
     refine rpv [2] [] ?_
     refine Run.pv [1, 3] [] rfl (fun vs => by apply ltr_pk; exact goPk; (refine ltr ?_; apply LT_frz; apply lt_lit (f := iC); exact zE; exact rfl; (first | exact (of_decide_eq_true rfl) | decide | (simp; done) | (simp; omega)))) goApp ?_
     refine rpv [] [] ?_
     refine rpv [5] [] ?_
     refine Run.pv [4, 6] [] rfl (fun vs => by apply ltr_pk; exact goPk; (refine ltr ?_; refine lt_call ?_ (C); exact rfl)) goApp ?_
     refine rpv [7] [] ?_
     refine rpv [8] [] ?_
     refine ryv [9] ?_
     refine ryx [9, 10] (fun vs => by apply ltr_pk; exact goPk; (refine ltr ?_; apply LT_bool true; apply lt_gtr; exact rfl; exact rfl; (first | (simp; done) | (simp; omega)))) ?_
     refine ryv [9, 11] ?_
     refine ryv [12] ?_
     refine ryv [12, 13] ?_
     refine ryv [12] ?_
     refine ryx [12, 15] (fun vs => by apply ltr_pk; exact goPk; (refine ltr ?_; apply LT_int (k : Int); apply lt_sub; exact rfl; exact rfl; omega; omega; omega)) ?_
     refine ryv [12, 14, 16] ?_
     refine ryv [12, 17] ?_
     refine ryv [12] ?_
     refine ⟨⟨by kernel_rfl, by kernel_rfl⟩, fun vs => ?_⟩
     apply WL_auto [9, 12, 18, 19]
     ·exact goPk
     ·exact goNrm
     ·kernel_rfl
     ·kernel_rfl
     refine zS ?_;repeat(refine yA ?_;intro p hp;refine zS ?_)
     (first | (apply wl_call (D); exact rfl; exact rfl) | (apply wl_callR (D); exact rfl; exact zM; exact rfl))
     refine zS ?_;repeat(refine yA ?_;intro p hp;refine zS ?_)
     rw [quCmp_ge]
     refine w_cond rfl (fun g => ?_) (fun g => ?_)
     ·have g' : qLt f.qs[k] f.qs[k + 1] = false := by simpa using g
      rw [g', Bool.false_and] at hno
      refine zS ?_;repeat(refine yA ?_;intro p hp;refine zS ?_)
      (apply res1; exact rfl; exact rfl; exact ⟨(congrArg (fun b => AV.val (Value.bool b)) hno), rfl⟩)
     ·have g' : qLt f.qs[k] f.qs[k + 1] = true := by simpa using g
      rw [g', Bool.true_and] at hno
      refine zS ?_;repeat(refine yA ?_;intro p hp;refine zS ?_)
      (refine ⟨k + 1 + 1, fun _ _ st => st_sub2 st ?_ ?_, ?_, ?_⟩; exact zR; exact zP)
      ·exact ⟨hlt', by rw [show prevQ f.qs (k + 1 + 1) = some f.qs[k + 1] from List.getElem?_eq_getElem (by omega)]; exact hno⟩
      ·omega
  ·refine zS ?_;repeat(refine yA ?_;intro p hp;refine zS ?_)
   have hkk : k = f.qs.length := by simp at hlt; omega
   subst hkk
   rw [List.drop_length, qusOk] at hno
   (apply res1; exact rfl; exact rfl; exact ⟨(congrArg (fun b => AV.val (Value.bool b)) hno), rfl⟩)
end Go.Proofs.YtihonljdanjfmaaGreatDoor.Sw
