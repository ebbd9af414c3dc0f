/- More rules: a part of an array's value, of several cells; results beside what is kept. -/
import Derived.Test.YtbkellknlcageaaDoorSwG
namespace Go.Proofs.YtbkellknlcageaaDoor.Sw
open Go.RowKit Go
section
variable {P : Program} {rs : List (Nat × AV)} {hsR : List HA} {d : Option Nat} {ty : TypeId} {pos : String} {af : Array Edge} {g : Option (Nat × Bool)}
theorem Fits.cut {G : Nat → Option Obj} : ∀ {cs : List AV} {vs : List Value} (k : Nat), Fits G cs vs → Fits G (cs.drop k) (vs.drop k) ∧ Fits G (cs.take k) (vs.take k)
  | [], [], k, _ => by simp [Fits]
  | [], _ :: _, _, h => h.elim
  | _ :: _, [], _, h => h.elim
  | c :: cs, v :: vs, 0, h => ⟨h, trivial⟩
  | c :: cs, v :: vs, k + 1, h => ⟨(Fits.cut k h.2).1, h.1, (Fits.cut k h.2).2⟩
theorem lt_indexVN {x y : Operand} {t : TypeId} {len : Nat} {e : TypeId} {n : Nat} (hu : P.underlying t = some (.array len e)) [hE : TyN P e n] {cs : List AV} {i : Int} {k : Nat} {kd : IntKind} (hx : opv rs x = some (.agg cs)) (hy : opv rs y = some (.val (.int kd i))) (hi : i = (k : Int)) (hk : k < len) :
    LT P ⟨d, .index t x y, ty, pos, af, g⟩ rs [] (Is (.agg ((cs.drop (k * n)).take n)) []) :=
  LT_val (fun _ e => by cases e) fun a w G hR hG => by
    obtain ⟨vs, e1, hf⟩ : (AV.agg cs).P G (a.eval x) := opv_ok hR hx
    have e2 : a.eval y = _ := opv_ok hR hy
    refine ⟨.agg ((vs.drop (k * n)).take n).toArray, ⟨_, rfl, (Fits.cut n (Fits.cut (k * n) hf).1).2⟩, ?_⟩
    subst hi
    simp only [execOp, e1, e2, Instr.index, asIntOf, Sem.run_bind, Sem.run_pure, Result.andThen_ok]
    rw [show (underlying t).run P w = .ok (.array len e) w by simp [underlying, Sem.run, hu, go_sem]]
    simp only [Result.andThen_ok]
    rw [if_pos (by omega)]
    simp only [part, Sem.run_bind, hE.size w, hE.agg w, Result.andThen_ok, if_true]
    simp [Sem.run_pure, List.take_drop]
end
section
variable {c : Cx} {rs : List (Nat × AV)} {hs : List HA} {Q : Exit → S → Prop} {ops : Array Oper} {tl : List Oper} {d : Nat} {ty : TypeId} {pos : String} {af : Array Edge}
theorem wl_indexVN {x y : Operand} {t : TypeId} {len : Nat} {e : TypeId} {n : Nat} (hu : c.P.underlying t = some (.array len e)) [TyN c.P e n] {cs : List AV} {i : Int} {k : Nat} {kd : IntKind} (hx : opv rs x = some (.agg cs)) (hy : opv rs y = some (.val (.int kd i))) (hi : i = (k : Int)) (hk : k < len) {cs' : List AV} (he : (cs.drop (k * n)).take n = cs') (hd : Nat.blt d c.nt = true) (kk : WL c ops tl ⟨(d, .agg cs') :: rs, hs⟩ Q) : WL c ops (⟨some d, .index t x y, ty, pos, af, none⟩ :: tl) ⟨rs, hs⟩ Q := wl_ex (lt_indexVN hu hx hy hi hk) hd (he ▸ kk)
theorem wl_callV0 {x : Operand} {k : FuncId} {xs : List Operand} {ts : Array TypeId} {avs : List AV} {av : AV} (hc : Con c.P k avs [] (Is av [])) (hf : opv rs x = some (.clo k [])) (hx : opvs rs xs = some avs) (hd : Nat.blt d c.nt = true) (kk : WL c ops tl ⟨(d, av) :: rs, hs⟩ Q) : WL c ops (⟨some d, .call { callee := .value x, args := xs.toArray, argTypes := ts }, ty, pos, af, none⟩ :: tl) ⟨rs, hs⟩ Q := wl_callV (caps := []) (by rw [List.append_nil]; exact hc) hf hx hd kk
/-- A part of a frozen slice, up to some index; from some index on; between. -/
theorem wl_slTo {α : Type} {f : α → List AV} {xs : List α} {x y : Operand} {t e : TypeId} {n : Nat} {h : Nat} {hi : Int} (hE : TyE c.P t e n) (hx : opv rs x = some (.sl n f xs)) (hy : opv rs y = some (.val (.int .i64 hi))) (hh : hi = (h : Int)) (h2 : h ≤ xs.length) (hd : Nat.blt d c.nt = true) (k : WL c ops tl ⟨(d, .sl n f (xs.take h)) :: rs, hs⟩ Q) : WL c ops (⟨some d, .slice t x none (some y) none, ty, pos, af, none⟩ :: tl) ⟨rs, hs⟩ Q :=
  wl_slice (l := 0) (h := h) (li := 0) hx (.inr ⟨rfl, rfl⟩) rfl (.inl (by rw [Option.map_some, hy])) hh (Nat.zero_le _) h2 hd (by rw [List.drop_zero]; exact k)
theorem wl_slFrom {α : Type} {f : α → List AV} {xs : List α} {x y : Operand} {t e : TypeId} {n : Nat} {l : Nat} {li : Int} (hE : TyE c.P t e n) (hx : opv rs x = some (.sl n f xs)) (hy : opv rs y = some (.val (.int .i64 li))) (hl : li = (l : Int)) (h2 : l ≤ xs.length) (hd : Nat.blt d c.nt = true) (k : WL c ops tl ⟨(d, .sl n f (xs.drop l)) :: rs, hs⟩ Q) : WL c ops (⟨some d, .slice t x (some y) none none, ty, pos, af, none⟩ :: tl) ⟨rs, hs⟩ Q :=
  wl_slice (l := l) (h := xs.length) (hi' := (xs.length : Int)) hx (.inl (by rw [Option.map_some, hy])) hl (.inr ⟨rfl, rfl⟩) rfl h2 (Nat.le_refl _) hd (by rw [List.take_length]; exact k)
/-- What is asked of a register or of a store, by another word. -/
theorem WL_eqR {l : List Oper} (i : Nat) {av : AV} (av' : AV) (h : look rs i = some av) (e : av = av') (k : WL c ops l ⟨(i, av') :: rs, hs⟩ Q) : WL c ops l ⟨rs, hs⟩ Q := WL_as i av' (e ▸ h) k
end
theorem resK1 {P : Program} {fn : Func} {t : Tmp} {post : AV → List HA → Prop} {rs : List (Nat × AV)} {hs kept r : List HA} {av : AV} (hr : fn.results = #[.tmp t]) (hl : look rs t = some av) (hp : post av kept) (hcut : Cut hs kept r) : Res P fn post ⟨rs, hs⟩ := resK hr hl hcut hp
/-- No result, with what is handed back. -/
theorem resK0 {P : Program} {fn : Func} {post : AV → List HA → Prop} {rs : List (Nat × AV)} {hs kept r : List HA} (hr : fn.results = #[]) (hp : post (.tup []) kept) (hcut : Cut hs kept r) : Res P fn post ⟨rs, hs⟩ :=
  ⟨_, kept, hp, fun a w G F hR hI => by
    obtain ⟨F1, h1, h2⟩ := inv_keep (rest := r) ⟨hI.gin, hI.nd, hI.own, hcut.sel hI.hs⟩
    exact ⟨.tuple #[], G, F1, by simp [results, hr, go_sem], h2, h1, ⟨[], rfl, trivial⟩⟩⟩
/-- Two results, with what is handed back. -/
theorem resK2 {P : Program} {fn : Func} {t u : Tmp} {post : AV → List HA → Prop} {rs : List (Nat × AV)} {hs kept r : List HA} {av bv : AV} (hr : fn.results = #[.tmp t, .tmp u]) (hl : look rs t = some av) (hl2 : look rs u = some bv) (hp : post (.tup [av, bv]) kept) (hcut : Cut hs kept r) : Res P fn post ⟨rs, hs⟩ :=
  ⟨_, kept, hp, fun a w G F hR hI => by
    obtain ⟨F1, h1, h2⟩ := inv_keep (rest := r) ⟨hI.gin, hI.nd, hI.own, hcut.sel hI.hs⟩
    exact ⟨_, G, F1, results_tmp2 hr _ _ _, h2, h1, ⟨[_, _], rfl, hR _ _ hl, hR _ _ hl2, trivial⟩⟩⟩
/-- Three results, with what is handed back. -/
theorem resK3 {P : Program} {fn : Func} {t u x : Tmp} {post : AV → List HA → Prop} {rs : List (Nat × AV)} {hs kept r : List HA} {av bv cv : AV} (hr : fn.results = #[.tmp t, .tmp u, .tmp x]) (hl : look rs t = some av) (hl2 : look rs u = some bv) (hl3 : look rs x = some cv) (hp : post (.tup [av, bv, cv]) kept) (hcut : Cut hs kept r) : Res P fn post ⟨rs, hs⟩ :=
  ⟨_, kept, hp, fun a w G F hR hI => by
    obtain ⟨F1, h1, h2⟩ := inv_keep (rest := r) ⟨hI.gin, hI.nd, hI.own, hcut.sel hI.hs⟩
    exact ⟨_, G, F1, results_tmp3 hr _ _, h2, h1, ⟨[_, _, _], rfl, hR _ _ hl, hR _ _ hl2, hR _ _ hl3, trivial⟩⟩⟩
/-- A call that is lent some of what is owned, what it is lent being known. -/
theorem wl_callP {c : Cx} {rs : List (Nat × AV)} {hs pre r : List HA} {Q : Exit → S → Prop} {ops : Array Oper} {tl : List Oper} {d : Nat} {ty : TypeId} {pos : String} {af : Array Edge} {k : FuncId} {xs : List Operand} {ts : Array TypeId} {avs : List AV} {post : AV → List HA → Prop} (hc : Con c.P k avs pre post) (hx : opvs rs xs = some avs) (hcut : Cut hs pre r) (hd : Nat.blt d c.nt = true) (kk : ∀ av prod, post av prod → WL c ops tl ⟨(d, av) :: rs, prod ++ r⟩ Q) : WL c ops (⟨some d, .call { callee := .value (.func k), args := xs.toArray, argTypes := ts }, ty, pos, af, none⟩ :: tl) ⟨rs, hs⟩ Q := wl_callC hc hx hcut hd kk
/-- An own slice is frozen as it is handed back. -/
theorem Res_frz {α : Type} {P : Program} {fn : Func} {post : AV → List HA → Prop} {rs : List (Nat × AV)} {hs r : List HA} {e : TypeId} {n : Nat} {f : α → List AV} {xs : List α} {v : Value} (i : Nat) (hl : look rs i = some (.val v)) (hr : Rm hs (.row v e n f xs) r) (k : Res P fn post ⟨(i, .sl n f xs) :: rs, r⟩) : Res P fn post ⟨rs, hs⟩ := by
  obtain ⟨av, prod, hp, h⟩ := k
  refine ⟨av, prod, hp, fun a w G F hR hI => ?_⟩
  obtain ⟨G', F', h1, h2, h3⟩ := row_freeze (rest := r) ⟨hI.gin, hI.nd, hI.own, hr.sel hI.hs⟩
  obtain ⟨u, G2, F2, k1, k2, k3, k4⟩ := h a w G' F' (fun j av ek => by
    simp only [look] at ek
    cases hb : Nat.beq i j with
    | true =>
      rw [hb] at ek
      obtain rfl := Nat.eq_of_beq_eq_true hb
      simp only [cond_true, Option.some.injEq] at ek
      subst ek
      have : a.tmps.getD i undef = v := hR _ _ hl
      rw [this]; exact h3
    | false => rw [hb] at ek; exact av.mono h2.gle (hR j av (by simpa using ek))) h1
  exact ⟨u, G2, F2, k1, h2.trans k2, k3, k4⟩
end Go.Proofs.YtbkellknlcageaaDoor.Sw
