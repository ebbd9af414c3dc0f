/- SwI: several parts in one text. -/
import Derived.Test.YtbkellknlcageaaDoorSwH
import Derived.Lib.LazyBuf
/- Elements of several cells of an own slice: reading, writing, their fields. -/
namespace Go.Proofs.YtbkellknlcageaaDoor.Sw
open Go.RowKit Go
theorem flat_cut {α : Type} {f : α → List AV} {n : Nat} {xs : List α} (h : ∀ x ∈ xs, (f x).length = n) {k : Nat} (hk : k < xs.length) : ((xs.flatMap f).drop (k * n)).take n = f xs[k] := by
  have hlen := h _ (List.getElem_mem hk)
  have hl := lenL h
  have hle : (k + 1) * n ≤ xs.length * n := Nat.mul_le_mul_right n hk
  rw [Nat.succ_mul] at hle
  apply List.ext_getElem? 
  intro j
  by_cases hj : j < n
  · rw [List.getElem?_take, if_pos hj, List.getElem?_drop]
    exact flat_get h k hk j hj
  · rw [List.getElem?_eq_none (by rw [List.length_take]; omega), List.getElem?_eq_none (by omega)]
theorem flat_setN {α : Type} {f : α → List AV} {n : Nat} {x' : α} : ∀ {xs : List α}, (∀ x ∈ xs, (f x).length = n) → ∀ (k : Nat), k < xs.length → (f x').length = n → (xs.set k x').flatMap f = (xs.flatMap f).take (k * n) ++ f x' ++ (xs.flatMap f).drop (k * n + n)
  | x :: xs, h, 0, _, hl => by
    rw [List.set_cons_zero, List.flatMap_cons, List.flatMap_cons, Nat.zero_mul, Nat.zero_add, List.take_zero, List.nil_append, List.drop_append_of_le_length (by rw [h x (by simp)]; exact Nat.le_refl _), List.drop_of_length_le (by rw [h x (by simp)]; exact Nat.le_refl _), List.nil_append]
  | x :: xs, h, k + 1, hk, hl => by
    have hx := h x (by simp)
    have e1 : ∀ R : List AV, (f x ++ R).take (k * n + n) = f x ++ R.take (k * n) := fun R => by
      rw [List.take_append, List.take_of_length_le (by omega), hx, Nat.add_sub_cancel]
    have e2 : ∀ R : List AV, (f x ++ R).drop (k * n + n + n) = R.drop (k * n + n) := fun R => by
      rw [List.drop_append, List.drop_of_length_le (by omega), hx, Nat.add_sub_cancel, List.nil_append]
    rw [List.set_cons_succ, List.flatMap_cons, List.flatMap_cons, flat_setN (fun y hy => h y (by simp [hy])) k (by simpa using hk) hl, Nat.succ_mul, e1, e2]
    simp only [List.append_assoc]
  | [], _, _, hk, _ => absurd hk (Nat.not_lt_zero _)
theorem take_mid {α : Type} {l us : List α} {A L : Nat} (h : A + us.length ≤ L) (hL : L ≤ l.length) : (l.take A ++ us ++ l.drop (A + us.length)).take L = (l.take L).take A ++ us ++ (l.take L).drop (A + us.length) := by
  have hx : (l.take A ++ us).length = A + us.length := by rw [List.length_append, List.length_take]; omega
  rw [List.take_append, List.take_of_length_le (by omega), hx, List.take_take, Nat.min_eq_left (by omega), List.drop_take]
section
variable {P : Program} {rs : List (Nat × AV)} {hsR : List HA} {d : Option Nat} {ty : TypeId} {pos : String} {af : Array Edge} {g : Option (Nat × Bool)}
theorem lt_loadRN {α : Type} {x : Operand} {t e : TypeId} {n k : Nat} [hT : TyN P t n] {v : Value} {f : α → List AV} {xs : List α} (hx : opv rs x = some (.rat v n k 0)) (hk : k < xs.length) : LT P ⟨d, .load t x, ty, pos, af, g⟩ rs [.row v e n f xs] (Is (.agg (f xs[k])) [.row v e n f xs]) :=
  LT_read (fun _ e => by cases e) fun a w G F hR hG hrow => by
    obtain ⟨b', len, cap', ev, e1⟩ : (AV.rat v n k 0).P G (a.eval x) := opv_ok hR hx
    rcases row_val hrow with ⟨_, rfl⟩ | ⟨b, cap, cur, vs, ev', hnc, _, hb, hcs, hl, hf, htake, _⟩
    · exact absurd hk (Nat.not_lt_zero _)
    · rw [ev] at ev'
      simp only [Value.slice.injEq, Option.some.injEq, Addr.mk.injEq] at ev'
      obtain ⟨⟨rfl, _⟩, rfl, rfl⟩ := ev'
      have hfit := (Fits.cut n (Fits.cut (k * n) hf).1).2
      rw [flat_cut hl hk] at hfit
      refine ⟨.agg ((vs.drop (k * n)).take n).toArray, ⟨_, rfl, hfit⟩, ?_⟩
      have hlt : k * n + n ≤ xs.length * n := by
        calc k * n + n = (k + 1) * n := (Nat.succ_mul k n).symm
          _ ≤ xs.length * n := Nat.mul_le_mul_right n hk
      have hlen := hfit.length
      have hln := hl _ (List.getElem_mem hk)
      simp only [execOp, e1, Sem.run_bind]
      rw [Nat.add_zero, run_loadN (n := n) (vs := (vs.drop (k * n)).take n) (by rw [hlen, hln]) (fun j u ej => by
        rw [cell_of_row w b' _ _ _ _ hb]
        rw [List.getElem?_take] at ej
        split at ej
        · rw [List.getElem?_drop, ← htake, List.getElem?_take, if_pos (by omega)] at ej
          simpa using ej
        · cases ej)]
      rfl
theorem lt_storeRN {α : Type} {x y : Operand} {t e : TypeId} {n k : Nat} [hs : TySz P t n] {v : Value} {f : α → List AV} {xs : List α} {x' : α} [hO : OneF f] (hx : opv rs x = some (.rat v n k 0)) (hy : opv rs y = some (.agg (f x'))) (hk : k < xs.length) (hlx : (f x').length = n) :
    LT P ⟨d, .store t x y, ty, pos, af, g⟩ rs [.row v e n f xs] (Is (.val undef) [.row v e n f (xs.set k x')]) :=
  LT_eff (fun _ e => by cases e) fun a w G F hR hI => by
    obtain ⟨F1, F2, ep, hrow, h2⟩ := hI.hs
    have h2' : F2 = [] := h2
    subst h2'
    obtain ⟨b', len, cap', ev, e1⟩ : (AV.rat v n k 0).P G (a.eval x) := opv_ok hR hx
    rcases row_val hrow with ⟨_, rfl⟩ | ⟨b, cap, cur, vs, ev', hnc, hF1, hb, hcs, hl, hf, htake, hone, hcm⟩
    · exact absurd hk (Nat.not_lt_zero _)
    · rw [ev] at ev'
      simp only [Value.slice.injEq, Option.some.injEq, Addr.mk.injEq] at ev'
      obtain ⟨⟨rfl, _⟩, rfl, rfl⟩ := ev'
      subst hF1
      have hF : F = [b'] := List.perm_singleton.1 (by simpa using ep)
      subst hF
      obtain ⟨us, hue, huf⟩ : (AV.agg (f x')).P G (a.eval y) := opv_ok hR hy
      have hul : us.length = n := huf.length.trans hlx
      have huo : ∀ q ∈ us, q.oneCell' = true := fits_one (hO.out x') huf
      have hg := (hI.own b' (by simp)).2
      have hlt : k * n + n ≤ xs.length * n := by
        calc k * n + n = (k + 1) * n := (Nat.succ_mul k n).symm
          _ ≤ xs.length * n := Nat.mul_le_mul_right n hk
      have hlc : xs.length * n ≤ cap' * n := Nat.mul_le_mul_right n hnc
      have hcl : cur.toList.length = cap' * n := by simpa using hcs
      let cur' : Array Value := (cur.toList.take (k * n) ++ us ++ cur.toList.drop (k * n + us.length)).toArray
      obtain ⟨f1, f2⟩ := fr_setRow hI.gin hg cur'
      have hvl : vs.length = xs.length * n := by rw [hf.length, lenL hl]
      have hl' : ∀ y ∈ xs.set k x', (f y).length = n := fun y hy => by
        rcases List.mem_or_eq_of_mem_set hy with h | rfl
        · exact hl y h
        · exact hlx
      refine ⟨_, w.setRow b' cur', undef, _, _, G, [b'], ?_, .inr ⟨rfl, rfl⟩, ⟨rfl, rfl⟩, f1, ⟨f2, by simp, fun q hq => ?_, [b'], [], by simp, ⟨vs.take (k * n) ++ us ++ vs.drop (k * n + us.length), by rw [ev]; rfl, hl', ?_, ?_, ?_⟩, rfl⟩, rfl⟩
      · have hst := run_storeCells_at P b' (k * n) e us 0 cur w hb (by rw [Nat.add_zero, hul, hcs]; omega) huo
        simp only [Nat.add_zero] at hst
        have hc : us.toArray.size = n := by simpa using hul
        simp only [execOp, e1, Instr.storeAt, Instr.sureAddr, storeVar, Sem.run_bind, Sem.run_pure, Result.andThen_ok, hue, Value.cells, hs.size w, Nat.add_zero]
        simp [hc, hst, cur']
      · rw [List.mem_singleton] at hq; subst hq; simp only [setRow_size]; exact hI.own _ (by simp)
      · rw [flat_setN hl k hk hlx, hul]
        exact ((hf.take (k * n)).append huf).append (hf.drop _)
      · intro q hq
        rcases List.mem_append.1 hq with hq | hq
        · rcases List.mem_append.1 hq with hq | hq
          · exact hone q (List.mem_of_mem_take hq)
          · exact huo q hq
        · exact hone q (List.mem_of_mem_drop hq)
      · rw [ev]
        have hsz : (vs.take (k * n) ++ us ++ vs.drop (k * n + us.length)).length = xs.length * n := by
          simp only [List.length_append, List.length_take, List.length_drop]; omega
        refine ⟨by rw [hsz, List.length_set], .inr ⟨b', cap', cur', by rw [List.length_set], Nat.zero_le _, setRow_heap w b' _ _ e _ hb, by rw [List.length_set]; exact hnc, hcm, ?_, ?_⟩⟩
        · simp only [cur', List.size_toArray, List.length_append, List.length_take, List.length_drop]; omega
        · rw [List.length_set]
          simp only [cur']
          rw [← htake]
          exact take_mid (by rw [hul]; omega) (by omega)
theorem lt_fieldRat {x : Operand} {t : TypeId} {fd off : Nat} [h : TyF P t fd off] {v : Value} {n k j j' : Nat} (hx : opv rs x = some (.rat v n k j)) (hj : j + off = j') : LT P ⟨d, .fieldAddr t x fd, ty, pos, af, g⟩ rs [] (Is (.rat v n k j') []) :=
  LT_val (fun _ e => by cases e) fun a w G hR hG => by
    obtain ⟨b, len, cap, ev, e1⟩ : (AV.rat v n k j).P G (a.eval x) := opv_ok hR hx
    refine ⟨.pointer (some ⟨b, k * n + j', none⟩), ⟨b, len, cap, ev, rfl⟩, ?_⟩
    simp only [execOp, e1, Sem.run_bind]
    rw [h.run, add_plain, Nat.add_assoc, hj]
    rfl
theorem ltr_loadRN {α : Type} {x : Operand} {t e : TypeId} {n kk : Nat} [TyN P t n] {v : Value} {f : α → List AV} {xs : List α} {h : HA → List HA} (hx : opv rs x = some (.rat v n kk 0)) (hat : At hsR (.row v e n f xs) h) {y : α} (hk : xs[kk]? = some y) : LTr P ⟨d, .load t x, ty, pos, af, g⟩ rs hsR [] (Is (.agg (f y)) []) := by
  obtain ⟨hl, rfl⟩ := List.getElem?_eq_some_iff.1 hk
  exact ltr_rd (lt_loadRN hx hl) hat
end
section
variable {c : Cx} {rs : List (Nat × AV)} {hs : List HA} {Q : Exit → S → Prop} {ops : Array Oper} {tl : List Oper} {d : Nat} {ty : TypeId} {pos : String} {af : Array Edge}
theorem wl_loadRN {α : Type} {x : Operand} {t e : TypeId} {n kk : Nat} [TyN c.P t n] {v : Value} {f : α → List AV} {xs : List α} {g : HA → List HA} (hx : opv rs x = some (.rat v n kk 0)) (hat : At hs (.row v e n f xs) g) (hk : kk < xs.length) (hd : Nat.blt d c.nt = true) (k : WL c ops tl ⟨(d, .agg (f xs[kk])) :: rs, hs⟩ Q) : WL c ops (⟨some d, .load t x, ty, pos, af, none⟩ :: tl) ⟨rs, hs⟩ Q := wl_rd (lt_loadRN hx hk) hat hd k
theorem wl_storeRN {α : Type} {x y : Operand} {t e : TypeId} {n kk : Nat} [TySz c.P t n] {v : Value} {f : α → List AV} {xs : List α} {x' : α} {g : HA → List HA} (hx : opv rs x = some (.rat v n kk 0)) (hat : At hs (.row v e n f xs) g) (hy : opv rs y = some (.agg (f x'))) (hO : OneF f) (hk : kk < xs.length) (hl : (f x').length = n) (k : WL c ops tl ⟨rs, g (.row v e n f (xs.set kk x'))⟩ Q) : WL c ops (⟨none, .store t x y, ty, pos, af, none⟩ :: tl) ⟨rs, hs⟩ Q := wl_at0 (lt_storeRN hx hy hk hl) hat k
theorem wl_fieldRat {x : Operand} {t : TypeId} {fd off : Nat} [TyF c.P t fd off] {v : Value} {n kk j j' : Nat} (hx : opv rs x = some (.rat v n kk j)) (hj : j + off = j') (hd : Nat.blt d c.nt = true) (k : WL c ops tl ⟨(d, .rat v n kk j') :: rs, hs⟩ Q) : WL c ops (⟨some d, .fieldAddr t x fd, ty, pos, af, none⟩ :: tl) ⟨rs, hs⟩ Q := wl_ex (lt_fieldRat hx hj) hd k
end
end Go.Proofs.YtbkellknlcageaaDoor.Sw
/- What is owned may be lent as if it were frozen, for a call that only reads it. -/
namespace Go.Proofs.YtbkellknlcageaaDoor.Sw
open Go.RowKit Go
/-- All these blocks frozen, too. -/
def gall (G : Nat → Option Obj) (F : List Nat) (w : World) : Nat → Option Obj := fun b => if b ∈ F then w.heap[b]? else G b
theorem gall_le {G : Nat → Option Obj} {F : List Nat} {w : World} (h : ∀ b ∈ F, G b = none) : Gle G (gall G F w) := fun b o e => by
  unfold gall
  rw [if_neg (fun hb => by rw [h b hb] at e; cases e)]; exact e
theorem gall_in {G : Nat → Option Obj} {F : List Nat} {w : World} (h : Gin G w) : Gin (gall G F w) w := fun b o e => by
  unfold gall at e
  split at e
  · exact e
  · exact h b o e
theorem row_view {α β : Type} {G : Nat → Option Obj} {F F1 : List Nat} {w : World} {v : Value} {e : TypeId} {n : Nat} {f : α → List AV} {f' : β → List AV} {xs : List α} {ys : List β} (h : (HA.row v e n f xs).P G F1 w) (hsub : ∀ b ∈ F1, b ∈ F) (hlen : ys.length = xs.length)
    (hv : ∀ i (h1 : i < xs.length) (h2 : i < ys.length) (j : Nat) (av' : AV), (f' ys[i])[j]? = some av' → ∃ av : AV, (f xs[i])[j]? = some av ∧ ∀ u, av.P G u → av'.P (gall G F w) u) : (AV.sl n f' ys).P (gall G F w) v := by
  rcases row_val h with ⟨rfl, rfl⟩ | ⟨b, cap, cur, vs, rfl, hnc, hF1, hb, hcs, hl, hf, htake, _⟩
  · exact ⟨none, 0, by rw [hlen]; rfl, by rw [hlen]; exact Nat.le_refl _, fun i hi => by rw [hlen] at hi; exact absurd hi (Nat.not_lt_zero _)⟩
  · refine ⟨some ⟨b, 0, none⟩, cap, by rw [hlen], by rw [hlen]; exact hnc, fun i hi => ⟨b, 0, rfl, fun j av' ej => ?_⟩⟩
    have hi' : i < xs.length := by omega
    obtain ⟨av, e1, e2⟩ := hv i hi' hi j av' ej
    have hjn : j < n := by
      have := (List.getElem?_eq_some_iff.1 e1).1
      rwa [hl _ (List.getElem_mem hi')] at this
    obtain ⟨u, hu, hp⟩ := hf.get (i := i * n + j) (av := av) (by rw [flat_get hl i hi' j hjn]; exact e1)
    refine ⟨u, ?_, e2 u hp⟩
    have hlt : i * n + j < xs.length * n := by
      calc i * n + j < i * n + n := by omega
        _ = (i + 1) * n := (Nat.succ_mul i n).symm
        _ ≤ xs.length * n := Nat.mul_le_mul_right n hi'
    have hbF : b ∈ F := hsub b (by rw [hF1]; simp)
    unfold cellG gall
    rw [if_pos hbF, hb]
    simp only [Nat.zero_add]
    rw [← htake, List.getElem?_take, if_pos hlt] at hu
    simpa using hu
/-- An own slice as a frozen one. -/
theorem row_view1 {α : Type} {G : Nat → Option Obj} {F F1 : List Nat} {w : World} {v : Value} {e : TypeId} {n : Nat} {f : α → List AV} {xs : List α} (h : (HA.row v e n f xs).P G F1 w) (hsub : ∀ b ∈ F1, b ∈ F) (hle : Gle G (gall G F w)) : (AV.sl n f xs).P (gall G F w) v :=
  row_view h hsub rfl fun i h1 h2 j av' ej => ⟨av', ej, fun u hu => av'.mono hle hu⟩
/-- With these things owned, a value reads so if they are taken for frozen. -/
structure Thaw (h : HA) (av av' : AV) : Prop where
  out : ∀ (G : Nat → Option Obj) (F : List Nat) (w : World), h.P G F w → Gle G (gall G F w) → ∀ v, av.P G v → av'.P (gall G F w) v
/-- Things that own no block. -/
structure Pers (hs : List HA) : Prop where
  out : ∀ G F w, hsP hs G F w → F = []
theorem Pers.nil : Pers [] := ⟨fun _ _ _ h => h⟩
theorem Pers.cons {h : HA} {t : List HA} (h1 : ∀ G F w, h.P G F w → F = []) (k : Pers t) : Pers (h :: t) := ⟨fun G F w ⟨F1, F2, e, a, b⟩ => by
  have := h1 _ _ _ a; have := k.out _ _ _ b; subst_vars; simpa using e⟩
theorem Pers.glob {g : Nat} {cs : List AV} {t : List HA} (k : Pers t) : Pers (.glob g cs :: t) := .cons (fun _ _ _ h => h.1) k
theorem lt_borrow {P : Program} {o : Oper} {rs : List (Nat × AV)} {h : HA} {pers : List HA} {i : Nat} {av av' : AV} {cv : Value} (hl : look rs i = some av) (ht : Thaw h av av') (hp : Pers pers) (k : LT P o ((i, av') :: rs) pers (Is (.val cv) pers)) : LT P o rs (h :: pers) (Is (.val cv) (h :: pers)) := by
  refine ⟨?_⟩
  intro F n hF a w G Fp K Q hR hI hk
  obtain ⟨F1, F2, ep, hh, hps⟩ := hI.hs
  have h2 := hp.out _ _ _ hps
  subst h2
  rw [List.append_nil] at ep
  have hm : ∀ b, b ∈ F1 ↔ b ∈ Fp := fun b => ep.mem_iff.symm
  have hle : Gle G (gall G F1 w) := gall_le fun b hb => (hI.own b ((hm b).1 hb)).2
  have hle3 : ∀ {G2}, Gle (gall G F1 w) G2 → Gle G (fun b => if b ∈ F1 then none else G2 b) := fun {G2} h2 b o e => by
    have hb : b ∉ F1 := fun hb => by rw [(hI.own b ((hm b).1 hb)).2] at e; cases e
    show (if b ∈ F1 then none else G2 b) = some o
    rw [if_neg hb]; exact h2 b o (hle b o e)
  refine k.go F n hF a w (gall G F1 w) [] K Q (fun j u e => ?_) ⟨gall_in hI.gin, List.nodup_nil, fun _ hb => (by cases hb), hps.mono hle⟩ fun v x prod G2 F2' w' ⟨e1, e2⟩ hfr hi hv => ?_
  · simp only [look] at e
    cases hb : Nat.beq i j with
    | true =>
      rw [hb] at e
      obtain rfl := Nat.eq_of_beq_eq_true hb
      simp only [cond_true, Option.some.injEq] at e
      subst e
      exact ht.out G F1 w hh hle _ (hR _ _ hl)
    | false => rw [hb] at e; exact AV.mono _ hle (hR j u (by simpa using e))
  · subst e1 e2
    have hF2 := hp.out _ _ _ hi.hs
    subst hF2
    have hsame : ∀ b ∈ F1, w'.heap[b]? = w.heap[b]? := fun b hb => by
      have hlt := (hI.own b ((hm b).1 hb)).1
      have : gall G F1 w b = some w.heap[b] := by unfold gall; rw [if_pos hb, Array.getElem?_eq_getElem hlt]
      rw [hi.gin b _ (hfr.gle b _ this), Array.getElem?_eq_getElem hlt]
    refine hk v _ _ (fun b => if b ∈ F1 then none else G2 b) Fp w' ⟨rfl, rfl⟩ ⟨hfr.os, hfr.tape, hfr.output, hfr.size, fun b hb _ => hfr.same b hb (by simp), fun b hb => .inl hb, hle3 hfr.gle, fun b o e => ?_⟩ ⟨fun b o e => ?_, hI.nd, fun b hb => ⟨Nat.lt_of_lt_of_le (hI.own b hb).1 hfr.size, if_pos ((hm b).2 hb)⟩, F1, [], by rw [List.append_nil]; exact ep, HA.mono _ (hle3 hfr.gle) (HA.loc _ hsame hh), (hps.mono (hle3 hfr.gle)).loc fun b hb => (by cases hb)⟩ hv
    · split at e
      · cases e
      · rename_i hb
        rcases hfr.newG b o e with h | h | h
        · unfold gall at h; rw [if_neg hb] at h; exact .inl h
        · cases h
        · exact .inr (.inr h)
    · split at e
      · cases e
      · exact hi.gin b o e
theorem wl_borrow {c : Cx} {rs : List (Nat × AV)} {hs pers r : List HA} {Q : Exit → S → Prop} {ops : Array Oper} {tl : List Oper} {d : Nat} {ty : TypeId} {pos : String} {af : Array Edge} {k : FuncId} {xs : List Operand} {ts : Array TypeId} {avs : List AV} {h : HA} {av av' : AV} {cv : Value} (i : Nat) (ht : Thaw h av av') (hc : Con c.P k avs pers (Is (.val cv) pers)) (hl : look rs i = some av) (hx : opvs ((i, av') :: rs) xs = some avs) (hcut : Cut hs (h :: pers) r) (hp : Pers pers) (hd : Nat.blt d c.nt = true) (kk : WL c ops tl ⟨(d, .val cv) :: rs, h :: (pers ++ r)⟩ Q) : WL c ops (⟨some d, .call { callee := .value (.func k), args := xs.toArray, argTypes := ts }, ty, pos, af, none⟩ :: tl) ⟨rs, hs⟩ Q :=
  WL_lt (cons := h :: pers) (rest := r) hd rfl (fun _ _ _ hh => hcut.sel hh) (lt_borrow hl ht hp (lt_call hx hc)) fun av pr ⟨e1, e2⟩ => by subst e1; subst e2; exact kk
/-- Something that is so. -/
def HA.fact (p : Prop) : HA := ⟨fun _ F _ => F = [] ∧ p, fun _ h => h, fun _ h => h⟩
theorem hsP.fact {p : Prop} {t : List HA} {G : Nat → Option Obj} {F : List Nat} {w : World} : hsP (.fact p :: t) G F w ↔ p ∧ hsP t G F w :=
  ⟨fun ⟨_, _, e, ⟨e1, h⟩, k⟩ => by subst e1; exact ⟨h, k.perm (by simpa using e)⟩, fun ⟨h, k⟩ => ⟨[], F, .refl _, ⟨rfl, h⟩, k⟩⟩
/-- What is owned, opened. -/
theorem W_exs {c : Cx} {rs : List (Nat × AV)} {hs r : List HA} {Q : Exit → S → Prop} {x : Code} {σ : Type} {h : σ → List HA} (hr : Rm hs (.exs h) r) (k : ∀ s, W c x ⟨rs, h s ++ r⟩ Q) : W c x ⟨rs, hs⟩ Q := ⟨fun a w st => by
  obtain ⟨G, F, hI, rr⟩ := st
  obtain ⟨F1, F2, e, ⟨s, h1⟩, h2⟩ := hr.sel hI.hs
  exact (k s).out a w ⟨G, F, ⟨hI.gin, hI.nd, hI.own, (hsP.append h1 h2).perm e⟩, rr⟩⟩
theorem WL_exs {c : Cx} {rs : List (Nat × AV)} {hs r : List HA} {Q : Exit → S → Prop} {ops : Array Oper} {l : List Oper} {σ : Type} {h : σ → List HA} (hr : Rm hs (.exs h) r) (k : ∀ s, WL c ops l ⟨rs, h s ++ r⟩ Q) : WL c ops l ⟨rs, hs⟩ Q := ⟨fun a w st => by
  obtain ⟨G, F, hI, rr⟩ := st
  obtain ⟨F1, F2, e, ⟨s, h1⟩, h2⟩ := hr.sel hI.hs
  exact (k s).out a w ⟨G, F, ⟨hI.gin, hI.nd, hI.own, (hsP.append h1 h2).perm e⟩, rr⟩⟩
theorem W_fact {c : Cx} {rs : List (Nat × AV)} {hs r : List HA} {Q : Exit → S → Prop} {x : Code} {p : Prop} (hr : Rm hs (.fact p) r) (k : p → W c x ⟨rs, r⟩ Q) : W c x ⟨rs, hs⟩ Q := ⟨fun a w st => by
  obtain ⟨G, F, hI, rr⟩ := st
  have := hsP.fact.1 (hr.sel hI.hs)
  exact (k this.1).out a w ⟨G, F, ⟨hI.gin, hI.nd, hI.own, this.2⟩, rr⟩⟩
end Go.Proofs.YtbkellknlcageaaDoor.Sw
/- A slice against nil; rows by another word; results of several cells, beside what is kept. -/
namespace Go.Proofs.YtbkellknlcageaaDoor.Sw
open Go.RowKit Go
section
variable {P : Program} {rs : List (Nat × AV)} {d : Option Nat} {ty : TypeId} {pos : String} {af : Array Edge} {g : Option (Nat × Bool)}
theorem lt_eqlNil {α : Type} {x : Operand} {t t' e : TypeId} {n m : Nat} (hT : TyS P t e m) {f : α → List AV} {xs : List α} (hx : opv rs x = some (.sl n f xs)) : LT P ⟨d, .binOp .eql t x (.const (.slice none 0 0)) t', ty, pos, af, g⟩ rs [] (fun av y => ∃ b : Bool, av = .val (.bool b) ∧ y = [] ∧ (b = true → xs = [])) :=
  LT_eff (fun _ e => by cases e) fun a w G F hR hI => by
    obtain ⟨p, cap, e1, hc, hs⟩ : (AV.sl n f xs).P G (a.eval x) := opv_ok hR hx
    refine ⟨.value (.bool p.isNone), w, .bool p.isNone, _, [], G, F, ?_, .inl rfl, ⟨p.isNone, rfl, rfl, fun hb => ?_⟩, Fr.refl _ _ _, hI, rfl⟩
    · simp only [execOp, e1]
      have h1 : (eqGuard .eql t x (.const (.slice none 0 0)) (.slice p xs.length cap) (a.eval (.const (.slice none 0 0)))).run P w = .ok () w := by simp [eqGuard, Act.eval, go_sem]
      have h2 : (binOp .eql t (.slice p xs.length cap) (a.eval (.const (.slice none 0 0)))).run P w = .ok (.bool p.isNone) w := run_eql_slice_nil w t e p _ _ hT.und
      simp only [Sem.run_bind, h1, h2, Result.andThen_ok]
      rfl
    · cases xs with
      | nil => rfl
      | cons y ys =>
        obtain ⟨b, o, e2, _⟩ := hs 0 (by simp)
        rw [e2] at hb; cases hb
end
section
variable {c : Cx} {rs : List (Nat × AV)} {hs : List HA} {Q : Exit → S → Prop} {ops : Array Oper} {tl : List Oper} {d : Nat} {ty : TypeId} {pos : String} {af : Array Edge}
theorem wl_eqlNil {α : Type} {x : Operand} {t t' e : TypeId} {n m : Nat} {f : α → List AV} {xs : List α} (hx : opv rs x = some (.sl n f xs)) (hT : TyS c.P t e m) (hd : Nat.blt d c.nt = true) (k : ∀ b : Bool, (b = true → xs = []) → WL c ops tl ⟨(d, .val (.bool b)) :: rs, hs⟩ Q) : WL c ops (⟨some d, .binOp .eql t x (.const (.slice none 0 0)) t', ty, pos, af, none⟩ :: tl) ⟨rs, hs⟩ Q :=
  WL_lt (cons := []) (rest := hs) hd rfl (fun _ _ _ h => h) (lt_eqlNil hT hx) fun av pr ⟨b, e1, e2, hb⟩ => by subst e1; subst e2; exact k b hb
end
theorem HA.ext' {a b : HA} (h : a.P = b.P) : a = b := by
  cases a; cases b; cases h; rfl
/-- A row by another word for its elements. -/
theorem row_map {α β : Type} {v : Value} {e : TypeId} {n : Nat} {f : β → List AV} {g : α → β} {xs : List α} : HA.row v e n f (xs.map g) = HA.row v e n (fun x => f (g x)) xs := by
  refine HA.ext' ?_
  funext G F w
  simp only [HA.row, List.length_map, List.flatMap_map, List.forall_mem_map]
/-- Several results, the first of several cells, beside what is kept. -/
theorem resKN {P : Program} {fn : Func} {x : Tmp} {t tb : TypeId} {n : Nat} {post : AV → List HA → Prop} {rs : List (Nat × AV)} {hs kept r : List HA} {p : Value} {cs : List AV} {f : HA → List HA} (hr : fn.results = #[.cell x t]) (hx : look rs x = some (.val p)) (hat : At hs (.box p cs tb) f) (hT : TyN P t n) (hn : cs.length = n) (hp : post (.agg cs) kept) (hcut : Cut hs kept r) : Res P fn post ⟨rs, hs⟩ := by
  refine ⟨_, kept, hp, fun a w G F hR hI => ?_⟩
  obtain ⟨rest, hs'⟩ := hat.sel
  obtain ⟨F1, F2, e, ⟨b, vs, hpb, hF1, hf, hb⟩, h2⟩ := (hs' _ _ _ _).1 (by rw [hat.self]; exact hI.hs)
  obtain ⟨F3, h1, h2⟩ := inv_keep (rest := r) ⟨hI.gin, hI.nd, hI.own, hcut.sel hI.hs⟩
  refine ⟨.agg vs.toArray, G, F3, ?_, h2, h1, ⟨vs, rfl, hf⟩⟩
  have hxv : a.tmps.getD x undef = p := hR _ _ hx
  rw [Array.getD_eq_getD_getElem?] at hxv
  have h1 := run_loadN (P := P) (t := t) (n := n) (w := w) (b := b) (j := 0) (vs := vs) (by rw [hf.length, hn]) (fun k u e => by rw [cell_of_row w b _ _ _ _ hb]; simpa using e)
  simp only [Instr.loadAt, Instr.sureAddr, Sem.run_bind, Sem.run_pure, Result.andThen_ok] at h1
  simp [results, hr, hxv, hpb, asAddr, h1]
theorem resKN1 {P : Program} {fn : Func} {x u : Tmp} {t tb : TypeId} {n : Nat} {post : AV → List HA → Prop} {rs : List (Nat × AV)} {hs kept r : List HA} {p : Value} {cs : List AV} {bv : AV} {f : HA → List HA} (hr : fn.results = #[.cell x t, .tmp u]) (hx : look rs x = some (.val p)) (hat : At hs (.box p cs tb) f) (hT : TyN P t n) (hn : cs.length = n) (hl2 : look rs u = some bv) (hp : post (.tup [.agg cs, bv]) kept) (hcut : Cut hs kept r) : Res P fn post ⟨rs, hs⟩ := by
  refine ⟨_, kept, hp, fun a w G F hR hI => ?_⟩
  obtain ⟨rest, hs'⟩ := hat.sel
  obtain ⟨F1, F2, e, ⟨b, vs, hpb, hF1, hf, hb⟩, h2⟩ := (hs' _ _ _ _).1 (by rw [hat.self]; exact hI.hs)
  obtain ⟨F3, h1, h2⟩ := inv_keep (rest := r) ⟨hI.gin, hI.nd, hI.own, hcut.sel hI.hs⟩
  refine ⟨.tuple #[.agg vs.toArray, a.tmps.getD u undef], G, F3, ?_, h2, h1, ⟨[.agg vs.toArray, _], rfl, ⟨vs, rfl, hf⟩, hR _ _ hl2, trivial⟩⟩
  have hxv : a.tmps.getD x undef = p := hR _ _ hx
  rw [Array.getD_eq_getD_getElem?] at hxv
  have h1 := run_loadN (P := P) (t := t) (n := n) (w := w) (b := b) (j := 0) (vs := vs) (by rw [hf.length, hn]) (fun k u e => by rw [cell_of_row w b _ _ _ _ hb]; simpa using e)
  simp only [Instr.loadAt, Instr.sureAddr, Sem.run_bind, Sem.run_pure, Result.andThen_ok] at h1
  simp [results, hr, hxv, hpb, asAddr, h1]
/-- nil, as an own slice without elements. -/
theorem Res_row0 {α : Type} {P : Program} {fn : Func} {post : AV → List HA → Prop} {rs : List (Nat × AV)} {hs : List HA} (e : TypeId) (n : Nat) (f : α → List AV) (k : Res P fn post ⟨rs, .row (.slice none 0 0) e n f [] :: hs⟩) : Res P fn post ⟨rs, hs⟩ := by
  obtain ⟨av, prod, hp, h⟩ := k
  exact ⟨av, prod, hp, fun a w G F hR hI => h a w G F hR ⟨hI.gin, hI.nd, hI.own, [], F, .refl _, ⟨[], rfl, fun _ h => (by cases h), trivial, fun _ h => (by cases h), ⟨by simp, .inl ⟨rfl, rfl⟩⟩⟩, hI.hs⟩⟩
/-- Things put together, and apart. -/
theorem st_pack0 {c : Cx} {rs : List (Nat × AV)} {hs : List HA} {a : Act} {w : World} (st : St c ⟨rs, hs⟩ a w) : St c ⟨rs, .pack [] :: hs⟩ a w := by
  obtain ⟨G, F, hI, r⟩ := st
  exact ⟨G, F, ⟨hI.gin, hI.nd, hI.own, [], F, .refl _, rfl, hI.hs⟩, r⟩
theorem st_snoc {c : Cx} {rs : List (Nat × AV)} {hs r r' l : List HA} {h : HA} {a : Act} {w : World} (hr : Rm hs (.pack l) r) (hr2 : Rm r h r') (st : St c ⟨rs, hs⟩ a w) : St c ⟨rs, .pack (l ++ [h]) :: r'⟩ a w := by
  obtain ⟨G, F, hI, rr⟩ := st
  refine ⟨G, F, ⟨hI.gin, hI.nd, hI.own, ?_⟩, rr⟩
  obtain ⟨A, B, e, hA, hB⟩ := hr.sel hI.hs
  obtain ⟨C, D, e2, hC, hD⟩ := hr2.sel hB
  exact ⟨A ++ C, D, e.trans ((e2.append_left A).trans (by rw [List.append_assoc])), hsP.append hA (show hsP [h] G C w from ⟨C, [], by simp, hC, rfl⟩), hD⟩
theorem W_snoc {c : Cx} {rs : List (Nat × AV)} {hs r r' l : List HA} {h : HA} {Q : Exit → S → Prop} {x : Code} (hr : Rm hs (.pack l) r) (hr2 : Rm r h r') (k : W c x ⟨rs, .pack (l ++ [h]) :: r'⟩ Q) : W c x ⟨rs, hs⟩ Q := ⟨fun a w st => k.out a w (st_snoc hr hr2 st)⟩
theorem WL_snoc {c : Cx} {rs : List (Nat × AV)} {hs r r' l : List HA} {h : HA} {Q : Exit → S → Prop} {ops : Array Oper} {tl : List Oper} (hr : Rm hs (.pack l) r) (hr2 : Rm r h r') (k : WL c ops tl ⟨rs, .pack (l ++ [h]) :: r'⟩ Q) : WL c ops tl ⟨rs, hs⟩ Q := ⟨fun a w st => k.out a w (st_snoc hr hr2 st)⟩
theorem st_exs {c : Cx} {rs : List (Nat × AV)} {hs r : List HA} {σ : Type} {h : σ → List HA} (s : σ) {a : Act} {w : World} (hc : Cut hs (h s) r) (st : St c ⟨rs, hs⟩ a w) : St c ⟨rs, .exs h :: r⟩ a w := by
  obtain ⟨G, F, hI, rr⟩ := st
  refine ⟨G, F, ⟨hI.gin, hI.nd, hI.own, ?_⟩, rr⟩
  obtain ⟨A, B, e, hA, hB⟩ := hsP.split (hc.sel hI.hs)
  exact ⟨A, B, e, ⟨s, hA⟩, hB⟩
theorem W_mkExs {c : Cx} {rs : List (Nat × AV)} {hs r : List HA} {Q : Exit → S → Prop} {x : Code} {σ : Type} {h : σ → List HA} (s : σ) (hc : Cut hs (h s) r) (k : W c x ⟨rs, .exs h :: r⟩ Q) : W c x ⟨rs, hs⟩ Q := ⟨fun a w st => k.out a w (st_exs s hc st)⟩
theorem WL_mkExs {c : Cx} {rs : List (Nat × AV)} {hs r : List HA} {Q : Exit → S → Prop} {ops : Array Oper} {tl : List Oper} {σ : Type} {h : σ → List HA} (s : σ) (hc : Cut hs (h s) r) (k : WL c ops tl ⟨rs, .exs h :: r⟩ Q) : WL c ops tl ⟨rs, hs⟩ Q := ⟨fun a w st => k.out a w (st_exs s hc st)⟩
theorem st_fact {c : Cx} {rs : List (Nat × AV)} {hs : List HA} {p : Prop} (hp : p) {a : Act} {w : World} (st : St c ⟨rs, hs⟩ a w) : St c ⟨rs, .fact p :: hs⟩ a w := by
  obtain ⟨G, F, hI, rr⟩ := st
  exact ⟨G, F, ⟨hI.gin, hI.nd, hI.own, hsP.fact.2 ⟨hp, hI.hs⟩⟩, rr⟩
theorem W_mkFact {c : Cx} {rs : List (Nat × AV)} {hs : List HA} {Q : Exit → S → Prop} {x : Code} {p : Prop} (hp : p) (k : W c x ⟨rs, .fact p :: hs⟩ Q) : W c x ⟨rs, hs⟩ Q := ⟨fun a w st => k.out a w (st_fact hp st)⟩
theorem WL_mkFact {c : Cx} {rs : List (Nat × AV)} {hs : List HA} {Q : Exit → S → Prop} {ops : Array Oper} {tl : List Oper} {p : Prop} (hp : p) (k : WL c ops tl ⟨rs, .fact p :: hs⟩ Q) : WL c ops tl ⟨rs, hs⟩ Q := ⟨fun a w st => k.out a w (st_fact hp st)⟩
theorem wl_storeRx {α : Type} {c : Cx} {rs : List (Nat × AV)} {hs : List HA} {Q : Exit → S → Prop} {ops : Array Oper} {tl : List Oper} {ty : TypeId} {pos : String} {af : Array Edge} {x y : Operand} {t e : TypeId} {n kk j : Nat} {v : Value} {f : α → List AV} {xs : List α} {av : AV} (x' : α) {g : HA → List HA} (hx : opv rs x = some (.rat v n kk j)) (hat : At hs (.row v e n f xs) g) (hy : opv rs y = some av) (hS : TySz c.P t 1) (ho : One av) (hk : kk < xs.length) (hj : j < n) (hf' : f x' = (f xs[kk]).set j av) (k : WL c ops tl ⟨rs, g (.row v e n f (xs.set kk x'))⟩ Q) : WL c ops (⟨none, .store t x y, ty, pos, af, none⟩ :: tl) ⟨rs, hs⟩ Q := wl_at0 (lt_storeR1 hx hy hk hj hf') hat k
theorem wl_storeRNx {α : Type} {c : Cx} {rs : List (Nat × AV)} {hs : List HA} {Q : Exit → S → Prop} {ops : Array Oper} {tl : List Oper} {ty : TypeId} {pos : String} {af : Array Edge} {x y : Operand} {t e : TypeId} {n kk : Nat} {v : Value} {f : α → List AV} {xs : List α} (x' : α) {g : HA → List HA} (hx : opv rs x = some (.rat v n kk 0)) (hat : At hs (.row v e n f xs) g) (hy : opv rs y = some (.agg (f x'))) (hS : TySz c.P t n) (hO : OneF f) (hk : kk < xs.length) (hl : (f x').length = n) (k : WL c ops tl ⟨rs, g (.row v e n f (xs.set kk x'))⟩ Q) : WL c ops (⟨none, .store t x y, ty, pos, af, none⟩ :: tl) ⟨rs, hs⟩ Q := wl_at0 (lt_storeRN hx hy hk hl) hat k
end Go.Proofs.YtbkellknlcageaaDoor.Sw
