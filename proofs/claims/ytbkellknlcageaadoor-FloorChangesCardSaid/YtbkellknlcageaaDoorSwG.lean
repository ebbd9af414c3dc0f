/- A range over a function, in a walk over states: what an iterator promises, what a round does. -/
import Derived.Test.YtbkellknlcageaaDoorSwF
import Derived.RangeFuncBound
namespace Go.Proofs.YtbkellknlcageaaDoor.Sw
open Go.RowKit Go
/-- Several things that are owned, as one. -/
def HA.pack (l : List HA) : HA := ⟨fun G F w => hsP l G F w, fun h k => hsP.mono h k, fun h k => hsP.loc h k⟩
/-- Things that are owned, for some. -/
def HA.exs {σ : Type} (h : σ → List HA) : HA := ⟨fun G F w => ∃ s, hsP (h s) G F w, fun h ⟨s, k⟩ => ⟨s, hsP.mono h k⟩, fun h ⟨s, k⟩ => ⟨s, hsP.loc h k⟩⟩
theorem hsP.pack {G : Nat → Option Obj} {w : World} {l hs : List HA} {F : List Nat} : hsP (.pack l :: hs) G F w ↔ hsP (l ++ hs) G F w :=
  ⟨fun ⟨_, _, e, h1, h2⟩ => (hsP.append (show hsP l G _ w from h1) h2).perm e, fun h => let ⟨F1, F2, e, h1, h2⟩ := hsP.split h; ⟨F1, F2, e, h1, h2⟩⟩
/-- A call of yield, by what it is given and what it leaves. -/
structure Yield (P : Program) (v : Value) (args : List AV) (pre : List HA) (post : AV → List HA → Prop) : Prop where
  go : ∀ (G : Nat → Option Obj) (Fp : List Nat) (us : List Value) (w : World), Fits G args us → Inv G Fp pre w → ∃ l, v = .func (.yield l) #[] #[] ∧ ∀ (F : Fence) (n : Nat), Wd F →
    YieldAt F n P l us.toArray w fun e w' => ∃ v av prod G' F', e = .returned v ∧ post av prod ∧ Fr w w' Fp F' G G' ∧ Inv G' F' prod w' ∧ av.P G' v
theorem lt_yield {P : Program} {rs : List (Nat × AV)} {d : Option Nat} {ty : TypeId} {pos : String} {af : Array Edge} {g : Option (Nat × Bool)} {x : Operand} {y : Value} {xs : List Operand} {ts : Array TypeId} {avs : List AV} {pre : List HA} {post : AV → List HA → Prop} (hf : opv rs x = some (.val y)) (hx : opvs rs xs = some avs) (hc : Yield P y avs pre post) :
    LT P ⟨d, .call { callee := .value x, args := xs.toArray, argTypes := ts }, ty, pos, af, g⟩ rs pre post := by
  refine ⟨?_⟩
  intro F n hF a w G Fp K Q hR hI hk
  have e1 : a.eval x = y := opv_ok hR hf
  have hv := opvs_ok hR hx
  obtain ⟨l, rfl, hy⟩ := hc.go G Fp (xs.map a.eval) w hv hI
  obtain ⟨fn, tmps, assign, body, hr1, hr2⟩ := hy F (n - 1) hF
  unfold Oper.wpIn
  refine ⟨fun f _ => hF.fn f, ?_⟩
  rw [Oper.semAt_eq _ _ _ (fun _ e => by cases e)]
  have hr : (execOp a.eval ⟨d, .call { callee := .value x, args := xs.toArray, argTypes := ts }, ty, pos, af, g⟩).run P w = .ok (.round l fn tmps assign body) w := by
    simp [execOp, resolve, e1, Deferred.ofValue, invoke, hr1, Result.andThen]
  rw [hr]
  refine ⟨fun h => (by rw [hF.depth] at h; cases h), hr2.mono ?_⟩
  rintro e w' ⟨v, av, prod, G', F', rfl, hp, hfr, hi, hv⟩
  exact hk v av prod G' F' w' hp hfr hi hv
/-- An iterator that yields these, one after the other; what it shares with the rounds is handed over at each. -/
structure Iter {α : Type} (P : Program) (g : FuncId) (caps : List AV) (own : List HA) (f : α → List AV) (xs : List α) : Prop where
  con : ∀ (yv : Value) (β βx : Type) (H : β → List HA) (Hx : βx → List HA) (I : Nat → β → Prop) (Ix : Nat → βx → Prop), One (.val yv) →
    (∀ k (hk : k < xs.length) b, I k b → Yield P yv (f xs[k]) (own ++ [.pack (H b)]) fun av prod => (av = .val (.bool true) ∧ ∃ b', I (k + 1) b' ∧ prod = own ++ [.pack (H b')]) ∨ (av = .val (.bool false) ∧ ∃ b', Ix (k + 1) b' ∧ prod = own ++ [.pack (Hx b')])) →
    ∀ b0, I 0 b0 → Con P g (.val yv :: caps) (own ++ [.pack (H b0)]) fun _ prod => (∃ b, I xs.length b ∧ prod = own ++ [.pack (H b)]) ∨ ∃ k b, 0 < k ∧ k ≤ xs.length ∧ Ix k b ∧ prod = own ++ [.pack (Hx b)]

/-- What is known of the round that a walk is in. -/
def Rec (l : Nat) (w : World) (F : List Nat) (G : Nat → Option Obj) : Prop := l ∉ F ∧ G l = none ∧ ∃ r, w.heap[l]? = some (.loop r)
def codeOf : Exit → Code
  | .ret => .ret
  | .exit id => .exit id
  | _ => .skip
/-- What a round may end in. -/
def roundQ {β : Type} (c : Cx) (own : List HA) (H : β → List HA) (Hx : Exit → β → List HA) (N : β → Prop) (X : Exit → β → Prop) : Exit → S → Prop
  | .normal, s => ∃ b', N b' ∧ ∀ a w, St c s a w → St c ⟨[], own ++ H b'⟩ a w
  | .ret, s => ∃ b', X .ret b' ∧ ∀ a w, St c s a w → St c ⟨[], own ++ Hx .ret b'⟩ a w
  | .exit id, s => ∃ b', X (.exit id) b' ∧ ∀ a w, St c s a w → St c ⟨[], own ++ Hx (.exit id) b'⟩ a w
  | _, _ => False
def zipR : List Nat → List AV → List (Nat × AV) → List (Nat × AV)
  | p :: ps, x :: xs, rs => zipR ps xs ((p, x) :: rs)
  | _, _, rs => rs
theorem zip_ok {G : Nat → Option Obj} : ∀ {ps : List Nat} {avs : List AV} {us : List Value} {tm : Array Value} {rs : List (Nat × AV)} {ds : List Deferred}, Fits G avs us → ps.length = avs.length → (∀ p ∈ ps, p < tm.size) → RegOK rs G ⟨tm, ds⟩ →
    RegOK (zipR ps avs rs) G ⟨(ps.zip us).foldl (fun t (p, v) => t.setIfInBounds p v) tm, ds⟩ ∧ ((ps.zip us).foldl (fun t (p, v) => t.setIfInBounds p v) tm).size = tm.size
  | [], _, _, _, _, _, _, _, _, h => by simp [zipR]; exact h
  | p :: ps, [], _, _, _, _, _, e, _, _ => by cases e
  | p :: ps, av :: avs, [], _, _, _, hf, _, _, _ => hf.elim
  | p :: ps, av :: avs, u :: us, tm, rs, ds, hf, e, hp, h => by
    have h1 : RegOK ((p, av) :: rs) G ⟨tm.setIfInBounds p u, ds⟩ :=
      RegOK.put (a := ⟨tm, ds⟩) h (d := some p) rfl (by simp only [okD, Nat.blt_eq]; exact hp p (by simp)) hf.1
    obtain ⟨h2, h3⟩ := zip_ok (ps := ps) hf.2 (by simpa using e) (fun q hq => by simpa using hp q (by simp [hq])) h1
    exact ⟨h2, by rw [List.zip_cons_cons, List.foldl_cons, h3]; simp⟩
/-- A loop's record. -/
def HA.lrec (l : Nat) (r : Loop) : HA := ⟨fun _ F w => F = [l] ∧ w.heap[l]? = some (.loop r), fun _ h => h, fun h k => ⟨k.1, (h l (by rw [k.1]; simp)).trans k.2⟩⟩
def HA.regs (rs : List (Nat × AV)) (a : Act) : HA := ⟨fun G F _ => F = [] ∧ RegOK rs G a, fun h k => ⟨k.1, k.2.mono h⟩, fun _ k => k⟩
theorem Fr.put {w w' : World} {F F' : List Nat} {G G' : Nat → Option Obj} (h : Fr w w' F F' G G') {l : Nat} (o : Obj) (hl : l ∈ F ∨ w.heap.size ≤ l) : Fr w (w'.putObj l o) F F' G G' :=
  ⟨h.os, h.tape, h.output, by rw [World.putObj_size]; exact h.size, fun b hb hn => (World.putObj_heap_other (fun (e : b = l) => by subst e; rcases hl with hl | hl; exact hn hl; omega)).trans (h.same b hb hn), h.newF, h.gle, h.newG⟩
theorem Inv.put {w : World} {F : List Nat} {G : Nat → Option Obj} {hs : List HA} (h : Inv G F hs w) {l : Nat} (o : Obj) (hl : l ∉ F) (hg : G l = none) : Inv G F hs (w.putObj l o) :=
  ⟨fun b o' e => (World.putObj_heap_other (fun (e' : b = l) => by subst e'; rw [hg] at e; cases e)).trans (h.gin b o' e), h.nd, fun b hb => by rw [World.putObj_size]; exact h.own b hb, h.hs.loc fun b hb => World.putObj_heap_other fun e => hl (e ▸ hb)⟩
theorem Inv.drop {w : World} {F : List Nat} {G : Nat → Option Obj} {kept rest : List HA} (h : Inv G F (kept ++ rest) w) : ∃ F1 F2, F.Perm (F1 ++ F2) ∧ Inv G F1 kept w ∧ hsP rest G F2 w ∧ ∀ b ∈ F2, b ∉ F1 ∧ b ∈ F := by
  obtain ⟨F1, F2, e, h1, h2⟩ := hsP.split h.hs
  have nd := (e.nodup_iff).1 h.nd
  exact ⟨F1, F2, e, ⟨h.gin, (List.nodup_append.1 nd).1, fun b hb => h.own b (e.mem_iff.2 (by simp [hb])), h1⟩, h2, fun b hb => ⟨fun h1 => (List.nodup_append.1 nd).2.2 b h1 b hb rfl, e.mem_iff.2 (by simp [hb])⟩⟩
/-- The record beside what a round has. -/
theorem inv_rec {G : Nat → Option Obj} {F : List Nat} {w : World} {own H : List HA} {l : Nat} {r : Loop} {rs : List (Nat × AV)} {a : Act} :
    Inv G F (own ++ [.pack (.lrec l r :: .regs rs a :: H)]) w ↔ ∃ F1, F.Perm (l :: F1) ∧ Inv G F1 (own ++ H) w ∧ l ∉ F1 ∧ G l = none ∧ w.heap[l]? = some (.loop r) ∧ RegOK rs G a := by
  constructor
  · intro h
    have hp : hsP (own ++ [HA.pack (.lrec l r :: .regs rs a :: H)]) G F w := h.hs
    obtain ⟨A, B, e, h1, h2⟩ := hsP.split hp
    rw [hsP.pack, List.append_nil] at h2
    obtain ⟨B1, B2, e2, ⟨hB1, hr⟩, ⟨B3, B4, e3, ⟨hB3, hg⟩, h3⟩⟩ := h2
    subst hB1; subst hB3
    have e4 : F.Perm (l :: (A ++ B4)) := e.trans (((e2.trans (e3.append_left [l])).append_left A).trans (by simp))
    have nd := e4.nodup_iff.1 h.nd
    have nd' := List.nodup_cons.1 nd
    refine ⟨A ++ B4, e4, ⟨h.gin, nd'.2, fun b hb => h.own b (e4.mem_iff.2 (List.mem_cons_of_mem _ hb)), hsP.append h1 h3⟩, nd'.1, (h.own l (e4.mem_iff.2 (by simp))).2, hr, hg⟩
  · rintro ⟨F1, e, h, hl, hg, hr, hR⟩
    refine ⟨h.gin, e.nodup_iff.2 (List.nodup_cons.2 ⟨hl, h.nd⟩), fun b hb => ?_, ?_⟩
    · rcases List.mem_cons.1 (e.mem_iff.1 hb) with rfl | hb
      · exact ⟨(Array.getElem?_eq_some_iff.1 hr).1, hg⟩
      · exact h.own b hb
    · obtain ⟨A, B, e2, h1, h2⟩ := hsP.split h.hs
      have h3 : hsP [HA.pack (.lrec l r :: .regs rs a :: H)] G (l :: B) w := hsP.pack.2 (by
        rw [List.append_nil]
        exact ⟨[l], B, .refl _, ⟨rfl, hr⟩, [], B, .refl _, ⟨rfl, hR⟩, h2⟩)
      exact (hsP.append h1 h3).perm (e.trans ((e2.cons l).trans List.perm_middle.symm))
section
variable {c : Cx} {rs : List (Nat × AV)} {hs : List HA} {Q : Exit → S → Prop} {g : Operand} {ps : Array Tmp} {assign body : Code} {gf : FuncId} {caps : List AV} {own r : List HA} {α β : Type} {f : α → List AV} {xs : List α}
/-- What a round does, walked. -/
def Rounds (P : Program) (nt : Nat) (ps : List Nat) (assign body : Code) (rs : List (Nat × AV)) (own : List HA) (f : α → List AV) (xs : List α) (I : Nat → β → Prop) (H : β → List HA) (Ix : Exit → β → Prop) (Hx : Exit → β → List HA) : Prop :=
  ∀ l n w1 F1 G1, Rec l w1 F1 G1 → ∀ k (hk : k < xs.length) b, I k b →
    W (Cx.mk (Fence.wide.inRound l) n P w1 F1 G1 nt (.inr ⟨l, rfl⟩)) assign ⟨zipR ps (f xs[k]) rs, own ++ H b⟩ (thenQ (fun s => ∀ w2 F2 G2, Rec l w2 F2 G2 → W (Cx.mk (Fence.wide.inRound l) n P w2 F2 G2 nt (.inr ⟨l, rfl⟩)) body s (roundQ (Cx.mk (Fence.wide.inRound l) n P w2 F2 G2 nt (.inr ⟨l, rfl⟩)) own H Hx (I (k + 1)) Ix)) (fun _ _ => False))
/-- One round, as a call of yield. -/
theorem round_yield {P : Program} {nt l : Nat} {rc : Loop} {a : Act} (hps : ∀ x ∈ xs, (f x).length = ps.toList.length) (hpt : ∀ p ∈ ps.toList, p < nt) (hsz : a.tmps.size = nt) (hrt : rc.tmps = a.tmps) (hrp : rc.params = ps) (hra : rc.assign = assign) (hrb : rc.body = body)
    (I : Nat → β → Prop) (H : β → List HA) (Ix : Exit → β → Prop) (Hx : Exit → β → List HA) (hbody : Rounds P nt ps.toList assign body rs own f xs I H Ix Hx)
    {k : Nat} (hk : k < xs.length) {b : β} (hI : I k b) :
    Yield P (.func (.yield l) #[] #[]) (f xs[k]) (own ++ [.pack (.lrec l { rc with state := .ready, pending := none } :: .regs rs a :: H b)]) fun av prod =>
      (av = .val (.bool true) ∧ ∃ b', I (k + 1) b' ∧ prod = own ++ [.pack (.lrec l { rc with state := .ready, pending := none } :: .regs rs a :: H b')]) ∨
      (av = .val (.bool false) ∧ ∃ b' : Exit × β, ((b'.1 = .ret ∨ ∃ id, b'.1 = .exit id) ∧ Ix b'.1 b'.2) ∧ prod = own ++ [.pack (.lrec l { rc with state := .done, pending := some (codeOf b'.1) } :: .regs rs a :: Hx b'.1 b'.2)]) := by
  subst hrp; subst hra; subst hrb
  refine ⟨fun G Fp us w hfit hInv => ⟨l, rfl, fun F n hF => ?_⟩⟩
  obtain ⟨F1, ep, hI1, hl1, hg1, hr1, hR1⟩ := inv_rec.1 hInv
  have hlen := hfit.length
  have hsz1 : us.toArray.size = rc.params.size := by simp; rw [hlen, hps _ (List.getElem_mem hk)]; simp
  have hy := run_yield (P := P) hr1 hsz1
  refine ⟨rc.fn, _, rc.assign, rc.body, hy, ?_⟩
  have hlw : l < w.heap.size := (Array.getElem?_eq_some_iff.1 hr1).1
  have hlp : l ∈ Fp := ep.mem_iff.2 (by simp)
  have key : ∀ R, RoundIn Fence.wide n P l rc.fn ((rc.params.zip us.toArray).foldl (fun t (p, v) => t.setIfInBounds p v) rc.tmps) rc.assign rc.body w R → RoundIn F n P l rc.fn ((rc.params.zip us.toArray).foldl (fun t (p, v) => t.setIfInBounds p v) rc.tmps) rc.assign rc.body w R := fun R h => by
    rcases hF with rfl | ⟨l', rfl⟩ <;> exact h
  refine key _ (roundIn_of_wpIn trivial ?_)
  rw [hrt]
  have hzip := zip_ok (ps := rc.params.toList) (tm := a.tmps) (rs := rs) (ds := []) hfit (by rw [hps _ (List.getElem_mem hk)]) (fun p hp => by rw [hsz]; exact hpt p hp) hR1
  have hfold : (rc.params.zip us.toArray).foldl (fun t (p, v) => t.setIfInBounds p v) a.tmps = (rc.params.toList.zip us).foldl (fun t (p, v) => t.setIfInBounds p v) a.tmps := by
    rw [← Array.foldl_toList]; simp
  rw [hfold]
  refine Go.wpIn_mono ((hbody l n w F1 G ⟨hl1, hg1, _, hr1⟩ k hk b hI).out ⟨_, []⟩ w ⟨G, F1, hI1, Fr.refl _ _ _, hzip.1, by rw [← hsz]; exact hzip.2, Mk.nil _ _ _ _⟩) ?_
  rintro e a1 wa ⟨s1, ⟨Ga, Fa, hIa, hFa, hRa, hna, hda⟩, q⟩
  cases e with
  | normal =>
    have hFa' : Fr w wa F1 Fa G Ga := hFa
    have hla : l ∉ Fa := fun h => by
      rcases hFa'.newF l h with h | h
      · exact hl1 h
      · omega
    have hga : Ga l = none := by
      cases hg : Ga l with
      | none => rfl
      | some o =>
        rcases hFa'.newG l o hg with h | h | h
        · rw [hg1] at h; cases h
        · exact absurd h hl1
        · omega
    have hra : wa.heap[l]? = some (.loop { rc with state := .ready, pending := none }) := (hFa'.same l hlw hl1).trans hr1
    refine ⟨_, run_beginRound hra rfl, ?_⟩
    have hlwa : l < wa.heap.size := (Array.getElem?_eq_some_iff.1 hra).1
    have hr2 : (wa.putObj l (.loop { rc with state := .busy, pending := none })).heap[l]? = some (.loop { rc with state := .busy, pending := none }) := World.putObj_heap_same hlwa
    have hda' : Mk (Cx.mk (Fence.wide.inRound l) n P (wa.putObj l (.loop { rc with state := .busy, pending := none })) Fa Ga nt (.inr ⟨l, rfl⟩)) Ga Fa (wa.putObj l (.loop { rc with state := .busy, pending := none })) a1.defers := by
      obtain ⟨Ds, e, nd, hD, hz⟩ := hda
      rw [e, hz (by simp)]
      exact Mk.nil _ _ _ _
    refine Go.wpIn_mono ((q _ Fa Ga ⟨hla, hga, _, hr2⟩).out a1 _ ⟨Ga, Fa, hIa.put _ hla hga, Fr.refl _ _ _, hRa, hna, hda'⟩) ?_
    have fin : ∀ (jump : Option Code) (s : LoopState) (_ : (if jump.isNone then .ready else .done) = s) (w3 : World) (s2 : S) (a2 : Act) (H' : List HA), St (Cx.mk (Fence.wide.inRound l) n P (wa.putObj l (.loop { rc with state := .busy, pending := none })) Fa Ga nt (.inr ⟨l, rfl⟩)) ⟨[], own ++ H'⟩ a2 w3 →
        ∃ v w', (Instr.endRound l jump).run P w3 = .ok v w' ∧ v = .bool jump.isNone ∧ ∃ G' F', Fr w w' Fp F' G G' ∧ Inv G' F' (own ++ [.pack (.lrec l { rc with state := s, pending := jump } :: .regs rs a :: H')]) w' := fun jump s hsj w3 s2 a2 H' st => by
      subst hsj
      obtain ⟨G3, F3, hI3, hF3, _⟩ := st
      have hF3' : Fr (wa.putObj l (.loop { rc with state := .busy, pending := none })) w3 Fa F3 Ga G3 := hF3
      have hs2 : (wa.putObj l (.loop { rc with state := .busy, pending := none })).heap.size = wa.heap.size := World.putObj_size
      have hl3 : l ∉ F3 := fun h => by
        rcases hF3'.newF l h with h | h
        · exact hla h
        · omega
      have hg3 : G3 l = none := by
        cases hg : G3 l with
        | none => rfl
        | some o =>
          rcases hF3'.newG l o hg with h | h | h
          · rw [hga] at h; cases h
          · exact absurd h hla
          · omega
      have hr3 := (hF3'.same l (by omega) hla).trans hr2
      have hlw3 : l < w3.heap.size := (Array.getElem?_eq_some_iff.1 hr3).1
      refine ⟨_, _, run_endRound jump hr3, rfl, G3, l :: F3, ⟨?_, ?_, ?_, ?_, fun b hb hn => ?_, fun b hb => ?_, ?_, fun b o hb => ?_⟩, inv_rec.2 ⟨F3, .refl _, hI3.put _ hl3 hg3, hl3, hg3, World.putObj_heap_same hlw3, hR1.mono (hFa'.gle.trans hF3'.gle)⟩⟩
      · exact hF3'.os.trans hFa'.os
      · exact hF3'.tape.trans hFa'.tape
      · exact hF3'.output.trans hFa'.output
      · rw [World.putObj_size]; exact Nat.le_trans hFa'.size (hs2 ▸ hF3'.size)
      · have hbl : b ≠ l := fun e => hn (e ▸ hlp)
        have hb1 : b ∉ F1 := fun h => hn (ep.mem_iff.2 (by simp [h]))
        have hba : b ∉ Fa := fun h => by
          rcases hFa'.newF b h with h | h
          · exact hb1 h
          · omega
        rw [World.putObj_heap_other hbl, hF3'.same b (by have := hFa'.size; omega) hba, World.putObj_heap_other hbl, hFa'.same b hb hb1]
      · rcases List.mem_cons.1 hb with rfl | hb
        · exact .inl hlp
        · rcases hF3'.newF b hb with h | h
          · rcases hFa'.newF b h with h | h
            · exact .inl (ep.mem_iff.2 (by simp [h]))
            · exact .inr h
          · exact .inr (by have := hFa'.size; omega)
      · exact hFa'.gle.trans hF3'.gle
      · rcases hF3'.newG b o hb with h | h | h
        · rcases hFa'.newG b o h with h | h | h
          · exact .inl h
          · exact .inr (.inl (ep.mem_iff.2 (by simp [h])))
          · exact .inr (.inr h)
        · rcases hFa'.newF b h with h | h
          · exact .inr (.inl (ep.mem_iff.2 (by simp [h])))
          · exact .inr (.inr h)
        · exact .inr (.inr (by have := hFa'.size; omega))
    rintro e a3 w3 ⟨s2, st2, q2⟩
    cases e with
    | normal =>
      obtain ⟨b', hb', hst⟩ := q2
      obtain ⟨v, w', h1, h2, G', F', h3, h4⟩ := fin none _ rfl w3 s2 a3 _ (hst _ _ st2)
      rw [hrt] at h4
      exact ⟨v, w', h1, v, .val v, _, G', F', rfl, .inl ⟨by rw [h2]; rfl, b', hb', rfl⟩, h3, h4, rfl⟩
    | ret =>
      obtain ⟨b', hb', hst⟩ := q2
      obtain ⟨v, w', h1, h2, G', F', h3, h4⟩ := fin (some .ret) _ rfl w3 s2 a3 _ (hst _ _ st2)
      rw [hrt] at h4
      exact ⟨v, w', h1, v, .val v, _, G', F', rfl, .inr ⟨by rw [h2]; rfl, (.ret, b'), ⟨.inl rfl, hb'⟩, rfl⟩, h3, h4, rfl⟩
    | exit id =>
      obtain ⟨b', hb', hst⟩ := q2
      obtain ⟨v, w', h1, h2, G', F', h3, h4⟩ := fin (some (.exit id)) _ rfl w3 s2 a3 _ (hst _ _ st2)
      rw [hrt] at h4
      exact ⟨v, w', h1, v, .val v, _, G', F', rfl, .inr ⟨by rw [h2]; rfl, (.exit id, b'), ⟨.inr ⟨id, rfl⟩, hb'⟩, rfl⟩, h3, h4, rfl⟩
    | _ => exact q2.elim
  | _ => exact q.elim

instance one_yield {l : Nat} : One (.val (.func (.yield l) #[] #[])) := ⟨fun _ _ h => by subst h; rfl⟩
/-- The loop, from what entering it lays. -/
theorem range_core {a : Act} {w : World} (hst : St c ⟨rs, hs⟩ a w) (hg : opv rs g = some (.clo gf caps)) (it : Iter c.P gf caps own f xs) (hcut : Cut hs own r)
    (I : Nat → β → Prop) (H : β → List HA) (Ix : Exit → β → Prop) (Hx : Exit → β → List HA) (b0 : β) (hi0 : I 0 b0) (hH0 : ∀ {G F w}, hsP r G F w → ∃ F1 F2, F.Perm (F1 ++ F2) ∧ hsP (H b0) G F1 w)
    (hps : ∀ x ∈ xs, (f x).length = ps.toList.length) (hpt : ∀ p ∈ ps.toList, p < c.nt) (hbody : Rounds c.P c.nt ps.toList assign body rs own f xs I H Ix Hx)
    (hdone : ∀ b, I xs.length b → Q .normal ⟨rs, own ++ H b⟩) (hjump : ∀ e b, e = .ret ∨ (∃ id, e = .exit id) → Ix e b → Q e ⟨rs, own ++ Hx e b⟩)
    (henter : ∀ fn, ∃ l mk w1 D, (Instr.enterLoop fn a.tmps ps assign body c.F.round).run c.P w = .ok (l, mk) w1 ∧ w.heap.size ≤ l ∧ w1.heap[l]? = some (.loop { state := .ready, pending := none, fn, tmps := a.tmps, params := ps, assign, body, defers := D }) ∧ Below w.heap.size w w1 ∧
      (mk = [] ∨ ∃ z, mk = [mark z] ∧ w.heap.size ≤ z ∧ z ≠ l ∧ w1.heap[z]? = some (.deferred (some [])) ∧ c.F.round = none)) :
    (Code.rangeFunc g ps assign body).wpIn c.F c.n c.P (Post c Q) a w := by
  refine wpIn_rangeFunc fun fn hfn => ?_
  obtain ⟨l, mk, w1, D, hen, hlw, hlr, hbel, hmk⟩ := henter fn
  obtain ⟨G, F, hI, hF, hR, hn, hd⟩ := hst
  obtain ⟨us, e1, hus⟩ : (AV.clo gf caps).P G (a.eval g) := opv_ok hR hg
  -- what is kept
  obtain ⟨A, B, eAB, hA, hB⟩ := hsP.split (hcut.sel hI.hs)
  obtain ⟨B1, B2, eB, hB1⟩ := hH0 hB
  have nd := (eAB.trans (eB.append_left A)).nodup_iff.1 hI.nd
  have hsub : ∀ b ∈ A ++ B1, b ∈ F := fun b hb => (eAB.trans (eB.append_left A)).mem_iff.2 (by rcases List.mem_append.1 hb with h | h <;> simp [h])
  have hlt : ∀ b ∈ A ++ B1, b < w.heap.size := fun b hb => (hI.own b (hsub b hb)).1
  have hl1 : l ∉ A ++ B1 := fun h => by have := hlt l h; omega
  have hgl : ∀ b, w.heap.size ≤ b → G b = none := fun b hb => by
    cases hg : G b with
    | none => rfl
    | some o => have := hI.gin.lt hg; omega
  have h1 : Inv G (A ++ B1) (own ++ H b0) w1 := ⟨fun b o e => (hbel.block b (hI.gin.lt e)).trans (hI.gin b o e), (List.nodup_append.1 (by rw [← List.append_assoc] at nd; exact nd)).1, fun b hb => ⟨Nat.lt_of_lt_of_le (hlt b hb) hbel.size, (hI.own b (hsub b hb)).2⟩,
    (hsP.append hA hB1).loc fun b hb => hbel.block b (hlt b hb)⟩
  let rc : Loop := { state := .ready, pending := none, fn, tmps := a.tmps, params := ps, assign, body, defers := D }
  have h2 : Inv G (l :: (A ++ B1)) (own ++ [.pack (.lrec l { rc with state := .ready, pending := none } :: .regs rs a :: H b0)]) w1 := inv_rec.2 ⟨_, .refl _, h1, hl1, hgl l hlw, hlr, hR⟩
  have hcon := it.con (.func (.yield l) #[] #[]) β (Exit × β) (fun b => .lrec l { rc with state := .ready, pending := none } :: .regs rs a :: H b) (fun b => .lrec l { rc with state := .done, pending := some (codeOf b.1) } :: .regs rs a :: Hx b.1 b.2) I (fun _ b => (b.1 = .ret ∨ ∃ id, b.1 = .exit id) ∧ Ix b.1 b.2) inferInstance
    (fun k hk b hb => round_yield (rc := rc) hps hpt hn rfl rfl rfl rfl I H Ix Hx hbody hk hb) b0 hi0
  have hcalls := hcon.calls G _ (.func (.yield l) #[] #[] :: us) w1 ⟨rfl, hus⟩ h2
  refine ⟨l, mk, w1, { target := .fn (.func gf) us.toArray, args := #[.func (.yield l) #[] #[]] }, w1, gf, #[.func (.yield l) #[] #[]] ++ us.toArray, w1, hen, ?_, ?_, ?_, ?_, ?_⟩
  · simp only [resolve, e1]; simp [go_sem]
  · exact fun f' _ => c.wd.fn f'
  · simp [invoke, go_sem, hcon.enters]
  · exact fun h => by rw [c.wd.depth] at h; cases h
  have hargs : #[Value.func (.yield l) #[] #[]] ++ us.toArray = (Value.func (.yield l) #[] #[] :: us).toArray := by simp
  rw [hargs]
  refine c.wd.calls (hcalls.mono ?_)
  rintro e w2 ⟨v, av, prod, G', F', rfl, hp, hfr, hi, hv⟩
  have hsz1 := hbel.size
  have fin : ∀ (s : LoopState) (p : Option Code) (H' : List HA), s ≠ .busy → Inv G' F' (own ++ [.pack (.lrec l { rc with state := s, pending := p } :: .regs rs a :: H')]) w2 →
      ∃ w3, (Instr.endLoop l).run c.P w2 = .ok p w3 ∧ St c ⟨rs, own ++ H'⟩ { a with defers := mk ++ a.defers } w3 := fun s p H' hs hi => by
    obtain ⟨F3, e3, h3, hl3, hg3, hr3, hR3⟩ := inv_rec.1 hi
    refine ⟨_, run_endLoop hr3 hs, G', F3, h3.put _ hl3 hg3, ?_, hR3, hn, ?_⟩
    · refine hF.trans ⟨?_, ?_, ?_, ?_, fun b hb hnF => ?_, fun b hb => ?_, hfr.gle, fun b o hb => ?_⟩
      · exact hfr.os.trans hbel.os
      · exact hfr.tape.trans hbel.tape
      · exact hfr.output.trans hbel.output
      · rw [World.putObj_size]; exact Nat.le_trans hsz1 hfr.size
      · have hbl : b ≠ l := fun e => by omega
        rw [World.putObj_heap_other hbl, hfr.same b (by omega) (by rw [List.mem_cons, not_or]; exact ⟨hbl, fun h => hnF (hsub b h)⟩), hbel.block b hb]
      · rcases hfr.newF b (e3.mem_iff.2 (List.mem_cons_of_mem _ hb)) with h | h
        · rcases List.mem_cons.1 h with rfl | h
          · exact absurd hb hl3
          · exact .inl (hsub b h)
        · exact .inr (by omega)
      · rcases hfr.newG b o hb with h | h | h
        · exact .inl h
        · rcases List.mem_cons.1 h with rfl | h
          · rw [hg3] at hb; cases hb
          · exact .inr (.inl (hsub b h))
        · exact .inr (.inr (by omega))
    · -- the marks
      have step : ∀ D, w.heap.size ≤ D ∨ D ∉ F → D ≠ l → D < w1.heap.size → G D = none → w1.heap[D]? = some (.deferred (some [])) → D ∉ F3 ∧ G' D = none ∧ (w2.putObj l (.loop { rc with state := .exhausted, pending := p })).heap[D]? = some (.deferred (some [])) := fun D hD hDl hD1 hDG hDh => by
        have hn1 : D ∉ l :: (A ++ B1) := by
          rw [List.mem_cons, not_or]
          exact ⟨hDl, fun h => by rcases hD with hD | hD; (have := hlt D h; omega); exact hD (hsub D h)⟩
        refine ⟨fun h => ?_, ?_, ?_⟩
        · rcases hfr.newF D (e3.mem_iff.2 (List.mem_cons_of_mem _ h)) with h | h
          · exact hn1 h
          · omega
        · cases hg : G' D with
          | none => rfl
          | some o =>
            rcases hfr.newG D o hg with h | h | h
            · rw [hDG] at h; cases h
            · exact absurd h hn1
            · omega
        · rw [World.putObj_heap_other hDl, hfr.same D hD1 hn1]; exact hDh
      obtain ⟨Ds, ed, nd, hD, hz⟩ := hd
      have hold : ∀ D ∈ Ds, c.w0.heap.size ≤ D ∧ D ∉ F3 ∧ G' D = none ∧ (w2.putObj l (.loop { rc with state := .exhausted, pending := p })).heap[D]? = some (.deferred (some [])) := fun D hDm => by
        obtain ⟨k1, k2, k3, k4⟩ := hD D hDm
        have hlt := (Array.getElem?_eq_some_iff.1 k4).1
        exact ⟨k1, step D (.inr k2) (by omega) (by omega) k3 ((hbel.block D hlt).trans k4)⟩
      rcases hmk with rfl | ⟨z, rfl, hz1, hz2, hz3, hz4⟩
      · exact ⟨Ds, by simpa using ed, nd, hold, hz⟩
      · refine ⟨z :: Ds, by rw [List.map_cons, ← ed]; rfl, List.nodup_cons.2 ⟨fun h => ?_, nd⟩, fun D hDm => ?_, fun h => absurd hz4 h⟩
        · have := (Array.getElem?_eq_some_iff.1 (hD z h).2.2.2).1; omega
        · rcases List.mem_cons.1 hDm with rfl | hDm
          · exact ⟨Nat.le_trans hF.size hz1, step D (.inl hz1) hz2 (Array.getElem?_eq_some_iff.1 hz3).1 (hgl D hz1) hz3⟩
          · exact hold D hDm
  rcases hp with ⟨b, hb, rfl⟩ | ⟨k, b, _, _, ⟨he, hb⟩, rfl⟩
  · obtain ⟨w3, h1, h2⟩ := fin _ _ _ (fun h => by cases h) hi
    exact ⟨none, w3, h1, _, h2, hdone b hb⟩
  · obtain ⟨w3, h1, h2⟩ := fin _ _ _ (fun h => by cases h) hi
    refine ⟨_, w3, h1, ?_⟩
    obtain ⟨e, b⟩ := b
    have hj := hjump e b he hb
    rcases he with rfl | ⟨id, rfl⟩
    · exact wpIn_ret ⟨_, h2, hj⟩
    · exact wpIn_exit ⟨_, h2, hj⟩
end
/-- A range over an iterator, outermost in its function. -/
theorem W_range {n : Nat} {P : Program} {w0 : World} {F0 : List Nat} {G0 : Nat → Option Obj} {nt : Nat} {wd : Wd Fence.wide} {rs : List (Nat × AV)} {hs : List HA} {Q : Exit → S → Prop} {g : Operand} {ps : Array Tmp} {assign body : Code} {gf : FuncId} {caps : List AV} {own r : List HA} {α β : Type} {f : α → List AV} {xs : List α}
    (hg : opv rs g = some (.clo gf caps)) (it : Iter P gf caps own f xs) (hcut : Cut hs own r) (I : Nat → β → Prop) (H : β → List HA) (Ix : Exit → β → Prop) (Hx : Exit → β → List HA) (b0 : β) (hi0 : I 0 b0) (hH0 : SubP (H b0) r)
    (hps : ∀ x ∈ xs, (f x).length = ps.toList.length) (hpt : ps.toList.all (fun p => Nat.blt p nt) = true) (hbody : Rounds P nt ps.toList assign body rs own f xs I H Ix Hx)
    (hdone : ∀ b, I xs.length b → Q .normal ⟨rs, own ++ H b⟩) (hjump : ∀ e b, e = .ret ∨ (∃ id, e = .exit id) → Ix e b → Q e ⟨rs, own ++ Hx e b⟩) :
    W (Cx.mk Fence.wide n P w0 F0 G0 nt wd) (.rangeFunc g ps assign body) ⟨rs, hs⟩ Q := ⟨fun a w st =>
  range_core st hg it hcut I H Ix Hx b0 hi0 (fun h => hH0.ok h) hps (fun p hp => by have := List.all_eq_true.1 hpt p hp; simpa only [Nat.blt_eq] using this) hbody hdone hjump fun fn =>
    ⟨w.heap.size + 1, _, _, w.heap.size, run_enterLoop_outer fn a.tmps ps assign body, by omega, by have h := World.alloc_heap_new (w.alloc (.deferred (some []))) (.loop { state := .ready, pending := none, fn, tmps := a.tmps, params := ps, assign, body, defers := w.heap.size }); rw [World.size_alloc] at h; exact h,
      ((Below.refl w.heap.size w).alloc (Nat.le_refl _) _).alloc (by simp) _, .inr ⟨w.heap.size, rfl, Nat.le_refl _, by omega, (Below.heap_alloc _ _ _ (by simp)).trans (World.alloc_heap_new w _), rfl⟩⟩⟩
/-- A range over an iterator within a round. -/
theorem W_rangeIn {l0 n : Nat} {P : Program} {w0 : World} {F0 : List Nat} {G0 : Nat → Option Obj} {nt : Nat} {wd : Wd (Fence.wide.inRound l0)} {rs : List (Nat × AV)} {hs : List HA} {Q : Exit → S → Prop} {g : Operand} {ps : Array Tmp} {assign body : Code} {gf : FuncId} {caps : List AV} {own r : List HA} {α β : Type} {f : α → List AV} {xs : List α}
    (hrec : Rec l0 w0 F0 G0) (hg : opv rs g = some (.clo gf caps)) (it : Iter P gf caps own f xs) (hcut : Cut hs own r) (I : Nat → β → Prop) (H : β → List HA) (Ix : Exit → β → Prop) (Hx : Exit → β → List HA) (b0 : β) (hi0 : I 0 b0) (hH0 : SubP (H b0) r)
    (hps : ∀ x ∈ xs, (f x).length = ps.toList.length) (hpt : ps.toList.all (fun p => Nat.blt p nt) = true) (hbody : Rounds P nt ps.toList assign body rs own f xs I H Ix Hx)
    (hdone : ∀ b, I xs.length b → Q .normal ⟨rs, own ++ H b⟩) (hjump : ∀ e b, e = .ret ∨ (∃ id, e = .exit id) → Ix e b → Q e ⟨rs, own ++ Hx e b⟩) :
    W (Cx.mk (Fence.wide.inRound l0) n P w0 F0 G0 nt wd) (.rangeFunc g ps assign body) ⟨rs, hs⟩ Q := ⟨fun a w st => by
  obtain ⟨h1, h2, r0, h3⟩ := hrec
  have hr : w.heap[l0]? = some (.loop r0) := by
    obtain ⟨G, F, hI, hF, _⟩ := st
    have hF' : Fr w0 w F0 F G0 G := hF
    exact (hF'.same l0 (Array.getElem?_eq_some_iff.1 h3).1 h1).trans h3
  exact range_core st hg it hcut I H Ix Hx b0 hi0 (fun h => hH0.ok h) hps (fun p hp => by have := List.all_eq_true.1 hpt p hp; simpa only [Nat.blt_eq] using this) hbody hdone hjump fun fn =>
    ⟨w.heap.size, _, _, r0.defers, run_enterLoop_inner hr fn a.tmps ps assign body, Nat.le_refl _, World.alloc_heap_new w _, (Below.refl w.heap.size w).alloc (Nat.le_refl _) _, .inl rfl⟩⟩
end Go.Proofs.YtbkellknlcageaaDoor.Sw
