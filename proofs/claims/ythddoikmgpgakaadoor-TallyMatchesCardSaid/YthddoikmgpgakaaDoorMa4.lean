/- Proofs for the seat's cards: SwG, SwH, SwI, SwQ, SwL, SwB, SwS, SwM, SwX, Bk, Mats, SwN, SwP, MtA, MtB, Twin, Copied, MtC, MtD, MtE, MtF. No condition of its own. -/
import Derived.RangeFuncBound
import Derived.Lib.LazyBuf
import Derived.Deep.AppendSrc
import Derived.Scope
import Derived.DeepKeys4
import Derived.Maps.OwnIn
import Derived.Maps.Views
import Derived.Maps.RangeRun
import Derived.ArgAppend
import Derived.Maps.AppendAt
import Derived.WideKeyEntry
import Derived.Test.YthddoikmgpgakaaDoorProg
import Derived.Outline
import Derived.RangeFuncNested
import Derived.Shelf.Abstract
import Derived.Deep.QuietTactic
import Derived.BigQuiet
import Derived.Deep.RegionHeld3
import Derived.WalkSmall
import Derived.Laws.EntriesVeiled
import Derived.Deep.AppendLies
import Derived.Test.YthddoikmgpgakaaDoorMa3
set_option linter.unusedVariables false
set_option linter.unusedSimpArgs false
set_option maxRecDepth 40000
set_option maxHeartbeats 32000000
namespace Go.Proofs.YthddoikmgpgakaaDoor.Sw
open Go.RowKit Go
def HA.pack (l : List HA) : HA := ⟨fun G F w => hsP l G F w, fun h k => hsP.mono h k, fun h k => hsP.loc h k⟩
theorem hsP.pack {G : Nat → Option Obj} {w : World} {l hs : List HA} {F : List Nat} : hsP (.pack l :: hs) G F w ↔ hsP (l ++ hs) G F w :=
 ⟨fun ⟨_, _, e, h1, h2⟩ => (hsP.append (show hsP l G _ w from h1) h2).perm e, fun h => let ⟨F1, F2, e, h1, h2⟩ := hsP.split h; ⟨F1, F2, e, h1, h2⟩⟩
structure Yield (P : Program) (v : Value) (args : List AV) (pre : List HA) (post : AV → List HA → Prop) : Prop where
 go : ∀ (G : Nat → Option Obj) (Fp : List Nat) (us : List Value) (w : World), Fits G args us → Inv G Fp pre w → ∃ l, v = .func (.yield l) #[] #[] ∧ ∀ (F : Fence) (n : Nat), Wd F →
  YieldAt F n P l us.toArray w fun e w' => ∃ v av prod G' F', e = .returned v ∧ post av prod ∧ Fr w w' Fp F' G G' ∧ Inv G' F' prod w' ∧ av.P G' v
theorem lt_yield {P : Program} {rs : List (Nat × AV)} {d : Option Nat} {ty : TypeId} {pos : String} {af : Array Edge} {g : Option (Nat × Bool)} {x : Operand} {y : Value} {xs : List Operand} {ts : Array TypeId} {avs : List AV} {pre : List HA} {post : AV → List HA → Prop} (hf : opv rs x = some (.val y)) (hx : opvs rs xs = some avs) (hc : Yield P y avs pre post) :
  LT P ⟨d, .call { callee := .value x, args := xs.toArray, argTypes := ts }, ty, pos, af, g⟩ rs pre post := by
 refine ⟨?_⟩
 intro F n hF a w G Fp K Q hR hI hk
 have e1 : a.eval x = y := opv_ok hR hf
 have hv := opvs_ok hR hx
 obtain ⟨l, rfl, hy⟩ := hc.go G Fp (xs.map a.eval) w hv hI
 obtain ⟨fn, tmps, assign, body, hr1, hr2⟩ := hy F (n - 1) hF
 unfold Oper.wpIn
 refine ⟨fun f _ => hF.fn f, ?_⟩
 rw [Oper.semAt_eq _ _ _ (fun _ e => by cases e)]
 have hr : (execOp a.eval ⟨d, .call { callee := .value x, args := xs.toArray, argTypes := ts }, ty, pos, af, g⟩).run P w = .ok (.round l fn tmps assign body) w := by
  simp [execOp, resolve, e1, Deferred.ofValue, invoke, hr1, Result.andThen]
 rw [hr]
 refine ⟨fun h => (by rw [hF.depth] at h; cases h), hr2.mono ?_⟩
 rintro e w' ⟨v, av, prod, G', F', rfl, hp, hfr, hi, hv⟩
 exact hk v av prod G' F' w' hp hfr hi hv
structure Iter {α τ : Type} (P : Program) (g : FuncId) (caps : List AV) (own : List HA) (f : α → τ → List AV) (t : α → τ → List HA) (xs : List α) : Prop where
 con : ∀ (yv : Value) (β βx : Type) (H : β → List HA) (Hx : βx → List HA) (I : Nat → β → Prop) (Ix : Nat → βx → Prop), One (.val yv) →
  (∀ k (hk : k < xs.length) b (u : τ), I k b → Yield P yv (f xs[k] u) ((own ++ t xs[k] u) ++ [.pack (H b)]) fun av prod => (av = .val (.bool true) ∧ ∃ b', I (k + 1) b' ∧ prod = own ++ [.pack (H b')]) ∨ (av = .val (.bool false) ∧ ∃ b', Ix (k + 1) b' ∧ prod = own ++ [.pack (Hx b')])) →
  ∀ b0, I 0 b0 → Con P g (.val yv :: caps) (own ++ [.pack (H b0)]) fun _ prod => (∃ b, I xs.length b ∧ prod = own ++ [.pack (H b)]) ∨ ∃ k b, 0 < k ∧ k ≤ xs.length ∧ Ix k b ∧ prod = own ++ [.pack (Hx b)]
def Rec (l : Nat) (w : World) (F : List Nat) (G : Nat → Option Obj) : Prop := l ∉ F ∧ G l = none ∧ ∃ r, w.heap[l]? = some (.loop r)
def codeOf : Exit → Code
 | .ret => .ret
 | .exit id => .exit id
 | _ => .skip
def roundQ {β : Type} (c : Cx) (own : List HA) (H : β → List HA) (Hx : Exit → β → List HA) (N : β → Prop) (X : Exit → β → Prop) : Exit → S → Prop
 | .normal, s => ∃ b', N b' ∧ ∀ a w, St c s a w → St c ⟨[], own ++ H b'⟩ a w
 | .ret, s => ∃ b', X .ret b' ∧ ∀ a w, St c s a w → St c ⟨[], own ++ Hx .ret b'⟩ a w
 | .exit id, s => ∃ b', X (.exit id) b' ∧ ∀ a w, St c s a w → St c ⟨[], own ++ Hx (.exit id) b'⟩ a w
 | _, _ => False
def zipR : List Nat → List AV → List (Nat × AV) → List (Nat × AV)
 | p :: ps, x :: xs, rs => zipR ps xs ((p, x) :: rs)
 | _, _, rs => rs
theorem zip_ok {G : Nat → Option Obj} : ∀ {ps : List Nat} {avs : List AV} {us : List Value} {tm : Array Value} {rs : List (Nat × AV)} {ds : List Deferred}, Fits G avs us → ps.length = avs.length → (∀ p ∈ ps, p < tm.size) → RegOK rs G ⟨tm, ds⟩ →
  RegOK (zipR ps avs rs) G ⟨(ps.zip us).foldl (fun t (p, v) => t.setIfInBounds p v) tm, ds⟩ ∧ ((ps.zip us).foldl (fun t (p, v) => t.setIfInBounds p v) tm).size = tm.size
 | [], _, _, _, _, _, _, _, _, h => by simp [zipR]; exact h
 | p :: ps, [], _, _, _, _, _, e, _, _ => by cases e
 | p :: ps, av :: avs, [], _, _, _, hf, _, _, _ => hf.elim
 | p :: ps, av :: avs, u :: us, tm, rs, ds, hf, e, hp, h => by
  have h1 : RegOK ((p, av) :: rs) G ⟨tm.setIfInBounds p u, ds⟩ :=
   RegOK.put (a := ⟨tm, ds⟩) h (d := some p) rfl (by simp only [okD, Nat.blt_eq]; exact hp p (by simp)) hf.1
  obtain ⟨h2, h3⟩ := zip_ok (ps := ps) hf.2 (by simpa using e) (fun q hq => by simpa using hp q (by simp [hq])) h1
  exact ⟨h2, by rw [List.zip_cons_cons, List.foldl_cons, h3]; simp⟩
def HA.lrec (l : Nat) (r : Loop) : HA := ⟨fun _ F w => F = [l] ∧ w.heap[l]? = some (.loop r), fun _ h => h, fun h k => ⟨k.1, (h l (by rw [k.1]; simp)).trans k.2⟩⟩
def HA.regs (rs : List (Nat × AV)) (a : Act) : HA := ⟨fun G F _ => F = [] ∧ RegOK rs G a, fun h k => ⟨k.1, k.2.mono h⟩, fun _ k => k⟩
theorem Fr.put {w w' : World} {F F' : List Nat} {G G' : Nat → Option Obj} (h : Fr w w' F F' G G') {l : Nat} (o : Obj) (hl : l ∈ F ∨ w.heap.size ≤ l) : Fr w (w'.putObj l o) F F' G G' :=
 ⟨h.os, h.tape, h.output, by rw [World.putObj_size]; exact h.size, fun b hb hn => (World.putObj_heap_other (fun (e : b = l) => by subst e; rcases hl with hl | hl; exact hn hl; omega)).trans (h.same b hb hn), h.newF, h.gle, h.newG⟩
theorem Inv.put {w : World} {F : List Nat} {G : Nat → Option Obj} {hs : List HA} (h : Inv G F hs w) {l : Nat} (o : Obj) (hl : l ∉ F) (hg : G l = none) : Inv G F hs (w.putObj l o) :=
 ⟨fun b o' e => (World.putObj_heap_other (fun (e' : b = l) => by subst e'; rw [hg] at e; cases e)).trans (h.gin b o' e), h.nd, fun b hb => by rw [World.putObj_size]; exact h.own b hb, h.hs.loc fun b hb => World.putObj_heap_other fun e => hl (e ▸ hb)⟩
theorem Inv.drop {w : World} {F : List Nat} {G : Nat → Option Obj} {kept rest : List HA} (h : Inv G F (kept ++ rest) w) : ∃ F1 F2, F.Perm (F1 ++ F2) ∧ Inv G F1 kept w ∧ hsP rest G F2 w ∧ ∀ b ∈ F2, b ∉ F1 ∧ b ∈ F := by
 obtain ⟨F1, F2, e, h1, h2⟩ := hsP.split h.hs
 have nd := (e.nodup_iff).1 h.nd
 exact ⟨F1, F2, e, ⟨h.gin, (List.nodup_append.1 nd).1, fun b hb => h.own b (e.mem_iff.2 (by simp [hb])), h1⟩, h2, fun b hb => ⟨fun h1 => (List.nodup_append.1 nd).2.2 b h1 b hb rfl, e.mem_iff.2 (by simp [hb])⟩⟩
theorem inv_rec {G : Nat → Option Obj} {F : List Nat} {w : World} {own H : List HA} {l : Nat} {r : Loop} {rs : List (Nat × AV)} {a : Act} :
  Inv G F (own ++ [.pack (.lrec l r :: .regs rs a :: H)]) w ↔ ∃ F1, F.Perm (l :: F1) ∧ Inv G F1 (own ++ H) w ∧ l ∉ F1 ∧ G l = none ∧ w.heap[l]? = some (.loop r) ∧ RegOK rs G a := by
 constructor
 ·intro h
  have hp : hsP (own ++ [HA.pack (.lrec l r :: .regs rs a :: H)]) G F w := h.hs
  obtain ⟨A, B, e, h1, h2⟩ := hsP.split hp
  rw [hsP.pack, List.append_nil] at h2
  obtain ⟨B1, B2, e2, ⟨hB1, hr⟩, ⟨B3, B4, e3, ⟨hB3, hg⟩, h3⟩⟩ := h2
  subst hB1; subst hB3
  have e4 : F.Perm (l :: (A ++ B4)) := e.trans (((e2.trans (e3.append_left [l])).append_left A).trans (by simp))
  have nd := e4.nodup_iff.1 h.nd
  have nd' := List.nodup_cons.1 nd
  refine ⟨A ++ B4, e4, ⟨h.gin, nd'.2, fun b hb => h.own b (e4.mem_iff.2 (List.mem_cons_of_mem _ hb)), hsP.append h1 h3⟩, nd'.1, (h.own l (e4.mem_iff.2 (by simp))).2, hr, hg⟩
 ·rintro ⟨F1, e, h, hl, hg, hr, hR⟩
  refine ⟨h.gin, e.nodup_iff.2 (List.nodup_cons.2 ⟨hl, h.nd⟩), fun b hb => ?_, ?_⟩
  ·rcases List.mem_cons.1 (e.mem_iff.1 hb) with rfl | hb
   ·exact ⟨(Array.getElem?_eq_some_iff.1 hr).1, hg⟩
   ·exact h.own b hb
  ·obtain ⟨A, B, e2, h1, h2⟩ := hsP.split h.hs
   have h3 : hsP [HA.pack (.lrec l r :: .regs rs a :: H)] G (l :: B) w := hsP.pack.2 (by
    rw [List.append_nil]
    exact ⟨[l], B, .refl _, ⟨rfl, hr⟩, [], B, .refl _, ⟨rfl, hR⟩, h2⟩)
   exact (hsP.append h1 h3).perm (e.trans ((e2.cons l).trans List.perm_middle.symm))
section
variable {c : Cx} {rs : List (Nat × AV)} {hs : List HA} {Q : Exit → S → Prop} {g : Operand} {ps : Array Tmp} {assign body : Code} {gf : FuncId} {caps : List AV} {own r : List HA} {α β τ : Type} {f : α → τ → List AV} {t : α → τ → List HA} {xs : List α}
def Rounds (P : Program) (nt : Nat) (ps : List Nat) (assign body : Code) (rs : List (Nat × AV)) (own : List HA) (f : α → τ → List AV) (t : α → τ → List HA) (xs : List α) (I : Nat → β → Prop) (H : β → List HA) (Ix : Exit → β → Prop) (Hx : Exit → β → List HA) : Prop :=
 ∀ l n w1 F1 G1, Rec l w1 F1 G1 → ∀ k (hk : k < xs.length) b (u : τ), I k b →
  W (Cx.mk (Fence.wide.inRound l) n P w1 F1 G1 nt (.inr ⟨l, rfl⟩)) assign ⟨zipR ps (f xs[k] u) rs, (own ++ t xs[k] u) ++ H b⟩ (thenQ (fun s => ∀ w2 F2 G2, Rec l w2 F2 G2 → W (Cx.mk (Fence.wide.inRound l) n P w2 F2 G2 nt (.inr ⟨l, rfl⟩)) body s (roundQ (Cx.mk (Fence.wide.inRound l) n P w2 F2 G2 nt (.inr ⟨l, rfl⟩)) own H Hx (I (k + 1)) Ix)) (fun _ _ => False))
theorem round_yield {P : Program} {nt l : Nat} {rc : Loop} {a : Act} (hps : ∀ x ∈ xs, ∀ u, (f x u).length = ps.toList.length) (hpt : ∀ p ∈ ps.toList, p < nt) (hsz : a.tmps.size = nt) (hrt : rc.tmps = a.tmps) (hrp : rc.params = ps) (hra : rc.assign = assign) (hrb : rc.body = body)
  (I : Nat → β → Prop) (H : β → List HA) (Ix : Exit → β → Prop) (Hx : Exit → β → List HA) (hbody : Rounds P nt ps.toList assign body rs own f t xs I H Ix Hx)
  {k : Nat} (hk : k < xs.length) {b : β} (u : τ) (hI : I k b) :
  Yield P (.func (.yield l) #[] #[]) (f xs[k] u) ((own ++ t xs[k] u) ++ [.pack (.lrec l { rc with state := .ready, pending := none } :: .regs rs a :: H b)]) fun av prod =>
   (av = .val (.bool true) ∧ ∃ b', I (k + 1) b' ∧ prod = own ++ [.pack (.lrec l { rc with state := .ready, pending := none } :: .regs rs a :: H b')]) ∨
   (av = .val (.bool false) ∧ ∃ b' : Exit × β, ((b'.1 = .ret ∨ ∃ id, b'.1 = .exit id) ∧ Ix b'.1 b'.2) ∧ prod = own ++ [.pack (.lrec l { rc with state := .done, pending := some (codeOf b'.1) } :: .regs rs a :: Hx b'.1 b'.2)]) := by
 subst hrp; subst hra; subst hrb
 refine ⟨fun G Fp us w hfit hInv => ⟨l, rfl, fun F n hF => ?_⟩⟩
 obtain ⟨F1, ep, hI1, hl1, hg1, hr1, hR1⟩ := inv_rec.1 hInv
 have hlen := hfit.length
 have hsz1 : us.toArray.size = rc.params.size := by simp; rw [hlen, hps _ (List.getElem_mem hk) u]; simp
 have hy := run_yield (P := P) hr1 hsz1
 refine ⟨rc.fn, _, rc.assign, rc.body, hy, ?_⟩
 have hlw : l < w.heap.size := (Array.getElem?_eq_some_iff.1 hr1).1
 have hlp : l ∈ Fp := ep.mem_iff.2 (by simp)
 have key : ∀ R, RoundIn Fence.wide n P l rc.fn ((rc.params.zip us.toArray).foldl (fun t (p, v) => t.setIfInBounds p v) rc.tmps) rc.assign rc.body w R → RoundIn F n P l rc.fn ((rc.params.zip us.toArray).foldl (fun t (p, v) => t.setIfInBounds p v) rc.tmps) rc.assign rc.body w R := fun R h => by
  rcases hF with rfl | ⟨l', rfl⟩ <;> exact h
 refine key _ (roundIn_of_wpIn trivial ?_)
 rw [hrt]
 have hzip := zip_ok (ps := rc.params.toList) (tm := a.tmps) (rs := rs) (ds := []) hfit (by rw [hps _ (List.getElem_mem hk) u]) (fun p hp => by rw [hsz]; exact hpt p hp) hR1
 have hfold : (rc.params.zip us.toArray).foldl (fun t (p, v) => t.setIfInBounds p v) a.tmps = (rc.params.toList.zip us).foldl (fun t (p, v) => t.setIfInBounds p v) a.tmps := by
  rw [← Array.foldl_toList]; simp
 rw [hfold]
 refine Go.wpIn_mono ((hbody l n w F1 G ⟨hl1, hg1, _, hr1⟩ k hk b u hI).out ⟨_, []⟩ w ⟨G, F1, hI1, Fr.refl _ _ _, hzip.1, by rw [← hsz]; exact hzip.2, Mk.nil _ _ _ _⟩) ?_
 rintro e a1 wa ⟨s1, ⟨Ga, Fa, hIa, hFa, hRa, hna, hda⟩, q⟩
 cases e with
 | normal =>
  have hFa' : Fr w wa F1 Fa G Ga := hFa
  have hla : l ∉ Fa := fun h => by
   rcases hFa'.newF l h with h | h
   ·exact hl1 h
   ·omega
  have hga : Ga l = none := by
   cases hg : Ga l with
   | none => rfl
   | some o =>
    rcases hFa'.newG l o hg with h | h | h
    ·rw [hg1] at h; cases h
    ·exact absurd h hl1
    ·omega
  have hra : wa.heap[l]? = some (.loop { rc with state := .ready, pending := none }) := (hFa'.same l hlw hl1).trans hr1
  refine ⟨_, run_beginRound hra rfl, ?_⟩
  have hlwa : l < wa.heap.size := (Array.getElem?_eq_some_iff.1 hra).1
  have hr2 : (wa.putObj l (.loop { rc with state := .busy, pending := none })).heap[l]? = some (.loop { rc with state := .busy, pending := none }) := World.putObj_heap_same hlwa
  have hda' : Mk (Cx.mk (Fence.wide.inRound l) n P (wa.putObj l (.loop { rc with state := .busy, pending := none })) Fa Ga nt (.inr ⟨l, rfl⟩)) Ga Fa (wa.putObj l (.loop { rc with state := .busy, pending := none })) a1.defers := by
   obtain ⟨Ds, e, nd, hD, hz⟩ := hda
   rw [e, hz (by simp)]
   exact Mk.nil _ _ _ _
  refine Go.wpIn_mono ((q _ Fa Ga ⟨hla, hga, _, hr2⟩).out a1 _ ⟨Ga, Fa, hIa.put _ hla hga, Fr.refl _ _ _, hRa, hna, hda'⟩) ?_
  have fin : ∀ (jump : Option Code) (s : LoopState) (_ : (if jump.isNone then .ready else .done) = s) (w3 : World) (s2 : S) (a2 : Act) (H' : List HA), St (Cx.mk (Fence.wide.inRound l) n P (wa.putObj l (.loop { rc with state := .busy, pending := none })) Fa Ga nt (.inr ⟨l, rfl⟩)) ⟨[], own ++ H'⟩ a2 w3 →
    ∃ v w', (Instr.endRound l jump).run P w3 = .ok v w' ∧ v = .bool jump.isNone ∧ ∃ G' F', Fr w w' Fp F' G G' ∧ Inv G' F' (own ++ [.pack (.lrec l { rc with state := s, pending := jump } :: .regs rs a :: H')]) w' := fun jump s hsj w3 s2 a2 H' st => by
   subst hsj
   obtain ⟨G3, F3, hI3, hF3, _⟩ := st
   have hF3' : Fr (wa.putObj l (.loop { rc with state := .busy, pending := none })) w3 Fa F3 Ga G3 := hF3
   have hs2 : (wa.putObj l (.loop { rc with state := .busy, pending := none })).heap.size = wa.heap.size := World.putObj_size
   have hl3 : l ∉ F3 := fun h => by
    rcases hF3'.newF l h with h | h
    ·exact hla h
    ·omega
   have hg3 : G3 l = none := by
    cases hg : G3 l with
    | none => rfl
    | some o =>
     rcases hF3'.newG l o hg with h | h | h
     ·rw [hga] at h; cases h
     ·exact absurd h hla
     ·omega
   have hr3 := (hF3'.same l (by omega) hla).trans hr2
   have hlw3 : l < w3.heap.size := (Array.getElem?_eq_some_iff.1 hr3).1
   refine ⟨_, _, run_endRound jump hr3, rfl, G3, l :: F3, ⟨?_, ?_, ?_, ?_, fun b hb hn => ?_, fun b hb => ?_, ?_, fun b o hb => ?_⟩, inv_rec.2 ⟨F3, .refl _, hI3.put _ hl3 hg3, hl3, hg3, World.putObj_heap_same hlw3, hR1.mono (hFa'.gle.trans hF3'.gle)⟩⟩
   ·exact hF3'.os.trans hFa'.os
   ·exact hF3'.tape.trans hFa'.tape
   ·exact hF3'.output.trans hFa'.output
   ·rw [World.putObj_size]; exact Nat.le_trans hFa'.size (hs2 ▸ hF3'.size)
   ·have hbl : b ≠ l := fun e => hn (e ▸ hlp)
    have hb1 : b ∉ F1 := fun h => hn (ep.mem_iff.2 (by simp [h]))
    have hba : b ∉ Fa := fun h => by
     rcases hFa'.newF b h with h | h
     ·exact hb1 h
     ·omega
    rw [World.putObj_heap_other hbl, hF3'.same b (by have := hFa'.size; omega) hba, World.putObj_heap_other hbl, hFa'.same b hb hb1]
   ·rcases List.mem_cons.1 hb with rfl | hb
    ·exact .inl hlp
    ·rcases hF3'.newF b hb with h | h
     ·rcases hFa'.newF b h with h | h
      ·exact .inl (ep.mem_iff.2 (by simp [h]))
      ·exact .inr h
     ·exact .inr (by have := hFa'.size; omega)
   ·exact hFa'.gle.trans hF3'.gle
   ·rcases hF3'.newG b o hb with h | h | h
    ·rcases hFa'.newG b o h with h | h | h
     ·exact .inl h
     ·exact .inr (.inl (ep.mem_iff.2 (by simp [h])))
     ·exact .inr (.inr h)
    ·rcases hFa'.newF b h with h | h
     ·exact .inr (.inl (ep.mem_iff.2 (by simp [h])))
     ·exact .inr (.inr h)
    ·exact .inr (.inr (by have := hFa'.size; omega))
  rintro e a3 w3 ⟨s2, st2, q2⟩
  cases e with
  | normal =>
   obtain ⟨b', hb', hst⟩ := q2
   obtain ⟨v, w', h1, h2, G', F', h3, h4⟩ := fin none _ rfl w3 s2 a3 _ (hst _ _ st2)
   rw [hrt] at h4
   exact ⟨v, w', h1, v, .val v, _, G', F', rfl, .inl ⟨by rw [h2]; rfl, b', hb', rfl⟩, h3, h4, rfl⟩
  | ret =>
   obtain ⟨b', hb', hst⟩ := q2
   obtain ⟨v, w', h1, h2, G', F', h3, h4⟩ := fin (some .ret) _ rfl w3 s2 a3 _ (hst _ _ st2)
   rw [hrt] at h4
   exact ⟨v, w', h1, v, .val v, _, G', F', rfl, .inr ⟨by rw [h2]; rfl, (.ret, b'), ⟨.inl rfl, hb'⟩, rfl⟩, h3, h4, rfl⟩
  | exit id =>
   obtain ⟨b', hb', hst⟩ := q2
   obtain ⟨v, w', h1, h2, G', F', h3, h4⟩ := fin (some (.exit id)) _ rfl w3 s2 a3 _ (hst _ _ st2)
   rw [hrt] at h4
   exact ⟨v, w', h1, v, .val v, _, G', F', rfl, .inr ⟨by rw [h2]; rfl, (.exit id, b'), ⟨.inr ⟨id, rfl⟩, hb'⟩, rfl⟩, h3, h4, rfl⟩
  | _ => exact q2.elim
 | _ => exact q.elim
instance one_yield {l : Nat} : One (.val (.func (.yield l) #[] #[])) := ⟨fun _ _ h => by subst h; rfl⟩
theorem range_core {a : Act} {w : World} (hst : St c ⟨rs, hs⟩ a w) (hg : opv rs g = some (.clo gf caps)) (it : Iter c.P gf caps own f t xs) (hcut : Cut hs own r)
  (I : Nat → β → Prop) (H : β → List HA) (Ix : Exit → β → Prop) (Hx : Exit → β → List HA) (b0 : β) (hi0 : I 0 b0) (hH0 : ∀ {G F w}, hsP r G F w → ∃ F1 F2, F.Perm (F1 ++ F2) ∧ hsP (H b0) G F1 w)
  (hps : ∀ x ∈ xs, ∀ u, (f x u).length = ps.toList.length) (hpt : ∀ p ∈ ps.toList, p < c.nt) (hbody : Rounds c.P c.nt ps.toList assign body rs own f t xs I H Ix Hx)
  (hdone : ∀ b, I xs.length b → Q .normal ⟨rs, own ++ H b⟩) (hjump : ∀ e b, e = .ret ∨ (∃ id, e = .exit id) → Ix e b → Q e ⟨rs, own ++ Hx e b⟩)
  (henter : ∀ fn, ∃ l mk w1 D, (Instr.enterLoop fn a.tmps ps assign body c.F.round).run c.P w = .ok (l, mk) w1 ∧ w.heap.size ≤ l ∧ w1.heap[l]? = some (.loop { state := .ready, pending := none, fn, tmps := a.tmps, params := ps, assign, body, defers := D }) ∧ Below w.heap.size w w1 ∧
   (mk = [] ∨ ∃ z, mk = [mark z] ∧ w.heap.size ≤ z ∧ z ≠ l ∧ w1.heap[z]? = some (.deferred (some [])) ∧ c.F.round = none)) :
  (Code.rangeFunc g ps assign body).wpIn c.F c.n c.P (Post c Q) a w := by
 refine wpIn_rangeFunc fun fn hfn => ?_
 obtain ⟨l, mk, w1, D, hen, hlw, hlr, hbel, hmk⟩ := henter fn
 obtain ⟨G, F, hI, hF, hR, hn, hd⟩ := hst
 obtain ⟨us, e1, hus⟩ : (AV.clo gf caps).P G (a.eval g) := opv_ok hR hg
 -- what is kept
 obtain ⟨A, B, eAB, hA, hB⟩ := hsP.split (hcut.sel hI.hs)
 obtain ⟨B1, B2, eB, hB1⟩ := hH0 hB
 have nd := (eAB.trans (eB.append_left A)).nodup_iff.1 hI.nd
 have hsub : ∀ b ∈ A ++ B1, b ∈ F := fun b hb => (eAB.trans (eB.append_left A)).mem_iff.2 (by rcases List.mem_append.1 hb with h | h <;> simp [h])
 have hlt : ∀ b ∈ A ++ B1, b < w.heap.size := fun b hb => (hI.own b (hsub b hb)).1
 have hl1 : l ∉ A ++ B1 := fun h => by have := hlt l h; omega
 have hgl : ∀ b, w.heap.size ≤ b → G b = none := fun b hb => by
  cases hg : G b with
  | none => rfl
  | some o => have := hI.gin.lt hg; omega
 have h1 : Inv G (A ++ B1) (own ++ H b0) w1 := ⟨fun b o e => (hbel.block b (hI.gin.lt e)).trans (hI.gin b o e), (List.nodup_append.1 (by rw [← List.append_assoc] at nd; exact nd)).1, fun b hb => ⟨Nat.lt_of_lt_of_le (hlt b hb) hbel.size, (hI.own b (hsub b hb)).2⟩,
  (hsP.append hA hB1).loc fun b hb => hbel.block b (hlt b hb)⟩
 let rc : Loop := { state := .ready, pending := none, fn, tmps := a.tmps, params := ps, assign, body, defers := D }
 have h2 : Inv G (l :: (A ++ B1)) (own ++ [.pack (.lrec l { rc with state := .ready, pending := none } :: .regs rs a :: H b0)]) w1 := inv_rec.2 ⟨_, .refl _, h1, hl1, hgl l hlw, hlr, hR⟩
 have hcon := it.con (.func (.yield l) #[] #[]) β (Exit × β) (fun b => .lrec l { rc with state := .ready, pending := none } :: .regs rs a :: H b) (fun b => .lrec l { rc with state := .done, pending := some (codeOf b.1) } :: .regs rs a :: Hx b.1 b.2) I (fun _ b => (b.1 = .ret ∨ ∃ id, b.1 = .exit id) ∧ Ix b.1 b.2) inferInstance
  (fun k hk b u hb => round_yield (rc := rc) hps hpt hn rfl rfl rfl rfl I H Ix Hx hbody hk u hb) b0 hi0
 have hcalls := hcon.calls G _ (.func (.yield l) #[] #[] :: us) w1 ⟨rfl, hus⟩ h2
 refine ⟨l, mk, w1, { target := .fn (.func gf) us.toArray, args := #[.func (.yield l) #[] #[]] }, w1, gf, #[.func (.yield l) #[] #[]] ++ us.toArray, w1, hen, ?_, ?_, ?_, ?_, ?_⟩
 ·simp only [resolve, e1]; simp [go_sem]
 ·exact fun f' _ => c.wd.fn f'
 ·simp [invoke, go_sem, hcon.enters]
 ·exact fun h => by rw [c.wd.depth] at h; cases h
 have hargs : #[Value.func (.yield l) #[] #[]] ++ us.toArray = (Value.func (.yield l) #[] #[] :: us).toArray := by simp
 rw [hargs]
 refine c.wd.calls (hcalls.mono ?_)
 rintro e w2 ⟨v, av, prod, G', F', rfl, hp, hfr, hi, hv⟩
 have hsz1 := hbel.size
 have fin : ∀ (s : LoopState) (p : Option Code) (H' : List HA), s ≠ .busy → Inv G' F' (own ++ [.pack (.lrec l { rc with state := s, pending := p } :: .regs rs a :: H')]) w2 →
   ∃ w3, (Instr.endLoop l).run c.P w2 = .ok p w3 ∧ St c ⟨rs, own ++ H'⟩ { a with defers := mk ++ a.defers } w3 := fun s p H' hs hi => by
  obtain ⟨F3, e3, h3, hl3, hg3, hr3, hR3⟩ := inv_rec.1 hi
  refine ⟨_, run_endLoop hr3 hs, G', F3, h3.put _ hl3 hg3, ?_, hR3, hn, ?_⟩
  ·refine hF.trans ⟨?_, ?_, ?_, ?_, fun b hb hnF => ?_, fun b hb => ?_, hfr.gle, fun b o hb => ?_⟩
   ·exact hfr.os.trans hbel.os
   ·exact hfr.tape.trans hbel.tape
   ·exact hfr.output.trans hbel.output
   ·rw [World.putObj_size]; exact Nat.le_trans hsz1 hfr.size
   ·have hbl : b ≠ l := fun e => by omega
    rw [World.putObj_heap_other hbl, hfr.same b (by omega) (by rw [List.mem_cons, not_or]; exact ⟨hbl, fun h => hnF (hsub b h)⟩), hbel.block b hb]
   ·rcases hfr.newF b (e3.mem_iff.2 (List.mem_cons_of_mem _ hb)) with h | h
    ·rcases List.mem_cons.1 h with rfl | h
     ·exact absurd hb hl3
     ·exact .inl (hsub b h)
    ·exact .inr (by omega)
   ·rcases hfr.newG b o hb with h | h | h
    ·exact .inl h
    ·rcases List.mem_cons.1 h with rfl | h
     ·rw [hg3] at hb; cases hb
     ·exact .inr (.inl (hsub b h))
    ·exact .inr (.inr (by omega))
  ·-- the marks
   have step : ∀ D, w.heap.size ≤ D ∨ D ∉ F → D ≠ l → D < w1.heap.size → G D = none → w1.heap[D]? = some (.deferred (some [])) → D ∉ F3 ∧ G' D = none ∧ (w2.putObj l (.loop { rc with state := .exhausted, pending := p })).heap[D]? = some (.deferred (some [])) := fun D hD hDl hD1 hDG hDh => by
    have hn1 : D ∉ l :: (A ++ B1) := by
     rw [List.mem_cons, not_or]
     exact ⟨hDl, fun h => by rcases hD with hD | hD; (have := hlt D h; omega); exact hD (hsub D h)⟩
    refine ⟨fun h => ?_, ?_, ?_⟩
    ·rcases hfr.newF D (e3.mem_iff.2 (List.mem_cons_of_mem _ h)) with h | h
     ·exact hn1 h
     ·omega
    ·cases hg : G' D with
     | none => rfl
     | some o =>
      rcases hfr.newG D o hg with h | h | h
      ·rw [hDG] at h; cases h
      ·exact absurd h hn1
      ·omega
    ·rw [World.putObj_heap_other hDl, hfr.same D hD1 hn1]; exact hDh
   obtain ⟨Ds, ed, nd, hD, hz⟩ := hd
   have hold : ∀ D ∈ Ds, c.w0.heap.size ≤ D ∧ D ∉ F3 ∧ G' D = none ∧ (w2.putObj l (.loop { rc with state := .exhausted, pending := p })).heap[D]? = some (.deferred (some [])) := fun D hDm => by
    obtain ⟨k1, k2, k3, k4⟩ := hD D hDm
    have hlt := (Array.getElem?_eq_some_iff.1 k4).1
    exact ⟨k1, step D (.inr k2) (by omega) (by omega) k3 ((hbel.block D hlt).trans k4)⟩
   rcases hmk with rfl | ⟨z, rfl, hz1, hz2, hz3, hz4⟩
   ·exact ⟨Ds, by simpa using ed, nd, hold, hz⟩
   ·refine ⟨z :: Ds, by rw [List.map_cons, ← ed]; rfl, List.nodup_cons.2 ⟨fun h => ?_, nd⟩, fun D hDm => ?_, fun h => absurd hz4 h⟩
    ·have := (Array.getElem?_eq_some_iff.1 (hD z h).2.2.2).1; omega
    ·rcases List.mem_cons.1 hDm with rfl | hDm
     ·exact ⟨Nat.le_trans hF.size hz1, step D (.inl hz1) hz2 (Array.getElem?_eq_some_iff.1 hz3).1 (hgl D hz1) hz3⟩
     ·exact hold D hDm
 rcases hp with ⟨b, hb, rfl⟩ | ⟨k, b, _, _, ⟨he, hb⟩, rfl⟩
 ·obtain ⟨w3, h1, h2⟩ := fin _ _ _ (fun h => by cases h) hi
  exact ⟨none, w3, h1, _, h2, hdone b hb⟩
 ·obtain ⟨w3, h1, h2⟩ := fin _ _ _ (fun h => by cases h) hi
  refine ⟨_, w3, h1, ?_⟩
  obtain ⟨e, b⟩ := b
  have hj := hjump e b he hb
  rcases he with rfl | ⟨id, rfl⟩
  ·exact wpIn_ret ⟨_, h2, hj⟩
  ·exact wpIn_exit ⟨_, h2, hj⟩
end
theorem W_range {n : Nat} {P : Program} {w0 : World} {F0 : List Nat} {G0 : Nat → Option Obj} {nt : Nat} {wd : Wd Fence.wide} {rs : List (Nat × AV)} {hs : List HA} {Q : Exit → S → Prop} {g : Operand} {ps : Array Tmp} {assign body : Code} {gf : FuncId} {caps : List AV} {own r : List HA} {α β τ : Type} {f : α → τ → List AV} {t : α → τ → List HA} {xs : List α}
  (hg : opv rs g = some (.clo gf caps)) (it : Iter P gf caps own f t xs) (hcut : Cut hs own r) (I : Nat → β → Prop) (H : β → List HA) (Ix : Exit → β → Prop) (Hx : Exit → β → List HA) (b0 : β) (hi0 : I 0 b0) (hH0 : SubP (H b0) r)
  (hps : ∀ x ∈ xs, ∀ u, (f x u).length = ps.toList.length) (hpt : ps.toList.all (fun p => Nat.blt p nt) = true) (hbody : Rounds P nt ps.toList assign body rs own f t xs I H Ix Hx)
  (hdone : ∀ b, I xs.length b → Q .normal ⟨rs, own ++ H b⟩) (hjump : ∀ e b, e = .ret ∨ (∃ id, e = .exit id) → Ix e b → Q e ⟨rs, own ++ Hx e b⟩) :
  W (Cx.mk Fence.wide n P w0 F0 G0 nt wd) (.rangeFunc g ps assign body) ⟨rs, hs⟩ Q := ⟨fun a w st =>
 range_core st hg it hcut I H Ix Hx b0 hi0 (fun h => hH0.ok h) hps (fun p hp => by have := List.all_eq_true.1 hpt p hp; simpa only [Nat.blt_eq] using this) hbody hdone hjump fun fn =>
  ⟨w.heap.size + 1, _, _, w.heap.size, run_enterLoop_outer fn a.tmps ps assign body, by omega, by have h := World.alloc_heap_new (w.alloc (.deferred (some []))) (.loop { state := .ready, pending := none, fn, tmps := a.tmps, params := ps, assign, body, defers := w.heap.size }); rw [World.size_alloc] at h; exact h,
   ((Below.refl w.heap.size w).alloc (Nat.le_refl _) _).alloc (by simp) _, .inr ⟨w.heap.size, rfl, Nat.le_refl _, by omega, (Below.heap_alloc _ _ _ (by simp)).trans (World.alloc_heap_new w _), rfl⟩⟩⟩
section
variable {P : Program} {rs : List (Nat × AV)} {hsR : List HA} {d : Option Nat} {ty : TypeId} {pos : String} {af : Array Edge} {g : Option (Nat × Bool)}
theorem Fits.cut {G : Nat → Option Obj} : ∀ {cs : List AV} {vs : List Value} (k : Nat), Fits G cs vs → Fits G (cs.drop k) (vs.drop k) ∧ Fits G (cs.take k) (vs.take k)
 | [], [], k, _ => by simp [Fits]
 | [], _ :: _, _, h => h.elim
 | _ :: _, [], _, h => h.elim
 | c :: cs, v :: vs, 0, h => ⟨h, trivial⟩
 | c :: cs, v :: vs, k + 1, h => ⟨(Fits.cut k h.2).1, h.1, (Fits.cut k h.2).2⟩
end
section
variable {c : Cx} {rs : List (Nat × AV)} {hs : List HA} {Q : Exit → S → Prop} {ops : Array Oper} {tl : List Oper} {d : Nat} {ty : TypeId} {pos : String} {af : Array Edge}
end
theorem resK1 {P : Program} {fn : Func} {t : Tmp} {post : AV → List HA → Prop} {rs : List (Nat × AV)} {hs kept r : List HA} {av : AV} (hr : fn.results = #[.tmp t]) (hl : look rs t = some av) (hp : post av kept) (hcut : Cut hs kept r) : Res P fn post ⟨rs, hs⟩ := resK hr hl hcut hp
theorem resK0 {P : Program} {fn : Func} {post : AV → List HA → Prop} {rs : List (Nat × AV)} {hs kept r : List HA} (hr : fn.results = #[]) (hp : post (.tup []) kept) (hcut : Cut hs kept r) : Res P fn post ⟨rs, hs⟩ :=
 ⟨_, kept, hp, fun a w G F hR hI => by
  obtain ⟨F1, h1, h2⟩ := inv_keep (rest := r) ⟨hI.gin, hI.nd, hI.own, hcut.sel hI.hs⟩
  exact ⟨.tuple #[], G, F1, by simp [results, hr, go_sem], h2, h1, ⟨[], rfl, trivial⟩⟩⟩
theorem resK2 {P : Program} {fn : Func} {t u : Tmp} {post : AV → List HA → Prop} {rs : List (Nat × AV)} {hs kept r : List HA} {av bv : AV} (hr : fn.results = #[.tmp t, .tmp u]) (hl : look rs t = some av) (hl2 : look rs u = some bv) (hp : post (.tup [av, bv]) kept) (hcut : Cut hs kept r) : Res P fn post ⟨rs, hs⟩ :=
 ⟨_, kept, hp, fun a w G F hR hI => by
  obtain ⟨F1, h1, h2⟩ := inv_keep (rest := r) ⟨hI.gin, hI.nd, hI.own, hcut.sel hI.hs⟩
  exact ⟨_, G, F1, results_tmp2 hr _ _ _, h2, h1, ⟨[_, _], rfl, hR _ _ hl, hR _ _ hl2, trivial⟩⟩⟩
theorem resK3 {P : Program} {fn : Func} {t u x : Tmp} {post : AV → List HA → Prop} {rs : List (Nat × AV)} {hs kept r : List HA} {av bv cv : AV} (hr : fn.results = #[.tmp t, .tmp u, .tmp x]) (hl : look rs t = some av) (hl2 : look rs u = some bv) (hl3 : look rs x = some cv) (hp : post (.tup [av, bv, cv]) kept) (hcut : Cut hs kept r) : Res P fn post ⟨rs, hs⟩ :=
 ⟨_, kept, hp, fun a w G F hR hI => by
  obtain ⟨F1, h1, h2⟩ := inv_keep (rest := r) ⟨hI.gin, hI.nd, hI.own, hcut.sel hI.hs⟩
  exact ⟨_, G, F1, results_tmp3 hr _ _, h2, h1, ⟨[_, _, _], rfl, hR _ _ hl, hR _ _ hl2, hR _ _ hl3, trivial⟩⟩⟩
theorem wl_callP {c : Cx} {rs : List (Nat × AV)} {hs pre r : List HA} {Q : Exit → S → Prop} {ops : Array Oper} {tl : List Oper} {d : Nat} {ty : TypeId} {pos : String} {af : Array Edge} {k : FuncId} {xs : List Operand} {ts : Array TypeId} {avs : List AV} {post : AV → List HA → Prop} (hc : Con c.P k avs pre post) (hx : opvs rs xs = some avs) (hcut : Cut hs pre r) (hd : Nat.blt d c.nt = true) (kk : ∀ av prod, post av prod → WL c ops tl ⟨(d, av) :: rs, prod ++ r⟩ Q) : WL c ops (⟨some d, .call { callee := .value (.func k), args := xs.toArray, argTypes := ts }, ty, pos, af, none⟩ :: tl) ⟨rs, hs⟩ Q := wl_callC hc hx hcut hd kk
theorem Res_frz {α : Type} {P : Program} {fn : Func} {post : AV → List HA → Prop} {rs : List (Nat × AV)} {hs r : List HA} {e : TypeId} {n : Nat} {f : α → List AV} {xs : List α} {v : Value} (i : Nat) (hl : look rs i = some (.val v)) (hr : Rm hs (.row v e n f xs) r) (k : Res P fn post ⟨(i, .sl n f xs) :: rs, r⟩) : Res P fn post ⟨rs, hs⟩ := by
 obtain ⟨av, prod, hp, h⟩ := k
 refine ⟨av, prod, hp, fun a w G F hR hI => ?_⟩
 obtain ⟨G', F', h1, h2, h3⟩ := row_freeze (rest := r) ⟨hI.gin, hI.nd, hI.own, hr.sel hI.hs⟩
 obtain ⟨u, G2, F2, k1, k2, k3, k4⟩ := h a w G' F' (fun j av ek => by
  simp only [look] at ek
  cases hb : Nat.beq i j with
  | true =>
   rw [hb] at ek
   obtain rfl := Nat.eq_of_beq_eq_true hb
   simp only [cond_true, Option.some.injEq] at ek
   subst ek
   have : a.tmps.getD i undef = v := hR _ _ hl
   rw [this]; exact h3
  | false => rw [hb] at ek; exact av.mono h2.gle (hR j av (by simpa using ek))) h1
 exact ⟨u, G2, F2, k1, h2.trans k2, k3, k4⟩
theorem flat_cut {α : Type} {f : α → List AV} {n : Nat} {xs : List α} (h : ∀ x ∈ xs, (f x).length = n) {k : Nat} (hk : k < xs.length) : ((xs.flatMap f).drop (k * n)).take n = f xs[k] := by
 have hlen := h _ (List.getElem_mem hk)
 have hl := lenL h
 have hle : (k + 1) * n ≤ xs.length * n := Nat.mul_le_mul_right n hk
 rw [Nat.succ_mul] at hle
 apply List.ext_getElem?
 intro j
 by_cases hj : j < n
 ·rw [List.getElem?_take, if_pos hj, List.getElem?_drop]
  exact flat_get h k hk j hj
 ·rw [List.getElem?_eq_none (by rw [List.length_take]; omega), List.getElem?_eq_none (by omega)]
section
variable {P : Program} {rs : List (Nat × AV)} {hsR : List HA} {d : Option Nat} {ty : TypeId} {pos : String} {af : Array Edge} {g : Option (Nat × Bool)}
theorem lt_loadRN {α : Type} {x : Operand} {t e : TypeId} {n k : Nat} [hT : TyN P t n] {v : Value} {f : α → List AV} {xs : List α} (hx : opv rs x = some (.rat v n k 0)) (hk : k < xs.length) : LT P ⟨d, .load t x, ty, pos, af, g⟩ rs [.row v e n f xs] (Is (.agg (f xs[k])) [.row v e n f xs]) :=
 LT_read (fun _ e => by cases e) fun a w G F hR hG hrow => by
  obtain ⟨b', len, cap', ev, e1⟩ : (AV.rat v n k 0).P G (a.eval x) := opv_ok hR hx
  rcases row_val hrow with ⟨_, rfl⟩ | ⟨b, cap, cur, vs, ev', hnc, _, hb, hcs, hl, hf, htake, _⟩
  ·exact absurd hk (Nat.not_lt_zero _)
  ·rw [ev] at ev'
   simp only [Value.slice.injEq, Option.some.injEq, Addr.mk.injEq] at ev'
   obtain ⟨⟨rfl, _⟩, rfl, rfl⟩ := ev'
   have hfit := (Fits.cut n (Fits.cut (k * n) hf).1).2
   rw [flat_cut hl hk] at hfit
   refine ⟨.agg ((vs.drop (k * n)).take n).toArray, ⟨_, rfl, hfit⟩, ?_⟩
   have hlt : k * n + n ≤ xs.length * n := by
    calc k * n + n = (k + 1) * n := (Nat.succ_mul k n).symm
     _ ≤ xs.length * n := Nat.mul_le_mul_right n hk
   have hlen := hfit.length
   have hln := hl _ (List.getElem_mem hk)
   simp only [execOp, e1, Sem.run_bind]
   rw [Nat.add_zero, run_loadN (n := n) (vs := (vs.drop (k * n)).take n) (by rw [hlen, hln]) (fun j u ej => by
    rw [cell_of_row w b' _ _ _ _ hb]
    rw [List.getElem?_take] at ej
    split at ej
    ·rw [List.getElem?_drop, ← htake, List.getElem?_take, if_pos (by omega)] at ej
     simpa using ej
    ·cases ej)]
   rfl
end
section
variable {c : Cx} {rs : List (Nat × AV)} {hs : List HA} {Q : Exit → S → Prop} {ops : Array Oper} {tl : List Oper} {d : Nat} {ty : TypeId} {pos : String} {af : Array Edge}
theorem wl_loadRN {α : Type} {x : Operand} {t e : TypeId} {n kk : Nat} [TyN c.P t n] {v : Value} {f : α → List AV} {xs : List α} {g : HA → List HA} (hx : opv rs x = some (.rat v n kk 0)) (hat : At hs (.row v e n f xs) g) (hk : kk < xs.length) (hd : Nat.blt d c.nt = true) (k : WL c ops tl ⟨(d, .agg (f xs[kk])) :: rs, hs⟩ Q) : WL c ops (⟨some d, .load t x, ty, pos, af, none⟩ :: tl) ⟨rs, hs⟩ Q := wl_rd (lt_loadRN hx hk) hat hd k
end
def gall (G : Nat → Option Obj) (F : List Nat) (w : World) : Nat → Option Obj := fun b => if b ∈ F then w.heap[b]? else G b
theorem gall_le {G : Nat → Option Obj} {F : List Nat} {w : World} (h : ∀ b ∈ F, G b = none) : Gle G (gall G F w) := fun b o e => by
 unfold gall
 rw [if_neg (fun hb => by rw [h b hb] at e; cases e)]; exact e
theorem gall_in {G : Nat → Option Obj} {F : List Nat} {w : World} (h : Gin G w) : Gin (gall G F w) w := fun b o e => by
 unfold gall at e
 split at e
 ·exact e
 ·exact h b o e
theorem row_view {α β : Type} {G : Nat → Option Obj} {F F1 : List Nat} {w : World} {v : Value} {e : TypeId} {n : Nat} {f : α → List AV} {f' : β → List AV} {xs : List α} {ys : List β} (h : (HA.row v e n f xs).P G F1 w) (hsub : ∀ b ∈ F1, b ∈ F) (hlen : ys.length = xs.length)
  (hv : ∀ i (h1 : i < xs.length) (h2 : i < ys.length) (j : Nat) (av' : AV), (f' ys[i])[j]? = some av' → ∃ av : AV, (f xs[i])[j]? = some av ∧ ∀ u, av.P G u → av'.P (gall G F w) u) : (AV.sl n f' ys).P (gall G F w) v := by
 rcases row_val h with ⟨rfl, rfl⟩ | ⟨b, cap, cur, vs, rfl, hnc, hF1, hb, hcs, hl, hf, htake, _⟩
 ·exact ⟨none, 0, by rw [hlen]; rfl, by rw [hlen]; exact Nat.le_refl _, fun i hi => by rw [hlen] at hi; exact absurd hi (Nat.not_lt_zero _)⟩
 ·refine ⟨some ⟨b, 0, none⟩, cap, by rw [hlen], by rw [hlen]; exact hnc, fun i hi => ⟨b, 0, rfl, fun j av' ej => ?_⟩⟩
  have hi' : i < xs.length := by omega
  obtain ⟨av, e1, e2⟩ := hv i hi' hi j av' ej
  have hjn : j < n := by
   have := (List.getElem?_eq_some_iff.1 e1).1
   rwa [hl _ (List.getElem_mem hi')] at this
  obtain ⟨u, hu, hp⟩ := hf.get (i := i * n + j) (av := av) (by rw [flat_get hl i hi' j hjn]; exact e1)
  refine ⟨u, ?_, e2 u hp⟩
  have hlt : i * n + j < xs.length * n := by
   calc i * n + j < i * n + n := by omega
    _ = (i + 1) * n := (Nat.succ_mul i n).symm
    _ ≤ xs.length * n := Nat.mul_le_mul_right n hi'
  have hbF : b ∈ F := hsub b (by rw [hF1]; simp)
  unfold cellG gall
  rw [if_pos hbF, hb]
  simp only [Nat.zero_add]
  rw [← htake, List.getElem?_take, if_pos hlt] at hu
  simpa using hu
theorem row_view1 {α : Type} {G : Nat → Option Obj} {F F1 : List Nat} {w : World} {v : Value} {e : TypeId} {n : Nat} {f : α → List AV} {xs : List α} (h : (HA.row v e n f xs).P G F1 w) (hsub : ∀ b ∈ F1, b ∈ F) (hle : Gle G (gall G F w)) : (AV.sl n f xs).P (gall G F w) v :=
 row_view h hsub rfl fun i h1 h2 j av' ej => ⟨av', ej, fun u hu => av'.mono hle hu⟩
structure Thaw (h : HA) (av av' : AV) : Prop where
 out : ∀ (G : Nat → Option Obj) (F : List Nat) (w : World), h.P G F w → Gle G (gall G F w) → ∀ v, av.P G v → av'.P (gall G F w) v
structure Pers (hs : List HA) : Prop where
 out : ∀ G F w, hsP hs G F w → F = []
theorem Pers.nil : Pers [] := ⟨fun _ _ _ h => h⟩
theorem Pers.cons {h : HA} {t : List HA} (h1 : ∀ G F w, h.P G F w → F = []) (k : Pers t) : Pers (h :: t) := ⟨fun G F w ⟨F1, F2, e, a, b⟩ => by
 have := h1 _ _ _ a; have := k.out _ _ _ b; subst_vars; simpa using e⟩
theorem lt_borrow {P : Program} {o : Oper} {rs : List (Nat × AV)} {h : HA} {pers : List HA} {i : Nat} {av av' : AV} {cv : Value} (hl : look rs i = some av) (ht : Thaw h av av') (hp : Pers pers) (k : LT P o ((i, av') :: rs) pers (Is (.val cv) pers)) : LT P o rs (h :: pers) (Is (.val cv) (h :: pers)) := by
 refine ⟨?_⟩
 intro F n hF a w G Fp K Q hR hI hk
 obtain ⟨F1, F2, ep, hh, hps⟩ := hI.hs
 have h2 := hp.out _ _ _ hps
 subst h2
 rw [List.append_nil] at ep
 have hm : ∀ b, b ∈ F1 ↔ b ∈ Fp := fun b => ep.mem_iff.symm
 have hle : Gle G (gall G F1 w) := gall_le fun b hb => (hI.own b ((hm b).1 hb)).2
 have hle3 : ∀ {G2}, Gle (gall G F1 w) G2 → Gle G (fun b => if b ∈ F1 then none else G2 b) := fun {G2} h2 b o e => by
  have hb : b ∉ F1 := fun hb => by rw [(hI.own b ((hm b).1 hb)).2] at e; cases e
  show (if b ∈ F1 then none else G2 b) = some o
  rw [if_neg hb]; exact h2 b o (hle b o e)
 refine k.go F n hF a w (gall G F1 w) [] K Q (fun j u e => ?_) ⟨gall_in hI.gin, List.nodup_nil, fun _ hb => (by cases hb), hps.mono hle⟩ fun v x prod G2 F2' w' ⟨e1, e2⟩ hfr hi hv => ?_
 ·simp only [look] at e
  cases hb : Nat.beq i j with
  | true =>
   rw [hb] at e
   obtain rfl := Nat.eq_of_beq_eq_true hb
   simp only [cond_true, Option.some.injEq] at e
   subst e
   exact ht.out G F1 w hh hle _ (hR _ _ hl)
  | false => rw [hb] at e; exact AV.mono _ hle (hR j u (by simpa using e))
 ·subst e1 e2
  have hF2 := hp.out _ _ _ hi.hs
  subst hF2
  have hsame : ∀ b ∈ F1, w'.heap[b]? = w.heap[b]? := fun b hb => by
   have hlt := (hI.own b ((hm b).1 hb)).1
   have : gall G F1 w b = some w.heap[b] := by unfold gall; rw [if_pos hb, Array.getElem?_eq_getElem hlt]
   rw [hi.gin b _ (hfr.gle b _ this), Array.getElem?_eq_getElem hlt]
  refine hk v _ _ (fun b => if b ∈ F1 then none else G2 b) Fp w' ⟨rfl, rfl⟩ ⟨hfr.os, hfr.tape, hfr.output, hfr.size, fun b hb _ => hfr.same b hb (by simp), fun b hb => .inl hb, hle3 hfr.gle, fun b o e => ?_⟩ ⟨fun b o e => ?_, hI.nd, fun b hb => ⟨Nat.lt_of_lt_of_le (hI.own b hb).1 hfr.size, if_pos ((hm b).2 hb)⟩, F1, [], by rw [List.append_nil]; exact ep, HA.mono _ (hle3 hfr.gle) (HA.loc _ hsame hh), (hps.mono (hle3 hfr.gle)).loc fun b hb => (by cases hb)⟩ hv
  ·split at e
   ·cases e
   ·rename_i hb
    rcases hfr.newG b o e with h | h | h
    ·unfold gall at h; rw [if_neg hb] at h; exact .inl h
    ·cases h
    ·exact .inr (.inr h)
  ·split at e
   ·cases e
   ·exact hi.gin b o e
theorem wl_borrow {c : Cx} {rs : List (Nat × AV)} {hs pers r : List HA} {Q : Exit → S → Prop} {ops : Array Oper} {tl : List Oper} {d : Nat} {ty : TypeId} {pos : String} {af : Array Edge} {k : FuncId} {xs : List Operand} {ts : Array TypeId} {avs : List AV} {h : HA} {av av' : AV} {cv : Value} (i : Nat) (ht : Thaw h av av') (hc : Con c.P k avs pers (Is (.val cv) pers)) (hl : look rs i = some av) (hx : opvs ((i, av') :: rs) xs = some avs) (hcut : Cut hs (h :: pers) r) (hp : Pers pers) (hd : Nat.blt d c.nt = true) (kk : WL c ops tl ⟨(d, .val cv) :: rs, h :: (pers ++ r)⟩ Q) : WL c ops (⟨some d, .call { callee := .value (.func k), args := xs.toArray, argTypes := ts }, ty, pos, af, none⟩ :: tl) ⟨rs, hs⟩ Q :=
 WL_lt (cons := h :: pers) (rest := r) hd rfl (fun _ _ _ hh => hcut.sel hh) (lt_borrow hl ht hp (lt_call hx hc)) fun av pr ⟨e1, e2⟩ => by subst e1; subst e2; exact kk
section
variable {P : Program} {rs : List (Nat × AV)} {d : Option Nat} {ty : TypeId} {pos : String} {af : Array Edge} {g : Option (Nat × Bool)}
theorem lt_eqlNil {α : Type} {x : Operand} {t t' e : TypeId} {n m : Nat} (hT : TyS P t e m) {f : α → List AV} {xs : List α} (hx : opv rs x = some (.sl n f xs)) : LT P ⟨d, .binOp .eql t x (.const (.slice none 0 0)) t', ty, pos, af, g⟩ rs [] (fun av y => ∃ b : Bool, av = .val (.bool b) ∧ y = [] ∧ (b = true → xs = [])) :=
 LT_eff (fun _ e => by cases e) fun a w G F hR hI => by
  obtain ⟨p, cap, e1, hc, hs⟩ : (AV.sl n f xs).P G (a.eval x) := opv_ok hR hx
  refine ⟨.value (.bool p.isNone), w, .bool p.isNone, _, [], G, F, ?_, .inl rfl, ⟨p.isNone, rfl, rfl, fun hb => ?_⟩, Fr.refl _ _ _, hI, rfl⟩
  ·simp only [execOp, e1]
   have h1 : (eqGuard .eql t x (.const (.slice none 0 0)) (.slice p xs.length cap) (a.eval (.const (.slice none 0 0)))).run P w = .ok () w := by simp [eqGuard, Act.eval, go_sem]
   have h2 : (binOp .eql t (.slice p xs.length cap) (a.eval (.const (.slice none 0 0)))).run P w = .ok (.bool p.isNone) w := run_eql_slice_nil w t e p _ _ hT.und
   simp only [Sem.run_bind, h1, h2, Result.andThen_ok]
   rfl
  ·cases xs with
   | nil => rfl
   | cons y ys =>
    obtain ⟨b, o, e2, _⟩ := hs 0 (by simp)
    rw [e2] at hb; cases hb
end
section
variable {c : Cx} {rs : List (Nat × AV)} {hs : List HA} {Q : Exit → S → Prop} {ops : Array Oper} {tl : List Oper} {d : Nat} {ty : TypeId} {pos : String} {af : Array Edge}
theorem wl_eqlNil {α : Type} {x : Operand} {t t' e : TypeId} {n m : Nat} {f : α → List AV} {xs : List α} (hx : opv rs x = some (.sl n f xs)) (hT : TyS c.P t e m) (hd : Nat.blt d c.nt = true) (k : ∀ b : Bool, (b = true → xs = []) → WL c ops tl ⟨(d, .val (.bool b)) :: rs, hs⟩ Q) : WL c ops (⟨some d, .binOp .eql t x (.const (.slice none 0 0)) t', ty, pos, af, none⟩ :: tl) ⟨rs, hs⟩ Q :=
 WL_lt (cons := []) (rest := hs) hd rfl (fun _ _ _ h => h) (lt_eqlNil hT hx) fun av pr ⟨b, e1, e2, hb⟩ => by subst e1; subst e2; exact k b hb
end
theorem resKN {P : Program} {fn : Func} {x : Tmp} {t tb : TypeId} {n : Nat} {post : AV → List HA → Prop} {rs : List (Nat × AV)} {hs kept r : List HA} {p : Value} {cs : List AV} {f : HA → List HA} (hr : fn.results = #[.cell x t]) (hx : look rs x = some (.val p)) (hat : At hs (.box p cs tb) f) (hT : TyN P t n) (hn : cs.length = n) (hp : post (.agg cs) kept) (hcut : Cut hs kept r) : Res P fn post ⟨rs, hs⟩ := by
 refine ⟨_, kept, hp, fun a w G F hR hI => ?_⟩
 obtain ⟨rest, hs'⟩ := hat.sel
 obtain ⟨F1, F2, e, ⟨b, vs, hpb, hF1, hf, hb⟩, h2⟩ := (hs' _ _ _ _).1 (by rw [hat.self]; exact hI.hs)
 obtain ⟨F3, h1, h2⟩ := inv_keep (rest := r) ⟨hI.gin, hI.nd, hI.own, hcut.sel hI.hs⟩
 refine ⟨.agg vs.toArray, G, F3, ?_, h2, h1, ⟨vs, rfl, hf⟩⟩
 have hxv : a.tmps.getD x undef = p := hR _ _ hx
 rw [Array.getD_eq_getD_getElem?] at hxv
 have h1 := run_loadN (P := P) (t := t) (n := n) (w := w) (b := b) (j := 0) (vs := vs) (by rw [hf.length, hn]) (fun k u e => by rw [cell_of_row w b _ _ _ _ hb]; simpa using e)
 simp only [Instr.loadAt, Instr.sureAddr, Sem.run_bind, Sem.run_pure, Result.andThen_ok] at h1
 simp [results, hr, hxv, hpb, asAddr, h1]
theorem resKN1 {P : Program} {fn : Func} {x u : Tmp} {t tb : TypeId} {n : Nat} {post : AV → List HA → Prop} {rs : List (Nat × AV)} {hs kept r : List HA} {p : Value} {cs : List AV} {bv : AV} {f : HA → List HA} (hr : fn.results = #[.cell x t, .tmp u]) (hx : look rs x = some (.val p)) (hat : At hs (.box p cs tb) f) (hT : TyN P t n) (hn : cs.length = n) (hl2 : look rs u = some bv) (hp : post (.tup [.agg cs, bv]) kept) (hcut : Cut hs kept r) : Res P fn post ⟨rs, hs⟩ := by
 refine ⟨_, kept, hp, fun a w G F hR hI => ?_⟩
 obtain ⟨rest, hs'⟩ := hat.sel
 obtain ⟨F1, F2, e, ⟨b, vs, hpb, hF1, hf, hb⟩, h2⟩ := (hs' _ _ _ _).1 (by rw [hat.self]; exact hI.hs)
 obtain ⟨F3, h1, h2⟩ := inv_keep (rest := r) ⟨hI.gin, hI.nd, hI.own, hcut.sel hI.hs⟩
 refine ⟨.tuple #[.agg vs.toArray, a.tmps.getD u undef], G, F3, ?_, h2, h1, ⟨[.agg vs.toArray, _], rfl, ⟨vs, rfl, hf⟩, hR _ _ hl2, trivial⟩⟩
 have hxv : a.tmps.getD x undef = p := hR _ _ hx
 rw [Array.getD_eq_getD_getElem?] at hxv
 have h1 := run_loadN (P := P) (t := t) (n := n) (w := w) (b := b) (j := 0) (vs := vs) (by rw [hf.length, hn]) (fun k u e => by rw [cell_of_row w b _ _ _ _ hb]; simpa using e)
 simp only [Instr.loadAt, Instr.sureAddr, Sem.run_bind, Sem.run_pure, Result.andThen_ok] at h1
 simp [results, hr, hxv, hpb, asAddr, h1]
theorem Res_row0 {α : Type} {P : Program} {fn : Func} {post : AV → List HA → Prop} {rs : List (Nat × AV)} {hs : List HA} (e : TypeId) (n : Nat) (f : α → List AV) (k : Res P fn post ⟨rs, .row (.slice none 0 0) e n f [] :: hs⟩) : Res P fn post ⟨rs, hs⟩ := by
 obtain ⟨av, prod, hp, h⟩ := k
 exact ⟨av, prod, hp, fun a w G F hR hI => h a w G F hR ⟨hI.gin, hI.nd, hI.own, [], F, .refl _, ⟨[], rfl, fun _ h => (by cases h), trivial, fun _ h => (by cases h), ⟨by simp, .inl ⟨rfl, rfl⟩⟩⟩, hI.hs⟩⟩
theorem st_snoc {c : Cx} {rs : List (Nat × AV)} {hs r r' l : List HA} {h : HA} {a : Act} {w : World} (hr : Rm hs (.pack l) r) (hr2 : Rm r h r') (st : St c ⟨rs, hs⟩ a w) : St c ⟨rs, .pack (l ++ [h]) :: r'⟩ a w := by
 obtain ⟨G, F, hI, rr⟩ := st
 refine ⟨G, F, ⟨hI.gin, hI.nd, hI.own, ?_⟩, rr⟩
 obtain ⟨A, B, e, hA, hB⟩ := hr.sel hI.hs
 obtain ⟨C, D, e2, hC, hD⟩ := hr2.sel hB
 exact ⟨A ++ C, D, e.trans ((e2.append_left A).trans (by rw [List.append_assoc])), hsP.append hA (show hsP [h] G C w from ⟨C, [], by simp, hC, rfl⟩), hD⟩
theorem WL_snoc {c : Cx} {rs : List (Nat × AV)} {hs r r' l : List HA} {h : HA} {Q : Exit → S → Prop} {ops : Array Oper} {tl : List Oper} (hr : Rm hs (.pack l) r) (hr2 : Rm r h r') (k : WL c ops tl ⟨rs, .pack (l ++ [h]) :: r'⟩ Q) : WL c ops tl ⟨rs, hs⟩ Q := ⟨fun a w st => k.out a w (st_snoc hr hr2 st)⟩
section
variable {P : Program} {rs : List (Nat × AV)} {d : Option Nat} {ty : TypeId} {pos : String} {af : Array Edge} {g : Option (Nat × Bool)}
end
def HA.cells (b : Nat) (e : TypeId) (cs : List AV) (tot : Nat) : HA :=
 ⟨fun G F w => ∃ vs rest : List Value, F = [b] ∧ Fits G cs vs ∧ (∀ u ∈ vs, u.oneCell' = true) ∧ w.heap[b]? = some (.cells (vs ++ rest).toArray e (0, 0)) ∧ (vs ++ rest).length = tot,
  fun h ⟨vs, rest, e1, e2, e3⟩ => ⟨vs, rest, e1, e2.mono h, e3⟩,
  fun h ⟨vs, rest, e1, e2, e3, e4, e5⟩ => ⟨vs, rest, e1, e2, e3, (h b (by rw [e1]; simp)).trans e4, e5⟩⟩
section
variable {P : Program} {rs : List (Nat × AV)} {d : Option Nat} {ty : TypeId} {pos : String} {af : Array Edge} {g : Option (Nat × Bool)}
end
section
variable {c : Cx} {rs : List (Nat × AV)} {hs : List HA} {Q : Exit → S → Prop} {ops : Array Oper} {tl : List Oper} {d : Nat} {ty : TypeId} {pos : String} {af : Array Edge}
end
theorem st_unpack {c : Cx} {rs : List (Nat × AV)} {hs r l l' : List HA} {h : HA} {a : Act} {w : World} (hr : Rm hs (.pack l) r) (hp : l.Perm (h :: l')) (st : St c ⟨rs, hs⟩ a w) : St c ⟨rs, h :: .pack l' :: r⟩ a w := by
 obtain ⟨G, F, hI, rr⟩ := st
 refine ⟨G, F, ⟨hI.gin, hI.nd, hI.own, ?_⟩, rr⟩
 obtain ⟨A, B, e, hA, hB⟩ := hr.sel hI.hs
 obtain ⟨C, D, e2, hC, hD⟩ := hsP.permL hp hA
 exact ⟨C, D ++ B, e.trans ((e2.append_right B).trans (by rw [List.append_assoc])), hC, D, B, .refl _, hD, hB⟩
theorem WL_unpack {c : Cx} {rs : List (Nat × AV)} {hs r l l' : List HA} {h : HA} {Q : Exit → S → Prop} {ops : Array Oper} {tl : List Oper} (hp : l.Perm (h :: l')) (hr : Rm hs (.pack l) r) (k : WL c ops tl ⟨rs, h :: .pack l' :: r⟩ Q) : WL c ops tl ⟨rs, hs⟩ Q := ⟨fun a w st => k.out a w (st_unpack hr hp st)⟩
section
variable {P : Program} {rs : List (Nat × AV)} {d : Option Nat} {ty : TypeId} {pos : String} {af : Array Edge} {g : Option (Nat × Bool)}
end
section
variable {c : Cx} {rs : List (Nat × AV)} {hs : List HA} {Q : Exit → S → Prop} {ops : Array Oper} {tl : List Oper} {d : Nat} {ty : TypeId} {pos : String} {af : Array Edge}
end
section
variable {P : Program} {rs : List (Nat × AV)} {d : Option Nat} {ty : TypeId} {pos : String} {af : Array Edge} {g : Option (Nat × Bool)}
end
section
variable {c : Cx} {rs : List (Nat × AV)} {hs r : List HA} {Q : Exit → S → Prop} {ops : Array Oper} {tl : List Oper} {d : Nat} {ty : TypeId} {pos : String} {af : Array Edge}
theorem wl_callVP {x : Operand} {k : FuncId} {caps : List AV} {xs : List Operand} {ts : Array TypeId} {avs : List AV} {pre : List HA} {post : AV → List HA → Prop} (hc : Con c.P k (avs ++ caps) pre post) (hf : opv rs x = some (.clo k caps)) (hx : opvs rs xs = some avs) (hcut : Cut hs pre r) (hd : Nat.blt d c.nt = true) (kk : ∀ av prod, post av prod → WL c ops tl ⟨(d, av) :: rs, prod ++ r⟩ Q) : WL c ops (⟨some d, .call { callee := .value x, args := xs.toArray, argTypes := ts }, ty, pos, af, none⟩ :: tl) ⟨rs, hs⟩ Q :=
 WL_lt (cons := pre) (rest := r) hd rfl (fun _ _ _ h => hcut.sel h) (lt_callV hf hx hc) kk
theorem wl_yield {x : Operand} {y : Value} {xs : List Operand} {ts : Array TypeId} {avs : List AV} {pre : List HA} {post : AV → List HA → Prop} (hc : Yield c.P y avs pre post) (hf : opv rs x = some (.val y)) (hx : opvs rs xs = some avs) (hcut : Cut hs pre r) (hd : Nat.blt d c.nt = true) (kk : ∀ av prod, post av prod → WL c ops tl ⟨(d, av) :: rs, prod ++ r⟩ Q) : WL c ops (⟨some d, .call { callee := .value x, args := xs.toArray, argTypes := ts }, ty, pos, af, none⟩ :: tl) ⟨rs, hs⟩ Q :=
 WL_lt (cons := pre) (rest := r) hd rfl (fun _ _ _ h => hcut.sel h) (lt_yield hf hx hc) kk
end
end Go.Proofs.YthddoikmgpgakaaDoor.Sw
namespace Go.Proofs.YthddoikmgpgakaaDoor.Sw
open Go.RowKit Go
open Go.WideElems (Fit)
open Go.ChangeMaps (setBlock heap_setBlock_same heap_setBlock_other)
abbrev anyM : Value → Option (DataW Nat × List MemPlace) := fun _ => some (.nil, [])
structure KeyT (P : Program) (t : TypeId) {κ : Type} (kv : κ → Value) (ok : κ → Prop) : Prop where
 keyed : Go.Maps.Keyed P t
 key : ∀ k, ok k → ∃ l, keyOf P t (kv k) = some l
 inj : ∀ k k', kv k = kv k' → k = k'
def getM {κ α : Type} [DecidableEq κ] : List (κ × α) → κ → Option α
 | [], _ => none
 | p :: t, k => if p.1 = k then some p.2 else getM t k
def delM {κ α : Type} [DecidableEq κ] (l : List (κ × α)) (k : κ) : List (κ × α) := l.filter fun p => !decide (p.1 = k)
def putM {κ α : Type} [DecidableEq κ] (l : List (κ × α)) (k : κ) (a : α) : List (κ × α) := (k, a) :: delM l k
section
variable {κ α : Type} [DecidableEq κ]
theorem getM_iff {k : κ} {a : α} : ∀ {l : List (κ × α)}, l.Pairwise (fun p q => p.1 ≠ q.1) → (getM l k = some a ↔ (k, a) ∈ l)
 | [], _ => by simp [getM]
 | p :: t, h => by
  obtain ⟨h1, h2⟩ := List.pairwise_cons.1 h
  have ih := getM_iff (k := k) (a := a) h2
  unfold getM
  split
  ·rename_i e
   subst e
   constructor
   ·intro e; cases e; simp
   ·intro e
    rcases List.mem_cons.1 e with e | e
    ·rw [← e]
    ·exact absurd rfl (h1 (p.1, a) e)
  ·rename_i e
   rw [ih]
   constructor
   ·intro e; exact List.mem_cons_of_mem _ e
   ·intro e'
    rcases List.mem_cons.1 e' with e' | e'
    ·exact absurd (by rw [← e']) e
    ·exact e'
theorem getM_none {k : κ} : ∀ {l : List (κ × α)}, getM l k = none ↔ ∀ p ∈ l, p.1 ≠ k
 | [] => by simp [getM]
 | p :: t => by
  unfold getM
  split
  ·rename_i e; simp [e]
  ·rename_i e; rw [getM_none]; simp [e]
end
section
variable {κ α : Type} (kv : κ → Value) (g : α → AV)
def MpL (G : Nat → Option Obj) : List (κ × α) → List MapEntry → Prop
 | [], [] => True
 | p :: l, x :: xs => (x.key = kv p.1 ∧ (g p.2).P G x.val) ∧ MpL G l xs
 | _, _ => False
variable {kv g}
theorem MpL.mono {G G' : Nat → Option Obj} (h : Gle G G') : ∀ {l : List (κ × α)} {xs : List MapEntry}, MpL kv g G l xs → MpL kv g G' l xs
 | [], [], _ => trivial
 | _ :: _, _ :: _, k => ⟨⟨k.1.1, (g _).mono h k.1.2⟩, MpL.mono h k.2⟩
 | [], _ :: _, k => k.elim
 | _ :: _, [], k => k.elim
theorem MpL.perm {G : Nat → Option Obj} {xs ys : List MapEntry} (hp : xs.Perm ys) : ∀ {l : List (κ × α)}, MpL kv g G l xs → ∃ l', l.Perm l' ∧ MpL kv g G l' ys := by
 induction hp with
 | nil => exact fun {l} h => ⟨l, .refl _, h⟩
 | cons x hp ih =>
  intro l h
  match l, h with
  | p :: l, ⟨h1, h2⟩ =>
   obtain ⟨l', e, h3⟩ := ih h2
   exact ⟨p :: l', e.cons p, h1, h3⟩
  | [], h => exact h.elim
 | swap x y t =>
  intro l h
  match l, h with
  | p :: q :: l, ⟨h1, h2, h3⟩ => exact ⟨q :: p :: l, List.Perm.swap _ _ _, h2, h1, h3⟩
  | [_], h => exact h.2.elim
  | [], h => exact h.elim
 | trans _ _ ih1 ih2 =>
  intro l h
  obtain ⟨l1, e1, h1⟩ := ih1 h
  obtain ⟨l2, e2, h2⟩ := ih2 h1
  exact ⟨l2, e1.trans e2, h2⟩
theorem MpL.keys {G : Nat → Option Obj} : ∀ {l : List (κ × α)} {xs : List MapEntry}, MpL kv g G l xs → xs.map (·.key) = l.map fun p => kv p.1
 | [], [], _ => rfl
 | _ :: _, _ :: _, k => by simp only [List.map_cons]; rw [k.1.1, MpL.keys k.2]
 | [], _ :: _, k => k.elim
 | _ :: _, [], k => k.elim
variable (kv g)
def MpP (G : Nat → Option Obj) (l : List (κ × α)) (xs : List MapEntry) : Prop := ∃ l', l.Perm l' ∧ MpL kv g G l' xs
variable {kv g}
theorem MpP.perm {G : Nat → Option Obj} {l : List (κ × α)} {xs ys : List MapEntry} (h : MpP kv g G l xs) (hp : xs.Perm ys) : MpP kv g G l ys := by
 obtain ⟨l1, e1, h1⟩ := h
 obtain ⟨l2, e2, h2⟩ := h1.perm hp
 exact ⟨l2, e1.trans e2, h2⟩
theorem MpP.permL {G : Nat → Option Obj} {l k : List (κ × α)} {xs : List MapEntry} (h : MpP kv g G l xs) (hp : k.Perm l) : MpP kv g G k xs := by
 obtain ⟨l1, e1, h1⟩ := h
 exact ⟨l1, hp.trans e1, h1⟩
theorem MpP.cons {G : Nat → Option Obj} {l : List (κ × α)} {xs : List MapEntry} (h : MpP kv g G l xs) {p : κ × α} {x : MapEntry} (h1 : x.key = kv p.1) (h2 : (g p.2).P G x.val) : MpP kv g G (p :: l) (x :: xs) := by
 obtain ⟨l1, e1, h3⟩ := h
 exact ⟨p :: l1, e1.cons p, ⟨h1, h2⟩, h3⟩
theorem MpP.uncons {G : Nat → Option Obj} {l : List (κ × α)} {x : MapEntry} {xs : List MapEntry} (h : MpP kv g G l (x :: xs)) : ∃ p l3, l.Perm (p :: l3) ∧ x.key = kv p.1 ∧ (g p.2).P G x.val ∧ MpP kv g G l3 xs := by
 obtain ⟨l1, e1, h1⟩ := h
 match l1, h1 with
 | p :: l3, ⟨⟨h2, h3⟩, h4⟩ => exact ⟨p, l3, e1, h2, h3, l3, .refl _, h4⟩
 | [], h1 => exact h1.elim
theorem MpP.len {G : Nat → Option Obj} {l : List (κ × α)} {xs : List MapEntry} (h : MpP kv g G l xs) : l.length = xs.length := by
 obtain ⟨l1, e1, h1⟩ := h
 have := congrArg List.length h1.keys
 simp only [List.length_map] at this
 rw [e1.length_eq, this]
theorem MpP.nodup {G : Nat → Option Obj} {l : List (κ × α)} {xs : List MapEntry} (h : MpP kv g G l xs) (hn : (xs.map (·.key)).Nodup) : l.Pairwise (fun p q => p.1 ≠ q.1) := by
 obtain ⟨l1, e1, h1⟩ := h
 rw [h1.keys] at hn
 have hn2 : (l.map fun p => kv p.1).Nodup := (e1.map _).nodup_iff.2 hn
 have := List.pairwise_map.1 hn2
 exact this.imp fun h e => h (by rw [e])
end
def HA.mp {κ α : Type} (P : Program) (v : Value) (t : TypeId) (kv : κ → Value) (g : α → AV) (l : List (κ × α)) : HA :=
 ⟨fun G F w => ∃ b es clock, v = .map (some b) ∧ F = [b] ∧ w.heap[b]? = some (.map es clock) ∧ Fit P t anyM es clock ∧ MpP kv g G l es.toList,
  fun h ⟨b, es, clock, e1, e2, e3, e4, l', e5, e6⟩ => ⟨b, es, clock, e1, e2, e3, e4, l', e5, e6.mono h⟩,
  fun h ⟨b, es, clock, e1, e2, e3, e4⟩ => ⟨b, es, clock, e1, e2, (h b (by rw [e2]; simp)).trans e3, e4⟩⟩
section
variable {P : Program} {κ α : Type} [DecidableEq κ] {t : TypeId} {kv : κ → Value} {ok : κ → Prop} {g : α → AV} {l : List (κ × α)} {G : Nat → Option Obj} {F : List Nat} {w : World} {v : Value}
def lkA (g : α → AV) (z : Value) : Option α → AV
 | some a => g a
 | none => .val z
theorem mp_look (K : KeyT P t kv ok) {tm e : TypeId} (ht : P.underlying tm = some (.map t e)) {z : Value} (hz : ∀ w, (zeroValue e).run P w = .ok z w) (c : Bool) {k : κ} (hk : ok k) (h : (HA.mp P v t kv g l).P G F w) :
  ∃ u, (lkA g z (getM l k)).P G u ∧ (Instr.lookup tm v (kv k) c).run P w = .ok (if c then .tuple #[u, .bool (getM l k).isSome] else u) w := by
 obtain ⟨b, es, clock, rfl, _, hb, hF, hm⟩ := h
 obtain ⟨kl, hkey⟩ := K.key k hk
 have hn := hm.nodup hF.stamped.2.2
 rcases Go.Maps.fit_look c K.keyed ht (hz w) hb hF hkey with ⟨hr, hno, _⟩ | ⟨e0, y, hm0, hk0, hr, _⟩
 ·have : getM l k = none := getM_none.2 fun p hp e => by
   obtain ⟨l', e1, h1⟩ := hm
   have h2 : kv p.1 ∈ es.toList.map (·.key) := by rw [h1.keys]; exact List.mem_map.2 ⟨p, e1.mem_iff.1 hp, rfl⟩
   obtain ⟨x, hx, ex⟩ := List.mem_map.1 h2
   exact hno x hx (by rw [ex, e])
  rw [this]
  exact ⟨z, rfl, hr⟩
 ·obtain ⟨s, r, es2⟩ := List.append_of_mem hm0
  obtain ⟨p, l3, h1, h2, h3, _⟩ := (hm.perm (by rw [es2]; exact List.perm_middle)).uncons
  have : p.1 = k := K.inj _ _ (h2.symm.trans hk0)
  have hg : getM l k = some p.2 := (getM_iff hn).2 (h1.mem_iff.2 (by rw [← this]; simp))
  rw [hg]
  exact ⟨e0.val, h3, hr⟩
theorem MpP.del {xs r : List MapEntry} {e0 : MapEntry} (hinj : ∀ k k' : κ, kv k = kv k' → k = k') (h : MpP kv g G l xs) (hn : l.Pairwise (fun p q => p.1 ≠ q.1)) (hp : xs.Perm (e0 :: r)) {k : κ} (hk : e0.key = kv k) : MpP kv g G (delM l k) r := by
 obtain ⟨p, l3, h1, h2, h3, h4⟩ := (h.perm hp).uncons
 have hpk : p.1 = k := hinj _ _ (h2.symm.trans hk)
 have hn2 : (p :: l3).Pairwise (fun p q => p.1 ≠ q.1) := h1.pairwise hn (fun h e => h e.symm)
 refine h4.permL ?_
 have h5 := h1.filter (fun q : κ × α => !decide (q.1 = k))
 rw [List.filter_cons_of_neg (by simp [hpk])] at h5
 refine h5.trans (.of_eq (List.filter_eq_self.2 fun q hq => ?_))
 have := (List.pairwise_cons.1 hn2).1 q hq
 rw [hpk] at this
 simpa using fun e : q.1 = k => this e.symm
theorem MpP.del0 {xs : List MapEntry} (h : MpP kv g G l xs) {k : κ} (hno : ∀ x ∈ xs, x.key ≠ kv k) : delM l k = l := List.filter_eq_self.2 fun q hq => by
 obtain ⟨l', e1, h1⟩ := h
 have h2 : kv q.1 ∈ xs.map (·.key) := by rw [h1.keys]; exact List.mem_map.2 ⟨q, e1.mem_iff.1 hq, rfl⟩
 obtain ⟨x, hx, ex⟩ := List.mem_map.1 h2
 simpa using fun e : q.1 = k => hno x hx (by rw [ex, e])
theorem set_permM {x : MapEntry} : ∀ {xs : List MapEntry} {j : Nat} {e0 : MapEntry}, xs[j]? = some e0 → ∃ r, xs.Perm (e0 :: r) ∧ (xs.set j x).Perm (x :: r) ∧ xs.eraseIdx j = r
 | y :: ys, 0, e0, h => by simp at h; subst h; exact ⟨ys, .refl _, .refl _, rfl⟩
 | y :: ys, j + 1, e0, h => by
  obtain ⟨r, h1, h2, h3⟩ := set_permM (x := x) (xs := ys) (j := j) (by simpa using h)
  exact ⟨y :: r, (h1.cons y).trans (List.Perm.swap _ _ _), (h2.cons y).trans (List.Perm.swap _ _ _), by simp [h3]⟩
 | [], _, _, h => by simp at h
theorem mp_store (K : KeyT P t kv ok) {tm e : TypeId} (ht : P.underlying tm = some (.map t e)) {k : κ} (hk : ok k) (hl : l.length ≤ 1000000) {a : α} {u : Value} (hu : (g a).P G u) (h : (HA.mp P v t kv g l).P G F w) :
  ∃ b o o0, v = .map (some b) ∧ F = [b] ∧ w.heap[b]? = some o0 ∧ (∃ es cl, o0 = .map es cl) ∧ (Instr.mapUpdate tm v (kv k) u).run P w = .ok () (setBlock w b o) ∧ (HA.mp P v t kv g (putM l k a)).P G F (setBlock w b o) := by
 obtain ⟨b, es, clock, rfl, rfl, hb, hF, hm⟩ := h
 obtain ⟨kl, hkey⟩ := K.key k hk
 have hn := hm.nodup hF.stamped.2.2
 have hlen := hm.len
 have hmax : maxLen = 9223372036854775807 := rfl
 have hsz : es.size < maxLen := by rw [hmax]; simp at hlen; omega
 obtain ⟨es', clock', hr, hF', _⟩ := Go.Maps.fit_store (R' := anyM) (val := u) K.keyed ht hb hF hsz (fun _ _ _ z hz => hz) hkey (yv := (.nil, [])) rfl
 refine ⟨b, .map es' clock', _, rfl, rfl, hb, ⟨_, _, rfl⟩, hr, b, es', clock', rfl, rfl, heap_setBlock_same hb _, hF', ?_⟩
 have same : ∀ {o o' : Obj}, (Result.ok () (setBlock w b o) : Result Unit) = .ok () (setBlock w b o') → o = o' := fun {o o'} e => by
  injection e with _ e
  have h1 := heap_setBlock_same hb o
  rw [e, heap_setBlock_same hb o'] at h1
  exact (Option.some.inj h1).symm
 rcases K.keyed.find w hkey es.toList hF.keys with ⟨h1, h2⟩ | ⟨j, e0, h1, h2, h3⟩
 ·have hr2 : (Instr.mapUpdate tm (.map (some b)) (kv k) u).run P w = .ok () (setBlock w b (.map (es.push ⟨kv k, u, clock⟩) (clock + 1))) := by
   simp [Instr.mapUpdate, run_underlying ht, MapKept.run_getObj_map hb, K.keyed.check w false hkey, h1, MapKept.run_setObj_map _ hb, Result.andThen, setBlock]
  have e1 := same (hr.symm.trans hr2)
  injection e1 with e1 e2
  subst e1
  unfold putM
  rw [hm.del0 h2, Array.toList_push]
  exact (hm.cons (p := (k, a)) (x := ⟨kv k, u, clock⟩) rfl hu).perm (List.perm_append_singleton _ _).symm
 ·have hj : es[j]? = some e0 := by simpa using h2
  have hr2 : (Instr.mapUpdate tm (.map (some b)) (kv k) u).run P w = .ok () (setBlock w b (.map (es.modify j (fun e' => { e' with key := kv k, val := u })) clock)) := by
   simp [Instr.mapUpdate, run_underlying ht, MapKept.run_getObj_map hb, K.keyed.check w false hkey, h1, hj, h3, K.keyed.stays w hkey, MapKept.run_setObj_map _ hb, Result.andThen, setBlock]
  have e1 := same (hr.symm.trans hr2)
  injection e1 with e1 e2
  subst e1
  rw [Array.toList_modify, Go.ChangeMaps.modify_eq_set _ _ _ _ h2]
  obtain ⟨r, p1, p2, _⟩ := set_permM (x := { e0 with key := kv k, val := u }) h2
  exact ((hm.del K.inj hn p1 h3).cons (p := (k, a)) (x := { e0 with key := kv k, val := u }) rfl hu).perm p2.symm
theorem mp_drop (K : KeyT P t kv ok) {tm e ty : TypeId} (ht : P.underlying tm = some (.map t e)) {k : κ} (hk : ok k) (h : (HA.mp P v t kv g l).P G F w) :
  ∃ b o o0, v = .map (some b) ∧ F = [b] ∧ w.heap[b]? = some o0 ∧ (∃ es cl, o0 = .map es cl) ∧ (Builtin.delete_ #[tm, t] ty #[v, kv k]).run P w = .ok (.tuple #[]) (setBlock w b o) ∧ (HA.mp P v t kv g (delM l k)).P G F (setBlock w b o) := by
 obtain ⟨b, es, clock, rfl, rfl, hb, hF, hm⟩ := h
 obtain ⟨kl, hkey⟩ := K.key k hk
 have hn := hm.nodup hF.stamped.2.2
 obtain ⟨es', hr, hF', _⟩ := Go.Maps.fit_drop (ty := ty) K.keyed ht hb hF hkey
 refine ⟨b, .map es' clock, _, rfl, rfl, hb, ⟨_, _, rfl⟩, hr, b, es', clock, rfl, rfl, heap_setBlock_same hb _, hF', ?_⟩
 have same : ∀ {o o' : Obj}, (Result.ok (Value.tuple #[]) (setBlock w b o) : Result Value) = .ok (.tuple #[]) (setBlock w b o') → o = o' := fun {o o'} e => by
  injection e with _ e
  have h1 := heap_setBlock_same hb o
  rw [e, heap_setBlock_same hb o'] at h1
  exact (Option.some.inj h1).symm
 rcases K.keyed.find w hkey es.toList hF.keys with ⟨h1, h2⟩ | ⟨j, e0, h1, h2, h3⟩
 ·have hr2 : (Builtin.delete_ #[tm, t] ty #[.map (some b), kv k]).run P w = .ok (.tuple #[]) (setBlock w b (.map es clock)) := by
   simp [Builtin.delete_, run_underlying ht, MapKept.run_getObj_map hb, K.keyed.check w _ hkey, h1, MapKept.run_setObj_map _ hb, Result.andThen, setBlock]
  have e1 := same (hr.symm.trans hr2)
  injection e1 with e1 e2
  subst e1
  rw [hm.del0 h2]
  exact hm
 ·have hjs : j < es.size := by have := (List.getElem?_eq_some_iff.1 h2).1; simpa using this
  have hr2 : (Builtin.delete_ #[tm, t] ty #[.map (some b), kv k]).run P w = .ok (.tuple #[]) (setBlock w b (.map (es.eraseIdxIfInBounds j) clock)) := by
   simp [Builtin.delete_, run_underlying ht, MapKept.run_getObj_map hb, K.keyed.check w _ hkey, h1, MapKept.run_setObj_map _ hb, Result.andThen, setBlock]
  have e1 := same (hr.symm.trans hr2)
  injection e1 with e1 e2
  subst e1
  have hsub : (es.eraseIdxIfInBounds j).toList = es.toList.eraseIdx j := by
   unfold Array.eraseIdxIfInBounds
   rw [dif_pos hjs]
   simp
  rw [hsub]
  obtain ⟨r, p1, _, p3⟩ := set_permM (x := e0) h2
  rw [p3]
  exact hm.del K.inj hn p1 h3
theorem inv_setB {b : Nat} {o o0 : Obj} {h : HA} (hI : Inv G [b] [h] w) (hb : w.heap[b]? = some o0) (ho : ∃ es cl, o0 = .map es cl) {h' : HA} (hh : h'.P G [b] (setBlock w b o)) : Fr w (setBlock w b o) [b] [b] G G ∧ Inv G [b] [h'] (setBlock w b o) := by
 have hg := (hI.own b (by simp)).2
 obtain ⟨es, cl, rfl⟩ := ho
 refine ⟨⟨rfl, rfl, rfl, by simp [setBlock], fun j _ hj => heap_setBlock_other hb _ (fun e => hj (by rw [e]; simp)), fun _ h => .inl h, Gle.refl _, fun _ _ h => .inl h⟩, ⟨fun b' o' e => ?_, by simp, fun b' hb' => ?_, [b], [], by simp, hh, rfl⟩⟩
 ·have hne : b' ≠ b := fun e' => by subst e'; rw [hg] at e; cases e
  exact (heap_setBlock_other hb _ hne).trans (hI.gin b' o' e)
 ·have := hI.own b' hb'
  exact ⟨by simpa [setBlock] using this.1, this.2⟩
variable {rs : List (Nat × AV)} {d : Option Nat} {ty : TypeId} {pos : String} {af : Array Edge} {gd : Option (Nat × Bool)}
structure KeyV (av : AV) (u : Value) : Prop where
 out : ∀ G v, av.P G v → v = u
omit [DecidableEq κ] in
theorem KeyV.val {u : Value} : KeyV (.val u) u := ⟨fun _ _ h => h⟩
omit [DecidableEq κ] in
theorem KeyV.ints {cs : List AV} {xs : List Int} (h : Ints cs xs) : KeyV (.agg cs) (.agg (xs.map (Value.int .i64)).toArray) := ⟨fun _ _ ⟨_, e, hf⟩ => by rw [e, h.fits hf]⟩
theorem lt_look1 (K : KeyT P t kv ok) {tm e : TypeId} (ht : P.underlying tm = some (.map t e)) {z : Value} (hz : ∀ w, (zeroValue e).run P w = .ok z w) {x y : Operand} {av : AV} (k : κ) (hx : opv rs x = some (.val v)) (hy : opv rs y = some av) (hv : KeyV av (kv k)) (hk : ok k) :
  LT P ⟨d, .lookup tm x y false, ty, pos, af, gd⟩ rs [.mp P v t kv g l] (Is (lkA g z (getM l k)) [.mp P v t kv g l]) :=
 LT_read (fun _ e => by cases e) fun a w G F hR _ hh => by
  have e1 : a.eval x = v := opv_ok hR hx
  have e2 := hv.out G _ (opv_ok hR hy)
  obtain ⟨u, h1, h2⟩ := mp_look K ht hz false hk hh
  rw [if_neg (by simp)] at h2
  exact ⟨u, h1, by simp [execOp, e1, e2, h2, Result.andThen]⟩
theorem lt_mput (K : KeyT P t kv ok) {tm e : TypeId} (ht : P.underlying tm = some (.map t e)) {x y z : Operand} {av : AV} (k : κ) (a : α) (hx : opv rs x = some (.val v)) (hy : opv rs y = some av) (hv : KeyV av (kv k)) (hk : ok k) (hz : opv rs z = some (g a)) (hl : l.length ≤ 1000000) :
  LT P ⟨d, .mapUpdate tm x y z, ty, pos, af, gd⟩ rs [.mp P v t kv g l] (Is (.val undef) [.mp P v t kv g (putM l k a)]) :=
 LT_eff (fun _ e => by cases e) fun ac w G F hR hI => by
  obtain ⟨F1, F2, e, hm, h2⟩ := hI.hs
  have h2' : F2 = [] := h2
  subst h2'
  have e1 : ac.eval x = v := opv_ok hR hx
  have e2 := hv.out G _ (opv_ok hR hy)
  obtain ⟨b, o, o0, hvb, hF1, hb, ho, hr, hm'⟩ := mp_store K ht hk hl (opv_ok hR hz) hm
  subst hF1
  have hF : F = [b] := List.perm_singleton.1 (by simpa using e)
  subst hF
  obtain ⟨f1, f2⟩ := inv_setB hI hb ho hm'
  exact ⟨_, setBlock w b o, undef, _, _, G, [b], by simp [execOp, e1, e2, hr, Result.andThen], .inr ⟨rfl, rfl⟩, ⟨rfl, rfl⟩, f1, f2, rfl⟩
theorem lt_mdel (K : KeyT P t kv ok) {tm e : TypeId} (ht : P.underlying tm = some (.map t e)) {x y : Operand} {av : AV} (k : κ) (hx : opv rs x = some (.val v)) (hy : opv rs y = some av) (hv : KeyV av (kv k)) (hk : ok k) :
  LT P ⟨d, .call { callee := .builtin .delete, args := #[x, y], argTypes := #[tm, t] }, ty, pos, af, gd⟩ rs [.mp P v t kv g l] (Is (.tup []) [.mp P v t kv g (delM l k)]) :=
 LT_eff (fun _ e => by cases e) fun ac w G F hR hI => by
  obtain ⟨F1, F2, e, hm, h2⟩ := hI.hs
  have h2' : F2 = [] := h2
  subst h2'
  have e1 : ac.eval x = v := opv_ok hR hx
  have e2 := hv.out G _ (opv_ok hR hy)
  obtain ⟨b, o, o0, hvb, hF1, hb, ho, hr, hm'⟩ := mp_drop (ty := ty) K ht hk hm
  subst hF1
  have hF : F = [b] := List.perm_singleton.1 (by simpa using e)
  subst hF
  obtain ⟨f1, f2⟩ := inv_setB hI hb ho hm'
  exact ⟨_, setBlock w b o, .tuple #[], _, _, G, [b], by simp [execOp, resolve, invoke, builtin, e1, e2, hr, Result.andThen], .inl rfl, ⟨rfl, rfl⟩, f1, f2, [], rfl, trivial⟩
omit [DecidableEq κ] in
theorem lt_mmake (K : KeyT P t kv ok) {tm : TypeId} : LT P ⟨d, .makeMap tm none, ty, pos, af, gd⟩ rs [] (fun x y => ∃ u, One (.val u) ∧ x = .val u ∧ y = [.mp P u t kv g []]) :=
 LT_eff (fun _ e => by cases e) fun a w G F hR hI => by
  obtain rfl := inv_nil hI
  obtain ⟨es, clock, h1, h2, h3, _⟩ := World.ownsMap_made w P t anyM
  have hes : es.toList = [] := by cases es with | mk l => simp at h3; simpa using h3
  refine ⟨_, w.alloc (.map #[] 0), .map (some w.heap.size), _, _, G, [w.heap.size], ?_, .inl rfl, ⟨_, ⟨fun _ _ h => by subst h; rfl⟩, rfl, rfl⟩, fr_alloc _ _ _, ⟨gin_alloc hI.gin _, by simp, fun b hb => ?_, [w.heap.size], [], by simp, ⟨_, es, clock, rfl, rfl, h1, h2, [], .refl _, by rw [hes]; trivial⟩, rfl⟩, rfl⟩
  ·simp [execOp, Instr.makeMap, newObj, Result.andThen]; rfl
  ·rw [List.mem_singleton] at hb
   subst hb
   refine ⟨by simp, ?_⟩
   cases hg : G w.heap.size with
   | none => rfl
   | some o => exact absurd (hI.gin.lt hg) (Nat.lt_irrefl _)
end
section
variable {c : Cx} {rs : List (Nat × AV)} {hs : List HA} {Q : Exit → S → Prop} {ops : Array Oper} {tl : List Oper} {d : Nat} {ty : TypeId} {pos : String} {af : Array Edge} {κ α : Type} [DecidableEq κ] {t : TypeId} {kv : κ → Value} {ok : κ → Prop} {g : α → AV} {l : List (κ × α)} {v : Value}
theorem wl_look1 {tm e : TypeId} {z : Value} {x y : Operand} {av : AV} {h : HA → List HA} (K : KeyT c.P t kv ok) (k : κ) (ht : c.P.underlying tm = some (.map t e)) (hz : ∀ w, (zeroValue e).run c.P w = .ok z w) (hx : opv rs x = some (.val v)) (hat : At hs (.mp c.P v t kv g l) h) (hy : opv rs y = some av) (hv : KeyV av (kv k)) (hk : ok k) (hd : Nat.blt d c.nt = true)
  (kk : WL c ops tl ⟨(d, lkA g z (getM l k)) :: rs, hs⟩ Q) : WL c ops (⟨some d, .lookup tm x y false, ty, pos, af, none⟩ :: tl) ⟨rs, hs⟩ Q := wl_rd (lt_look1 K ht hz k hx hy hv hk) hat hd kk
theorem wl_mput {tm e : TypeId} {x y z : Operand} {av : AV} {h : HA → List HA} (K : KeyT c.P t kv ok) (k : κ) (a : α) (ht : c.P.underlying tm = some (.map t e)) (hx : opv rs x = some (.val v)) (hat : At hs (.mp c.P v t kv g l) h) (hy : opv rs y = some av) (hv : KeyV av (kv k)) (hk : ok k) (hz : opv rs z = some (g a)) (hl : l.length ≤ 1000000)
  (kk : WL c ops tl ⟨rs, h (.mp c.P v t kv g (putM l k a))⟩ Q) : WL c ops (⟨none, .mapUpdate tm x y z, ty, pos, af, none⟩ :: tl) ⟨rs, hs⟩ Q := WL_at rfl rfl hat (lt_mput K ht k a hx hy hv hk hz hl) kk
theorem wl_mdel {tm e : TypeId} {x y : Operand} {av : AV} {h : HA → List HA} {dd : Option Nat} (K : KeyT c.P t kv ok) (k : κ) (ht : c.P.underlying tm = some (.map t e)) (hx : opv rs x = some (.val v)) (hat : At hs (.mp c.P v t kv g l) h) (hy : opv rs y = some av) (hv : KeyV av (kv k)) (hk : ok k) (hd : okD dd c.nt = true)
  (kk : WL c ops tl ⟨putR dd (.tup []) rs, h (.mp c.P v t kv g (delM l k))⟩ Q) : WL c ops (⟨dd, .call { callee := .builtin .delete, args := #[x, y], argTypes := #[tm, t] }, ty, pos, af, none⟩ :: tl) ⟨rs, hs⟩ Q := WL_at hd rfl hat (lt_mdel K ht k hx hy hv hk) kk
omit [DecidableEq κ] in
theorem wl_mmake {tm : TypeId} (K : KeyT c.P t kv ok) (g : α → AV) (hd : Nat.blt d c.nt = true) (kk : ∀ v, One (.val v) → WL c ops tl ⟨(d, .val v) :: rs, .mp c.P v t kv g [] :: hs⟩ Q) : WL c ops (⟨some d, .makeMap tm none, ty, pos, af, none⟩ :: tl) ⟨rs, hs⟩ Q :=
 WL_new hd rfl (lt_mmake (g := g) K) fun av pr ⟨u, h1, e1, e2⟩ => by subst e1; subst e2; exact kk u h1
end
theorem keyT_int {P : Program} {t : TypeId} (h : P.underlying t = some (.int .i64)) : KeyT P t (fun n : Int => Value.int .i64 n) (fun n => -9223372036854775808 ≤ n ∧ n ≤ 9223372036854775807) :=
 ⟨Go.Maps.int_keyed h, fun n hn => ⟨_, Go.Maps.keyOf_int_mk h (by simp only [Lit.wf, IntKind.min, IntKind.max, IntKind.signed, IntKind.bits, Bool.and_eq_true, decide_eq_true_eq, if_true]; omega)⟩, fun a b e => by injection e⟩
def CurP {κ α : Type} (kv : κ → Value) (g : α → AV) (G : Nat → Option Obj) (es : Array MapEntry) (seen : Array Nat) (c0 clock : Nat) : Option (κ × α) → Prop
 | none => True
 | some p => c0 = clock ∧ ∃ (e : MapEntry) (seen0 : Array Nat), seen = seen0.push e.born ∧ e ∈ es.toList ∧ e.key = kv p.1 ∧ (g p.2).P G e.val
theorem CurP.mono {κ α : Type} {kv : κ → Value} {g : α → AV} {G G' : Nat → Option Obj} {es : Array MapEntry} {seen : Array Nat} {c0 clock : Nat} (h : Gle G G') : ∀ {cur : Option (κ × α)}, CurP kv g G es seen c0 clock cur → CurP kv g G' es seen c0 clock cur
 | none, _ => trivial
 | some p, ⟨h0, e, s, h1, h2, h3, h4⟩ => ⟨h0, e, s, h1, h2, h3, (g p.2).mono h h4⟩
section
variable {P : Program} {rs : List (Nat × AV)} {d : Option Nat} {ty : TypeId} {pos : String} {af : Array Edge} {gd : Option (Nat × Bool)} {κ α : Type} {t : TypeId} {kv : κ → Value} {g : α → AV} {l rest : List (κ × α)} {v it : Value}
end
section
variable {c : Cx} {rs : List (Nat × AV)} {hs r : List HA} {Q : Exit → S → Prop} {ops : Array Oper} {tl : List Oper} {d : Nat} {ty : TypeId} {pos : String} {af : Array Edge} {κ α : Type} {t : TypeId} {kv : κ → Value} {g : α → AV} {l rest : List (κ × α)} {v it : Value}
end
end Go.Proofs.YthddoikmgpgakaaDoor.Sw
namespace Go.Proofs.YthddoikmgpgakaaDoor.Sw
open Go.RowKit Go
def HA.bk {α : Type} (v u : Value) (e : TypeId) (n : Nat) (f : α → List AV) (xs : List α) : HA :=
 ⟨fun G F w => (F = [] ∧ ((∃ g m cap, v = .slice (some ⟨g, 0, none⟩) xs.length cap ∧ u = .slice (some ⟨g, 0, none⟩) m cap ∧ xs.length ≤ m) ∨ (v = .slice none 0 0 ∧ xs = []))) ∨ (HA.row v e n f xs).P G F w,
  fun h k => k.imp id (HA.mono _ h), fun h k => k.imp id (HA.loc _ h)⟩
section
variable {P : Program} {w : World}
theorem run_append_back (base : Nat) (t ty e : TypeId) (i : TypeInfo) (z : Value) (size bytes : Nat) (ht : P.underlying t = some (.slice e)) (hi : P.info? e = some i) (hz : i.zero = some z)
  (hsize : i.size = size) (hby : i.bytes = bytes) (hzs : z.cells.size = size) (hsz : 0 < size) (v : Value) (n : Nat) (xs : List Value) (hown : w.ownsRow base e size v n xs)
  (ad : Addr) (m c : Nat) (news : List Value) (hl : news.length = m * size) (hnews : ∀ j u, news[j]? = some u → w.cell? (ad.add j) = some u) (h1 : ∀ u ∈ news, u.oneCell' = true)
  (h63 : n + m ≤ 1000000) (hb : bytes ≤ 1000) (hbase : base ≤ w.heap.size) :
  ∃ u w', (Builtin.append_ #[t, t] ty #[v, .slice (some ad) m c]).run P w = .ok u w' ∧ w'.ownsRow base e size u (n + m) (xs ++ news) ∧
   (((∃ g cap, v = .slice (some ⟨g, 0, none⟩) n cap ∧ u = .slice (some ⟨g, 0, none⟩) (n + m) cap) ∧ w.grownBy w' v.ownBlock) ∨ ((∀ g, u.ownBlock = some g → w.heap.size ≤ g) ∧ w.grownBy w' none)) := by
 have hb1 : (n + m) * bytes ≤ 1000000 * 1000 := Nat.mul_le_mul h63 hb
 have hm1 : n + m ≤ maxLen := by simp only [maxLen]; omega
 have own := run_append_own_at (P := P) w base t ty e i z size bytes ht hi hz hsize hby hzs hsz v n xs hown ad m c news hl hnews h1 hm1 (by omega) hbase
 rcases hown.2 with ⟨rfl, rfl⟩ | ⟨g, cap, cur, rfl, hbg, hg, hnc, hcm, hcs, htake⟩
 ·obtain ⟨u, w', hr, h2, h3, _, h5⟩ := own
  refine ⟨u, w', hr, h2, .inr ⟨fun g hg => ?_, h3⟩⟩
  rcases h5 with h5 | h5
  ·rw [h5] at hg; cases hg
  ·rw [h5] at hg; cases hg; exact Nat.le_refl _
 ·by_cases hroom : n + m ≤ cap
  ·obtain ⟨u, w', hr, h2, h3, _, _⟩ := own
   have hfit : n * i.size + news.length ≤ cur.size := by rw [hl, hcs, hsize, ← Nat.add_mul]; exact Nat.mul_le_mul_right _ hroom
   have hr2 := run_append_room (P := P) w t ty e i ht hi g n cap cur hg ad m c news (by rw [hsize]; exact hl) hnews h1 hroom hfit
   rw [hr] at hr2
   injection hr2 with e1 e2
   exact ⟨u, w', hr, h2, .inl ⟨⟨g, cap, rfl, e1⟩, h3⟩⟩
  ·have holds : ∀ j u, xs[j]? = some u → w.cell? ((⟨g, 0, none⟩ : Addr).add j) = some u := hown.cells (g := g) rfl
   obtain ⟨u, w', hr, h2, h3⟩ := run_append_arg_grows (P := P) w t ty e i z size bytes ht hi hz hsize hby hzs hsz ⟨g, 0, none⟩ n cap xs hown.1 holds ad m c news hl hnews (by omega) hm1 (by omega)
   exact ⟨u, w', hr, own_base h2 hbase, .inr ⟨fun g hg => (h2.lt g hg).1, h3⟩⟩
end
section
variable {P : Program} {rs : List (Nat × AV)} {d : Option Nat} {ty : TypeId} {pos : String} {af : Array Edge} {g : Option (Nat × Bool)}
theorem lt_appendB {α : Type} {x y : Operand} {t e : TypeId} {n : Nat} [hT : TyE P t e n] {v : Value} {f : α → List AV} [hO : OneF f] [hL : LenF f n] {xs ys : List α} (hx : opv rs x = some (.val v)) (hy : opv rs y = some (.sl n f ys)) (hys : 0 < ys.length) (hlen : xs.length + ys.length ≤ 1000000) :
  LT P ⟨d, .call { callee := .builtin .append, args := #[x, y], argTypes := #[t, t] }, ty, pos, af, g⟩ rs [.row v e n f xs] (fun x y => ∃ u, x = .val u ∧ y = [.row u e n f (xs ++ ys), .bk v u e n f xs]) :=
 LT_eff (fun _ e => by cases e) fun a w G F hR hI => by
  obtain ⟨F1, F2, hp, hrow, h2⟩ := hI.hs
  have hrow0 := hrow
  obtain ⟨vs, hF1, hlf, hfv, hone, hown⟩ := hrow
  have h2' : F2 = [] := h2
  subst h2'
  obtain ⟨i, z, hi, hz, hs, hb, hzs⟩ := hT.info
  have e1 : a.eval x = v := opv_ok hR hx
  obtain ⟨ad, c, e2, hc, hsl⟩ : (AV.sl n f ys).P G (a.eval y) := opv_ok hR hy
  obtain ⟨b0, o0, e3, _⟩ := hsl 0 hys
  subst e3
  obtain ⟨news, hn1, hn2⟩ := slP_fits (fun x _ => hL.out x) hsl
  have hnl : news.length = ys.length * n := by rw [hn1.length, lenL fun x _ => hL.out x]
  obtain ⟨u, w', hr, ho', hcase⟩ := run_append_back (P := P) (w := w) 0 t ty e i z n i.bytes hT.und hi hz hs rfl hzs hT.pos v xs.length vs hown ⟨b0, o0, none⟩ ys.length c news hnl (fun j u hu => by rw [add_plain]; exact cellG.cell hI.gin (hn2 j u hu)) (fits_one (onesF ys) hn1) hlen hb (Nat.zero_le _)
  have hF : F.Perm v.ownBlock.toList := by rw [← hF1]; simpa using hp
  have hmem : ∀ b, b ∈ F ↔ v.ownBlock = some b := fun b => by rw [hF.mem_iff]; simp
  have hfits : Fits G ((xs ++ ys).flatMap f) (vs ++ news) := by rw [List.flatMap_append]; exact hfv.append hn1
  have hone2 : ∀ u ∈ vs ++ news, u.oneCell' = true := fun u hu => by
   rcases List.mem_append.1 hu with h | h
   ·exact hone u h
   ·exact fits_one (onesF ys) hn1 u h
  have hrowu : (HA.row u e n f (xs ++ ys)).P G u.ownBlock.toList w' := ⟨vs ++ news, rfl, fun x _ => hL.out x, hfits, hone2, by rw [List.length_append]; exact ho'⟩
  rcases hcase with ⟨⟨gb, cap, hv, hu⟩, hgr⟩ | ⟨hnew, hgr⟩
  ·have hub : u.ownBlock.toList = v.ownBlock.toList := by rw [hu, hv]; rfl
   have hfr : Fr w w' F u.ownBlock.toList G G := ⟨hgr.os, hgr.tape, hgr.output, hgr.size, fun b h1 h2 => hgr.block b h1 fun h => h2 ((hmem b).2 h.symm), fun b h => .inl (hF.mem_iff.2 (hub ▸ h)), Gle.refl _, fun _ _ h => .inl h⟩
   refine ⟨_, w', u, _, _, G, u.ownBlock.toList, by simp [execOp, resolve, e1, e2, invoke, builtin, hr], .inl rfl, ⟨_, rfl, rfl⟩, hfr, ⟨fun b o h => ?_, ?_, fun b hb => ?_, u.ownBlock.toList, [], by simp, hrowu, [], [], .refl _, .inl ⟨rfl, .inl ⟨gb, _, cap, hv, hu, by omega⟩⟩, rfl⟩, rfl⟩
   ·by_cases hbF : b ∈ F
    ·have := (hI.own b hbF).2; rw [h] at this; cases this
    ·exact (hfr.same b (hI.gin.lt h) hbF).trans (hI.gin b o h)
   ·cases u.ownBlock <;> simp
   ·have hbF : b ∈ F := hF.mem_iff.2 (hub ▸ hb)
    exact ⟨Nat.lt_of_lt_of_le (hI.own b hbF).1 hgr.size, (hI.own b hbF).2⟩
  ·have hsame : ∀ b, b < w.heap.size → w'.heap[b]? = w.heap[b]? := fun b hb => hgr.block b hb fun h => by cases h
   have hul : ∀ b, b ∈ u.ownBlock.toList → w.heap.size ≤ b ∧ b < w'.heap.size := fun b hb => ⟨hnew b (by simpa using hb), (ho'.lt b (by simpa using hb)).2⟩
   refine ⟨_, w', u, _, _, G, u.ownBlock.toList ++ F, by simp [execOp, resolve, e1, e2, invoke, builtin, hr], .inl rfl, ⟨_, rfl, rfl⟩, ⟨hgr.os, hgr.tape, hgr.output, hgr.size, fun b h1 _ => hsame b h1, fun b h => ?_, Gle.refl _, fun _ _ h => .inl h⟩, ⟨fun b o h => (hsame b (hI.gin.lt h)).trans (hI.gin b o h), ?_, fun b hb => ?_, u.ownBlock.toList, F, .refl _, hrowu, F1, [], hp, .inr (HA.loc _ (fun b hb => hsame b (hI.own b (hp.mem_iff.2 (by simp [hb]))).1) hrow0), rfl⟩, rfl⟩
   ·rcases List.mem_append.1 h with h | h
    ·exact .inr (hul b h).1
    ·exact .inl h
   ·refine List.nodup_append.2 ⟨by cases u.ownBlock <;> simp, hI.nd, fun x hx y hy e => ?_⟩
    have := (hul x hx).1
    have := (hI.own y hy).1
    omega
   ·rcases List.mem_append.1 hb with h | h
    ·refine ⟨(hul b h).2, ?_⟩
     cases hg : G b with
     | none => rfl
     | some o => have := hI.gin.lt hg; have := (hul b h).1; omega
    ·exact ⟨Nat.lt_of_lt_of_le (hI.own b h).1 hgr.size, (hI.own b h).2⟩
end
theorem bk_back {α : Type} {G : Nat → Option Obj} {w : World} {u v : Value} {e : TypeId} {n : Nat} {f : α → List AV} {xs ys : List α} {F : List Nat} (h : hsP [.row u e n f (xs ++ ys), .bk v u e n f xs] G F w) : ∃ F1 F2, F.Perm (F1 ++ F2) ∧ (HA.row v e n f xs).P G F1 w := by
 obtain ⟨A, B, ep, ⟨vs, hA, hlf, hfv, hone, hown⟩, C, D, ep2, hbk, hD⟩ := h
 have hD' : D = [] := hD
 subst hD'
 rw [List.append_nil] at ep2
 rcases hbk with ⟨hC, ⟨g, m, cap, hv, hu, hm⟩ | ⟨hv, hx⟩⟩ | hrow
 ·rcases hown.2 with ⟨h1, _⟩ | ⟨g', cap', cur, h1, hbg, hg, hnc, hcm, hcs, htake⟩
  ·rw [hu] at h1; cases h1
  ·rw [hu] at h1
   injection h1 with a1 a2 a3
   injection a1 with a1
   injection a1 with a1
   subst a1 a3
   have hl : (xs.flatMap f).length = xs.length * n := lenL fun x hx => hlf x (by simp [hx])
   have hvl : vs.length = (xs ++ ys).length * n := hown.1
   refine ⟨A, B, ep, vs.take (xs.length * n), ?_, fun x hx => hlf x (by simp [hx]), ?_, fun u hu => hone u (List.mem_of_mem_take hu), ?_, ?_⟩
   ·rw [hA, hu, hv]; rfl
   ·rw [List.flatMap_append] at hfv
    have := hfv.take (xs.length * n)
    have e : ((xs.flatMap f) ++ (ys.flatMap f)).take (xs.length * n) = xs.flatMap f := by rw [← hl]; exact List.take_left
    rwa [e] at this
   ·rw [List.length_take, hvl, List.length_append, Nat.add_mul]; omega
   ·refine .inr ⟨g, cap, cur, hv, Nat.zero_le _, hg, ?_, hcm, hcs, ?_⟩
    ·rw [List.length_append] at hnc; omega
    ·rw [← htake, List.take_take, Nat.min_eq_left]
     rw [List.length_append, Nat.add_mul]; omega
 ·subst hv hx
  exact ⟨[], F, by simp, [], rfl, fun _ h => absurd h List.not_mem_nil, trivial, fun _ h => absurd h List.not_mem_nil, World.ownsRow_nil _ _ _ _⟩
 ·exact ⟨C, A, ep.trans ((ep2.append_left A).trans List.perm_append_comm), hrow⟩
theorem st_back {α : Type} {c : Cx} {rs : List (Nat × AV)} {hs r r' : List HA} {u v : Value} {e : TypeId} {n : Nat} {f : α → List AV} {xs ys : List α} {a : Act} {w : World} (hr : Rm hs (.row u e n f (xs ++ ys)) r) (hr2 : Rm r (.bk v u e n f xs) r') (st : St c ⟨rs, hs⟩ a w) : St c ⟨rs, .row v e n f xs :: r'⟩ a w := by
 obtain ⟨G, F, hI, hF, hR, rr⟩ := st
 obtain ⟨A, B, ep, h1, h2⟩ := hr.sel hI.hs
 obtain ⟨C, D, ep2, h3, h4⟩ := hr2.sel h2
 obtain ⟨F1, F2, ep3, h5⟩ := bk_back (xs := xs) (ys := ys) (F := A ++ C) ⟨A, C, .refl _, h1, C, [], by simp, h3, rfl⟩
 have hp : F.Perm ((F1 ++ D) ++ F2) := by
  refine ep.trans ((ep2.append_left A).trans ?_)
  rw [← List.append_assoc]
  refine (ep3.append_right D).trans ?_
  rw [List.append_assoc, List.append_assoc]
  exact List.perm_append_comm.append_left F1
 exact ⟨G, F1 ++ D, ⟨hI.gin, (List.nodup_append.1 (hp.nodup_iff.1 hI.nd)).1, fun b hb => hI.own b (hp.mem_iff.2 (List.mem_append.2 (.inl hb))), F1, D, .refl _, h5, h4⟩,
  ⟨hF.os, hF.tape, hF.output, hF.size, hF.same, fun b hb => hF.newF b (hp.mem_iff.2 (List.mem_append.2 (.inl hb))), hF.gle, hF.newG⟩, hR, rr.1, rr.2.sub fun b hb => hp.mem_iff.2 (List.mem_append.2 (.inl hb))⟩
theorem WL_back {α : Type} {c : Cx} {rs : List (Nat × AV)} {hs r r' : List HA} {Q : Exit → S → Prop} {ops : Array Oper} {tl : List Oper} {u v : Value} {e : TypeId} {n : Nat} {f : α → List AV} {xs ys : List α} (hr : Rm hs (.row u e n f (xs ++ ys)) r) (hr2 : Rm r (.bk v u e n f xs) r') (k : WL c ops tl ⟨rs, .row v e n f xs :: r'⟩ Q) : WL c ops tl ⟨rs, hs⟩ Q := ⟨fun a w st => k.out a w (st_back hr hr2 st)⟩
end Go.Proofs.YthddoikmgpgakaaDoor.Sw
namespace Go.Proofs.YthddoikmgpgakaaDoor.Ma
def mats (N : Nat) (cost : Nat → Nat → Int) : Nat → List Nat → Int → List (List Nat × Int)
 | 0, s, n => [(s, n)]
 | m + 1, s, n => (List.range N).flatMap fun k => if k ∈ s then [] else mats N cost m (s ++ [k]) (n + cost s.length k)
def stepB (b p : List Nat × Int) : List Nat × Int := if b.2 < 0 ∨ p.2 < b.2 then p else b
def bst (l : List (List Nat × Int)) : List Nat × Int := l.foldl stepB ([], -1)
def ints (l : List Nat) : List Int := l.map fun (k : Nat) => (k : Int)
def msk (a : List Int) (m : List Nat) : List Int := List.zipWith (fun x (k : Nat) => if x = (k : Int) then x else -1) a m
def sure (l : List (List Nat × Int)) : List Int := (l.filter fun p => decide (p.2 ≤ (bst l).2)).foldl (fun a p => msk a p.1) (ints (bst l).1)
def stepR (b : List Nat × List Int × Int) (p : List Nat × Int) : List Nat × List Int × Int :=
 if b.2.2 < 0 ∨ p.2 < b.2.2 then (p.1, ints p.1, p.2) else if p.2 = b.2.2 then (b.1, msk b.2.1 p.1, b.2.2) else b
def bstR (l : List (List Nat × Int)) : List Nat × List Int × Int := l.foldl stepR ([], [], -1)
theorem msk_self : ∀ l : List Nat, msk (ints l) l = ints l
 | [] => rfl
 | k :: l => by
  have := msk_self l
  simp only [msk, ints, List.map_cons, List.zipWith_cons_cons, if_true] at this ⊢
  rw [this]
theorem bst_snoc (l : List (List Nat × Int)) (p : List Nat × Int) : bst (l ++ [p]) = stepB (bst l) p := by simp [bst]
theorem bstR_snoc (l : List (List Nat × Int)) (p : List Nat × Int) : bstR (l ++ [p]) = stepR (bstR l) p := by simp [bstR]
structure Bi (l : List (List Nat × Int)) : Prop where
 le : ∀ q ∈ l, (bst l).2 ≤ q.2
 neg : (bst l).2 < 0 → l = []
 mem : l ≠ [] → bst l ∈ l
 R : bstR l = ((bst l).1, sure l, (bst l).2)
theorem bi_nil : Bi [] := ⟨fun _ h => (by cases h), fun _ => rfl, fun h => absurd rfl h, rfl⟩
theorem Bi.snoc {l : List (List Nat × Int)} {p : List Nat × Int} (h : Bi l) (hp : 0 ≤ p.2) : Bi (l ++ [p]) := by
 by_cases hc : (bst l).2 < 0 ∨ p.2 < (bst l).2
 ·have e : bst (l ++ [p]) = p := by rw [bst_snoc, stepB, if_pos hc]
  have hall : ∀ q ∈ l, p.2 < q.2 := fun q hq => by
   rcases hc with hc | hc
   ·rw [h.neg hc] at hq; cases hq
   ·have := h.le q hq; omega
  refine ⟨fun q hq => ?_, fun hn => by rw [e] at hn; omega, fun _ => by rw [e]; simp, ?_⟩
  ·rw [e]
   rcases List.mem_append.1 hq with hq | hq
   ·have := hall q hq; omega
   ·have : q = p := by simpa using hq
    rw [this]; exact Int.le_refl _
  ·rw [bstR_snoc, h.R, stepR, if_pos hc, sure, e, List.filter_append, List.filter_eq_nil_iff.2 (fun q hq => by have := hall q hq; simp; omega)]
   simp [msk_self]
 ·have e : bst (l ++ [p]) = bst l := by rw [bst_snoc, stepB, if_neg hc]
  have h1 : ¬ (bst l).2 < 0 := fun h1 => hc (.inl h1)
  have h2 : ¬ p.2 < (bst l).2 := fun h2 => hc (.inr h2)
  refine ⟨fun q hq => ?_, fun hn => by rw [e] at hn; exact absurd hn h1, fun _ => ?_, ?_⟩
  ·rw [e]
   rcases List.mem_append.1 hq with hq | hq
   ·exact h.le q hq
   ·have : q = p := by simpa using hq
    rw [this]; omega
  ·rw [e]
   exact List.mem_append.2 (.inl (h.mem fun hn => h1 (by rw [hn]; decide)))
  ·have hs : sure (l ++ [p]) = if p.2 = (bst l).2 then msk (sure l) p.1 else sure l := by
    unfold sure
    rw [e, List.filter_append, List.foldl_append]
    by_cases h3 : p.2 = (bst l).2
    ·rw [if_pos h3, List.filter_cons_of_pos (by simp; omega)]; rfl
    ·rw [if_neg h3, List.filter_cons_of_neg (by simp; omega)]; rfl
   rw [bstR_snoc, h.R, stepR, if_neg hc, e, hs]
   dsimp only
   split <;> rfl
theorem bi_of : ∀ (s l : List (List Nat × Int)), Bi l → (∀ q ∈ s, 0 ≤ q.2) → Bi (l ++ s)
 | [], l, h, _ => by rw [List.append_nil]; exact h
 | p :: s, l, h, hs => by
  have := bi_of s (l ++ [p]) (h.snoc (hs p (by simp))) (fun q hq => hs q (by simp [hq]))
  rwa [List.append_assoc] at this
theorem bi (l : List (List Nat × Int)) (h : ∀ q ∈ l, 0 ≤ q.2) : Bi l := by simpa using bi_of l [] bi_nil h
theorem mats_succ (N : Nat) (cost : Nat → Nat → Int) (m : Nat) (s : List Nat) (n : Int) : mats N cost (m + 1) s n = (List.range N).flatMap fun k => if k ∈ s then [] else mats N cost m (s ++ [k]) (n + cost s.length k) := rfl
def costOf (cost : Nat → Nat → Int) : Nat → List Nat → Int
 | _, [] => 0
 | i, k :: l => cost i k + costOf cost (i + 1) l
theorem mats_mem {N : Nat} {cost : Nat → Nat → Int} : ∀ {m : Nat} {s : List Nat} {n : Int} {p : List Nat × Int}, p ∈ mats N cost m s n ↔
  ∃ r, p.1 = s ++ r ∧ r.length = m ∧ (∀ k ∈ r, k < N ∧ k ∉ s) ∧ r.Nodup ∧ p.2 = n + costOf cost s.length r
 | 0, s, n, p => by
  simp only [mats, List.mem_singleton]
  constructor
  ·rintro rfl; exact ⟨[], by simp, rfl, fun _ h => (by cases h), List.nodup_nil, by simp [costOf]⟩
  ·rintro ⟨r, h1, h2, _, _, h5⟩
   have : r = [] := List.eq_nil_of_length_eq_zero h2
   subst this
   obtain ⟨a, b⟩ := p
   simp [costOf] at h1 h5
   rw [h1, h5]
 | m + 1, s, n, p => by
  rw [mats_succ, List.mem_flatMap]
  constructor
  ·rintro ⟨k, hk, hp⟩
   have hkN := List.mem_range.1 hk
   split at hp
   ·cases hp
   ·rename_i hks
    obtain ⟨r, h1, h2, h3, h4, h5⟩ := mats_mem.1 hp
    refine ⟨k :: r, by rw [h1]; simp, by simp [h2], fun j hj => ?_, List.nodup_cons.2 ⟨fun h => (h3 k h).2 (by simp), h4⟩, ?_⟩
    ·rcases List.mem_cons.1 hj with rfl | hj
     ·exact ⟨hkN, hks⟩
     ·exact ⟨(h3 j hj).1, fun h => (h3 j hj).2 (by simp [h])⟩
    ·rw [h5, costOf, List.length_append]; simp only [List.length_singleton]; omega
  ·rintro ⟨r, h1, h2, h3, h4, h5⟩
   match r, h2 with
   | k :: r, h2 =>
    refine ⟨k, List.mem_range.2 (h3 k (by simp)).1, ?_⟩
    rw [if_neg (h3 k (by simp)).2]
    obtain ⟨h6, h7⟩ := List.nodup_cons.1 h4
    refine mats_mem.2 ⟨r, by rw [h1]; simp, by simpa using h2, fun j hj => ⟨(h3 j (by simp [hj])).1, fun h => ?_⟩, h7, ?_⟩
    ·rcases List.mem_append.1 h with h | h
     ·exact (h3 j (by simp [hj])).2 h
     ·have : j = k := by simpa using h
      subst this; exact h6 hj
    ·rw [h5, costOf, List.length_append]; simp only [List.length_singleton]; omega
theorem costOf_nonneg {cost : Nat → Nat → Int} (h : ∀ i k, 0 ≤ cost i k) : ∀ (l : List Nat) (i : Nat), 0 ≤ costOf cost i l
 | [], _ => Int.le_refl _
 | k :: l, i => by have := costOf_nonneg h l (i + 1); have := h i k; simp only [costOf]; omega
theorem mats_nonneg {N m : Nat} {cost : Nat → Nat → Int} (h : ∀ i k, 0 ≤ cost i k) {s : List Nat} {n : Int} (hn : 0 ≤ n) : ∀ q ∈ mats N cost m s n, 0 ≤ q.2 := fun q hq => by
 obtain ⟨r, _, _, _, _, e⟩ := mats_mem.1 hq
 have := costOf_nonneg h r s.length
 omega
theorem mats_len {N m : Nat} {cost : Nat → Nat → Int} {s : List Nat} {n : Int} : ∀ q ∈ mats N cost m s n, q.1.length = s.length + m := fun q hq => by
 obtain ⟨r, e, e2, _⟩ := mats_mem.1 hq
 rw [e, List.length_append, e2]
end Go.Proofs.YthddoikmgpgakaaDoor.Ma
namespace Go.Proofs.YthddoikmgpgakaaDoor.Sw
open Go.RowKit Go
open Go.WideElems (Fit)
open Go.ChangeMaps (setBlock heap_setBlock_same heap_setBlock_other)
structure WA (c : Cx) (ops : Array Oper) (j : Nat) (D : Array Bool) (s : S) (Q : Exit → S → Prop) : Prop where
 out : ∀ a w, St c s a w → wpAnyIn c.F c.n c.P .any ops (Post c Q) j D a w
def Each (p : Nat → Prop) : List Nat → Prop
 | [] => True
 | i :: t => p i ∧ Each p t
theorem Each.mem {p : Nat → Prop} : ∀ {l : List Nat}, Each p l → ∀ i ∈ l, p i
 | _ :: _, h, i, hi => by
  rcases List.mem_cons.1 hi with rfl | hi
  ·exact h.1
  ·exact Each.mem h.2 i hi
section
variable {P : Program} {κ α : Type} [DecidableEq κ] {t : TypeId} {kv : κ → Value} {ok : κ → Prop} {g : α → AV} {l : List (κ × α)} {G : Nat → Option Obj} {F : List Nat} {w : World} {v : Value}
variable {rs : List (Nat × AV)} {d : Option Nat} {ty : TypeId} {pos : String} {af : Array Edge} {gd : Option (Nat × Bool)}
end
section
variable {c : Cx} {rs : List (Nat × AV)} {hs : List HA} {Q : Exit → S → Prop} {ops : Array Oper} {tl : List Oper} {d : Nat} {ty : TypeId} {pos : String} {af : Array Edge} {κ α : Type} [DecidableEq κ] {t : TypeId} {kv : κ → Value} {ok : κ → Prop} {g : α → AV} {l : List (κ × α)} {v : Value}
end
def k3 (x : Int × Int × Int) : Value := .agg #[.int .i64 x.1, .int .i64 x.2.1, .int .i64 x.2.2]
end Go.Proofs.YthddoikmgpgakaaDoor.Sw
namespace Go.Proofs.YthddoikmgpgakaaDoor.Sw
open Go.RowKit Go
abbrev OV : Type := { v : Value // v.oneCell' = true }
instance {v : OV} : One (.val v.1) := ⟨fun _ u h => by have h' : u = v.1 := h; rw [h']; exact v.2⟩
def slC {α : Type} (n : Nat) (f : α → List AV) (g : List α) : List AV := [.sl n f g]
theorem st_imp {c : Cx} {rs : List (Nat × AV)} {hs : List HA} {h h' : HA} {g : HA → List HA} {a : Act} {w : World} (hat : At hs h g) (k : ∀ G F w, h.P G F w → h'.P G F w) (st : St c ⟨rs, hs⟩ a w) : St c ⟨rs, g h'⟩ a w := by
 obtain ⟨G, F, hI, rr⟩ := st
 obtain ⟨rest, hsel⟩ := hat.sel
 obtain ⟨F1, F2, ep, h1, h2⟩ := (hsel _ _ _ _).1 (by rw [hat.self]; exact hI.hs)
 exact ⟨G, F, ⟨hI.gin, hI.nd, hI.own, (hsel _ _ _ _).2 ⟨F1, F2, ep, k _ _ _ h1, h2⟩⟩, rr⟩
theorem WL_imp {c : Cx} {rs : List (Nat × AV)} {hs : List HA} {h h' : HA} {g : HA → List HA} {Q : Exit → S → Prop} {ops : Array Oper} {tl : List Oper} (hat : At hs h g) (k : ∀ G F w, h.P G F w → h'.P G F w) (kk : WL c ops tl ⟨rs, g h'⟩ Q) : WL c ops tl ⟨rs, hs⟩ Q := ⟨fun a w st => kk.out a w (st_imp hat k st)⟩
section
variable {P : Program} {rs : List (Nat × AV)} {d : Option Nat} {ty : TypeId} {pos : String} {af : Array Edge} {g : Option (Nat × Bool)}
theorem lt_indexEA {α : Type} {x y : Operand} {t : TypeId} {len m n : Nat} [hT : TyA P t len m] {f : α → List AV} {xs : List α} {k j : Nat} {i : Int} {kk : Nat} {kd : IntKind} (hx : opv rs x = some (.el n f xs k j)) (hy : opv rs y = some (.val (.int kd i))) (hi : i = (kk : Int)) (hk : kk < len) :
  LT P ⟨d, .indexAddr t x y, ty, pos, af, g⟩ rs [] (Is (.el n f xs k (j + kk * m)) []) :=
 LT_val (fun _ e => by cases e) fun a w G hR hG => by
  obtain ⟨b, o, e1, hs⟩ : (AV.el n f xs k j).P G (a.eval x) := opv_ok hR hx
  have e2 : a.eval y = _ := opv_ok hR hy
  obtain ⟨e, hu, hsz⟩ := hT.und
  have hm := hT.many
  subst hi
  refine ⟨.pointer (some ⟨b, o + k * n + (j + kk * m), none⟩), ⟨b, o, rfl, hs⟩, ?_⟩
  simp only [execOp, e1, e2, Sem.run_bind]
  have h2 : (Instr.indexAt t (.pointer (some ⟨b, o + k * n + j, none⟩)) (.int kd kk)).run P w = .ok (.pointer (some ⟨b, o + k * n + j + kk * m, none⟩)) w := by
   have hk' : (0 : Int) ≤ (kk : Int) ∧ (kk : Int) < (len : Int) := by omega
   simp [Instr.indexAt, asIntOf, run_underlying hu, hk', hsz w, add_plain, Instr.sureAddr]
   intro h'; omega
  rw [h2, Nat.add_assoc]
  rfl
theorem lt_indexAA {x y : Operand} {t : TypeId} {len m : Nat} [hT : TyA P t len m] {p : Value} {j : Nat} {i : Int} {kk : Nat} {kd : IntKind} (hx : opv rs x = some (.at p j)) (hy : opv rs y = some (.val (.int kd i))) (hi : i = (kk : Int)) (hk : kk < len) :
  LT P ⟨d, .indexAddr t x y, ty, pos, af, g⟩ rs [] (Is (.at p (j + kk * m)) []) :=
 LT_val (fun _ e => by cases e) fun a w G hR hG => by
  obtain ⟨b, hp, e1⟩ : (AV.at p j).P G (a.eval x) := opv_ok hR hx
  have e2 : a.eval y = _ := opv_ok hR hy
  obtain ⟨e, hu, hsz⟩ := hT.und
  have hm := hT.many
  subst hi
  refine ⟨.pointer (some ⟨b, j + kk * m, none⟩), ⟨b, hp, rfl⟩, ?_⟩
  simp only [execOp, e1, e2, Sem.run_bind]
  have h2 : (Instr.indexAt t (.pointer (some ⟨b, j, none⟩)) (.int kd kk)).run P w = .ok (.pointer (some ⟨b, j + kk * m, none⟩)) w := by
   have hk' : (0 : Int) ≤ (kk : Int) ∧ (kk : Int) < (len : Int) := by omega
   simp [Instr.indexAt, asIntOf, run_underlying hu, hk', hsz w, add_plain, Instr.sureAddr]
   intro h'; omega
  rw [h2]
  rfl
theorem lt_lenVs {x : Operand} {t e : TypeId} {m : Nat} [h : TyS P t e m] {v : Value} {n : Nat} (hx : opv rs x = some (.val v)) (hv : ∃ a c, v = .slice a n c) :
  LT P ⟨d, .call { callee := .builtin .len, args := #[x], argTypes := #[t] }, ty, pos, af, g⟩ rs [] (Is (.val (.int .i64 n)) []) :=
 LT_val (fun _ e => by cases e) fun a w G hR hG => by
  obtain ⟨ad, c, e2⟩ := hv
  have e1 : a.eval x = v := opv_ok hR hx
  rw [e2] at e1
  refine ⟨_, rfl, ?_⟩
  simp [execOp, resolve, e1, invoke, builtin, Builtin.len_, run_underlying h.und, goInt]
end
theorem row_len {α : Type} {G : Nat → Option Obj} {F : List Nat} {w : World} {v : Value} {e : TypeId} {n : Nat} {f : α → List AV} {xs : List α} (h : (HA.row v e n f xs).P G F w) : ∃ a c, v = .slice a xs.length c := by
 obtain ⟨vs, _, _, _, _, _, h2⟩ := h
 rcases h2 with ⟨h3, h4⟩ | ⟨g, cap, cur, h3, _⟩
 ·rw [h3]; exact ⟨none, 0, by first | (rw [show xs.length = 0 by omega]) | simp_all⟩
 ·exact ⟨_, _, h3⟩
theorem W_rowLen {α : Type} {c : Cx} {rs : List (Nat × AV)} {hs r : List HA} {Q : Exit → S → Prop} {x : Code} {v : Value} {e : TypeId} {n : Nat} {f : α → List AV} {xs : List α} (hr : Rm hs (.row v e n f xs) r) (k : (∃ a c, v = .slice a xs.length c) → W c x ⟨rs, hs⟩ Q) : W c x ⟨rs, hs⟩ Q := ⟨fun a w st => by
 obtain ⟨G, F, hI, rr⟩ := st
 obtain ⟨A, B, ep, h1, h2⟩ := hr.sel hI.hs
 exact (k (row_len h1)).out a w ⟨G, F, hI, rr⟩⟩
def cells (g : Nat → Int) : List AV := (List.range 36).map fun q => .val (.int .i64 (g q))
theorem cells_at {g : Nat → Int} {j : Nat} (h : j < 36) : (cells g)[j]? = some (.val (.int .i64 (g j))) := by
 unfold cells
 rw [List.getElem?_map, List.getElem?_range h]; rfl
theorem cells_len (g : Nat → Int) : (cells g).length = 36 := by simp [cells]
theorem cells_put {g : Nat → Int} {j : Nat} {x : Int} (h : j < 36) : spl (cells g) j [.val (.int .i64 x)] = cells fun q => if q = j then x else g q := by
 unfold spl cells
 refine List.ext_getElem? fun i => ?_
 rw [List.getElem?_map]
 rcases Nat.lt_or_ge i 36 with hi | hi
 ·rw [List.getElem?_range hi]
  rcases Nat.lt_trichotomy i j with q | q | q
  ·rw [List.append_assoc, List.getElem?_append_left (by simp; omega), List.getElem?_take, if_pos q, List.getElem?_map, List.getElem?_range hi]
   simp [show i ≠ j by omega]
  ·subst q
   rw [List.append_assoc, List.getElem?_append_right (by rw [List.length_take]; exact Nat.min_le_left _ _)]
   simp [show min i 36 = i by omega]
  ·rw [List.append_assoc, List.getElem?_append_right (by simp; omega), List.getElem?_append_right (by simp; omega)]
   simp only [List.length_take, List.length_map, List.length_range, List.length_singleton, List.getElem?_drop, List.getElem?_map]
   rw [show j + 1 + (i - min j 36 - 1) = i by omega, List.getElem?_range hi]
   simp [show i ≠ j by omega]
 ·rw [List.getElem?_eq_none (by simp; omega), List.getElem?_eq_none (by simp; omega)]; rfl
def cst (g : Nat → Int) (i k : Nat) : Int := g (0 + i * 6 + k * 1)
abbrev kI : Int → Value := fun n => .int .i64 n
def bG : Bool → AV := fun b => .val (.bool b)
def mF (N : Nat) (s : List Nat) : List (Int × Bool) := ((List.range N).filter fun k => !decide (k ∈ s)).map fun (k : Nat) => ((k : Int), true)
theorem mF_del (N : Nat) (s : List Nat) (k : Nat) : delM (mF N s) (k : Int) = mF N (s ++ [k]) := by
 unfold delM mF
 rw [List.filter_map, List.filter_filter]
 congr 1
 refine List.filter_congr fun j _ => ?_
 by_cases h1 : j ∈ s <;> by_cases h2 : j = k <;> simp [h1, h2] <;> omega
theorem mF_pw (N : Nat) (s : List Nat) : (mF N s).Pairwise fun p q => p.1 ≠ q.1 := by
 unfold mF
 rw [List.pairwise_map]
 refine ((List.pairwise_lt_range (n := N)).filter _).imp fun h e => ?_
 dsimp only at e
 omega
theorem mF_mem {N : Nat} {s : List Nat} {k : Nat} : ((k : Int), true) ∈ mF N s ↔ k < N ∧ k ∉ s := by
 unfold mF
 rw [List.mem_map]
 constructor
 ·rintro ⟨j, hj, e⟩
  obtain ⟨h1, h2⟩ := List.mem_filter.1 hj
  have : j = k := by
   have := congrArg Prod.fst e
   dsimp only at this
   omega
  subst this
  exact ⟨List.mem_range.1 h1, by simpa using h2⟩
 ·rintro ⟨h1, h2⟩
  exact ⟨k, List.mem_filter.2 ⟨List.mem_range.2 h1, by simpa using h2⟩, rfl⟩
theorem mF_get {N : Nat} {s : List Nat} {k : Nat} (hk : k < N) : getM (mF N s) (k : Int) = if k ∈ s then none else some true := by
 split
 ·rename_i h
  refine getM_none.2 fun p hp e => ?_
  unfold mF at hp
  obtain ⟨j, hj, rfl⟩ := List.mem_map.1 hp
  have : j = k := by dsimp only at e; omega
  subst this
  exact absurd h (by simpa using (List.mem_filter.1 hj).2)
 ·rename_i h
  exact (getM_iff (mF_pw N s)).2 (mF_mem.2 ⟨hk, h⟩)
theorem mF_len (N : Nat) (s : List Nat) : (mF N s).length ≤ N := by
 unfold mF
 rw [List.length_map]
 exact Nat.le_trans (List.length_filter_le _ _) (by simp)
theorem getM_permB {κ α : Type} [DecidableEq κ] {k : κ} {a : α} : ∀ {l : List (κ × α)}, l.Pairwise (fun p q => p.1 ≠ q.1) → getM l k = some a → l.Perm ((k, a) :: delM l k)
 | p :: t, hp, h => by
  obtain ⟨h1, h2⟩ := List.pairwise_cons.1 hp
  by_cases e : p.1 = k
  ·have : p = (k, a) := by
    rw [getM, if_pos e] at h
    cases h; rw [← e]
   have hd : delM (p :: t) k = t := by
    unfold delM
    rw [List.filter_cons_of_neg (by simp [e])]
    exact List.filter_eq_self.2 fun q hq => by have := h1 q hq; rw [e] at this; simpa using fun z : q.1 = k => this z.symm
   rw [hd, this]
  ·rw [getM, if_neg e] at h
   have hd : delM (p :: t) k = p :: delM t k := by unfold delM; rw [List.filter_cons_of_pos (by simp [e])]
   rw [hd]
   exact ((getM_permB h2 h).cons p).trans (List.Perm.swap _ _ _)
 | [], _, h => by simp [getM] at h
theorem mF_put {N : Nat} {s : List Nat} {k : Nat} (hk : k < N) (hs : k ∉ s) : (mF N s).Perm (putM (mF N (s ++ [k])) (k : Int) true) := by
 have h := getM_permB (mF_pw N s) (show getM (mF N s) (k : Int) = some true by rw [mF_get hk, if_neg hs])
 unfold putM
 rw [mF_del, show mF N (s ++ [k] ++ [k]) = mF N (s ++ [k]) from by unfold mF; simp]
 rwa [mF_del] at h
theorem mF_up (i : Nat) : (mF (i + 1) []).Perm (putM (mF i []) (i : Int) true) := by
 have h := mF_put (N := i + 1) (s := []) (k := i) (by omega) (by simp)
 have e : mF (i + 1) [i] = mF i [] := by
  unfold mF
  rw [List.range_succ, List.filter_append]
  congr 1
  rw [List.filter_cons_of_neg (by simp), List.filter_nil, List.append_nil]
  refine List.filter_congr fun j hj => ?_
  have := List.mem_range.1 hj
  simp; omega
 rwa [List.nil_append, e] at h
theorem mp_perm {κ α : Type} {P : Program} {v : Value} {t : TypeId} {kv : κ → Value} {g : α → AV} {l l' : List (κ × α)} (h : l'.Perm l) : ∀ G F w, (HA.mp P v t kv g l).P G F w → (HA.mp P v t kv g l').P G F w :=
 fun _ _ _ ⟨b, es, clock, e1, e2, e3, e4, hm⟩ => ⟨b, es, clock, e1, e2, e3, e4, hm.permL h⟩
theorem Con.lend {P : Program} {k : FuncId} {av av' : AV} {args : List AV} {h0 : HA} {ι : Type} {a : ι → AV} {h : ι → List HA} (ht : Thaw h0 av av') (ha : ∀ i G G' v, (a i).P G v → (a i).P G' v) (hh : ∀ i G G' F w, hsP (h i) G F w → hsP (h i) G' F w)
  (hc : Con P k (av' :: args) [] (fun x y => ∃ i, x = a i ∧ y = h i)) : Con P k (av :: args) [h0] (fun x y => ∃ i, x = a i ∧ y = h i ++ [h0]) := ⟨hc.enters, fun G Fp vs w hf hI => by
 obtain ⟨F1, F2, ep, hh0, hps⟩ := hI.hs
 have h2 : F2 = [] := hps
 subst h2
 rw [List.append_nil] at ep
 have hm : ∀ b, b ∈ F1 ↔ b ∈ Fp := fun b => ep.mem_iff.symm
 have hle : Gle G (gall G F1 w) := gall_le fun b hb => (hI.own b ((hm b).1 hb)).2
 match vs, hf with
 | v :: vs, ⟨f1, f2⟩ =>
  refine (hc.calls (gall G F1 w) [] (v :: vs) w ⟨ht.out G F1 w hh0 hle v f1, f2.mono hle⟩ ⟨gall_in hI.gin, List.nodup_nil, fun _ hb => (by cases hb), rfl⟩).mono ?_
  rintro e w' ⟨u, av2, prod, G2, F2, e1, ⟨i, e2, e3⟩, hfr, hi, hu⟩
  subst e2 e3
  have hle3 : Gle G (fun b => if b ∈ F1 then none else G2 b) := fun b o e => by
   have hb : b ∉ F1 := fun hb => by rw [(hI.own b ((hm b).1 hb)).2] at e; cases e
   show (if b ∈ F1 then none else G2 b) = some o
   rw [if_neg hb]; exact hfr.gle b o (hle b o e)
  have hsame : ∀ b ∈ F1, w'.heap[b]? = w.heap[b]? := fun b hb => by
   have hlt := (hI.own b ((hm b).1 hb)).1
   exact hfr.same b hlt (by simp)
  have hnew : ∀ b ∈ F2, w.heap.size ≤ b := fun b hb => by
   rcases hfr.newF b hb with h | h
   ·cases h
   ·exact h
  refine ⟨u, _, _, (fun b => if b ∈ F1 then none else G2 b), F2 ++ F1, e1, ⟨i, rfl, rfl⟩, ⟨hfr.os, hfr.tape, hfr.output, hfr.size, fun b hb _ => hfr.same b hb (by simp), fun b hb => ?_, hle3, fun b o e => ?_⟩, ⟨fun b o e => ?_, ?_, fun b hb => ?_, ?_⟩, ha i _ _ _ hu⟩
  ·rcases List.mem_append.1 hb with h | h
   ·exact .inr (hnew b h)
   ·exact .inl ((hm b).1 h)
  ·split at e
   ·cases e
   ·rename_i hb
    rcases hfr.newG b o e with h | h | h
    ·unfold gall at h; rw [if_neg hb] at h; exact .inl h
    ·cases h
    ·exact .inr (.inr h)
  ·split at e
   ·cases e
   ·exact hi.gin b o e
  ·refine List.nodup_append.2 ⟨hi.nd, ep.nodup_iff.1 hI.nd, fun x hx y hy e => ?_⟩
   subst e
   have := hnew x hx
   have := (hI.own x ((hm x).1 hy)).1
   omega
  ·rcases List.mem_append.1 hb with h | h
   ·refine ⟨(hi.own b h).1, ?_⟩
    show (if b ∈ F1 then none else G2 b) = none
    split
    ·rfl
    ·exact (hi.own b h).2
   ·exact ⟨Nat.lt_of_lt_of_le (hI.own b ((hm b).1 h)).1 hfr.size, if_pos h⟩
  ·exact hsP.append (hh i _ _ _ _ hi.hs) ⟨F1, [], by simp, HA.mono _ hle3 (HA.loc _ hsame hh0), rfl⟩⟩
theorem fits_iC {G G' : Nat → Option Obj} : ∀ {xs : List Int} {vs : List Value}, Fits G (xs.flatMap iC) vs → Fits G' (xs.flatMap iC) vs
 | [], [], _ => trivial
 | _ :: _, _ :: _, h => ⟨h.1, fits_iC h.2⟩
 | [], _ :: _, h => h.elim
 | _ :: _, [], h => h.elim
theorem row_iC {G G' : Nat → Option Obj} {F : List Nat} {w : World} {v : Value} {e : TypeId} {xs : List Int} (h : (HA.row v e 1 iC xs).P G F w) : (HA.row v e 1 iC xs).P G' F w := by
 obtain ⟨vs, h1, h2, h3, h4⟩ := h
 exact ⟨vs, h1, h2, fits_iC h3, h4⟩
theorem thaw_row {α : Type} (v : Value) (e : TypeId) (n : Nat) (f : α → List AV) (xs : List α) : Thaw (.row v e n f xs) (.val v) (.sl n f xs) := ⟨fun G F w h hle u hu => by
 have hu' : u = v := hu
 subst hu'
 exact row_view1 h (fun _ h => h) hle⟩
end Go.Proofs.YthddoikmgpgakaaDoor.Sw
namespace Go.Proofs.YthddoikmgpgakaaDoor.Sw
open Go.RowKit Go Go.Shelf Go.Proofs
open Go.Proofs.YthddoikmgpgakaaDoor.Ma
theorem keyI : KeyT Tryd.prog 3 kI (fun n => -9223372036854775808 ≤ n ∧ n ≤ 9223372036854775807) := keyT_int Tryd.underlying3
theorem cloneI_con (xs : List Int) (hl : xs.length ≤ 100000) : Con Tryd.prog 102 [.sl 1 iC xs] [] (Tok 3 1 iC xs) := by
 refine con_of Tryd.func102 rfl (enters_of Tryd.func102 (by kernel_rfl) rfl) rfl ?_; intro n w0 F0 G0
 refine zS ?_
 apply wl_eqlNil
 ·exact rfl
 ·exact inferInstance
 ·exact rfl
 intro b hb
 refine zS ?_
 refine w_cond rfl (fun h => ?_) (fun h => ?_)
 ·obtain rfl := hb h
  refine zS ?_
  refine Res_row0 3 1 iC ?_
  (apply resK; exact rfl; exact rfl; (apply Cut.cons; exact zN; exact Cut.nil); exact ⟨_, rfl, rfl⟩)
 ·refine zS ?_
  (apply wl_lit iC; exact inferInstance; exact inferInstance; exact inferInstance; exact zE; exact rfl; (first | exact (of_decide_eq_true rfl) | decide | (simp; done) | (simp; omega)); exact rfl)
  intro v0
  refine zS ?_
  (first | (apply wl_append; exact rfl; exact rfl; exact zN; exact inferInstance; exact inferInstance; (first | omega | (simp; omega)); exact rfl) | (apply wl_appendN; exact rfl; exact rfl; exact inferInstance; exact inferInstance; (first | omega | (simp; omega)); exact rfl))
  intro v1
  refine zS ?_
  (apply resK; exact rfl; exact rfl; (apply Cut.cons; exact zN; exact Cut.nil); exact ⟨_, rfl, rfl⟩)
theorem cloneO_con (v : Value) (xs : List Int) (hl : xs.length ≤ 100000) : Con Tryd.prog 102 [.val v] [.row v 3 1 iC xs] (fun x y => ∃ u : Value, x = .val u ∧ y = [.row u 3 1 iC xs, .row v 3 1 iC xs]) :=
 Con.lend (ι := Value) (a := fun u => .val u) (h := fun u => [.row u 3 1 iC xs]) (thaw_row v 3 1 iC xs) (fun _ _ _ _ h => h) (fun i G G' F w ⟨A, B, ep, h1, h2⟩ => ⟨A, B, ep, row_iC h1, h2⟩) (cloneI_con xs hl)
def mtC (x : List Nat × Int) (u : Value) : List AV := [.val u, .val (.int .i64 x.2)]
def mtR (x : List Nat × Int) (u : Value) : List HA := [.row u 3 1 iC (ints x.1)]
abbrev capT (yv p9 mv : Value) (ts : List Tl) (g : Nat → Int) : List AV := [.fp 1 [.sl 4 tC ts], .fp 1 [.val yv], .fp 1 [.val mv], .val p9, .fp 36 (cells g)]
abbrev preT {β : Type} (v yv p9 mv : Value) (ts : List Tl) (g : Nat → Int) (l s : List Nat) (H : β → List HA) (b : β) : List HA := [.row v 3 1 iC (ints l), .box p9 [.clo 116 (capT yv p9 mv ts g)] 184, .mp Tryd.prog mv 3 kI bG (mF ts.length s), .pack (H b)]
def goM (N : Nat) (c : Nat → Nat → Int) (m : Nat) (s : List Nat) (n : Int) (k : Nat) : List (List Nat × Int) := (List.range' k (N - k)).flatMap fun k => if k ∈ s then [] else mats N c m (s ++ [k]) (n + c s.length k)
theorem goM_0 (N : Nat) (c : Nat → Nat → Int) (m : Nat) (s : List Nat) (n : Int) : mats N c (m + 1) s n = goM N c m s n 0 := by rw [mats_succ, goM, List.range_eq_range', Nat.sub_zero]
theorem goM_step {N k : Nat} (h : k < N) (c : Nat → Nat → Int) (m : Nat) (s : List Nat) (n : Int) : goM N c m s n k = (if k ∈ s then [] else mats N c m (s ++ [k]) (n + c s.length k)) ++ goM N c m s n (k + 1) := by
 unfold goM
 rw [show N - k = (N - (k + 1)) + 1 by omega, List.range'_succ, List.flatMap_cons]
theorem goM_end (N : Nat) (c : Nat → Nat → Int) (m : Nat) (s : List Nat) (n : Int) : goM N c m s n N = [] := by unfold goM; rw [Nat.sub_self]; rfl
theorem ints_snoc (s : List Nat) (k : Nat) : ints (s ++ [k]) = ints s ++ [(k : Int)] := by simp [ints]
theorem ints_len (s : List Nat) : (ints s).length = s.length := by simp [ints]
theorem try_con {β βx : Type} (yv p9 mv : Value) (ts : List Tl) (g : Nat → Int) (XS : List (List Nat × Int)) (H : β → List HA) (Hx : βx → List HA) (I : Nat → β → Prop) (Ix : Nat → βx → Prop)
  (hN : ts.length ≤ 6) (hg : ∀ j, 0 ≤ g j ∧ g j ≤ 100000)
  (hY : ∀ k (hk : k < XS.length) b (u : Value), I k b → Yield Tryd.prog yv (mtC XS[k] u) (([] ++ mtR XS[k] u) ++ [.pack (H b)]) fun av prod => (av = .val (.bool true) ∧ ∃ b', I (k + 1) b' ∧ prod = [] ++ [.pack (H b')]) ∨ (av = .val (.bool false) ∧ ∃ b', Ix (k + 1) b' ∧ prod = [] ++ [.pack (Hx b')])) :
  ∀ (m : Nat) (v : Value) (l : List Nat) (cn : Int) (k0 : Nat) (b : β), l.length + m = ts.length → 0 ≤ cn ∧ cn ≤ 100000 * (l.length : Int) → mats ts.length (cst g) m l cn <+: XS.drop k0 → I k0 b →
   Con Tryd.prog 116 ([.val v, .val (.int .i64 cn)] ++ capT yv p9 mv ts g) (preT v yv p9 mv ts g l l H b) fun av prod =>
    (av = .val (.bool true) ∧ ∃ b', I (k0 + (mats ts.length (cst g) m l cn).length) b' ∧ prod = preT v yv p9 mv ts g l l H b') ∨
    (av = .val (.bool false) ∧ ∃ k b' s, 0 < k ∧ k ≤ XS.length ∧ Ix k b' ∧ prod = preT v yv p9 mv ts g l s Hx b') := by
 intro m
 induction m with
 | zero =>
  intro v l cn k0 b hlm hn hpre hI
  have hll := ints_len l
  have hk0 : k0 < XS.length := by
   obtain ⟨s, hs⟩ := hpre
   have := congrArg List.length hs
   simp [mats] at this; omega
  have hx0 : XS[k0] = (l, cn) := by
   obtain ⟨s, hs⟩ := hpre
   have h1 : (l, cn) :: s = XS[k0] :: XS.drop (k0 + 1) := hs.trans (List.drop_eq_getElem_cons hk0)
   injection h1 with h1 h2
   exact h1.symm
  refine con_of Tryd.func116 rfl (enters_of Tryd.func116 (by kernel_rfl) rfl) rfl ?_; intro n w0 F0 G0
  refine W_rowLen zN (fun hv => ?_)
  rw [hll] at hv
  refine zS ?_
  refine w_cond rfl (fun hm => ?_) (fun hm => ?_)
  ·refine zS ?_
   refine W_run 4 [16, 17, 18, 19] [0, 1, 2, 3] (Cut.cons (h := HA.row v 3 1 iC (ints l)) zN (Cut.nil)) rfl goFlt mixedS (by kernel_rfl) rfl ?_
   refine Run.pv [] [] rfl (fun vs => by apply ltr_pk; exact goPk; (refine ltr ?_; apply lt_loadE1'; exact rfl; exact rfl; exact rfl)) goApp ?_
   refine rpv [] [] ?_
   refine Run.tok [1] [1000] rfl (fun vs => by apply ltr_pk; exact goPk; (refine ltr ?_; refine lt_call ?_ (cloneO_con v (ints l) (by omega)); exact rfl)) goApp ?_
   refine rpv [] [] ?_
   refine ⟨⟨by kernel_rfl, by kernel_rfl⟩, fun vs => ?_⟩
   apply WL_auto [0, 2, 3]
   ·exact goPk
   ·exact goNrm
   ·kernel_rfl
   ·kernel_rfl
   refine zS ?_
   have Y := hY k0 hk0 b (vs 2) hI
   rw [hx0] at Y
   have Y' : Yield Tryd.prog yv [.val (vs 2), .val (.int .i64 cn)] [.row (vs 2) 3 1 iC (ints l), .pack (H b)] _ := Y
   refine zS ?_
   (apply wl_yield Y'; exact rfl; exact rfl; exact yC; exact rfl)
   rintro _ _ (⟨rfl, b', hb', rfl⟩ | ⟨rfl, b', hb', rfl⟩)
   ·refine zS ?_
    (apply resK1; exact rfl; exact rfl; exact .inl ⟨rfl, b', hb', rfl⟩; exact yC)
   ·refine zS ?_
    (apply resK1; exact rfl; exact rfl; exact .inr ⟨rfl, k0 + 1, b', l, by omega, by omega, hb', rfl⟩; exact yC)
  ·exfalso
   have := of_decide_eq_false hm
   omega
 | succ m ih =>
  intro v l cn k0 b hlm hn hpre hI
  have hll := ints_len l
  rw [goM_0] at hpre ⊢
  refine con_of Tryd.func116 rfl (enters_of Tryd.func116 (by kernel_rfl) rfl) rfl ?_; intro n w0 F0 G0
  refine W_rowLen zN (fun hv => ?_)
  rw [hll] at hv
  refine zS ?_
  refine w_cond rfl (fun hm => ?_) (fun hm => ?_)
  ·exfalso
   have := of_decide_eq_true hm
   omega
  refine zS ?_
  unfold preT
  refine W_loopJ (fun (q : Nat × Nat × β) => ⟨[(0, .val v), (1, .val (.int .i64 cn)), (2, .fp 1 [.sl 4 tC ts]), (3, .fp 1 [.val yv]), (4, .fp 1 [.val mv]), (5, .val p9), (6, .fp 36 (cells g)), (22, .val (.int .i64 ts.length)), (23, .val (.int .i64 q.1))], preT v yv p9 mv ts g l l H q.2.2⟩)
   (fun q => q.1 ≤ ts.length ∧ I q.2.1 q.2.2 ∧ goM ts.length (cst g) m l cn q.1 <+: XS.drop q.2.1 ∧ q.2.1 + (goM ts.length (cst g) m l cn q.1).length = k0 + (goM ts.length (cst g) m l cn 0).length) (fun q => ts.length - q.1) (0, k0, b) (fun _ _ st => st_sub2 st zR zP) ⟨Nat.zero_le _, hI, hpre, rfl⟩ ?_
  rintro ⟨i, k, b2⟩ ⟨hi1, hIk, hpk, hkl⟩
  dsimp only at hi1 hIk hpk hkl ⊢
  refine zS ?_
  refine w_cond rfl (fun hlt => ?_) (fun hlt => ?_)
  ·have hi' : i < ts.length := by simpa using hlt
   rw [goM_step hi'] at hpk hkl
   unfold preT
   have hik : -9223372036854775808 ≤ (i : Int) ∧ (i : Int) ≤ 9223372036854775807 := by omega
   refine zS ?_
   (apply wl_look1 (z := .bool false) keyI (i : Int) Tryd.underlying185 (fun w => by kernel_rfl); exact rfl; exact zM; exact rfl; exact KeyV.val; exact hik; exact rfl)
   rw [mF_get hi']
   by_cases hmem : i ∈ l
   ·rw [if_pos hmem] at hpk hkl ⊢
    rw [List.nil_append] at hpk hkl
    unfold lkA
    refine zS ?_
    (refine ⟨(i + 1, k, b2), fun _ _ st => st_sub2 st ?_ ?_, ?_, ?_⟩; exact zR; exact zP)
    ·exact ⟨hi', hIk, hpk, hkl⟩
    ·dsimp only; omega
   ·rw [if_neg hmem] at hpk hkl ⊢
    unfold lkA bG
    refine zS ?_
    (apply wl_mdel keyI (i : Int) Tryd.underlying185; exact rfl; exact zM; exact rfl; exact KeyV.val; exact hik; exact rfl)
    rw [mF_del]
    have hc := hg (0 + l.length * 6 + i * 1)
    have IH := fun u => ih u (l ++ [i]) (cn + cst g l.length i) k b2 (by rw [List.length_append, List.length_singleton]; omega) (by rw [List.length_append, List.length_singleton]; unfold cst; omega) ((List.prefix_append _ _).trans hpk) hIk
    unfold preT at IH
    rw [ints_snoc] at IH
    refine zS ?_
    refine W_run 13 [32, 33, 34, 35, 36, 37, 38, 39, 40, 41, 42, 43, 44] [0, 1, 2, 3, 4, 5, 6, 7, 8, 9, 10, 11, 12] (Cut.cons (h := HA.row v 3 1 iC (ints l)) zN (Cut.nil)) rfl goFlt mixedS (by kernel_rfl) rfl ?_
    refine rpv [] [] ?_
    refine rpv [] [] ?_
    refine rpv [] [] ?_
    refine Run.pv [2] [] rfl (fun vs => by apply ltr_pk; exact goPk; (refine ltr ?_; apply LT_frz; apply lt_lit (f := iC); exact zE; exact rfl; (first | exact (of_decide_eq_true rfl) | decide | (simp; done) | (simp; omega)))) goApp ?_
    refine Run.tok [1, 3] [1000] rfl (fun vs => by apply ltr_pk; exact goPk; (refine ltr ?_; apply lt_appendB; exact rfl; exact rfl; exact Nat.zero_lt_one; (simp; omega))) goApp ?_
    refine rpv [] [] ?_
    refine rpv [] [] ?_
    refine Run.pv [6] [] rfl (fun vs => by apply ltr_pk; exact goPk; (refine ltr ?_; apply lt_lenVs; exact rfl; exact hv)) goApp ?_
    refine rpv [] [] ?_
    refine Run.pv [7] [] rfl (fun vs => by apply ltr_pk; exact goPk; (refine ltr ?_; apply lt_indexEA (kk := l.length); exact rfl; exact rfl; exact rfl; omega)) goApp ?_
    refine Run.pv [8, 9] [] rfl (fun vs => by apply ltr_pk; exact goPk; (refine ltr ?_; apply lt_indexEA (kk := i); exact rfl; exact rfl; exact rfl; omega)) goApp ?_
    refine Run.pv [10] [] rfl (fun vs => by apply ltr_pk; exact goPk; (refine ltr ?_; apply lt_loadE1'; exact rfl; exact rfl; exact cells_at (by omega))) goApp ?_
    refine rpv [5, 11] [] ?_
    refine ⟨⟨by kernel_rfl, by kernel_rfl⟩, fun vs => ?_⟩
    apply WL_auto [0, 4, 12]
    ·exact goPk
    ·exact goNrm
    ·kernel_rfl
    ·kernel_rfl
    refine zS ?_
    refine zS ?_
    (apply wl_callVP (IH (vs 4)); exact rfl; exact rfl; exact yC; exact rfl)
    rintro _ _ (⟨rfl, b', hb', rfl⟩ | ⟨rfl, k', b', s', h1, h2, hb', rfl⟩)
    ·refine WL_back (xs := ints l) (ys := [(i : Int)]) (v := v) zN zN ?_
     refine zS ?_
     (apply wl_mput keyI (i : Int) true Tryd.underlying185; exact rfl; exact zM; exact rfl; exact KeyV.val; exact hik; exact rfl; (have := mF_len ts.length (l ++ [i]); omega))
     refine WL_imp zM (mp_perm (mF_put hi' hmem)) ?_
     refine zS ?_
     rw [List.length_append] at hkl
     (refine ⟨(i + 1, k + (mats ts.length (cst g) m (l ++ [i]) (cn + cst g l.length i)).length, b'), fun _ _ st => st_sub2 st ?_ ?_, ?_, ?_⟩; exact zR; exact zP)
     ·refine ⟨hi', hb', ?_, by dsimp only; omega⟩
      obtain ⟨s, hs⟩ := hpk
      refine ⟨s, ?_⟩
      have := congrArg (List.drop (mats ts.length (cst g) m (l ++ [i]) (cn + cst g l.length i)).length) hs
      rw [List.append_assoc, List.drop_left, List.drop_drop] at this
      exact this
     ·dsimp only; omega
    ·refine WL_back (xs := ints l) (ys := [(i : Int)]) (v := v) zN zN ?_
     refine zS ?_
     (apply resK1; exact rfl; exact rfl; exact .inr ⟨rfl, k', b', s', h1, h2, hb', rfl⟩; exact yC)
  ·have hii : i = ts.length := by simp at hlt; omega
   subst hii
   rw [goM_end] at hkl
   refine zS ?_
   have hIf : I (k0 + (goM ts.length (cst g) m l cn 0).length) b2 := by rw [← hkl]; exact hIk
   (apply resK1; exact rfl; exact rfl; exact .inl ⟨rfl, b2, hIf, rfl⟩; exact yC)
theorem WL_weak {c : Cx} {ops : Array Oper} {l : List Oper} {s : S} {Q : Exit → S → Prop} (s' : S) (h0 : ∀ a w, St c s a w → St c s' a w) (h : WL c ops l s' Q) : WL c ops l s Q := ⟨fun a w st => h.out a w (h0 a w st)⟩
theorem matches_iter (ts : List Tl) (g : Nat → Int) (hN : ts.length ≤ 6) (hg : ∀ j, 0 ≤ g j ∧ g j ≤ 100000) :
  Iter Tryd.prog 115 [.fp 1 [.sl 4 tC ts], .fp 36 (cells g)] [] mtC mtR (mats ts.length (cst g) ts.length [] 0) := by
 refine ⟨fun yv β βx H Hx I Ix hone hY b0 hI0 => ?_⟩
 refine con_of Tryd.func115 rfl (enters_of Tryd.func115 (by kernel_rfl) rfl) rfl ?_; intro n w0 F0 G0
 refine zS ?_;repeat(refine yA ?_;intro p hp;refine zS ?_)
 (apply WL_frzb 3 1; exact rfl; exact zN)
 (apply wl_mmake keyI bG; exact rfl; intro mv hmv)
 refine zS ?_;repeat(refine yA ?_;intro p hp;refine zS ?_)
 refine W_loopJ (fun (i : Nat) => ⟨[(1, .fp 1 [.sl 4 tC ts]), (2, .fp 36 (cells g)), (3, .fp 1 [.val yv]), (4, .val p), (9, .val (.int .i64 ts.length)), (10, .val (.int .i64 i))], [.box p [.val mv] 185, .mp Tryd.prog mv 3 kI bG (mF i []), .pack (H b0)]⟩) (fun i => i ≤ ts.length) (fun i => ts.length - i) 0 (fun _ _ st => st_sub2 st zR zP) (Nat.zero_le _) ?_
 intro i hi
 refine zS ?_;repeat(refine yA ?_;intro p hp;refine zS ?_)
 refine w_cond rfl (fun hlt => ?_) (fun hlt => ?_)
 ·have hi' : i < ts.length := by simpa using hlt
  have hik : -9223372036854775808 ≤ (i : Int) ∧ (i : Int) ≤ 9223372036854775807 := by omega
  refine zS ?_;repeat(refine yA ?_;intro p hp;refine zS ?_)
  (apply wl_mput keyI (i : Int) true Tryd.underlying185; exact rfl; exact zM; exact rfl; exact KeyV.val; exact hik; exact rfl; (have := mF_len i []; omega))
  refine WL_imp zM (mp_perm (mF_up i)) ?_
  refine zS ?_;repeat(refine yA ?_;intro p hp;refine zS ?_)
  (refine ⟨i + 1, fun _ _ st => st_sub2 st ?_ ?_, ?_, ?_⟩; exact zR; exact zP)
  ·exact hi'
  ·omega
 ·have hii : i = ts.length := by simp at hlt; omega
  subst hii
  (apply W_frzb 4 1; exact rfl; exact zN)
  refine zS ?_;repeat(refine yA ?_;intro p hp;refine zS ?_)
  have C := try_con yv p mv ts g (mats ts.length (cst g) ts.length [] 0) H Hx I Ix hN hg hY ts.length (.slice none 0 0) [] 0 0 b0 (by simp) (by simp) (by rw [List.drop_zero]; exact List.prefix_refl _) hI0
  unfold preT at C
  refine WL_weak _ (fun _ _ st => st_nil 3 1 iC st) ?_
  (apply wl_callVP C; exact rfl; exact rfl; exact yC; exact rfl)
  rintro _ _ (⟨rfl, b', hb', rfl⟩ | ⟨rfl, k', b', s', h1, h2, hb', rfl⟩)
  ·rw [Nat.zero_add] at hb'
   refine zS ?_;repeat(refine yA ?_;intro p hp;refine zS ?_)
   (apply resK0; exact rfl; exact .inl ⟨b', hb', rfl⟩; exact yC)
  ·refine zS ?_;repeat(refine yA ?_;intro p hp;refine zS ?_)
   (apply resK0; exact rfl; exact .inr ⟨k', b', h1, h2, hb', rfl⟩; exact yC)
end Go.Proofs.YthddoikmgpgakaaDoor.Sw
namespace Go.Proofs.YthddoikmgpgakaaDoor
open Go.RowKit Go.Proofs Go.Shelf
theorem mixed : Tryd.prog.follows .mixedOrders = true := by kernel_rfl
theorem wp_goal {K : Act → World → Prop} {a : Act} {w : World} (T : World → Prop) (hT : T w) (h : ∀ w', T w' → K a w') : K a w := h w hT
theorem copied_any (t : Tl) (sa fa : Option Addr) (sc fc : Nat) (w : World) (hl : t.st.length ≤ 4000) (hl2 : t.fo.length ≤ 4000) (h1 : RdI w sa t.st) (h2 : RdI w fa t.fo) :
  Calls Tryd.prog 86 #[.agg #[.int .i64 t.id, .int .i64 t.hs, .slice sa t.st.length sc, .slice fa t.fo.length fc]] w fun e w' => ∃ v, e = .returned v ∧ Below w.heap.size w w' ∧ NewT w.heap.size w' v t := by
 have HX := hid h1; clear h1
 have HY := hid h2; clear h2
 have hm := mixed
 go_enter Tryd.func86, Tryd.ntmps86
 go_wp2_with fail
 refine wp_world (fun w0 => Box w0 w.heap.size #[.int .i64 t.id, .int .i64 t.hs, .slice sa t.st.length sc, .slice fa t.fo.length fc] 24 ∧ Box w0 (w.heap.size + 1) #[.int .i64 0, .int .i64 0, .slice none 0 0, .slice none 0 0] 24 ∧ w0.heap.size = w.heap.size + 2 ∧ Below w.heap.size w w0) ⟨(Box.new _ _ _).alloc _, by simpa using Box.new (w.alloc _) _ _, by simp, goBl⟩ ?_
 rintro w0 ⟨b1, b2, hz, hb0⟩
 have c2 : w0.cell? ⟨w.heap.size, 2, none⟩ = some (.slice sa t.st.length sc) := b1.cell 2
 have c3 : w0.cell? ⟨w.heap.size, 3, none⟩ = some (.slice fa t.fo.length fc) := b1.cell 3
 have hlt : w.heap.size < w0.heap.size := b1.lt
 have hlt2 : w.heap.size + 1 < w0.heap.size := b2.lt
 have B1 := hid b1; have B2 := hid b2; clear b1 b2
 refine wp_region_F [1, 4] (fun w' => w'.cell? ⟨w.heap.size, 2, none⟩ = some (.slice sa t.st.length sc) ∧ w'.cell? ⟨w.heap.size, 3, none⟩ = some (.slice fa t.fo.length fc)) hm ⟨by go_simp, by go_simp⟩ ?_
 intro hS0; have hS := hid hS0; clear hS0
 (apply wpAnyF_pure (i := 0) rfl (by kernel_rfl) (fun _ _ _ h => h); · first | exact .inr ⟨rfl, rfl⟩ | exact .inl ⟨rfl, fun w' => by go_simp; rfl⟩); simp only [Act.put, List.setIfInBounds_toArray, List.set_cons_succ, List.set_cons_zero, List.getElem_toArray, List.getElem_cons_succ, List.getElem_cons_zero]
 (apply wpAnyF_held (i := 1) rfl (by kernel_rfl) (fun _ _ _ h => h) hS.out; · first | exact .inr ⟨rfl, rfl⟩ | exact .inl ⟨rfl, fun w' hS' => by (obtain ⟨s1, s2⟩ := hS'; go_simp; rfl)⟩); simp only [Act.put, List.setIfInBounds_toArray, List.set_cons_succ, List.set_cons_zero, List.getElem_toArray, List.getElem_cons_succ, List.getElem_cons_zero]
 (apply wpAnyF_pure (i := 3) rfl (by kernel_rfl) (fun _ _ _ h => h); · first | exact .inr ⟨rfl, rfl⟩ | exact .inl ⟨rfl, fun w' => by go_simp; rfl⟩); simp only [Act.put, List.setIfInBounds_toArray, List.set_cons_succ, List.set_cons_zero, List.getElem_toArray, List.getElem_cons_succ, List.getElem_cons_zero]
 (apply wpAnyF_held (i := 4) rfl (by kernel_rfl) (fun _ _ _ h => h) hS.out; · first | exact .inr ⟨rfl, rfl⟩ | exact .inl ⟨rfl, fun w' hS' => by (obtain ⟨s1, s2⟩ := hS'; go_simp; rfl)⟩); simp only [Act.put, List.setIfInBounds_toArray, List.set_cons_succ, List.set_cons_zero, List.getElem_toArray, List.getElem_cons_succ, List.getElem_cons_zero]
 refine wpAnyF_one (i := 2) rfl ⟨by kernel_rfl, by kernel_rfl⟩ ?_
 intro K hK
 go_simp
 refine (clone_any sa sc t.st w0.drew hl ((HX.out.below hb0).drew)).mono ?_
 rintro e w1 ⟨sa', sc', rfl, hb1, o1⟩
 have hb1' : Below w0.heap.size w0 w1 := ⟨hb1.os, hb1.tape, hb1.output, hb1.size, hb1.block⟩
 refine shutS hK ⟨(hb1'.cell (p := ⟨w.heap.size, 2, none⟩) hlt).trans c2, (hb1'.cell (p := ⟨w.heap.size, 3, none⟩) hlt).trans c3⟩ (fun hS => ?_)
 (apply wpAnyF_pure (i := 6) rfl (by kernel_rfl) (fun _ _ _ h => h); · first | exact .inr ⟨rfl, rfl⟩ | exact .inl ⟨rfl, fun w' => by go_simp; rfl⟩); simp only [Act.put, List.setIfInBounds_toArray, List.set_cons_succ, List.set_cons_zero, List.getElem_toArray, List.getElem_cons_succ, List.getElem_cons_zero]
 refine wpAnyF_one (i := 5) rfl ⟨by kernel_rfl, by kernel_rfl⟩ ?_
 intro K hK
 go_simp
 refine (clone_any fa fc t.fo w1 hl2 ((HY.out.below hb0).below hb1')).mono ?_
 rintro e w2 ⟨fa', fc', rfl, hb2, o2⟩
 have B12 := (B1.out.below hb1' hlt).below hb2 (by have := hb1'.size; omega)
 have B22 := (B2.out.below hb1' hlt2).below hb2 (by have := hb1'.size; omega)
 have g2 : w2.cell? ⟨w.heap.size, 2, none⟩ = some (.slice sa t.st.length sc) := B12.cell 2
 have g3 : w2.cell? ⟨w.heap.size, 3, none⟩ = some (.slice fa t.fo.length fc) := B12.cell 3
 have k2 := B12.frozen 2; have k3 := B12.frozen 3
 have l12 := B12.lt
 refine shutN hK (by kernel_rfl) ?_
 refine wpAnyF_one (i := 7) rfl ⟨by kernel_rfl, by kernel_rfl⟩ ?_
 intro K hK
 go_simp
 refine shutN hK (by kernel_rfl) ?_
 (apply wpAnyF_pure (i := 8) rfl (by kernel_rfl) (fun _ _ _ h => h); · first | exact .inr ⟨rfl, rfl⟩ | exact .inl ⟨rfl, fun w' => by go_simp; rfl⟩); simp only [Act.put, List.setIfInBounds_toArray, List.set_cons_succ, List.set_cons_zero, List.getElem_toArray, List.getElem_cons_succ, List.getElem_cons_zero]
 refine wpAnyF_one (i := 9) rfl ⟨by kernel_rfl, by kernel_rfl⟩ ?_
 intro K hK
 go_simp
 refine shutN hK (by kernel_rfl) ?_
 refine wpAnyF_done (by kernel_rfl) ?_ _
 clear hS
 have hap := own_apart o1 o2 (Nat.le_refl _)
 have o1' : w2.ownsRow w0.heap.size 3 1 (.slice sa' t.st.length sc') t.st.length (t.st.map (Value.int .i64)) := own_below o1 hb2 (Nat.le_refl _)
 have hsz1 := hb1'.size
 have hbw : Below w.heap.size w w2 := (hb0.trans (hb1'.mono (by omega))).trans (hb2.mono (by omega))
 refine wp_goal (fun W => Box W w.heap.size #[.int .i64 t.id, .int .i64 t.hs, .slice sa' t.st.length sc', .slice fa' t.fo.length fc'] 24 ∧ Box W (w.heap.size + 1) #[.int .i64 0, .int .i64 0, .slice none 0 0, .slice none 0 0] 24 ∧ W.ownsRow w0.heap.size 3 1 (.slice sa' t.st.length sc') t.st.length (t.st.map (Value.int .i64)) ∧ W.ownsRow w0.heap.size 3 1 (.slice fa' t.fo.length fc') t.fo.length (t.fo.map (Value.int .i64)) ∧ Below w.heap.size w W) ⟨(B12.set 2 _).set 3 _, (B22.other _ _ _ (by omega)).other _ _ _ (by omega), own_other (own_other o1' hlt) hlt, own_other (own_other (own_base o2 hsz1) hlt) hlt, (hbw.setCell (p := ⟨w.heap.size, 2, none⟩) (Nat.le_refl _) _).setCell (p := ⟨w.heap.size, 3, none⟩) (Nat.le_refl _) _⟩ ?_
 rintro W ⟨d1, d2, r1, r2, hbW⟩
 clear B12 B22 o1' o1 o2 hbw hb1 hb2 hb1' g2 g3 k2 k3 l12
 have e0 : W.cell? ⟨w.heap.size, 0, none⟩ = some (.int .i64 t.id) := d1.cell 0
 have e1 : W.cell? ⟨w.heap.size, 1, none⟩ = some (.int .i64 t.hs) := d1.cell 1
 have e2 : W.cell? ⟨w.heap.size, 2, none⟩ = some (.slice sa' t.st.length sc') := d1.cell 2
 have e3 : W.cell? ⟨w.heap.size, 3, none⟩ = some (.slice fa' t.fo.length fc') := d1.cell 3
 have q0 : W.cell? ⟨w.heap.size + 1, 0, none⟩ = some (.int .i64 0) := d2.cell 0
 have q1 : W.cell? ⟨w.heap.size + 1, 1, none⟩ = some (.int .i64 0) := d2.cell 1
 have q2 : W.cell? ⟨w.heap.size + 1, 2, none⟩ = some (.slice none 0 0) := d2.cell 2
 have q3 : W.cell? ⟨w.heap.size + 1, 3, none⟩ = some (.slice none 0 0) := d2.cell 3
 have k0 := d2.frozen 0; have k1 := d2.frozen 1; have k2 := d2.frozen 2; have k3 := d2.frozen 3
 have ld1 := d1.lt; have ld2 := d2.lt
 have R1 := hid r1; have R2 := hid r2; clear r1 r2
 go_wp2_with fail
 refine bodyPost_ret (v := .agg #[.int .i64 t.id, .int .i64 t.hs, .slice sa' t.st.length sc', .slice fa' t.fo.length fc']) (by simp [results, Tryd.results86, go_sem, q0, q1, q2, q3]) rfl ?_
 have hlt3 : w.heap.size + 1 < w0.heap.size := hlt2
 exact ⟨_, rfl, (((hbW.setCell (p := ⟨w.heap.size + 1, 0, none⟩) (Nat.le_succ _) _).setCell (p := ⟨w.heap.size + 1, 1, none⟩) (Nat.le_succ _) _).setCell (p := ⟨w.heap.size + 1, 2, none⟩) (Nat.le_succ _) _).setCell (p := ⟨w.heap.size + 1, 3, none⟩) (Nat.le_succ _) _,
  sa', sc', fa', fc', rfl, own_base (own_other (own_other (own_other (own_other R1.out hlt3) hlt3) hlt3) hlt3) (by omega), own_base (own_other (own_other (own_other (own_other R2.out hlt3) hlt3) hlt3) hlt3) (by omega), hap⟩
end Go.Proofs.YthddoikmgpgakaaDoor
namespace Go.Proofs.YthddoikmgpgakaaDoor.Sw
open Go.RowKit Go Go.Shelf Go.Proofs
open Go.Proofs.YthddoikmgpgakaaDoor.Ma
theorem fits_slI {G : Nat → Option Obj} {w : World} (hG : Gin G w) {xs : List Int} {v : Value} (h : (AV.sl 1 iC xs).P G v) : ∃ a c, v = .slice a xs.length c ∧ RdI w a xs := by
 obtain ⟨a, c, e, _, hs⟩ := h
 exact ⟨a, c, e, rdI_of hG hs⟩
theorem between_con (a b : List Int) (h1 : a.length ≤ 2000) (h2 : b.length ≤ 2000) : Con Tryd.prog 84 [.sl 1 iC a, .sl 1 iC b] [] (Is (.val (.int .i64 (dist a b : Int))) []) := by
 refine con_same (enters_of Tryd.func84 (by kernel_rfl) rfl) fun G vs w hf hG => ?_
 match vs, hf with
 | [v, v'], ⟨h, h', _⟩ =>
  obtain ⟨sa, sc, rfl, g1⟩ := fits_slI hG h
  obtain ⟨sb, sd, rfl, g2⟩ := fits_slI hG h'
  exact (between_any a b sa sb sc sd w h1 h2 g1 g2).mono fun e w' ⟨h, hb⟩ => ⟨_, h, rfl, hb⟩
theorem all_con (ts : List Tl) (hl : ts.length ≤ 4000) (hs : ∀ t ∈ ts, t.small) : Con Tryd.prog 79 [.sl 4 tC ts] [HA.tab] (Is (.val (.int .i64 (errAll ts))) [HA.tab]) := by
 refine con_tab (enters_of Tryd.func79 (by kernel_rfl) rfl) fun G vs w hf hG hT => ?_
 match vs, hf with
 | [v], ⟨h, _⟩ =>
  obtain ⟨la, lc, rfl, g1⟩ := fits_tls hG h
  exact (all_any la lc ts w hl hT hs g1).mono fun e w' ⟨h, hb⟩ => ⟨_, h, rfl, hb⟩
theorem checked_con (ts : List Tl) (hl : ts.length ≤ 4000) (hs : ∀ t ∈ ts, t.small) : Con Tryd.prog 97 [.sl 4 tC ts] [] (Is (.val (.int .i64 (errAll ts))) []) := by
 refine con_same (enters_of Tryd.func97 (by kernel_rfl) rfl) fun G vs w hf hG => ?_
 match vs, hf with
 | [v], ⟨h, _⟩ =>
  obtain ⟨la, lc, rfl, g1⟩ := fits_tls hG h
  exact (checked_any la lc ts w hl hs g1).mono fun e w' ⟨h, hb⟩ => ⟨_, h, rfl, hb⟩
theorem wl_indexAA {c : Cx} {rs : List (Nat × AV)} {hs : List HA} {Q : Exit → S → Prop} {ops : Array Oper} {tl : List Oper} {d : Nat} {ty : TypeId} {pos : String} {af : Array Edge} {x y : Operand} {t : TypeId} {len m : Nat} {p : Value} {j : Nat} {i : Int} {kk : Nat} {kd : IntKind} (hx : opv rs x = some (.at p j)) (hy : opv rs y = some (.val (.int kd i))) (hi : i = (kk : Int)) (hT : TyA c.P t len m) (hk : kk < len) (hd : Nat.blt d c.nt = true) (k : WL c ops tl ⟨(d, .at p (j + kk * m)) :: rs, hs⟩ Q) : WL c ops (⟨some d, .indexAddr t x y, ty, pos, af, none⟩ :: tl) ⟨rs, hs⟩ Q := wl_ex (lt_indexAA (hT := hT) hx hy hi hk) hd k
structure Cst (ts : List Tl) (g : Nat → Int) : Prop where
 at' : ∀ i k (hi : i < ts.length) (hk : k < ts.length), g (0 + i * 6 + k * 1) = (dist ts[i].st ts[k].fo : Int)
 btw : ∀ j, 0 ≤ g j ∧ g j ≤ 100000
structure CstI (ts : List Tl) (i k : Nat) (g : Nat → Int) : Prop where
 old : ∀ a c (ha : a < ts.length) (hc : c < ts.length), a < i ∨ (a = i ∧ c < k) → g (0 + a * 6 + c * 1) = (dist ts[a].st ts[c].fo : Int)
 btw : ∀ j, 0 ≤ g j ∧ g j ≤ 100000
theorem matches_con (ts : List Tl) (hN : ts.length ≤ 6) (hs : ∀ t ∈ ts, t.st.length ≤ 1000 ∧ t.fo.length ≤ 1000) : Con Tryd.prog 98 [.sl 4 tC ts] [] (fun x y => ∃ g, Cst ts g ∧ x = .clo 115 [.fp 1 [.sl 4 tC ts], .fp 36 (cells g)] ∧ y = []) := by
 refine con_of Tryd.func98 rfl (enters_of Tryd.func98 (by kernel_rfl) rfl) rfl ?_; intro n w0 F0 G0
 refine zS ?_;repeat(refine yA ?_;intro p hp;refine zS ?_)
 rename_i p1 hp1
 refine W_loopJ (fun (q : Nat × (Nat → Int)) => ⟨[(1, .val p1), (2, .val .nilFunc), (3, .val p), (8, .sl 4 tC ts), (9, .val (.int .i64 ts.length)), (10, .val (.int .i64 q.1))], [.box p (cells q.2) 183, .box p1 [.sl 4 tC ts] 62]⟩) (fun q => q.1 ≤ ts.length ∧ CstI ts q.1 0 q.2) (fun q => ts.length - q.1) (0, fun _ => 0) (fun _ _ st => st_sub2 st zR zP) ⟨Nat.zero_le _, ⟨fun a c _ _ h => by omega, fun j => by simp⟩⟩ ?_
 rintro ⟨i, g⟩ ⟨hi, hg⟩
 dsimp only at hi hg ⊢
 refine zS ?_;repeat(refine yA ?_;intro p hp;refine zS ?_)
 refine w_cond rfl (fun hlt => ?_) (fun hlt => ?_)
 ·have hi' : i < ts.length := by simpa using hlt
  refine zS ?_;repeat(refine yA ?_;intro p hp;refine zS ?_)
  rename_i pc hpc
  refine W_loopJ (fun (q : Nat × (Nat → Int)) => ⟨[(1, .val p1), (2, .val .nilFunc), (3, .val pc), (4, .val (.int .i64 i)), (5, .val p), (8, .sl 4 tC ts), (9, .val (.int .i64 ts.length)), (10, .val (.int .i64 i)), (15, .sl 4 tC ts), (16, .val (.int .i64 ts.length)), (17, .val (.int .i64 q.1))], [.box p (tC ts[i]) 24, .box pc (cells q.2) 183, .box p1 [.sl 4 tC ts] 62]⟩) (fun q => q.1 ≤ ts.length ∧ CstI ts i q.1 q.2) (fun q => ts.length - q.1) (0, g) (fun _ _ st => st_sub2 st zR zP) ⟨Nat.zero_le _, hg⟩ ?_
  rintro ⟨k, g2⟩ ⟨hk, hg2⟩
  dsimp only at hk hg2 ⊢
  refine zS ?_;repeat(refine yA ?_;intro p hp;refine zS ?_)
  refine w_cond rfl (fun hlt2 => ?_) (fun hlt2 => ?_)
  ·have hk' : k < ts.length := by simpa using hlt2
   have s1 := hs _ (List.getElem_mem hi')
   have s2 := hs _ (List.getElem_mem hk')
   have B := between_con ts[i].st ts[k].fo (by omega) (by omega)
   refine zS ?_;repeat(refine yA ?_;intro p hp;refine zS ?_)
   refine W_run 8 [22, 23, 24, 25, 26, 27, 28, 29] [0, 1, 2, 3, 4, 5, 6, 7] Cut.nil rfl goFlt mixedS (by kernel_rfl) rfl ?_
   refine rpv [] [] ?_
   refine rpv [] [] ?_
   refine rpv [] [] ?_
   refine rpv [2] [] ?_
   refine rpv [] [] ?_
   refine rpv [4] [] ?_
   refine Run.pv [3, 5] [] rfl (fun vs => by apply ltr_pk; exact goPk; (refine ltr ?_; refine lt_call ?_ B; exact rfl)) goApp ?_
   refine rpv [0] [] ?_
   refine ⟨⟨by kernel_rfl, by kernel_rfl⟩, fun vs => ?_⟩
   apply WL_auto [1, 6, 7]
   ·exact goPk
   ·exact goNrm
   ·kernel_rfl
   ·kernel_rfl
   refine zS ?_;repeat(refine yA ?_;intro p hp;refine zS ?_)
   (apply wl_indexAA (kk := k); exact rfl; exact rfl; exact rfl; exact inferInstance; omega; exact rfl)
   (apply wl_store (j := i * 6 + k * 1); (first | exact .inl rfl | exact .inr ⟨rfl, rfl⟩); exact zM; exact rfl; exact inferInstance; exact inferInstance; exact inferInstance; exact rfl; (rw [cells_len]; omega))
   rw [cells_put (by omega)]
   refine zS ?_;repeat(refine yA ?_;intro p hp;refine zS ?_)
   (refine ⟨(k + 1, fun q => if q = i * 6 + k * 1 then (dist ts[i].st ts[k].fo : Int) else g2 q), fun _ _ st => st_sub2 st ?_ ?_, ?_, ?_⟩; exact zR; exact zP)
   ·have hd := dist_le ts[i].st ts[k].fo
    refine ⟨hk', ⟨fun a c ha hc h => ?_, fun j => ?_⟩⟩
    ·dsimp only
     by_cases e : 0 + a * 6 + c * 1 = i * 6 + k * 1
     ·obtain rfl : a = i := by omega
      obtain rfl : c = k := by omega
      rw [if_pos e]
     ·rw [if_neg e]
      exact hg2.old a c ha hc (by
       rcases h with h | ⟨h, h'⟩
       ·exact .inl h
       ·subst h
        exact .inr ⟨rfl, by omega⟩)
    ·dsimp only
     split
     ·omega
     ·exact hg2.btw j
   ·dsimp only; omega
  ·have hkk : k = ts.length := by simp at hlt2; omega
   subst hkk
   refine zS ?_;repeat(refine yA ?_;intro p hp;refine zS ?_)
   (refine ⟨(i + 1, g2), fun _ _ st => st_sub2 st ?_ ?_, ?_, ?_⟩; exact zR; exact zP)
   ·refine ⟨hi', ⟨fun a c ha hc h => hg2.old a c ha hc (by omega), hg2.btw⟩⟩
   ·dsimp only; omega
 ·have hii : i = ts.length := by simp at hlt; omega
  subst hii
  (apply W_frzb 1 1; exact rfl; exact zN)
  (apply W_frzb 3 36; exact rfl; exact zN)
  refine zS ?_;repeat(refine yA ?_;intro p hp;refine zS ?_)
  (apply resK1; exact rfl; exact rfl; exact ⟨g, ⟨fun a c ha hc => hg.old a c ha hc (.inl ha), hg.btw⟩, rfl, rfl⟩; exact yC)
def costT (ts : List Tl) (i k : Nat) : Int := if h : i < ts.length ∧ k < ts.length then (dist ts[i].st ts[k].fo : Int) else 0
def matsT (ts : List Tl) : List (List Nat × Int) := mats ts.length (costT ts) ts.length [] 0
theorem flatMap_eqs {α β : Type} {f f' : α → List β} : ∀ {l : List α}, (∀ x ∈ l, f x = f' x) → l.flatMap f = l.flatMap f'
 | [], _ => rfl
 | x :: l, h => by rw [List.flatMap_cons, List.flatMap_cons, h x (by simp), flatMap_eqs fun y hy => h y (by simp [hy])]
theorem mats_congr {N : Nat} {c c' : Nat → Nat → Int} (h : ∀ i k, i < N → k < N → c i k = c' i k) : ∀ (m : Nat) (s : List Nat) (cn : Int), s.length + m ≤ N → mats N c m s cn = mats N c' m s cn
 | 0, _, _, _ => rfl
 | m + 1, s, cn, hl => by
  rw [mats_succ, mats_succ]
  refine flatMap_eqs fun k hk => ?_
  rw [h s.length k (by omega) (List.mem_range.1 hk), mats_congr h m (s ++ [k]) _ (by rw [List.length_append, List.length_singleton]; omega)]
theorem Cst.mats {ts : List Tl} {g : Nat → Int} (h : Cst ts g) : mats ts.length (cst g) ts.length [] 0 = matsT ts :=
 mats_congr (fun i k hi hk => by rw [cst, h.at' i k hi hk, costT, dif_pos ⟨hi, hk⟩]) _ _ _ (by simp)
theorem costT_nonneg (ts : List Tl) (i k : Nat) : 0 ≤ costT ts i k := by unfold costT; split <;> omega
theorem matsT_nonneg (ts : List Tl) : ∀ q ∈ matsT ts, 0 ≤ q.2 := mats_nonneg (costT_nonneg ts) (Int.le_refl _)
theorem matsT_len (ts : List Tl) : ∀ q ∈ matsT ts, q.1.length = ts.length := fun q hq => by rw [mats_len q hq]; simp
def matchR (ts : List Tl) : List Nat × Int × Int := if errAll ts = 0 then ((bst (matsT ts)).1, (bst (matsT ts)).2, 0) else ([], 0, errAll ts)
theorem err_len {ts : List Tl} (h : errAll ts = 0) : ts.length ≤ 6 := by
 unfold errAll at h
 split at h
 ·cases h
 ·omega
def small3 (ts : List Tl) : Prop := ∀ t ∈ ts, t.st.length ≤ 1000 ∧ t.fo.length ≤ 1000
theorem small3.small {ts : List Tl} (h : small3 ts) : ∀ t ∈ ts, t.small := fun t ht => by have := h t ht; exact ⟨by omega, by omega⟩
theorem match_con (ts : List Tl) (hl : ts.length ≤ 4000) (hs : small3 ts) : Con Tryd.prog 49 [.sl 4 tC ts] [HA.tab] (fun x y => ∃ u : Value, x = .tup [.val u, .val (.int .i64 (matchR ts).2.1), .val (.int .i64 (matchR ts).2.2)] ∧ y = [.row u 3 1 iC (ints (matchR ts).1), HA.tab]) := by
 have AC := all_con ts hl hs.small
 unfold matchR
 refine con_of Tryd.func49 rfl (enters_of Tryd.func49 (by kernel_rfl) rfl) rfl ?_; intro n w0 F0 G0
 refine zS ?_;repeat(refine yA ?_;intro p hp;refine zS ?_)
 (first | (apply wl_call (AC); exact rfl; exact rfl) | (apply wl_callR (AC); exact rfl; exact zM; exact rfl))
 refine zS ?_;repeat(refine yA ?_;intro p hp;refine zS ?_)
 refine w_cond rfl (fun he => ?_) (fun he => ?_)
 ·have he' : ¬ errAll ts = 0 := by simpa using he
  rw [if_neg he']
  refine zS ?_;repeat(refine yA ?_;intro p hp;refine zS ?_)
  refine Res_row0 3 1 iC ?_
  (apply resK3; exact rfl; exact rfl; exact rfl; exact rfl; exact ⟨_, rfl, rfl⟩; exact yC)
 ·have he' : errAll ts = 0 := by simpa using he
  rw [if_pos he']
  have h6 := err_len he'
  have MC := matches_con ts h6 hs
  refine zS ?_;repeat(refine yA ?_;intro p hp;refine zS ?_)
  (apply wl_callP (MC); exact rfl; exact yC; exact rfl)
  rintro _ _ ⟨g, hg, rfl, rfl⟩
  have IT := matches_iter ts g h6 hg.btw
  rw [hg.mats] at IT
  have hnn := matsT_nonneg ts
  generalize matsT ts = xs at IT hnn ⊢
  rename_i p6 hp6
  refine zS ?_;repeat(refine yA ?_;intro p hp;refine zS ?_)
  refine W_weak ⟨[(6, .val p6), (7, .val p), (16, .clo 115 [.fp 1 [.sl 4 tC ts], .fp 36 (cells g)])], [.box p [.val (.int .i64 (-1))] 3, .box p6 [.val (.slice none 0 0)] 22, .row (.slice none 0 0) 3 1 iC [], HA.tab]⟩ (fun _ _ st => st_sub2 (st_nil 3 1 iC st) zR zP) ?_
  refine W_range (own := []) (by exact rfl) IT yC (fun k (b : Nat × Value) => b.1 = k) (fun b => [.box p [.val (.int .i64 (bst (xs.take b.1)).2)] 3, .box p6 [.val b.2] 22, .row b.2 3 1 iC (ints (bst (xs.take b.1)).1), HA.tab]) (fun _ _ => False) (fun _ _ => []) (0, .slice none 0 0) (by exact rfl) zP (by intro _ _ _; exact rfl) (by exact rfl) ?_ ?_ (fun _ _ _ h => h.elim)
  ·intro lr m w1 F1 G1 hrec k hk b u hI
   obtain ⟨j, v⟩ := b
   dsimp only at hI
   subst hI
   dsimp only [zipR, mtC, mtR, List.cons_append, List.nil_append]
   have hst : xs.take (j + 1) = xs.take j ++ [xs[j]] := by rw [List.take_succ_eq_append_getElem hk]
   have hb : bst (xs.take (j + 1)) = stepB (bst (xs.take j)) xs[j] := by rw [hst, bst_snoc]
   unfold stepB at hb
   refine zS ?_;repeat(refine yA ?_;intro p hp;refine zS ?_)
   intro w2 F2 G2 hrec2
   refine zS ?_;repeat(refine yA ?_;intro p hp;refine zS ?_)
   refine wl_part rfl rfl (fun h1 => ?_) (fun h1 => ?_)
   ·rw [if_pos (.inl (of_decide_eq_true h1))] at hb
    refine zS ?_;repeat(refine yA ?_;intro p hp;refine zS ?_)
    refine WL_one At.here (fun hone2 => ?_)
    refine zS ?_;repeat(refine yA ?_;intro p hp;refine zS ?_)
    refine ⟨(j + 1, u), rfl, fun a w st => st_sub2 st zR (by dsimp only; rw [hb]; exact zP)⟩
   ·have h1' : ¬ (bst (xs.take j)).2 < 0 := of_decide_eq_false h1
    refine zS ?_;repeat(refine yA ?_;intro p hp;refine zS ?_)
    refine w_cond rfl (fun h2 => ?_) (fun h2 => ?_)
    ·rw [if_pos (.inr (of_decide_eq_true h2))] at hb
     refine zS ?_;repeat(refine yA ?_;intro p hp;refine zS ?_)
     refine WL_one At.here (fun hone2 => ?_)
     refine zS ?_;repeat(refine yA ?_;intro p hp;refine zS ?_)
     refine ⟨(j + 1, u), rfl, fun a w st => st_sub2 st zR (by dsimp only; rw [hb]; exact zP)⟩
    ·rw [if_neg (by rintro (h | h); exact h1' h; exact of_decide_eq_false h2 h)] at hb
     refine zS ?_;repeat(refine yA ?_;intro p hp;refine zS ?_)
     refine ⟨(j + 1, v), rfl, fun a w st => st_sub2 st zR (by dsimp only; rw [hb]; exact zP)⟩
  ·rintro ⟨j, v⟩ hI
   dsimp only at hI
   subst hI
   dsimp only
   rw [List.take_length]
   (repeat (first | refine th_norm ?_ | refine th_exit ?_ | refine th_ret ?_ | refine bl_norm ?_ | refine bl_eq ?_ | refine bl_ne rfl ?_ | refine bl_ret ?_ | refine rt_norm ?_ | refine rt_ret ?_))
   refine zS ?_;repeat(refine yA ?_;intro p hp;refine zS ?_)
   refine W_run 3 [28, 29, 2] [0, 1, 2] Cut.nil rfl goFlt mixedS (by kernel_rfl) rfl ?_
   refine rpv [] [] ?_
   refine rpv [] [] ?_
   refine rpv [0] [] ?_
   refine ⟨⟨by kernel_rfl, by kernel_rfl⟩, fun vs => ?_⟩
   apply WL_auto [1, 2]
   ·exact goPk
   ·exact goNrm
   ·kernel_rfl
   ·kernel_rfl
   refine zS ?_;repeat(refine yA ?_;intro p hp;refine zS ?_)
   refine zS ?_;repeat(refine yA ?_;intro p hp;refine zS ?_)
   (apply resK3; exact rfl; exact rfl; exact rfl; exact rfl; exact ⟨_, rfl, rfl⟩; exact yC)
def sureR (ts : List Tl) : List Int × Int := if errAll ts = 0 then (sure (matsT ts), 0) else ([], errAll ts)
def accS (B : List Nat × Int) (l : List (List Nat × Int)) : List Int := (l.filter fun p => decide (p.2 ≤ B.2)).foldl (fun a p => msk a p.1) (ints B.1)
theorem accS_snoc (B : List Nat × Int) (l : List (List Nat × Int)) (p : List Nat × Int) : accS B (l ++ [p]) = if p.2 ≤ B.2 then msk (accS B l) p.1 else accS B l := by
 unfold accS
 rw [List.filter_append, List.foldl_append]
 by_cases h : p.2 ≤ B.2
 ·rw [if_pos h, List.filter_cons_of_pos (by simpa using h)]; rfl
 ·rw [if_neg h, List.filter_cons_of_neg (by simpa using h)]; rfl
theorem msk_len (a : List Int) (m : List Nat) : (msk a m).length = min a.length m.length := by simp [msk]
theorem accS_len {N : Nat} {B : List Nat × Int} (hB : B.1.length = N) : ∀ (r l : List (List Nat × Int)), (∀ q ∈ l ++ r, q.1.length = N) → (accS B l).length = N → (accS B (l ++ r)).length = N
 | [], l, _, h => by rw [List.append_nil]; exact h
 | p :: r, l, hl, h => by
  have e : (accS B (l ++ [p])).length = N := by
   rw [accS_snoc]
   split
   ·rw [msk_len, h, hl p (by simp), Nat.min_self]
   ·exact h
  have := accS_len hB r (l ++ [p]) (by simpa using hl) e
  rwa [List.append_assoc] at this
theorem accS_len' {N : Nat} {B : List Nat × Int} (hB : B.1.length = N) (l : List (List Nat × Int)) (hl : ∀ q ∈ l, q.1.length = N) : (accS B l).length = N :=
 accS_len (B := B) hB l [] hl (by rw [← hB]; exact ints_len _)
def mskA (a : List Int) (m : List Nat) (i : Nat) : List Int := (msk a m).take i ++ a.drop i
theorem mskA_0 (a : List Int) (m : List Nat) : mskA a m 0 = a := by simp [mskA]
theorem mskA_end {a : List Int} {m : List Nat} (h : a.length = m.length) : mskA a m m.length = msk a m := by
 unfold mskA
 rw [List.take_of_length_le (by rw [msk_len]; omega), List.drop_of_length_le (by omega), List.append_nil]
theorem mskA_len {a : List Int} {m : List Nat} (h : a.length = m.length) {i : Nat} (hi : i ≤ m.length) : (mskA a m i).length = a.length := by
 unfold mskA
 rw [List.length_append, List.length_take, List.length_drop, msk_len]; omega
theorem mskA_at {a : List Int} {m : List Nat} (h : a.length = m.length) {i : Nat} (hi : i < m.length) : (mskA a m i)[i]'(by rw [mskA_len h (by omega)]; omega) = a[i] := by
 unfold mskA
 rw [List.getElem_append_right (by rw [List.length_take, msk_len]; omega)]
 simp [msk_len, show min i (min a.length m.length) = i by omega]
theorem mskA_step {a : List Int} {m : List Nat} (h : a.length = m.length) {i : Nat} (hi : i < m.length) : mskA a m (i + 1) = (mskA a m i).set i (if a[i] = (m[i] : Int) then a[i] else -1) := by
 have e : (msk a m)[i]'(by rw [msk_len]; omega) = if a[i] = (m[i] : Int) then a[i] else -1 := by simp [msk]
 unfold mskA
 rw [List.take_succ_eq_append_getElem (by rw [msk_len]; omega), e, List.set_append_right _ _ (by rw [List.length_take, msk_len]; omega), List.length_take, msk_len, show i - min i (min a.length m.length) = 0 by omega, List.drop_eq_getElem_cons (by omega : i < a.length), List.set_cons_zero, List.append_assoc]
 rfl
theorem mskA_same {a : List Int} {m : List Nat} (h : a.length = m.length) {i : Nat} (hi : i < m.length) (e : a[i] = (m[i] : Int)) : mskA a m (i + 1) = mskA a m i := by
 rw [mskA_step h hi, if_pos e, ← mskA_at h hi, List.set_getElem_self]
theorem mskA_other {a : List Int} {m : List Nat} (h : a.length = m.length) {i : Nat} (hi : i < m.length) (e : ¬ a[i] = (m[i] : Int)) : mskA a m (i + 1) = (mskA a m i).set i (-1) := by
 rw [mskA_step h hi, if_neg e]
theorem sure_con (ts : List Tl) (hl : ts.length ≤ 4000) (hs : small3 ts) : Con Tryd.prog 51 [.sl 4 tC ts] [HA.tab] (fun x y => ∃ u : Value, x = .tup [.val u, .val (.int .i64 (sureR ts).2)] ∧ y = [.row u 3 1 iC (sureR ts).1, HA.tab]) := by
 have MC := match_con ts hl hs
 unfold matchR at MC
 unfold sureR
 by_cases he' : errAll ts = 0
 ·rw [if_pos he'] at MC ⊢
  have h6 := err_len he'
  have MM := matches_con ts h6 hs
  have hnn := matsT_nonneg ts
  have hml := matsT_len ts
  have hbm := (bi _ hnn).mem
  refine con_of Tryd.func51 rfl (enters_of Tryd.func51 (by kernel_rfl) rfl) rfl ?_; intro n w0 F0 G0
  refine zS ?_;repeat(refine yA ?_;intro p hp;refine zS ?_)
  (apply wl_callP (MC); exact rfl; exact yC; exact rfl)
  rintro _ _ ⟨v0, rfl, rfl⟩
  refine WL_one At.here (fun hone => ?_)
  refine zS ?_;repeat(refine yA ?_;intro p hp;refine zS ?_)
  (apply wl_callP (MM); exact rfl; exact yC; exact rfl)
  rintro _ _ ⟨g, hg, rfl, rfl⟩
  have IT := matches_iter ts g h6 hg.btw
  rw [hg.mats] at IT
  refine zS ?_;repeat(refine yA ?_;intro p hp;refine zS ?_)
  rename_i p4 hp4
  generalize matsT ts = xs at IT hnn hml hbm ⊢
  have hac : ∀ j, xs ≠ [] → (accS (bst xs) (xs.take j)).length = ts.length := fun j hne => accS_len' (hml _ (hbm hne)) _ fun q hq => hml q (List.mem_of_mem_take hq)
  refine W_range (own := []) (by exact rfl) IT yC (fun k (b : Nat) => b = k) (fun b => [.box p [.val (.int .i64 (bst xs).2)] 3, .box p4 [.val v0] 22, .row v0 3 1 iC (accS (bst xs) (xs.take b)), HA.tab]) (fun _ _ => False) (fun _ _ => []) 0 (by exact rfl) zP (by intro _ _ _; exact rfl) (by exact rfl) ?_ ?_ (fun _ _ _ h => h.elim)
  ·intro lr m w1 F1 G1 hrec k hk b u hI
   have hI' : b = k := hI
   subst hI'
   dsimp only [zipR, mtC, mtR, List.cons_append, List.nil_append]
   have hst : xs.take (b + 1) = xs.take b ++ [xs[b]] := by rw [List.take_succ_eq_append_getElem hk]
   have hb : accS (bst xs) (xs.take (b + 1)) = if xs[b].2 ≤ (bst xs).2 then msk (accS (bst xs) (xs.take b)) xs[b].1 else accS (bst xs) (xs.take b) := by rw [hst, accS_snoc]
   have hne : xs ≠ [] := fun e => by subst e; exact absurd hk (Nat.not_lt_zero _)
   have hA := hac b hne
   have hM := hml _ (List.getElem_mem hk)
   generalize accS (bst xs) (xs.take b) = A at hA hb ⊢
   refine zS ?_;repeat(refine yA ?_;intro p hp;refine zS ?_)
   intro w2 F2 G2 hrec2
   refine zS ?_;repeat(refine yA ?_;intro p hp;refine zS ?_)
   refine w_cond rfl (fun hgt => ?_) (fun hgt => ?_)
   ·rw [if_neg (by have := of_decide_eq_true hgt; omega)] at hb
    refine zS ?_;repeat(refine yA ?_;intro p hp;refine zS ?_)
    refine ⟨b + 1, rfl, fun a w st => st_sub2 st zR (by dsimp only; rw [hb]; exact zP)⟩
   ·rw [if_pos (by have := of_decide_eq_false hgt; omega)] at hb
    have hil := ints_len xs[b].1
    refine zS ?_;repeat(refine yA ?_;intro p hp;refine zS ?_)
    refine W_loopJ (fun (i : Nat) => ⟨[(4, .val p4), (5, .val p), (21, .clo 115 [.fp 1 [.sl 4 tC ts], .fp 36 (cells g)]), (27, .val u), (28, .val (.int .i64 ts.length)), (29, .val (.int .i64 i))], [.row u 3 1 iC (ints xs[b].1), .box p [.val (.int .i64 (bst xs).2)] 3, .box p4 [.val v0] 22, .row v0 3 1 iC (mskA A xs[b].1 i), HA.tab]⟩) (fun i => i ≤ ts.length) (fun i => ts.length - i) 0 (fun _ _ st => st_sub2 st (by rw [← hM, ← hil]; exact zR) (by rw [mskA_0]; exact zP)) (Nat.zero_le _) ?_
    intro i hi
    have hAM : A.length = xs[b].1.length := by omega
    have hml2 := mskA_len hAM (i := i) (by omega)
    refine zS ?_;repeat(refine yA ?_;intro p hp;refine zS ?_)
    refine w_cond rfl (fun hlt => ?_) (fun hlt => ?_)
    ·have hi' : i < xs[b].1.length := by have : i < ts.length := by simpa using hlt
                                         omega
     have e2 : (ints xs[b].1)[i]'(by omega) = (xs[b].1[i] : Int) := by simp [ints]
     have e1 := mskA_at hAM hi'
     refine zS ?_;repeat(refine yA ?_;intro p hp;refine zS ?_)
     refine w_cond rfl (fun hn => ?_) (fun hn => ?_)
     ·have hn' : ¬ A[i] = (xs[b].1[i] : Int) := by rw [← e1, ← e2]; simpa using hn
      refine zS ?_;repeat(refine yA ?_;intro p hp;refine zS ?_)
      have hs1 := mskA_other hAM hi' hn'
      refine ⟨i + 1, fun _ _ st => st_sub2 st zR (by rw [hs1]; exact zP), ?_, ?_⟩
      ·show i + 1 ≤ ts.length
       omega
      ·omega
     ·have hn' : A[i] = (xs[b].1[i] : Int) := by rw [← e1, ← e2]; simpa using hn
      have hs1 := mskA_same hAM hi' hn'
      refine zS ?_;repeat(refine yA ?_;intro p hp;refine zS ?_)
      refine ⟨i + 1, fun _ _ st => st_sub2 st zR (by rw [hs1]; exact zP), ?_, ?_⟩
      ·show i + 1 ≤ ts.length
       omega
      ·omega
    ·have hii : i = ts.length := by simp at hlt; omega
     rw [hii, ← hM, mskA_end hAM, ← hb]
     refine zS ?_;repeat(refine yA ?_;intro p hp;refine zS ?_)
     refine ⟨b + 1, rfl, fun a w st => st_sub2 st zR zP⟩
  ·rintro b hI
   have hI' : b = xs.length := hI
   subst hI'
   dsimp only
   rw [List.take_length]
   (repeat (first | refine th_norm ?_ | refine th_exit ?_ | refine th_ret ?_ | refine bl_norm ?_ | refine bl_eq ?_ | refine bl_ne rfl ?_ | refine bl_ret ?_ | refine rt_norm ?_ | refine rt_ret ?_))
   refine zS ?_;repeat(refine yA ?_;intro p hp;refine zS ?_)
   (apply resK2; exact rfl; exact rfl; exact rfl; exact ⟨_, rfl, rfl⟩; exact yC)
 ·rw [if_neg he'] at MC ⊢
  refine con_of Tryd.func51 rfl (enters_of Tryd.func51 (by kernel_rfl) rfl) rfl ?_; intro n w0 F0 G0
  refine zS ?_;repeat(refine yA ?_;intro p hp;refine zS ?_)
  (apply wl_callP (MC); exact rfl; exact yC; exact rfl)
  rintro _ _ ⟨v0, rfl, rfl⟩
  refine WL_one At.here (fun hone => ?_)
  refine zS ?_;repeat(refine yA ?_;intro p hp;refine zS ?_)
  simp only [he', decide_false, Bool.not_false]
  refine zS ?_;repeat(refine yA ?_;intro p hp;refine zS ?_)
  refine Res_row0 3 1 iC ?_
  (apply resK2; exact rfl; exact rfl; exact rfl; exact ⟨_, rfl, rfl⟩; exact yC)
theorem row_ofN {G : Nat → Option Obj} {w : World} {B : Nat} {v : Value} {xs : List Int} (h : w.ownsRow B 3 1 v xs.length (xs.map (Value.int .i64))) : (HA.row v 3 1 iC xs).P G v.ownBlock.toList w :=
 ⟨_, rfl, fun _ _ => rfl, by
  induction xs with
  | nil => trivial
  | cons x t ih => exact ⟨rfl, fitsN t⟩, fun u hu => by obtain ⟨x, _, rfl⟩ := List.mem_map.1 hu; rfl, own_base h (Nat.zero_le _)⟩
where fitsN : ∀ xs : List Int, Fits G (xs.flatMap iC) (xs.map (Value.int .i64))
 | [] => trivial
 | _ :: t => ⟨rfl, fitsN t⟩
theorem con_newO {P : Program} {k : FuncId} {args : List AV} {t : Tl} (he : ∀ args w, (callFunc k args).run P w = .ok (.enter k args) w)
  (h : ∀ (G : Nat → Option Obj) (vs : List Value) (w : World), Fits G args vs → Gin G w → Calls P k vs.toArray w fun en w' => ∃ v, en = .returned v ∧ Below w.heap.size w w' ∧ NewT w.heap.size w' v t) :
  Con P k args [] (fun x y => ∃ i : OV × OV, x = .agg [.val (.int .i64 t.id), .val (.int .i64 t.hs), .val i.1.1, .val i.2.1] ∧ y = [.row i.1.1 3 1 iC t.st, .row i.2.1 3 1 iC t.fo]) := ⟨he, fun G Fp vs w hf hi => by
 obtain rfl : Fp = [] := hi.hs
 refine (h G vs w hf hi.gin).mono fun en w' ⟨v, h1, hb, sa, sc, fa, fc, hv, r1, r2, hap⟩ => ?_
 subst hv
 have o1 : (Value.slice sa t.st.length sc).oneCell' = true := rfl
 have o2 : (Value.slice fa t.fo.length fc).oneCell' = true := rfl
 generalize Value.slice sa t.st.length sc = s1 at h1 r1 hap o1
 generalize Value.slice fa t.fo.length fc = s2 at h1 r2 hap o2
 have hmem : ∀ b ∈ s1.ownBlock.toList ++ s2.ownBlock.toList, w.heap.size ≤ b ∧ b < w'.heap.size := fun b hb' => by
  rcases List.mem_append.1 hb' with q | q
  ·exact r1.lt b (by simpa using q)
  ·exact r2.lt b (by simpa using q)
 refine ⟨_, _, _, G, s1.ownBlock.toList ++ s2.ownBlock.toList, h1, ⟨(⟨s1, o1⟩, ⟨s2, o2⟩), rfl, rfl⟩, ⟨hb.os, hb.tape, hb.output, hb.size, fun b hb' _ => hb.block b hb', fun b hb' => .inr (hmem b hb').1, Gle.refl _, fun _ _ h => .inl h⟩,
  ⟨fun b o e => (hb.block b (hi.gin.lt e)).trans (hi.gin b o e), ?_, fun b hb' => ⟨(hmem b hb').2, ?_⟩, _, _, .refl _, row_ofN r1, _, [], by simp, row_ofN r2, rfl⟩, ⟨[_, _, _, _], rfl, rfl, rfl, rfl, rfl, trivial⟩⟩
 ·refine List.nodup_append.2 ⟨by cases s1.ownBlock <;> simp, by cases s2.ownBlock <;> simp, fun a ha b hb' e => ?_⟩
  have ha' : s1.ownBlock = some a := by simpa using ha
  have hb2 : s2.ownBlock = some b := by simpa using hb'
  exact hap a ha' (by rw [hb2, e])
 ·cases hg : G b with
  | none => rfl
  | some o => have := hi.gin.lt hg; have := (hmem b hb').1; omega⟩
theorem copied_con (t : Tl) (h : t.small) : Con Tryd.prog 86 [.agg (tC t)] [] (fun x y => ∃ i : OV × OV, x = .agg [.val (.int .i64 t.id), .val (.int .i64 t.hs), .val i.1.1, .val i.2.1] ∧ y = [.row i.1.1 3 1 iC t.st, .row i.2.1 3 1 iC t.fo]) := by
 refine con_newO (enters_of Tryd.func86 (by kernel_rfl) rfl) fun G vs w hf hG => ?_
 match vs, hf with
 | [v], ⟨hv, _⟩ =>
  obtain ⟨sa, sc, fa, fc, rfl, g1, g2⟩ := fits_tl hG hv
  exact copied_any t sa fa sc fc w h.1 h.2 g1 g2
theorem spoil_con (id hs : Int) (s1 s2 : Value) (a b : List Int) (ha : a.length ≤ 4000) (hb : b.length ≤ 4000) : Con Tryd.prog 25 [.agg [.val (.int .i64 id), .val (.int .i64 hs), .val s1, .val s2]] [.row s1 3 1 iC a, .row s2 3 1 iC b] (fun x y => x = .tup [] ∧ ∃ a' b', y = [.row s1 3 1 iC a', .row s2 3 1 iC b']) := by
 refine con_of Tryd.func25 rfl (enters_of Tryd.func25 (by kernel_rfl) rfl) rfl ?_; intro n w0 F0 G0
 refine zS ?_;repeat(refine yA ?_;intro p hp;refine zS ?_)
 refine W_loopJ (fun (q : Nat × List Int) => ⟨[(1, .val p), (6, .val (.int .i64 a.length)), (7, .val (.int .i64 q.1))], [.box p [.val (.int .i64 id), .val (.int .i64 hs), .val s1, .val s2] 24, .row s1 3 1 iC q.2, .row s2 3 1 iC b]⟩) (fun q => q.1 ≤ a.length ∧ q.2.length = a.length) (fun q => a.length - q.1) (0, a) (fun _ _ st => st_sub2 st zR zP) ⟨Nat.zero_le _, rfl⟩ ?_
 rintro ⟨i, a'⟩ ⟨hi, hal⟩
 dsimp only at hi hal ⊢
 refine zS ?_
 refine w_cond rfl (fun hlt => ?_) (fun hlt => ?_)
 ·have hi' : i < a.length := by simpa using hlt
  refine zS ?_
  (refine ⟨(i + 1, a'.set i (-7)), fun _ _ st => st_sub2 st ?_ ?_, ?_, ?_⟩; exact zR; exact zP)
  ·exact ⟨hi', by rw [List.length_set]; exact hal⟩
  ·dsimp only; omega
 ·refine zS ?_
  refine W_loopJ (fun (q : Nat × List Int) => ⟨[(1, .val p), (17, .val (.int .i64 b.length)), (18, .val (.int .i64 q.1))], [.box p [.val (.int .i64 id), .val (.int .i64 hs), .val s1, .val s2] 24, .row s1 3 1 iC a', .row s2 3 1 iC q.2]⟩) (fun q => q.1 ≤ b.length ∧ q.2.length = b.length) (fun q => b.length - q.1) (0, b) (fun _ _ st => st_sub2 st zR zP) ⟨Nat.zero_le _, rfl⟩ ?_
  rintro ⟨j, b'⟩ ⟨hj, hbl⟩
  dsimp only at hj hbl ⊢
  refine zS ?_
  refine w_cond rfl (fun hlt2 => ?_) (fun hlt2 => ?_)
  ·have hj' : j < b.length := by simpa using hlt2
   refine zS ?_
   (refine ⟨(j + 1, b'.set j (-7)), fun _ _ st => st_sub2 st ?_ ?_, ?_, ?_⟩; exact zR; exact zP)
   ·exact ⟨hj', by rw [List.length_set]; exact hbl⟩
   ·dsimp only; omega
  ·refine zS ?_
   (apply resK0; exact rfl; exact ⟨rfl, a', b', rfl⟩; exact yC)
abbrev TO : Type := Tl × OV × OV
def toC (q : TO) : List AV := [.val (.int .i64 q.1.id), .val (.int .i64 q.1.hs), .val q.2.1.1, .val q.2.2.1]
instance {q : TO} : OneL (toC q) := inferInstanceAs (OneL [_, _, _, _])
instance : OneF toC := ⟨fun _ => inferInstance⟩
instance : LenF toC 4 := ⟨fun _ => rfl⟩
def toR (q : TO) : List HA := [.row q.2.1.1 3 1 iC q.1.st, .row q.2.2.1 3 1 iC q.1.fo]
end Go.Proofs.YthddoikmgpgakaaDoor.Sw
