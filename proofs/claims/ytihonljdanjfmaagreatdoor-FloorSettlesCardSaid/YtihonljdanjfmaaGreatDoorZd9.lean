/- Proofs for the seat's cards: FloorLq, FloorLr, FloorLs, FloorPc, SwP, FloorLists, FloorCj, FloorPe, FloorPa, FloorPb, FloorPd, FloorPf, AlA, SwQ, FloorBa, AlB, FloorPg, AlC, OCom, OQa, FloorSure, OHa. No condition of its own. -/
import Derived.Test.YtihonljdanjfmaaGreatDoorZd8
set_option linter.unusedVariables false
set_option linter.unusedSimpArgs false
set_option maxRecDepth 40000
set_option maxHeartbeats 32000000
namespace Go.Proofs.YtihonljdanjfmaaGreatDoor.Sw
open Go.RowKit Go Go.Shelf Go.Proofs
open Go.Proofs.YtihonljdanjfmaaGreatDoor.Gr (Ok Ord Forest Zr lf headsR hf Lab payLt payLt_iff payLt_no payLt_anti SortedP sorted_uniq amt payE treeR treeR_iff pick Side)
theorem ids_inj {ids : List Int} (h : rises 0 ids = true) {i j : Nat} (hi : i < ids.length) (hj : j < ids.length) (e : ids.getD i 0 = ids.getD j 0) : i = j := by
 rw [List.getD_eq_getElem?_getD, List.getD_eq_getElem?_getD, List.getElem?_eq_getElem hi, List.getElem?_eq_getElem hj] at e
 simp only [Option.getD_some] at e
 rcases Nat.lt_trichotomy i j with k | k | k
 ·have := rises_sorted h i j hi hj k; omega
 ·exact k
 ·have := rises_sorted h j i hj hi k; omega
theorem payE_ends (ids : List Int) (x : Nat → Int) (L : List (Nat × Nat)) (e : Nat × Nat) : ((payE ids x L e).a = ids.getD e.1 0 ∧ (payE ids x L e).b = ids.getD e.2 0) ∨ ((payE ids x L e).a = ids.getD e.2 0 ∧ (payE ids x L e).b = ids.getD e.1 0) := by
 unfold payE
 split
 ·exact .inr ⟨rfl, rfl⟩
 ·exact .inl ⟨rfl, rfl⟩
theorem payE_inj {f : Flo} (hr : rises 0 f.ids = true) {x : Nat → Int} {L M : List (Nat × Nat)} {e e' : Nat × Nat} (h : PrS f e) (h' : PrS f e') (k : payE f.ids x L e = payE f.ids x M e') : e = e' := by
 have a1 := payE_ends f.ids x L e
 have a2 := payE_ends f.ids x M e'
 rw [k] at a1
 obtain ⟨h1, h2, _⟩ := h
 obtain ⟨h3, h4, _⟩ := h'
 have inj := fun i j hi hj => ids_inj hr (i := i) (j := j) hi hj
 rcases a1 with ⟨b1, b2⟩ | ⟨b1, b2⟩ <;> rcases a2 with ⟨c1, c2⟩ | ⟨c1, c2⟩
 ·exact Prod.ext (inj _ _ (by omega) (by omega) (b1.symm.trans c1)) (inj _ _ (by omega) (by omega) (b2.symm.trans c2))
 ·have := inj _ _ (by omega) (by omega) (b1.symm.trans c1)
  have := inj _ _ (by omega) (by omega) (b2.symm.trans c2)
  omega
 ·have := inj _ _ (by omega) (by omega) (b1.symm.trans c1)
  have := inj _ _ (by omega) (by omega) (b2.symm.trans c2)
  omega
 ·exact Prod.ext (inj _ _ (by omega) (by omega) (b2.symm.trans c2)) (inj _ _ (by omega) (by omega) (b1.symm.trans c1))
theorem SetL.sub {f : Flo} {cu : List Int} (hr : rises 0 f.ids = true) {k k' : Nat} {L M : List (Nat × Nat)} {out : List Pay} (h : SetL f.ids cu (PrS f) k L out) (h' : SetL f.ids cu (PrS f) k' M out) {e : Nat × Nat} (he : e ∈ L) : e ∈ M := by
 have h1 : payE f.ids (lf cu) L e ∈ out := h.pe.mem_iff.2 (List.mem_map.2 ⟨e, he, rfl⟩)
 obtain ⟨e', he', h2⟩ := List.mem_map.1 (h'.pe.mem_iff.1 h1)
 rw [← payE_inj hr (h'.mem e' he') (h.mem e he) h2]; exact he'
theorem leafG_nodup (f : Flo) (cu : List Int) (l : List (Nat × Nat)) : (leafG f cu l).Nodup := by
 unfold leafG
 split
 ·cases lstR f.ids l cu <;> simp
 ·simp
theorem chG_nodup {f : Flo} {cu : List Int} {many : Nat} (hr : rises 0 f.ids = true) : ∀ {t l : List (Nat × Nat)}, (l ++ t).Nodup → (∀ p ∈ l ++ t, PrS f p) → Forest l → l.length ≤ many → (chG f cu many t l).Nodup
 | [], l, hn, hl, hf, hle => by
  rw [chG]
  split
  ·exact leafG_nodup _ _ _
  ·simp
 | p :: t, l, hn, hl, hf, hle => by
  by_cases hm : l.length = many
  ·rw [chG_yes hm]; exact leafG_nodup _ _ _
  ·rw [chG_cons hm]
   have e1 : l ++ p :: t = (l ++ [p]) ++ t := by simp
   have hn1 : ((l ++ [p]) ++ t).Nodup := by rw [← e1]; exact hn
   have hl1 : ∀ q ∈ (l ++ [p]) ++ t, PrS f q := by rw [← e1]; exact hl
   have hn2 : (l ++ t).Nodup := hn.sublist ((List.sublist_cons_self p t).append_left l)
   have hl2 : ∀ q ∈ l ++ t, PrS f q := fun q hq => hl q (by simp at hq ⊢; rcases hq with h | h <;> simp [h])
   have bd : ∀ {l : List (Nat × Nat)}, (∀ q ∈ l, PrS f q) → ∀ q ∈ l, q.1 < f.ids.length ∧ q.2 < f.ids.length := fun h q hq => ⟨Nat.lt_trans (h q hq).1 (h q hq).2.1, (h q hq).2.1⟩
   have hnp : (l ++ [p]).Nodup := (List.nodup_append.1 hn1).1
   have hp := bd hl p (by simp)
   have hap : Forest (l ++ [p]) ↔ apB f.ids.length l p = true := by
    rw [Gr.forest_snoc hnp, ← Gr.lab_apart (Gr.lab_all (fun q hq => bd hl q (by simp [hq]))) hp.1 hp.2]
    unfold apB
    simp [hf]
   have ih2 := chG_nodup hr (cu := cu) hn2 hl2 hf hle
   split
   ·rename_i ha
    have hlp : (l ++ [p]).length ≤ many := by rw [List.length_append, List.length_singleton]; omega
    refine List.nodup_append.2 ⟨chG_nodup hr hn1 hl1 (hap.2 ha) hlp, ih2, fun a hA b hB e => ?_⟩
    subst e
    obtain ⟨s, h1, h2, h3, h4, h5⟩ := (chG_mem hn1 (bd hl1) (hap.2 ha) hlp).1 hA
    obtain ⟨s', k1, k2, k3, k4, k5⟩ := (chG_mem hn2 (bd hl2) hf hle).1 hB
    obtain ⟨h6, h7, h8⟩ := lstR_iff.1 h5
    obtain ⟨k6, k7, k8⟩ := lstR_iff.1 k5
    have S1 : SetL f.ids cu (PrS f) many ((l ++ [p]) ++ s) a := ⟨hn1.sublist (h1.append_left _), fun e he => hl1 e ((h1.append_left _).subset he), h2, h3, h4, h6, h7, h8⟩
    have S2 : SetL f.ids cu (PrS f) many (l ++ s') a := ⟨hn2.sublist (k1.append_left _), fun e he => hl2 e ((k1.append_left _).subset he), k2, k3, k4, k6, k7, k8⟩
    have hpm : p ∈ l ++ s' := S1.sub hr S2 (by simp)
    have hpt : p ∈ l ++ t := (k1.append_left _).subset hpm
    have hn3 : (p :: (l ++ t)).Nodup := (List.perm_middle.nodup_iff).1 hn
    exact (List.nodup_cons.1 hn3).1 hpt
   ·simpa using ih2
theorem lstsR_nodup {f : Flo} (hr : rises 0 f.ids = true) (k : Nat) : (lstsR f (owed8 f) k).Nodup :=
 chG_nodup hr (by simpa using prP_nodup _ _) (fun p hp => prP_mem.1 (by simpa using hp)) forest_nil (Nat.zero_le _)
theorem pick_inj {α : Type} : ∀ {l : List α} {s s' : Nat}, l.Nodup → s < 2 ^ l.length → s' < 2 ^ l.length → (∀ e, e ∈ pick l s ↔ e ∈ pick l s') → s = s'
 | [], s, s', _, h, h', _ => by simp at h h'; omega
 | p :: l, s, s', hn, h, h', hm => by
  obtain ⟨n1, n2⟩ := List.nodup_cons.1 hn
  rw [List.length_cons, Nat.pow_succ] at h h'
  have no : ∀ s, p ∉ pick l s := fun s hp => n1 ((Gr.pick_sub l s).subset hp)
  unfold pick at hm
  have hpar : s % 2 = s' % 2 := by
   have := hm p
   by_cases a : s % 2 = 1 <;> by_cases b : s' % 2 = 1
   ·omega
   ·rw [if_pos a, if_neg b] at this; exact absurd (this.1 (by simp)) (no _)
   ·rw [if_neg a, if_pos b] at this; exact absurd (this.2 (by simp)) (no _)
   ·omega
  have ih : s / 2 = s' / 2 := pick_inj n2 (by omega) (by omega) fun e => by
   have he := hm e
   by_cases a : s % 2 = 1
   ·have b : s' % 2 = 1 := by omega
    rw [if_pos a, if_pos b] at he
    by_cases hep : e = p
    ·subst hep; exact ⟨fun h => absurd h (no _), fun h => absurd h (no _)⟩
    ·simpa [hep] using he
   ·have b : ¬ s' % 2 = 1 := by omega
    rw [if_neg a, if_neg b] at he; exact he
  omega
theorem allR_nodup {f : Flo} (hr : rises 0 f.ids = true) (k : Nat) : (allR f k).Nodup := by
 have hok := prR_ok (spk f) f.ids.length
 unfold allR allTo
 have h0 : (List.range (2 ^ (prR (spk f) f.ids.length f.ids.length).length)).Pairwise (fun a b => ∀ x ∈ (if (pick (prR (spk f) f.ids.length f.ids.length) a).length = k then treeR f.ids (pick (prR (spk f) f.ids.length f.ids.length) a) (owed8 f) else none), ∀ y ∈ (if (pick (prR (spk f) f.ids.length f.ids.length) b).length = k then treeR f.ids (pick (prR (spk f) f.ids.length f.ids.length) b) (owed8 f) else none), x ≠ y) := by
  refine List.Pairwise.imp_of_mem ?_ (List.nodup_range (n := 2 ^ (prR (spk f) f.ids.length f.ids.length).length))
  intro a b ha hb hne x hx y hy e
  subst e
  have toS : ∀ {s}, x ∈ (if (pick (prR (spk f) f.ids.length f.ids.length) s).length = k then treeR f.ids (pick (prR (spk f) f.ids.length f.ids.length) s) (owed8 f) else none) → SetL f.ids (owed8 f) (PrS f) k (pick (prR (spk f) f.ids.length f.ids.length) s) x := fun {s} h => by
   split at h
   ·rename_i hk
    have hsub := Gr.pick_sub (prR (spk f) f.ids.length f.ids.length) s
    have hoS := hok.sub hsub
    obtain ⟨h1, h2, h3, h4, h5⟩ := (treeR_iff hoS (owed8_len f)).1 h
    exact ⟨hoS.nd, fun e he => by have := (prR_mem (Nat.le_refl _)).1 (hsub.subset he); exact ⟨this.2.1, this.2.2.1, this.2.2.2⟩, hk, h1, h2, h3, h4, h5⟩
   ·cases h
  exact hne (pick_inj hok.nd (List.mem_range.1 ha) (List.mem_range.1 hb) fun e => ⟨fun he => (toS hx).sub hr (toS hy) he, fun he => (toS hy).sub hr (toS hx) he⟩)
 exact List.pairwise_filterMap.2 h0
theorem lists_perm {f : Flo} (hr : rises 0 f.ids = true) (k : Nat) : (lstsR f (owed8 f) k).Perm (allR f k) :=
 (List.perm_ext_iff_of_nodup (lstsR_nodup hr k) (allR_nodup hr k)).2 fun out => lstsR_mem.trans allR_mem.symm
theorem SetL.small {f : Flo} {k : Nat} {L : List (Nat × Nat)} {out : List Pay} (h : SetL f.ids (owed8 f) (PrS f) k L out) : k < max 1 f.ids.length := by
 have hok : Ok f.ids.length L := ⟨h.nd, fun p hp => by have := h.mem p hp; exact ⟨Nat.lt_trans this.1 this.2.1, this.2.1, Nat.ne_of_lt this.1⟩⟩
 have hm : Gr.Min f.ids.length L (lf (owed8 f)) := fun e he hz => by
  obtain ⟨Q, hQ⟩ := Gr.side_of h.fo he (.inr ⟨rfl, rfl⟩ : Gr.Ends e e.2 e.1)
  exact h.nz e he (by rw [Gr.amt_side h.nd h.zr hQ]; exact hz Q hQ.cl)
 have := Gr.Min.small hok h.zr hm
 rw [h.len] at this
 omega
theorem fewTo_ext {α : Type} {g : Nat → List α} {m : Nat} (h : ∀ k, m ≤ k → g k = []) : ∀ j, fewTo g (m + j) = fewTo g m
 | 0 => rfl
 | j + 1 => by
  have ih := fewTo_ext h j
  rw [← Nat.add_assoc, fewTo]
  split
  ·rename_i he
   rw [h _ (by omega), ← ih]
   rcases hq : fewTo g (m + j) with _ | ⟨x, t⟩
   ·rfl
   ·rw [hq] at he; cases he
  ·exact ih
theorem fewTo_perm {α : Type} {g g' : Nat → List α} (h : ∀ k, (g k).Perm (g' k)) : ∀ m, (fewTo g m).Perm (fewTo g' m)
 | 0 => .refl _
 | m + 1 => by
  have ih := fewTo_perm h m
  rw [fewTo, fewTo]
  have e : (fewTo g m).isEmpty = (fewTo g' m).isEmpty := by
   have hl := ih.length_eq
   generalize fewTo g m = A at hl
   generalize fewTo g' m = B at hl
   cases A <;> cases B <;> first | rfl | (simp at hl)
  rw [e]
  split
  ·exact h m
  ·exact ih
theorem few_perm {f : Flo} (hF : FloF f) (hr : rises 0 f.ids = true) : (lsF f).Perm (fewTo (allR f) 6) := by
 have hn := hF.ids
 have hz : ∀ k, max 1 f.ids.length ≤ k → allR f k = [] := fun k hk => by
  rcases hq : allR f k with _ | ⟨x, t⟩
  ·rfl
  ·have : x ∈ allR f k := by rw [hq]; simp
   obtain ⟨L, hL⟩ := allR_mem.1 this
   have := hL.small
   omega
 have e := fewTo_ext hz (6 - max 1 f.ids.length)
 rw [show max 1 f.ids.length + (6 - max 1 f.ids.length) = 6 by omega] at e
 rw [e]
 exact fewTo_perm (fun k => lists_perm hr k) _
end Go.Proofs.YtihonljdanjfmaaGreatDoor.Sw
namespace Go.Proofs.YtihonljdanjfmaaGreatDoor.Sw
open Go.RowKit Go Go.Shelf Go.Proofs
open Go.Proofs.YtihonljdanjfmaaGreatDoor.Gr (payLt payLt_iff payLt_no payLt_anti SortedP sorted_uniq payE lf)
theorem fewTo_one {α : Type} {g : Nat → List α} : ∀ m, fewTo g m = [] ∨ ∃ k, k < m ∧ fewTo g m = g k
 | 0 => .inl rfl
 | m + 1 => by
  rw [fewTo]
  split
  ·exact .inr ⟨m, by omega, rfl⟩
  ·rcases fewTo_one (g := g) m with h | ⟨k, h1, h2⟩
   ·exact .inl h
   ·exact .inr ⟨k, by omega, h2⟩
structure Told (f : Flo) (k : Nat) (l : List Pay) : Prop where
 len : l.length = k
 so : SortedP l
 nd : l.Nodup
 ok : ∀ x ∈ l, OkP x ∧ 1 ≤ x.p
theorem told {f : Flo} (hF : FloF f) (hS : Sml f) (hr : rises 0 f.ids = true) {k : Nat} {l : List Pay} (h : l ∈ allR f k) : Told f k l := by
 obtain ⟨L, hL⟩ := allR_mem.1 h
 have hp := allTo_pays (prR_ok (spk f) f.ids.length) (owed8_len f) (by omega) (owed8_btw hF hS) h
 have hn := hF.ids
 refine ⟨hp.1, hL.so, (hL.pe.nodup_iff).2 ?_, fun x hx => ?_⟩
 ·rw [List.Nodup, List.pairwise_map]
  exact hL.nd.imp_of_mem fun {a b} ha hb hne e => hne (payE_inj hr (hL.mem a ha) (hL.mem b hb) e)
 ·have h2 := hp.2 x hx
  have h3 : (f.ids.length : Int) * 200000000 ≤ 6 * 200000000 := Int.mul_le_mul_of_nonneg_right (by omega) (by omega)
  obtain ⟨e, he, rfl⟩ := List.mem_map.1 (hL.pe.mem_iff.1 hx)
  have hb : ∀ i, i < f.ids.length → 1 ≤ f.ids.getD i 0 ∧ f.ids.getD i 0 ≤ 9999 := fun i hi => by
   rw [List.getD_eq_getElem?_getD, List.getElem?_eq_getElem hi]
   have := rises_all hr _ (List.getElem_mem hi)
   simp only [Option.getD_some]; omega
  have hm := hL.mem e he
  have b1 := hb e.1 (Nat.lt_trans hm.1 hm.2.1)
  have b2 := hb e.2 hm.2.1
  rcases payE_ends f.ids (lf (owed8 f)) L e with ⟨c1, c2⟩ | ⟨c1, c2⟩
  ·exact ⟨⟨by rw [c1]; omega, by rw [c2]; omega, by omega⟩, h2.1⟩
  ·exact ⟨⟨by rw [c1]; omega, by rw [c2]; omega, by omega⟩, h2.1⟩
theorem Told.payB {f : Flo} {k : Nat} {l : List Pay} (h : Told f k l) (hk : k ≤ 1000) : PayB l := ⟨by rw [h.len]; exact hk, fun x hx => (h.ok x hx).1.p⟩
theorem askR_err {f : Flo} (h : floOk f = true) : errL f = (askR f).2.2 := by
 have hp := few_perm (flo_f h) (rises_of_ok h)
 unfold errL askR
 rw [if_pos h, if_pos h]
 have e : (fewP f (owed8 f)).isEmpty = (fewTo (allR f) 6).isEmpty := by
  have hl := hp.length_eq
  unfold lsF at hl
  generalize fewP f (owed8 f) = A at hl
  generalize fewTo (allR f) 6 = B at hl
  cases A <;> cases B <;> first | rfl | (simp at hl)
 rw [e]
 split <;> rfl
theorem askR_no {f : Flo} (h : floOk f = false) : errL f = 80 ∧ askR f = ([], 0, 80) := by
 unfold errL askR
 rw [h]
 exact ⟨rfl, rfl⟩
theorem askR_ls {f : Flo} (h : floOk f = true) (he : errL f = 0) : (askR f).1 = fewTo (allR f) 6 ∧ (askR f).2.1 = chTo (allR f) 6 := by
 rw [askR_err h] at he
 unfold askR at he ⊢
 rw [if_pos h] at he ⊢
 split
 ·rename_i h2
  rw [if_pos h2] at he
  exact absurd he (by decide)
 ·exact ⟨rfl, rfl⟩
structure Both (f : Flo) (k : Nat) (A B : List (List Pay)) : Prop where
 pe : A.Perm B
 to : ∀ l ∈ B, Told f k l
 neA : A ≠ []
 neB : B ≠ []
theorem both {f : Flo} (hS : Sml f) (h : floOk f = true) (he : errL f = 0) : ∃ k, k < 6 ∧ Both f k (lsF f) (askR f).1 := by
 have hF := flo_f h
 have hr := rises_of_ok h
 rw [(askR_ls h he).1]
 have hp := few_perm hF hr
 have hA := lsF_ne he
 have hB : fewTo (allR f) 6 ≠ [] := fun e => hA (by rw [e] at hp; exact List.perm_nil.1 hp)
 rcases fewTo_one (g := allR f) 6 with e | ⟨k, hk, e⟩
 ·exact absurd e hB
 ·exact ⟨k, hk, hp, fun l hl => told hF hS hr (by rw [← e]; exact hl), hA, hB⟩
theorem Both.toA {f : Flo} {k : Nat} {A B : List (List Pay)} (h : Both f k A B) : ∀ l ∈ A, Told f k l := fun l hl => h.to l (h.pe.mem_iff.1 hl)
theorem head_mem {α : Type} {l : List (List α)} (h : l ≠ []) : l.headD [] ∈ l := by
 obtain ⟨x, t, rfl⟩ := List.exists_cons_of_ne_nil h
 simp
theorem few_eq {f : Flo} (hS : Sml f) : fewN f = fewN8 f := by
 unfold fewN fewN8
 cases h : floOk f with
 | false => rw [(askR_no h).1, (askR_no h).2]; rfl
 | true =>
  rw [← askR_err h]
  split
  ·rename_i he
   obtain ⟨k, _, hb⟩ := both hS h he
   rw [(hb.toA _ (head_mem hb.neA)).len, (hb.to _ (head_mem hb.neB)).len]
  ·rfl
theorem cnt_eq {f : Flo} (hS : Sml f) : cntN f = cntN8 f := by
 unfold cntN cntN8
 cases h : floOk f with
 | false => rw [(askR_no h).1, (askR_no h).2]; rfl
 | true =>
  rw [← askR_err h]
  split
  ·rename_i he
   obtain ⟨k, _, hb⟩ := both hS h he
   rw [hb.pe.length_eq, he]
  ·rename_i he
   have he2 : (askR f).1 = [] := by
    rw [askR_err h] at he
    unfold askR at he ⊢
    rw [if_pos h] at he ⊢
    split
    ·rfl
    ·rename_i h2; rw [if_neg h2] at he; exact absurd rfl he
   rw [he2]; rfl
theorem sumPay_nn : ∀ {l : List Pay}, (∀ x ∈ l, 1 ≤ x.p) → 0 ≤ sumPay l
 | [], _ => by simp [sumPay]
 | x :: t, h => by
  have h1 := h x (by simp)
  have h2 := sumPay_nn (l := t) fun y hy => h y (by simp [hy])
  rw [sumPay_cons]; omega
structure Lst (p : Int → Prop) (m : Int) : Prop where
 is : p m
 le : ∀ x, p x → m ≤ x
theorem Lst.uniq {p : Int → Prop} {m m' : Int} (h : Lst p m) (h' : Lst p m') : m = m' := by
 have := h.le _ h'.is
 have := h'.le _ h.is
 omega
theorem bstJ_some : ∀ (xs : List Int) (b : Int), ∃ m, xs.foldl bstJ (some b) = some m ∧ Lst (fun x => x = b ∨ x ∈ xs) m
 | [], b => ⟨b, rfl, .inl rfl, fun x h => by rcases h with rfl | h; exact Int.le_refl _; cases h⟩
 | x :: t, b => by
  have e : bstJ (some b) x = some (if x < b then x else b) := by
   unfold bstJ cmpR
   dsimp only
   by_cases h : x < b
   ·simp [h]
   ·by_cases h2 : b < x <;> simp [h, h2]
  rw [List.foldl_cons, e]
  obtain ⟨m, h1, h2⟩ := bstJ_some t (if x < b then x else b)
  refine ⟨m, h1, ?_, fun y hy => ?_⟩
  ·rcases h2.is with h | h
   ·split at h
    ·exact .inr (by simp [h])
    ·exact .inl h
   ·exact .inr (by simp [h])
  ·have hb := h2.le _ (.inl rfl)
   rcases hy with rfl | hy
   ·split at hb <;> omega
   ·rcases List.mem_cons.1 hy with rfl | hy
    ·split at hb <;> omega
    ·exact h2.le _ (.inr hy)
theorem bstJ_lst {xs : List Int} (h : xs ≠ []) : Lst (fun x => x ∈ xs) ((xs.foldl bstJ none).getD 0) := by
 obtain ⟨x, t, rfl⟩ := List.exists_cons_of_ne_nil h
 obtain ⟨m, h1, h2⟩ := bstJ_some t x
 rw [List.foldl_cons, show bstJ none x = some x from rfl, h1]
 exact ⟨by rcases h2.is with h | h <;> simp [h], fun y hy => h2.le y (List.mem_cons.1 hy)⟩
theorem sumsTo_mem {f : Flo} {cu : List Int} {s : Int} : ∀ {m : Nat}, s ∈ sumsTo f cu m ↔ ∃ k, k < m ∧ ∃ l ∈ lstsR f cu k, sumPay l = s
 | 0 => by simp [sumsTo]
 | m + 1 => by
  rw [sumsTo, List.mem_append, sumsTo_mem, List.mem_map]
  constructor
  ·rintro (⟨k, h1, h2⟩ | h)
   ·exact ⟨k, by omega, h2⟩
   ·exact ⟨m, by omega, h⟩
  ·rintro ⟨k, h1, h2⟩
   by_cases hk : k = m
   ·subst hk; exact .inr h2
   ·exact .inl ⟨k, by omega, h2⟩
theorem chS_fold : ∀ (l : List (List Pay)) (c : Int), (∀ x ∈ l, 0 ≤ sumPay x) → (c < 0 ∧ l = [] ∧ l.foldl chS c = c) ∨ Lst (fun s => (0 ≤ c ∧ s = c) ∨ ∃ x ∈ l, sumPay x = s) (l.foldl chS c)
 | [], c, _ => by
  by_cases h : c < 0
  ·exact .inl ⟨h, rfl, rfl⟩
  ·exact .inr ⟨.inl ⟨by omega, rfl⟩, fun s hs => by rcases hs with ⟨_, rfl⟩ | ⟨x, hx, _⟩; exact Int.le_refl _; cases hx⟩
 | x :: t, c, h => by
  have hx := h x (by simp)
  rw [List.foldl_cons]
  have e : chS c x = if c < 0 ∨ sumPay x < c then sumPay x else c := rfl
  have h0 : 0 ≤ chS c x := by rw [e]; split <;> omega
  rcases chS_fold t (chS c x) fun y hy => h y (by simp [hy]) with ⟨h1, _⟩ | h1
  ·omega
  ·refine .inr ⟨?_, fun s hs => ?_⟩
   ·rcases h1.is with ⟨_, h2⟩ | ⟨y, hy, h2⟩
    ·rw [h2, e]
     split
     ·exact .inr ⟨x, by simp, rfl⟩
     ·exact .inl ⟨by omega, rfl⟩
    ·exact .inr ⟨y, by simp [hy], h2⟩
   ·have hb := h1.le _ (.inl ⟨h0, rfl⟩)
    rcases hs with ⟨h2, rfl⟩ | ⟨y, hy, rfl⟩
    ·generalize t.foldl chS (chS s x) = M at hb ⊢
     rw [e] at hb; split at hb <;> omega
    ·rcases List.mem_cons.1 hy with rfl | hy
     ·generalize t.foldl chS (chS c y) = M at hb ⊢
      rw [e] at hb; split at hb <;> omega
     ·exact h1.le _ (.inr ⟨y, hy, rfl⟩)
theorem chTo_lst {g : Nat → List (List Pay)} (h : ∀ k, ∀ x ∈ g k, 0 ≤ sumPay x) : ∀ m, (chTo g m = -1 ∧ ∀ k, k < m → g k = []) ∨ Lst (fun s => ∃ k, k < m ∧ ∃ x ∈ g k, sumPay x = s) (chTo g m)
 | 0 => .inl ⟨rfl, fun k hk => by omega⟩
 | m + 1 => by
  rw [chTo]
  have hx := chS_fold (g m) (chTo g m) (h m)
  rcases chTo_lst h m with ⟨h1, h2⟩ | h1
  ·rcases hx with ⟨_, h4, h5⟩ | h3
   ·refine .inl ⟨by rw [h5, h1], fun k hk => ?_⟩
    by_cases e : k = m
    ·subst e; exact h4
    ·exact h2 k (by omega)
   ·refine .inr ⟨?_, fun s hs => ?_⟩
    ·rcases h3.is with ⟨h4, _⟩ | ⟨x, hx, e⟩
     ·omega
     ·exact ⟨m, by omega, x, hx, e⟩
    ·obtain ⟨k, hk, x, hx, e⟩ := hs
     by_cases ek : k = m
     ·subst ek; exact h3.le _ (.inr ⟨x, hx, e⟩)
     ·rw [h2 k (by omega)] at hx; cases hx
  ·have h0 : 0 ≤ chTo g m := by
    obtain ⟨k, _, x, hx, e⟩ := h1.is
    rw [← e]; exact h k x hx
   rcases hx with ⟨h4, _⟩ | h3
   ·omega
   ·refine .inr ⟨?_, fun s hs => ?_⟩
    ·rcases h3.is with ⟨_, e⟩ | ⟨x, hx, e⟩
     ·rw [e]
      obtain ⟨k, hk, r⟩ := h1.is
      exact ⟨k, by omega, r⟩
     ·exact ⟨m, by omega, x, hx, e⟩
    ·obtain ⟨k, hk, x, hx, e⟩ := hs
     by_cases ek : k = m
     ·subst ek; exact h3.le _ (.inr ⟨x, hx, e⟩)
     ·exact Int.le_trans (h3.le _ (.inl ⟨h0, rfl⟩)) (h1.le _ ⟨k, by omega, x, hx, e⟩)
theorem chp_eq {f : Flo} (hS : Sml f) : chpN f = chpN8 f := by
 unfold chpN chpN8
 cases h : floOk f with
 | false => rw [(askR_no h).1, (askR_no h).2]; rfl
 | true =>
  rw [← askR_err h]
  split
  ·rename_i he
   have hF := flo_f h
   have hr := rises_of_ok h
   have hn := hF.ids
   rw [(askR_ls h he).2]
   have hnn : ∀ k, ∀ x ∈ allR f k, 0 ≤ sumPay x := fun k x hx => sumPay_nn fun y hy => ((told hF hS hr hx).ok y hy).2
   have hB : fewTo (allR f) 6 ≠ [] := by
    obtain ⟨k, _, hb⟩ := both hS h he
    rw [← (askR_ls h he).1]; exact hb.neB
   rcases chTo_lst hnn 6 with ⟨_, h2⟩ | h1
   ·exact absurd (fewTo_nil.2 h2) hB
   ·have hiff : ∀ s, s ∈ sumsTo f (owed8 f) (max 1 f.ids.length) ↔ ∃ k, k < 6 ∧ ∃ x ∈ allR f k, sumPay x = s := fun s => by
     rw [sumsTo_mem]
     constructor
     ·rintro ⟨k, hk, l, hl, e⟩
      exact ⟨k, by omega, l, (lists_perm hr k).mem_iff.1 hl, e⟩
     ·rintro ⟨k, hk, l, hl, e⟩
      obtain ⟨L, hL⟩ := allR_mem.1 hl
      exact ⟨k, hL.small, l, (lists_perm hr k).mem_iff.2 hl, e⟩
    have hne : sumsTo f (owed8 f) (max 1 f.ids.length) ≠ [] := fun e => by
     have := (hiff _).2 h1.is
     rw [e] at this; cases this
    have h2 := bstJ_lst hne
    have h3 : Lst (fun s => ∃ k, k < 6 ∧ ∃ x ∈ allR f k, sumPay x = s) (((sumsTo f (owed8 f) (max 1 f.ids.length)).foldl bstJ none).getD 0) := ⟨(hiff _).1 h2.is, fun x hx => h2.le x ((hiff _).2 hx)⟩
    rw [h3.uniq h1]
  ·rfl
theorem pyCmp_zero {x y : Pay} : pyCmp x y = 0 ↔ x = y := by
 constructor
 ·intro h
  have h1 : payLt x y = false := by rw [← pyCmp_lt, h]; rfl
  refine payLt_anti h1 ?_
  rw [payLt_no] at h1 ⊢
  unfold pyCmp firstNZ firstNZ firstNZ firstNZ cmpR at h
  repeat (split at h)
  all_goals omega
 ·rintro rfl
  unfold pyCmp firstNZ firstNZ firstNZ firstNZ cmpR
  simp
theorem cmpL_lt : ∀ {a b : List Pay}, a.length = b.length → (cmpL a b < 0 ↔ ltL a b = true)
 | [], [], _ => by simp [cmpL_0, ltL_1]
 | [], _ :: _, h => by cases h
 | _ :: _, [], h => by cases h
 | x :: s, y :: t, h => by
  rw [cmpL_2, ltL_2]
  by_cases e : x = y
  ·rw [if_neg (by rw [pyCmp_zero.2 e]; simp), if_neg (by simp [e])]
   exact cmpL_lt (by simpa using h)
  ·rw [if_pos (fun h => e (pyCmp_zero.1 h)), if_pos e, ← pyCmp_lt, decide_eq_true_iff]
theorem befI_lt {a b : List Pay} (h : a.length = b.length) : befI a b < 0 ↔ befR a b = true := by
 unfold befI befR
 rw [firstNZ, firstNZ, firstNZ]
 by_cases e : sumPay a = sumPay b
 ·have c0 : cmpR (sumPay a) (sumPay b) = 0 := by unfold cmpR; simp [e]
  have hR : (if sumPay a ≠ sumPay b then decide (sumPay a < sumPay b) else ltL a b) = ltL a b := if_neg (by simp [e])
  rw [if_pos c0, hR, ← cmpL_lt h]
  split <;> omega
 ·rw [if_pos e]
  by_cases l : sumPay a < sumPay b
  ·have c1 : cmpR (sumPay a) (sumPay b) = -1 := by unfold cmpR; simp [l]
   rw [c1]; simp [l]
  ·have c1 : cmpR (sumPay a) (sumPay b) = 1 := by unfold cmpR; rw [if_neg l, if_pos (by omega)]
   rw [c1]; simp [l]
theorem payLt_tri {x y : Pay} (h : x ≠ y) : payLt x y = true ∨ payLt y x = true := by
 cases h1 : payLt x y with
 | true => exact .inl rfl
 | false =>
  cases h2 : payLt y x with
  | true => exact .inr rfl
  | false => exact absurd (payLt_anti h1 h2) h
theorem payLt_nt {x y z : Pay} (h : payLt x z = true) : payLt x y = true ∨ payLt y z = true := by
 rw [payLt_iff] at h
 rw [payLt_iff, payLt_iff]
 omega
theorem payLt_asym {x y : Pay} (h : payLt x y = true) : payLt y x = false := by
 rw [payLt_iff] at h
 rw [payLt_no]; omega
theorem ltL_asym : ∀ {a b : List Pay}, ltL a b = true → ltL b a = false
 | [], [], _ => rfl
 | [], _ :: _, _ => rfl
 | _ :: _, [], _ => rfl
 | x :: s, y :: t, h => by
  rw [ltL_2] at h ⊢
  by_cases e : x = y
  ·rw [if_neg (by simp [e])] at h
   rw [if_neg (by simp [e])]
   exact ltL_asym h
  ·rw [if_pos e] at h
   rw [if_pos (Ne.symm e)]
   exact payLt_asym h
theorem ltL_nt : ∀ {a b c : List Pay}, a.length = b.length → b.length = c.length → ltL a c = true → ltL a b = true ∨ ltL b c = true
 | [], _, _, _, _, h => by rw [ltL_1] at h; cases h
 | x :: s, [], _, e, _, _ => by cases e
 | x :: s, y :: t, [], _, e, _ => by cases e
 | x :: s, y :: t, z :: u, e1, e2, h => by
  rw [ltL_2] at h
  rw [ltL_2, ltL_2]
  by_cases hxz : x = z
  ·rw [if_neg (by simp [hxz])] at h
   by_cases hxy : x = y
   ·have hyz : y = z := hxy.symm.trans hxz
    rw [if_neg (by simp [hxy]), if_neg (by simp [hyz])]
    exact ltL_nt (by simpa using e1) (by simpa using e2) h
   ·have hyz : y ≠ z := fun e => hxy (hxz.trans e.symm)
    rw [if_pos hxy, if_pos hyz]
    rw [← hxz]
    exact payLt_tri hxy
  ·rw [if_pos hxz] at h
   by_cases hxy : x = y
   ·have hyz : y ≠ z := fun e => hxz (hxy.trans e)
    rw [if_pos hyz]
    exact .inr (by rw [← hxy]; exact h)
   ·rw [if_pos hxy]
    by_cases hyz : y = z
    ·exact .inl (by rw [hyz]; exact h)
    ·rw [if_pos hyz]; exact payLt_nt h
theorem ltL_eq : ∀ {a b : List Pay}, a.length = b.length → ltL a b = false → ltL b a = false → a = b
 | [], [], _, _, _ => rfl
 | [], _ :: _, e, _, _ => by cases e
 | _ :: _, [], e, _, _ => by cases e
 | x :: s, y :: t, e, h, h' => by
  rw [ltL_2] at h h'
  by_cases hxy : x = y
  ·rw [if_neg (by simp [hxy])] at h
   rw [if_neg (by simp [hxy])] at h'
   rw [hxy, ltL_eq (by simpa using e) h h']
  ·rw [if_pos hxy] at h
   rw [if_pos (Ne.symm hxy)] at h'
   exact absurd (payLt_anti h h') hxy
theorem befR_asym {a b : List Pay} (h : befR a b = true) : befR b a = false := by
 unfold befR at h ⊢
 by_cases e : sumPay a = sumPay b
 ·rw [if_neg (by simp [e])] at h
  rw [if_neg (by simp [e])]
  exact ltL_asym h
 ·rw [if_pos e] at h
  rw [if_pos (Ne.symm e)]
  have := of_decide_eq_true h
  exact decide_eq_false (by omega)
theorem befR_nt {a b c : List Pay} (e1 : a.length = b.length) (e2 : b.length = c.length) (h : befR a c = true) : befR a b = true ∨ befR b c = true := by
 unfold befR at h ⊢
 by_cases e : sumPay a = sumPay c
 ·rw [if_neg (by simp [e])] at h
  by_cases e3 : sumPay a = sumPay b
  ·rw [if_neg (by simp [e3]), if_neg (by simp [← e3, e])]
   exact ltL_nt e1 e2 h
  ·rw [if_pos e3, if_pos (fun k => e3 (e.trans k.symm)), decide_eq_true_iff, decide_eq_true_iff]
   omega
 ·rw [if_pos e] at h
  have h1 := of_decide_eq_true h
  by_cases e3 : sumPay a = sumPay b
  ·exact .inr (by rw [if_pos (by omega)]; exact decide_eq_true (by omega))
  ·by_cases e4 : sumPay b = sumPay c
   ·exact .inl (by rw [if_pos e3]; exact decide_eq_true (by omega))
   ·rw [if_pos e3, if_pos e4, decide_eq_true_iff, decide_eq_true_iff]; omega
theorem befR_eq {a b : List Pay} (e : a.length = b.length) (h : befR a b = false) (h' : befR b a = false) : a = b := by
 unfold befR at h h'
 by_cases e3 : sumPay a = sumPay b
 ·rw [if_neg (by simp [e3])] at h
  rw [if_neg (by simp [e3])] at h'
  exact ltL_eq e h h'
 ·rw [if_pos e3] at h
  rw [if_pos (Ne.symm e3)] at h'
  have := of_decide_eq_false h
  have := of_decide_eq_false h'
  omega
structure Bst (p : List Pay → Prop) (y : List Pay) : Prop where
 is : p y
 le : ∀ x, p x → befR x y = false
theorem Bst.uniq {k : Nat} {p : List Pay → Prop} (hp : ∀ x, p x → x.length = k) {y y' : List Pay} (h : Bst p y) (h' : Bst p y') : y = y' :=
 befR_eq ((hp _ h.is).trans (hp _ h'.is).symm) (h'.le _ h.is) (h.le _ h'.is)
theorem befR_irr (a : List Pay) : befR a a = false := by
 cases h : befR a a with
 | false => rfl
 | true => have := befR_asym h; rw [h] at this; cases this
theorem bst_fold {k : Nat} : ∀ (xs : List (List Pay)) (b : List Pay), (∀ x ∈ xs, x.length = k) → b.length = k → Bst (fun x => x = b ∨ x ∈ xs) (xs.foldl (fun b x => if befR x b = true then x else b) b)
 | [], b, _, _ => ⟨.inl rfl, fun x h => by rcases h with rfl | h; exact befR_irr _; cases h⟩
 | x :: t, b, hx, hb => by
  have hxk := hx x (by simp)
  have ht : ∀ x ∈ t, x.length = k := fun y hy => hx y (by simp [hy])
  rw [List.foldl_cons]
  have ih := bst_fold t (if befR x b = true then x else b) ht (by split <;> assumption)
  have hm : ∀ y, (y = (if befR x b = true then x else b) ∨ y ∈ t) → y.length = k := fun y hy => by
   rcases hy with rfl | hy
   ·split <;> assumption
   ·exact ht y hy
  have hyk := hm _ ih.is
  generalize t.foldl (fun b x => if befR x b = true then x else b) (if befR x b = true then x else b) = y at ih hyk ⊢
  have hle := ih.le _ (.inl rfl)
  refine ⟨?_, fun z hz => ?_⟩
  ·rcases ih.is with h | h
   ·split at h
    ·exact .inr (by simp [h])
    ·exact .inl h
   ·exact .inr (by simp [h])
  ·have key : befR b y = false ∧ befR x y = false := by
    split at hle
    ·rename_i hg
     refine ⟨?_, hle⟩
     cases hq : befR b y with
     | false => rfl
     | true =>
      rcases befR_nt (b := x) (hb.trans hxk.symm) (hxk.trans hyk.symm) hq with h | h
      ·rw [befR_asym hg] at h; cases h
      ·rw [hle] at h; cases h
    ·rename_i hg
     refine ⟨hle, ?_⟩
     cases hq : befR x y with
     | false => rfl
     | true =>
      rcases befR_nt (b := b) (hxk.trans hb.symm) (hb.trans hyk.symm) hq with h | h
      ·exact absurd h hg
      ·rw [hle] at h; cases h
   rcases hz with rfl | hz
   ·exact key.1
   ·rcases List.mem_cons.1 hz with rfl | hz
    ·exact key.2
    ·exact ih.le _ (.inr hz)
theorem bstS_fold {k : Nat} : ∀ (xs : List (List Pay)) (b : List Pay), (∀ x ∈ xs, x.length = k) → b.length = k → xs.foldl bstS (some b) = some (xs.foldl (fun b x => if befR x b = true then x else b) b)
 | [], _, _, _ => rfl
 | x :: t, b, hx, hb => by
  have hxk := hx x (by simp)
  rw [List.foldl_cons, List.foldl_cons]
  have e : bstS (some b) x = some (if befR x b = true then x else b) := by
   unfold bstS
   dsimp only
   by_cases h : befR x b = true
   ·rw [if_pos h, if_pos ((befI_lt (hxk.trans hb.symm)).2 h)]
   ·rw [if_neg h, if_neg (fun k => h ((befI_lt (hxk.trans hb.symm)).1 k))]
  rw [e]
  exact bstS_fold t _ (fun y hy => hx y (by simp [hy])) (by split <;> assumption)
theorem stl_eq {f : Flo} (hS : Sml f) : stlN f = stlN8 f := by
 unfold stlN stlN8
 cases h : floOk f with
 | false => rw [(askR_no h).1, (askR_no h).2]; rfl
 | true =>
  rw [← askR_err h]
  split
  ·rename_i he
   obtain ⟨k, _, hb⟩ := both hS h he
   generalize lsF f = A at hb ⊢
   generalize (askR f).1 = B at hb ⊢
   have lA : ∀ x ∈ A, x.length = k := fun x hx => (hb.toA x hx).len
   have lB : ∀ x ∈ B, x.length = k := fun x hx => (hb.to x hx).len
   obtain ⟨x, t, rfl⟩ := List.exists_cons_of_ne_nil hb.neA
   have b1 := bst_fold t x (fun y hy => lA y (by simp [hy])) (lA x (by simp))
   have b2 := bst_fold B (B.headD []) lB (lB _ (head_mem hb.neB))
   rw [List.foldl_cons, show bstS none x = some x from rfl, bstS_fold t x (fun y hy => lA y (by simp [hy])) (lA x (by simp)), Option.getD_some]
   have c1 : Bst (fun z => z ∈ B) (t.foldl (fun b x => if befR x b = true then x else b) x) := ⟨hb.pe.mem_iff.1 (by rcases b1.is with h | h <;> simp [h]), fun z hz => b1.le z (List.mem_cons.1 (hb.pe.mem_iff.2 hz))⟩
   have c2 : Bst (fun z => z ∈ B) (B.foldl (fun b x => if befR x b = true then x else b) (B.headD [])) := ⟨by rcases b2.is with h | h; (rw [h]; exact head_mem hb.neB); exact h, fun z hz => b2.le z (.inr hz)⟩
   unfold bst8
   rw [c1.uniq lB c2]
  ·rfl
theorem count_all {x : Pay} : ∀ {A : List (List Pay)}, (∀ l ∈ A, l.Nodup) → A.flatten.count x ≤ A.length ∧ (A.flatten.count x = A.length ↔ ∀ l ∈ A, x ∈ l)
 | [], _ => by simp
 | l :: A, h => by
  have ih := count_all (x := x) (A := A) fun l hl => h l (by simp [hl])
  have hn := h l (by simp)
  rw [List.flatten_cons, List.count_append, List.length_cons]
  have hc : l.count x = if x ∈ l then 1 else 0 := by
   split
   ·rename_i hx
    have h1 := List.count_pos_iff.2 hx
    have h2 := List.nodup_iff_count.1 hn x
    omega
   ·rename_i hx; exact List.count_eq_zero.2 hx
  rw [hc]
  refine ⟨by split <;> omega, ?_⟩
  by_cases hx : x ∈ l
  ·rw [if_pos hx]
   constructor
   ·intro e k hk
    rcases List.mem_cons.1 hk with rfl | hk
    ·exact hx
    ·exact ih.2.1 (by omega) k hk
   ·intro e
    have := ih.2.2 fun k hk => e k (by simp [hk])
    omega
  ·rw [if_neg hx]
   constructor
   ·intro e; omega
   ·intro e; exact absurd (e l (by simp)) hx
theorem hasP_iff {l : List Pay} {x : Pay} : hasP l x = true ↔ x ∈ l := by
 unfold hasP
 rw [List.any_eq_true]
 constructor
 ·rintro ⟨y, hy, e⟩; rw [of_decide_eq_true e]; exact hy
 ·intro h; exact ⟨x, h, decide_eq_true rfl⟩
theorem sur_eq {f : Flo} (hS : Sml f) : surN f = surN8 f := by
 unfold surN surN8
 cases h : floOk f with
 | false => rw [(askR_no h).1, (askR_no h).2]; rfl
 | true =>
  rw [← askR_err h]
  split
  ·rename_i he
   obtain ⟨k, _, hb⟩ := both hS h he
   generalize lsF f = A at hb ⊢
   generalize (askR f).1 = B at hb ⊢
   have hA := hb.toA _ (head_mem hb.neA)
   have hB := hb.to _ (head_mem hb.neB)
   have mA : ∀ x, x ∈ surP A ↔ ∀ l ∈ B, x ∈ l := fun x => by
    unfold surP
    have hc := count_all (x := x) fun l hl => (hb.toA l hl).nd
    rw [List.mem_filter, Bool.not_eq_true', decide_eq_false_iff_not]
    constructor
    ·rintro ⟨_, h2⟩ l hl
     exact hc.2.1 (by have := hc.1; omega) l (hb.pe.mem_iff.2 hl)
    ·intro h1
     have h2 : ∀ l ∈ A, x ∈ l := fun l hl => h1 l (hb.pe.mem_iff.1 hl)
     have := hc.2.2 h2
     exact ⟨h2 _ (head_mem hb.neA), by omega⟩
   have mB : ∀ x, x ∈ sur8 B ↔ ∀ l ∈ B, x ∈ l := fun x => by
    unfold sur8
    rw [List.mem_filter, List.all_eq_true]
    constructor
    ·rintro ⟨_, h2⟩ l hl; exact hasP_iff.1 (h2 l hl)
    ·intro h1; exact ⟨h1 _ (head_mem hb.neB), fun l hl => hasP_iff.2 (h1 l hl)⟩
   have e : surP A = sur8 B := sorted_uniq (List.Pairwise.filter _ hA.so) (List.Pairwise.filter _ hB.so) ((List.perm_ext_iff_of_nodup (hA.nd.filter _) (hB.nd.filter _)).2 fun x => (mA x).trans (mB x).symm)
   rw [e]
  ·rfl
end Go.Proofs.YtihonljdanjfmaaGreatDoor.Sw
namespace Go.Proofs.YtihonljdanjfmaaGreatDoor.Sw
open Go.RowKit Go Go.Shelf Go.Proofs
open Go.Proofs.YtihonljdanjfmaaGreatDoor.Gr (headsR hf mergeH hf_merge Lab lab_all Cl)
structure Hd (n : Nat) (h : List Nat) : Prop where
 len : h.length = n
 le : ∀ v, v < n → hf h v ≤ v
 rt : ∀ v, v < n → hf h (hf h v) = hf h v
theorem merge_le : ∀ (L : List (Nat × Nat)) (h : List Nat), (∀ v, v < h.length → hf h v ≤ v) → (L.foldl mergeH h).length = h.length ∧ ∀ v, v < h.length → hf (L.foldl mergeH h) v ≤ v
 | [], h, k => ⟨rfl, k⟩
 | p :: L, h, k => by
  have hl : (mergeH h p).length = h.length := by simp [mergeH]
  have := merge_le L (mergeH h p) fun v hv => by
   rw [hl] at hv
   rw [hf_merge hv]
   have := k v hv
   split
   ·omega
   ·exact this
  rw [hl] at this
  exact this
theorem hd_heads {n : Nat} {L : List (Nat × Nat)} (h : ∀ p ∈ L, p.1 < n ∧ p.2 < n) : Hd n (headsR n L) := by
 have hm := merge_le L (List.range n) fun v hv => by
  rw [List.length_range] at hv
  simp [hf, List.getD_eq_getElem?_getD, hv]
 have hL := lab_all h
 refine ⟨by rw [headsR, hm.1, List.length_range], fun v hv => hm.2 v (by simpa using hv), fun v hv => ?_⟩
 have := hL.cl (fun u => decide (hf (headsR n L) u = hf (headsR n L) v)) (fun p hp => by dsimp only; rw [hL.one p hp]) v hv
 simpa using this
def rtsG (h : List Nat) (i : Nat) : List Nat := (List.range i).filter fun j => decide (hf h j = j)
def grpG (h : List Nat) (ids : List Int) (i k : Nat) : List Int := ((List.range i).filter fun j => decide (hf h j = k)).map fun j => ids.getD j 0
def allG (h : List Nat) (ids : List Int) (i : Nat) : List (List Int) := (rtsG h i).map (grpG h ids i)
theorem rtsG_succ (h : List Nat) (i : Nat) : rtsG h (i + 1) = rtsG h i ++ if hf h i = i then [i] else [] := by
 unfold rtsG
 rw [List.range_succ, List.filter_append, List.filter_cons]
 by_cases e : hf h i = i <;> simp [e]
theorem grpG_succ (h : List Nat) (ids : List Int) (i k : Nat) : grpG h ids (i + 1) k = grpG h ids i k ++ if hf h i = k then [ids.getD i 0] else [] := by
 unfold grpG
 rw [List.range_succ, List.filter_append, List.filter_cons, List.map_append]
 by_cases e : hf h i = k <;> simp [e]
theorem mem_rtsG {h : List Nat} {i k : Nat} : k ∈ rtsG h i ↔ k < i ∧ hf h k = k := by simp [rtsG]
theorem rtsG_nd (h : List Nat) (i : Nat) : (rtsG h i).Nodup := List.nodup_range.filter _
theorem rtsG_len (h : List Nat) (i : Nat) : (rtsG h i).length ≤ i := by
 have := List.length_filter_le (fun j => decide (hf h j = j)) (List.range i)
 rwa [List.length_range] at this
theorem grpG_len (h : List Nat) (ids : List Int) (i k : Nat) : (grpG h ids i k).length ≤ i := by
 unfold grpG
 rw [List.length_map]
 have := List.length_filter_le (fun j => decide (hf h j = k)) (List.range i)
 rwa [List.length_range] at this
theorem grpG_new {n : Nat} {h : List Nat} (H : Hd n h) (ids : List Int) {i k : Nat} (hi : i ≤ n) (hk : i ≤ k) : grpG h ids i k = [] := by
 unfold grpG
 rw [List.filter_eq_nil_iff.2, List.map_nil]
 intro j hj
 have hj' := List.mem_range.1 hj
 have := H.le j (by omega)
 simp; omega
def baseG (h : List Nat) (ids : List Int) (i : Nat) : List (List Int) := allG h ids i ++ if hf h i = i then [[]] else []
theorem baseG_eq {n : Nat} {h : List Nat} (H : Hd n h) (ids : List Int) {i : Nat} (hi : i < n) : baseG h ids i = (rtsG h (i + 1)).map (grpG h ids i) := by
 unfold baseG allG
 rw [rtsG_succ, List.map_append]
 split
 ·rename_i e
  rw [List.map_singleton, grpG_new H ids (by omega) (Nat.le_refl _)]
 ·rfl
theorem map_setAt {α β : Type} [DecidableEq α] {f : α → β} {y : β} : ∀ {l : List α} {k : α}, l.Nodup → k ∈ l → (l.map f).set (l.idxOf k) y = l.map fun r => if r = k then y else f r
 | [], _, _, h => by cases h
 | x :: t, k, hn, h => by
  by_cases e : x = k
  ·subst e
   rw [List.idxOf_cons_self, List.map_cons, List.set_cons_zero, List.map_cons, if_pos rfl]
   refine congrArg (y :: ·) (List.map_congr_left fun r hr => ?_)
   rw [if_neg fun (e2 : r = x) => (List.nodup_cons.1 hn).1 (e2 ▸ hr)]
  ·have hm : k ∈ t := by
    rcases List.mem_cons.1 h with h | h
    ·exact absurd h.symm e
    ·exact h
   rw [List.idxOf_cons, show (x == k) = false from by simp [e], cond_false, List.map_cons, List.set_cons_succ, List.map_cons, if_neg e, map_setAt (List.nodup_cons.1 hn).2 hm]
theorem getAt {α β : Type} [DecidableEq α] {f : α → β} {l : List α} {k : α} (h : k ∈ l) : (l.map f)[l.idxOf k]? = some (f k) := by
 have h1 := List.idxOf_lt_length_of_mem h
 rw [List.getElem?_map, List.getElem?_eq_getElem h1, List.getElem_idxOf]; rfl
theorem headG_mem {n : Nat} {h : List Nat} (H : Hd n h) {i : Nat} (hi : i < n) : hf h i ∈ rtsG h (i + 1) := mem_rtsG.2 ⟨Nat.lt_succ_of_le (H.le i hi), H.rt i hi⟩
theorem allG_step {n : Nat} {h : List Nat} (H : Hd n h) (ids : List Int) {i : Nat} (hi : i < n) :
  allG h ids (i + 1) = (baseG h ids i).set ((rtsG h (i + 1)).idxOf (hf h i)) (grpG h ids i (hf h i) ++ [ids.getD i 0]) := by
 rw [baseG_eq H ids hi, map_setAt (rtsG_nd _ _) (headG_mem H hi)]
 refine List.map_congr_left fun r _ => ?_
 rw [grpG_succ]
 by_cases e : r = hf h i
 ·subst e; rw [if_pos rfl, if_pos rfl]
 ·rw [if_neg e, if_neg fun e' => e e'.symm, List.append_nil]
theorem baseG_get {n : Nat} {h : List Nat} (H : Hd n h) (ids : List Int) {i : Nat} (hi : i < n) : (baseG h ids i)[(rtsG h (i + 1)).idxOf (hf h i)]? = some (grpG h ids i (hf h i)) := by
 rw [baseG_eq H ids hi]; exact getAt (headG_mem H hi)
def cnt (b : List Bool) : Nat := (b.filter id).length
theorem cnt_le (b : List Bool) : cnt b ≤ b.length := List.length_filter_le _ _
end Go.Proofs.YtihonljdanjfmaaGreatDoor.Sw
namespace Go.Proofs.YtihonljdanjfmaaGreatDoor.Sw
open Go.RowKit Go
abbrev OV : Type := { v : Value // v.oneCell' = true }
def vlC (v : OV) : List AV := [.val v.1]
instance {v : OV} : One (.val v.1) := ⟨fun _ u h => by have h' : u = v.1 := h; rw [h']; exact v.2⟩
instance {v : OV} : OneL (vlC v) := inferInstanceAs (OneL [_])
instance : OneF vlC := ⟨fun _ => inferInstance⟩
instance : LenF vlC 1 := ⟨fun _ => rfl⟩
def nilOV : OV := ⟨.slice none 0 0, rfl⟩
def rowsZ {α : Type} (e : TypeId) (n : Nat) (f : α → List AV) : List OV → List (List α) → List HA
 | v :: vs, g :: gs => .row v.1 e n f g :: rowsZ e n f vs gs
 | _, _ => []
theorem rowsZ_perm {α : Type} {e : TypeId} {n : Nat} {f : α → List AV} : ∀ (vs : List OV) (gs : List (List α)) (k : Nat) (h : k < vs.length) (h2 : k < gs.length), (rowsZ e n f vs gs).Perm (.row vs[k].1 e n f gs[k] :: rowsZ e n f (vs.eraseIdx k) (gs.eraseIdx k))
 | v :: vs, g :: gs, 0, _, _ => by simp [rowsZ]
 | v :: vs, g :: gs, k + 1, h, h2 => by
  simp only [rowsZ, List.eraseIdx_cons_succ, List.getElem_cons_succ]
  exact ((rowsZ_perm vs gs k (by simpa using h) (by simpa using h2)).cons _).trans (List.Perm.swap _ _ _)
theorem rowsZ_put {α : Type} {e : TypeId} {n : Nat} {f : α → List AV} (vs : List OV) (gs : List (List α)) (k : Nat) (h : k < vs.length) (h2 : k < gs.length) (v : OV) (g : List α) : (rowsZ e n f (vs.set k v) (gs.set k g)).Perm (.row v.1 e n f g :: rowsZ e n f (vs.eraseIdx k) (gs.eraseIdx k)) := by
 have hp := rowsZ_perm (e := e) (n := n) (f := f) (vs.set k v) (gs.set k g) k (by simpa using h) (by simpa using h2)
 rwa [List.getElem_set_self, List.getElem_set_self, List.eraseIdx_set_eq, List.eraseIdx_set_eq] at hp
theorem rowsZ_snoc {α : Type} {e : TypeId} {n : Nat} {f : α → List AV} {v : OV} {g : List α} : ∀ {vs : List OV} {gs : List (List α)}, vs.length = gs.length → (rowsZ e n f (vs ++ [v]) (gs ++ [g])).Perm (.row v.1 e n f g :: rowsZ e n f vs gs)
 | [], [], _ => by simp [rowsZ]
 | u :: vs, x :: gs, h => by
  simp only [List.cons_append, rowsZ]
  exact ((rowsZ_snoc (by simpa using h)).cons _).trans (List.Perm.swap _ _ _)
 | [], _ :: _, h => by simp at h
 | _ :: _, [], h => by simp at h
def slC {α : Type} (n : Nat) (f : α → List AV) (g : List α) : List AV := [.sl n f g]
theorem rowsZ_frz {α : Type} {e : TypeId} {n : Nat} {f : α → List AV} {rest : List HA} {w : World} : ∀ {vs : List OV} {gs : List (List α)} {G : Nat → Option Obj} {F : List Nat}, vs.length = gs.length → Inv G F (rowsZ e n f vs gs ++ rest) w →
  ∃ G' F', Inv G' F' rest w ∧ Fr w w F F' G G' ∧ Fits G' (gs.flatMap (slC n f)) (vs.map (·.1))
 | [], [], G, F, _, h => ⟨G, F, h, Fr.refl _ _ _, trivial⟩
 | v :: vs, g :: gs, G, F, hl, h => by
  obtain ⟨G1, F1, h1, h2, h3⟩ := row_freeze (rest := rowsZ e n f vs gs ++ rest) h
  obtain ⟨G2, F2, k1, k2, k3⟩ := rowsZ_frz (by simpa using hl) h1
  exact ⟨G2, F2, k1, h2.trans k2, (AV.sl n f g).mono k2.gle h3, k3⟩
 | [], _ :: _, _, _, h, _ => by simp at h
 | _ :: _, [], _, _, h, _ => by simp at h
theorem fits_vl {G : Nat → Option Obj} : ∀ {vs : List OV} {us : List Value}, Fits G (vs.flatMap vlC) us → us = vs.map (·.1)
 | [], [], _ => rfl
 | v :: vs, u :: us, h => by
  have h1 : u = v.1 := h.1
  rw [h1, fits_vl h.2]; rfl
 | [], _ :: _, h => h.elim
 | _ :: _, [], h => h.elim
theorem st_frzRows {α : Type} {c : Cx} {rs : List (Nat × AV)} {hs r r' : List HA} {e e' : TypeId} {n : Nat} {f : α → List AV} {vs : List OV} {gs : List (List α)} {v : Value} {a : Act} {w : World} (hl : vs.length = gs.length) (hr : Rm hs (.pack (rowsZ e n f vs gs)) r) (hr2 : Rm r (.row v e' 1 vlC vs) r')
  (st : St c ⟨rs, hs⟩ a w) : St c ⟨rs, .row v e' 1 (slC n f) gs :: r'⟩ a w := by
 obtain ⟨G, F, hI, hF, hR, rr⟩ := st
 obtain ⟨G', F', h1, h2, h3⟩ := rowsZ_frz hl ⟨hI.gin, hI.nd, hI.own, hsP.pack.1 (hr.sel hI.hs)⟩
 obtain ⟨A, B, ep, ⟨us, e1, e2, e3, e4, e5⟩, hB⟩ := hr2.sel h1.hs
 have := fits_vl e3
 subst this
 refine ⟨G', F', ⟨h1.gin, h1.nd, h1.own, A, B, ep, ⟨_, e1, fun _ _ => rfl, h3, e4, ?_⟩, hB⟩, hF.trans h2, hR.mono h2.gle, rr.1, rr.2.step h2⟩
 rw [← hl]; exact e5
theorem W_frzRows {α : Type} {c : Cx} {rs : List (Nat × AV)} {hs r r' : List HA} {Q : Exit → S → Prop} {x : Code} {e e' : TypeId} {n : Nat} {f : α → List AV} {vs : List OV} {gs : List (List α)} {v : Value} (hl : vs.length = gs.length) (hr : Rm hs (.pack (rowsZ e n f vs gs)) r) (hr2 : Rm r (.row v e' 1 vlC vs) r')
  (k : W c x ⟨rs, .row v e' 1 (slC n f) gs :: r'⟩ Q) : W c x ⟨rs, hs⟩ Q := ⟨fun a w st => k.out a w (st_frzRows hl hr hr2 st)⟩
theorem W_meetE {β : Type} {c : Cx} {s : S} {x y : Code} {Q Q' : Exit → S → Prop} (I : β → S) (J : β → Prop) (h : W c x s (fun e s' => e = .normal ∧ ∃ b, (∀ a w, St c s' a w → St c (I b) a w) ∧ J b)) (k : ∀ b, J b → W c y (I b) Q') : W c x s (thenQ (fun s' => W c y s' Q') Q) :=
 W_mono h fun e s' ⟨he, b, hs, hJ⟩ => by subst he; exact W_weak (I b) hs (k b hJ)
theorem st_imp {c : Cx} {rs : List (Nat × AV)} {hs : List HA} {h h' : HA} {g : HA → List HA} {a : Act} {w : World} (hat : At hs h g) (k : ∀ G F w, h.P G F w → h'.P G F w) (st : St c ⟨rs, hs⟩ a w) : St c ⟨rs, g h'⟩ a w := by
 obtain ⟨G, F, hI, rr⟩ := st
 obtain ⟨rest, hsel⟩ := hat.sel
 obtain ⟨F1, F2, ep, h1, h2⟩ := (hsel _ _ _ _).1 (by rw [hat.self]; exact hI.hs)
 exact ⟨G, F, ⟨hI.gin, hI.nd, hI.own, (hsel _ _ _ _).2 ⟨F1, F2, ep, k _ _ _ h1, h2⟩⟩, rr⟩
theorem W_imp {c : Cx} {rs : List (Nat × AV)} {hs : List HA} {h h' : HA} {g : HA → List HA} {Q : Exit → S → Prop} {x : Code} (hat : At hs h g) (k : ∀ G F w, h.P G F w → h'.P G F w) (kk : W c x ⟨rs, g h'⟩ Q) : W c x ⟨rs, hs⟩ Q := ⟨fun a w st => kk.out a w (st_imp hat k st)⟩
theorem W_rows0 {α : Type} {c : Cx} {rs : List (Nat × AV)} {hs : List HA} {Q : Exit → S → Prop} {x : Code} (e : TypeId) (n : Nat) (f : α → List AV) (kk : W c x ⟨rs, .pack (rowsZ e n f [] []) :: hs⟩ Q) : W c x ⟨rs, hs⟩ Q := ⟨fun a w st => kk.out a w (by
 obtain ⟨G, F, hI, rr⟩ := st
 exact ⟨G, F, ⟨hI.gin, hI.nd, hI.own, [], F, .refl _, rfl, hI.hs⟩, rr⟩)⟩
end Go.Proofs.YtihonljdanjfmaaGreatDoor.Sw
namespace Go.Proofs.YtihonljdanjfmaaGreatDoor.Sw
open Go.RowKit Go Go.Shelf Go.Proofs
theorem lsF_told {f : Flo} (hS : Sml f) (he : errL f = 0) : ∃ k, k ≤ 5 ∧ ∀ l ∈ lsF f, Told f k l := by
 obtain ⟨k, hk, hb⟩ := both hS (errL_ok he) he
 exact ⟨k, by omega, hb.toA⟩
theorem stlN_len {f : Flo} (hS : Sml f) : (stlN f).1.length ≤ 1000 := by
 unfold stlN
 split
 ·rename_i he
  obtain ⟨k, hk, hb⟩ := lsF_told hS he
  cases hq : (lsF f).foldl bstS none with
  | none => simp
  | some y =>
   rcases bstS_mem hq with h | h
   ·rw [Option.getD_some, (hb y h).len]; omega
   ·cases h
 ·simp
theorem nil_sl {α : Type} {G : Nat → Option Obj} {v : Value} (n : Nat) (f : α → List AV) (h : (AV.val (.slice none 0 0)).P G v) : (AV.sl n f ([] : List α)).P G v :=
 ⟨none, 0, h, Nat.le_refl _, fun i hi => (by cases hi)⟩
end Go.Proofs.YtihonljdanjfmaaGreatDoor.Sw
namespace Go.Proofs.YtihonljdanjfmaaGreatDoor.Sw
open Go.RowKit Go Go.Shelf Go.Proofs
open Go.Proofs.YtihonljdanjfmaaGreatDoor.Gr (headsR hf Lab lab_all)
instance {α : Type} {n : Nat} {f : α → List AV} {g : List α} : OneL (slC n f g) := inferInstanceAs (OneL [_])
instance {α : Type} {n : Nat} {f : α → List AV} : OneF (slC n f) := ⟨fun _ => inferInstance⟩
instance {α : Type} {n : Nat} {f : α → List AV} : LenF (slC n f) 1 := ⟨fun _ => rfl⟩
def prsG (f : Flo) (l : List Pay) : List (Nat × Nat) := l.map fun x => (f.ids.idxOf x.a, f.ids.idxOf x.b)
def grG (f : Flo) (l : List Pay) : List (List Int) := allG (headsR f.ids.length (prsG f l)) f.ids f.ids.length
theorem prsG_lt {f : Flo} {l : List Pay} (h : ∀ x ∈ l, x.a ∈ f.ids ∧ x.b ∈ f.ids) : ∀ p ∈ prsG f l, p.1 < f.ids.length ∧ p.2 < f.ids.length := fun p hp => by
 obtain ⟨x, hx, rfl⟩ := List.mem_map.1 hp
 exact ⟨List.idxOf_lt_length_of_mem (h x hx).1, List.idxOf_lt_length_of_mem (h x hx).2⟩
end Go.Proofs.YtihonljdanjfmaaGreatDoor.Sw
namespace Go.Proofs.YtihonljdanjfmaaGreatDoor.Sw
open Go.RowKit Go Go.Shelf Go.Proofs
open Go.Proofs.YtihonljdanjfmaaGreatDoor.Gr (treeR pick Zr lf)
def ownF (l : List Int) (f : Flo) : Flo := ⟨l, f.qs, [], []⟩
def netS (f : Flo) (l : List Int) : List Int := l.map fun id => (owed8 f).getD (f.ids.idxOf id) 0
def aloR (f : Flo) (l : List Int) : Bool × Int := if floOk f = true then (if (rises 0 l && !l.any fun n => !decide (n ∈ f.ids)) = true then (canB (ownF l f) (netS f l), 0) else (false, 6)) else (false, 80)
theorem netS_btw {f : Flo} {l : List Int} {lo hi : Int} (hol : (owed8 f).length = f.ids.length) (hb : Btw lo hi (owed8 f)) (hm : ∀ x ∈ l, x ∈ f.ids) : Btw lo hi (netS f l) := by
 intro x hx
 obtain ⟨id, hid, rfl⟩ := List.mem_map.1 hx
 have h1 : f.ids.idxOf id < (owed8 f).length := by rw [hol]; exact List.idxOf_lt_length_of_mem (hm id hid)
 rw [List.getD_eq_getElem?_getD, List.getElem?_eq_getElem h1]
 exact hb _ (List.getElem_mem h1)
end Go.Proofs.YtihonljdanjfmaaGreatDoor.Sw
namespace Go.Proofs.YtihonljdanjfmaaGreatDoor.Sw
open Go.RowKit Go Go.Shelf Go.Proofs
theorem hsB_own (p v : Value) (l : List Int) (f : Flo) (G : Nat → Option Obj) (F : List Nat) (w : World) (h : (HA.box p [.sl 1 iC l, .sl 2 quC f.qs, .val (.slice none 0 0), .val (.slice none 0 0), .val v] 104).P G F w) : (hsB p (ownF l f) v).P G F w := by
 obtain ⟨b, vs, e1, e2, e3, e4⟩ := h
 refine ⟨b, vs, e1, e2, ?_, e4⟩
 match vs, e3 with
 | [a, b, c, d, e], ⟨h1, h2, h3, h4, h5, _⟩ => exact ⟨h1, h2, nil_sl _ _ h3, nil_sl _ _ h4, h5, trivial⟩
theorem Alone_con (f : Flo) (l : List Int) (hS : Sml f) (hl : l.length ≤ 10) : Con Tryz.prog 27 [.agg (flC f), .sl 1 iC l] [tab8] (Is (.tup [.val (.bool (aloR f l).1), .val (.int .i64 (aloR f l).2)]) [tab8]) := by
 unfold aloR
 cases hok : floOk f with
 | false =>
  have C := openedNo_con f hS hok
  rw [if_neg (by simp)]
  refine con_of Tryz.func27 rfl (enters_of Tryz.func27 (by kernel_rfl) rfl) rfl ?_; intro n w0 F0 G0
  refine zS ?_;repeat(refine yA ?_;intro p hp;refine zS ?_)
  (first | (apply wl_call (C); exact rfl; exact rfl) | (apply wl_callR (C); exact rfl; exact zM; exact rfl))
  refine zS ?_;repeat(refine yA ?_;intro p hp;refine zS ?_)
  (apply resK2; exact rfl; exact rfl; exact rfl; exact ⟨rfl, rfl⟩; exact yC)
 | true =>
  have C := opened_con f hS hok
  have hF := flo_f hok
  have hr := rises_of_ok hok
  have hidl := hF.ids
  have hqsl := hS.qs
  rw [if_pos rfl]
  refine con_of Tryz.func27 rfl (enters_of Tryz.func27 (by kernel_rfl) rfl) rfl ?_; intro n w0 F0 G0
  refine zS ?_;repeat(refine yA ?_;intro p hp;refine zS ?_)
  (apply wl_callP (C); exact rfl; exact yC; exact rfl)
  rintro _ _ ⟨ph, ow, rfl, rfl⟩
  refine zS ?_;repeat(refine yA ?_;intro p hp;refine zS ?_)
  (first | (apply wl_call (of_con l f.ids (by omega) (by omega)); exact rfl; exact rfl) | (apply wl_callR (of_con l f.ids (by omega) (by omega)); exact rfl; exact zM; exact rfl))
  refine zS ?_;repeat(refine yA ?_;intro p hp;refine zS ?_)
  cases hof : (rises 0 l && !l.any fun n => !decide (n ∈ f.ids)) with
  | false =>
   rw [if_neg (by simp)]
   refine zS ?_;repeat(refine yA ?_;intro p hp;refine zS ?_)
   (apply resK2; exact rfl; exact rfl; exact rfl; exact ⟨rfl, rfl⟩; exact yC)
  | true =>
   have hrl : rises 0 l = true := by
    cases h : rises 0 l with
    | true => rfl
    | false => rw [h] at hof; cases hof
   have hml : ∀ x ∈ l, x ∈ f.ids := fun x hx => by
    rw [hrl, Bool.true_and, Bool.not_eq_true'] at hof
    have := List.any_eq_false.1 hof x hx
    simpa using this
   rw [if_pos rfl]
   have hol := owed8_len f
   have hob := (owed8_btw hF hS).mono (lo' := -1000000000) (hi' := 1000000000) (by omega) (by omega)
   have hnb : Btw (-1000000000) 1000000000 (netS f l) := netS_btw hol hob hml
   have hnl : (netS f l).length = l.length := by simp [netS]
   unfold netS at hnb hnl ⊢
   generalize owed8 f = owed at hol hob hnb hnl ⊢
   refine zS ?_;repeat(refine yA ?_;intro p hp;refine zS ?_)
   refine W_imp zM (hsB_own p (.slice none 0 0) l f) ?_
   refine W_loopJ (fun (b : Nat × Value) => ⟨[(8, .val p), (6, .val ph), (30, .sl 1 iC l), (31, .val (.int .i64 l.length)), (32, .val (.int .i64 b.1))], [.row b.2 3 1 iC ((l.take b.1).map fun id => owed.getD (f.ids.idxOf id) 0), hsB p (ownF l f) b.2, hsB ph f ow, .row ow 3 1 iC owed, tab8]⟩) (fun b => b.1 ≤ l.length) (fun b => l.length - b.1) (0, .slice none 0 0) (fun _ _ st => st_sub2 (st_nil 3 1 iC st) zR zP) (Nat.zero_le _) ?_
   rintro ⟨k, v⟩ hk
   dsimp only at hk ⊢
   refine zS ?_;repeat(refine yA ?_;intro p hp;refine zS ?_)
   refine w_cond rfl (fun hlt => ?_) (fun hlt => ?_)
   ·have hlt' : k < l.length := by simpa using hlt
    have hx := hml _ (List.getElem_mem hlt')
    have hxi : f.ids.idxOf l[k] < owed.length := by rw [hol]; exact List.idxOf_lt_length_of_mem hx
    have hst : (l.take (k + 1)).map (fun id => owed.getD (f.ids.idxOf id) 0) = (l.take k).map (fun id => owed.getD (f.ids.idxOf id) 0) ++ [owed[f.ids.idxOf l[k]]] := by
     rw [List.take_succ_eq_append_getElem hlt', List.map_append, List.map_singleton, List.getD_eq_getElem?_getD, List.getElem?_eq_getElem hxi]; rfl
    have hq : owed[f.ids.idxOf l[k]]? = some owed[f.ids.idxOf l[k]] := List.getElem?_eq_getElem hxi
    have hq2 : l[k]? = some l[k] := List.getElem?_eq_getElem hlt'
    have htl : ((l.take k).map fun id => owed.getD (f.ids.idxOf id) 0).length ≤ 10 := by rw [List.length_map, List.length_take]; omega
    refine zS ?_;repeat(refine yA ?_;intro p hp;refine zS ?_)
    generalize ((l.take k).map fun id => owed.getD (f.ids.idxOf id) 0) = net at hst htl ⊢
    refine W_run 16 [36, 37, 38, 39, 40, 41, 42, 43, 44, 45, 46, 47, 48, 49, 50, 51] [0, 1, 2, 3, 4, 5, 6, 7, 8, 9, 10, 11, 12, 13, 14, 15] (Cut.cons (h := HA.row v 3 1 iC net) zN (Cut.nil)) rfl goFlt mixedS (by kernel_rfl) rfl ?_
    refine rpv [] [] ?_
    refine rpv [] [] ?_
    refine rpv [1] [] ?_
    refine rpv [2] [] ?_
    refine rpv [3] [] ?_
    refine rpv [] [] ?_
    refine rpv [5] [] ?_
    refine rpv [6] [] ?_
    refine rpv [7] [] ?_
    refine rpv [] [] ?_
    refine rpv [] [] ?_
    refine Run.pv [9, 10] [] rfl (fun vs => by apply ltr_pk; exact goPk; (apply ltr_callR ((indexAt_con ph ow f _ (by omega) hx)); exact rfl; exact zM)) goApp ?_
    refine rpv [8, 11] [] ?_
    refine rpv [12] [] ?_
    refine Run.pv [13] [] rfl (fun vs => by apply ltr_pk; exact goPk; (refine ltr ?_; apply LT_frz; apply lt_lit (f := iC); exact zE; exact rfl; (first | exact (of_decide_eq_true rfl) | decide | (simp; done) | (simp; omega)))) goApp ?_
    refine Run.tok [4, 14] [1000] rfl (fun vs => by apply ltr_pk; exact goPk; (refine ltr ?_; apply lt_append; exact rfl; exact rfl; (first | omega | (simp; omega)))) goApp ?_
    refine ⟨⟨by kernel_rfl, by kernel_rfl⟩, fun vs => ?_⟩
    apply WL_auto [0, 15]
    ·exact goPk
    ·exact goNrm
    ·kernel_rfl
    ·kernel_rfl
    generalize vs 15 = v2
    rw [← hst]
    refine WL_one At.here (fun hone => ?_)
    refine zS ?_;repeat(refine yA ?_;intro p hp;refine zS ?_)
    (refine ⟨(k + 1, v2), fun _ _ st => st_sub2 st ?_ ?_, ?_, ?_⟩; exact zR; exact zP)
    ·dsimp only; omega
    ·dsimp only; omega
   ·have hkk : k = l.length := by simp at hlt; omega
    subst hkk
    rw [List.take_length]
    have CC := can_con p v (ownF l f) (l.map fun id => owed.getD (f.ids.idxOf id) 0) (by show l.length ≤ 10; omega) (by show f.qs.length ≤ 1000; omega) hrl hnl hnb
    refine zS ?_;repeat(refine yA ?_;intro p hp;refine zS ?_)
    (apply wl_callP (CC); exact rfl; exact yC; exact rfl)
    rintro _ _ ⟨rfl, rfl⟩
    refine zS ?_;repeat(refine yA ?_;intro p hp;refine zS ?_)
    (apply resK2; exact rfl; exact rfl; exact rfl; exact ⟨rfl, rfl⟩; exact yC)
end Go.Proofs.YtihonljdanjfmaaGreatDoor.Sw
namespace Go.Proofs.YtihonljdanjfmaaGreatDoor.Sw
open Go.RowKit Go Go.Shelf Go.Proofs
open Go.Proofs.YtihonljdanjfmaaGreatDoor.Gr (headsR hf lf Lab lab_all)
theorem lsF_ids {f : Flo} (he : errL f = 0) : ∀ l ∈ lsF f, ∀ x ∈ l, x.a ∈ f.ids ∧ x.b ∈ f.ids := fun l hl x hx => by
 have hok := errL_ok he
 have hr := rises_of_ok hok
 have h1 := (few_perm (flo_f hok) hr).mem_iff.1 hl
 obtain ⟨k, _, h2⟩ := fewTo_mem h1
 obtain ⟨L, hL⟩ := allR_mem.1 h2
 obtain ⟨e, he2, rfl⟩ := List.mem_map.1 (hL.pe.mem_iff.1 hx)
 have hm := hL.mem e he2
 have hb : ∀ i, i < f.ids.length → f.ids.getD i 0 ∈ f.ids := fun i hi => by
  rw [List.getD_eq_getElem?_getD, List.getElem?_eq_getElem hi]; exact List.getElem_mem hi
 have b1 := hb e.1 (Nat.lt_trans hm.1 hm.2.1)
 have b2 := hb e.2 hm.2.1
 rcases payE_ends f.ids (lf (owed8 f)) L e with ⟨c1, c2⟩ | ⟨c1, c2⟩
 ·exact ⟨by rw [c1]; exact b1, by rw [c2]; exact b2⟩
 ·exact ⟨by rw [c1]; exact b2, by rw [c2]; exact b1⟩
theorem stlN_ids (f : Flo) : ∀ x ∈ (stlN f).1, x.a ∈ f.ids ∧ x.b ∈ f.ids := by
 unfold stlN
 split
 ·rename_i he
  cases hq : (lsF f).foldl bstS none with
  | none => simp
  | some y =>
   rcases bstS_mem hq with h | h
   ·exact lsF_ids he y h
   ·cases h
 ·simp
noncomputable def grpN (f : Flo) : List (List Int) × Int := if (stlN f).2 = 0 then (grG f (stlN f).1, 0) else ([], (stlN f).2)
def atG (h : List Nat) : Nat → List (Nat × Int)
 | 0 => []
 | i + 1 => if hf h i = i then putM (atG h i) i ((rtsG h i).length : Int) else atG h i
theorem atG_len (h : List Nat) : ∀ i, (atG h i).length ≤ i
 | 0 => Nat.le_refl _
 | i + 1 => by
  have ih := atG_len h i
  rw [atG]
  split
  ·have := putM_len (atG h i) i ((rtsG h i).length : Int); omega
  ·omega
theorem atG_get (h : List Nat) : ∀ {i k : Nat}, k ∈ rtsG h i → getM (atG h i) k = some (((rtsG h i).idxOf k : Nat) : Int)
 | 0, k, hk => by simp [rtsG] at hk
 | i + 1, k, hk => by
  have ih := @atG_get h i k
  rw [atG]
  rw [rtsG_succ] at hk ⊢
  by_cases e : hf h i = i
  ·rw [if_pos e] at hk ⊢
   rw [if_pos e, getM_put, List.idxOf_append]
   by_cases ek : k = i
   ·subst ek
    rw [if_pos rfl, if_neg fun hm => Nat.lt_irrefl _ (mem_rtsG.1 hm).1]
    simp
   ·have hm : k ∈ rtsG h i := by
     rcases List.mem_append.1 hk with hk | hk
     ·exact hk
     ·exact absurd (by simpa using hk) ek
    rw [if_neg ek, if_pos hm, ih hm]
  ·rw [if_neg e, List.append_nil] at hk
   rw [if_neg e, if_neg e, List.append_nil, ih hk]
theorem allG_len (h : List Nat) (ids : List Int) (i : Nat) : (allG h ids i).length = (rtsG h i).length := by simp [allG]
theorem prsG_take {f : Flo} {l : List Pay} {k : Nat} (h : k < l.length) : (prsG f l).take (k + 1) = (prsG f l).take k ++ [(f.ids.idxOf l[k].a, f.ids.idxOf l[k].b)] := by
 have hl : k < (prsG f l).length := by simpa [prsG] using h
 rw [List.take_succ_eq_append_getElem hl]
 simp [prsG]
theorem Groups_con (f : Flo) (hS : Sml f) (hB : errL f = 0 → ∀ x ∈ lsF f, PayB x) : Con Tryz.prog 26 [.agg (flC f)] [tab8] (Is (.tup [.sl 1 (slC 1 iC) (grpN f).1, .val (.int .i64 (grpN f).2)]) [tab8]) := by
 cases hok : floOk f with
 | false =>
  have C := openedNo_con f hS hok
  have hst : stlN f = ([], 80) := by
   have he : errL f = 80 := by unfold errL; rw [hok]; rfl
   unfold stlN
   rw [he]; rfl
  unfold grpN
  rw [hst, if_neg (by decide)]
  refine con_of Tryz.func26 rfl (enters_of Tryz.func26 (by kernel_rfl) rfl) rfl ?_; intro n w0 F0 G0
  refine zS ?_;repeat(refine yA ?_;intro p hp;refine zS ?_)
  (first | (apply wl_call (C); exact rfl; exact rfl) | (apply wl_callR (C); exact rfl; exact zM; exact rfl))
  refine zS ?_;repeat(refine yA ?_;intro p hp;refine zS ?_)
  refine Res_nil 2 1 (slC 1 iC) rfl ?_
  (apply resK2; exact rfl; exact rfl; exact rfl; exact ⟨rfl, rfl⟩; exact yC)
 | true =>
  have C := opened_con f hS hok
  have SC := Settle_con f hS hB
  have hF := flo_f hok
  have hidl := hF.ids
  have hll := stlN_len hS
  have hli := stlN_ids f
  unfold grpN
  generalize stlN f = r at SC hll hli ⊢
  obtain ⟨l, e⟩ := r
  dsimp only at SC hll hli ⊢
  refine con_of Tryz.func26 rfl (enters_of Tryz.func26 (by kernel_rfl) rfl) rfl ?_; intro n w0 F0 G0
  refine zS ?_;repeat(refine yA ?_;intro p hp;refine zS ?_)
  (apply wl_callP (C); exact rfl; exact yC; exact rfl)
  rintro _ _ ⟨ph, ow, rfl, rfl⟩
  generalize owed8 f = owed
  refine zS ?_;repeat(refine yA ?_;intro p hp;refine zS ?_)
  (first | (apply wl_call (SC); exact rfl; exact rfl) | (apply wl_callR (SC); exact rfl; exact zM; exact rfl))
  refine zS ?_;repeat(refine yA ?_;intro p hp;refine zS ?_)
  refine w_cond rfl (fun he => ?_) (fun he => ?_)
  ·have he' : e ≠ 0 := by simpa using he
   rw [if_neg he']
   refine zS ?_;repeat(refine yA ?_;intro p hp;refine zS ?_)
   refine Res_nil 2 1 (slC 1 iC) rfl ?_
   (apply resK2; exact rfl; exact rfl; exact rfl; exact ⟨rfl, rfl⟩; exact yC)
  ·have he' : e = 0 := by simpa using he
   subst he'
   rw [if_pos rfl]
   refine zS ?_;repeat(refine yA ?_;intro p hp;refine zS ?_)
   refine W_loopJ (fun (b : Nat × Value) => ⟨[(1, .val p), (4, .val ph), (7, .val b.2), (30, .sl 3 payC l), (31, .val (.int .i64 l.length)), (32, .val (.int .i64 b.1))], [.row b.2 122 2 pnC ((prsG f l).take b.1), hsB ph f ow, .box p (flC f) 27, tab8]⟩) (fun b => b.1 ≤ l.length) (fun b => l.length - b.1) (0, .slice none 0 0) (fun _ _ st => st_sub2 (st_nil 122 2 pnC st) zR zP) (Nat.zero_le _) ?_
   rintro ⟨k, v⟩ hk
   dsimp only at hk ⊢
   refine zS ?_;repeat(refine yA ?_;intro p hp;refine zS ?_)
   refine w_cond rfl (fun hlt => ?_) (fun hlt => ?_)
   ·have hlt' : k < l.length := by simpa using hlt
    have hx := hli _ (List.getElem_mem hlt')
    have hpt := prsG_take (f := f) hlt'
    have hpl : ((prsG f l).take k).length ≤ 1000 := by rw [List.length_take]; omega
    generalize (prsG f l).take k = L at hpt hpl ⊢
    refine zS ?_;repeat(refine yA ?_;intro p hp;refine zS ?_)
    refine W_run 11 [36, 37, 38, 39, 40, 41, 42, 43, 44, 45, 46] [0, 1, 2, 3, 4, 5, 6, 7, 8, 9, 10] Cut.nil rfl goFlt mixedS (by kernel_rfl) rfl ?_
    refine rpv [] [] ?_
    refine rpv [] [] ?_
    refine rpv [] [] ?_
    refine rpv [2] [] ?_
    refine Run.pv [1, 3] [] rfl (fun vs => by apply ltr_pk; exact goPk; (apply ltr_callR ((indexAt_con ph ow f _ (by omega) hx.1)); exact rfl; exact zM)) goApp ?_
    refine rpv [] [] ?_
    refine rpv [] [] ?_
    refine rpv [6] [] ?_
    refine Run.pv [5, 7] [] rfl (fun vs => by apply ltr_pk; exact goPk; (apply ltr_callR ((indexAt_con ph ow f _ (by omega) hx.2)); exact rfl; exact zM)) goApp ?_
    refine Run.pv [4, 8] [] rfl (fun vs => by apply ltr_pk; exact goPk; (refine ltr ?_; refine LT_av (av' := .agg (pnC (f.ids.idxOf l[k].a, f.ids.idxOf l[k].b))) ?_ rfl; apply lt_build; (repeat (first | exact Parts.nil | (apply Parts.cons; exact rfl; exact rfl; exact inferInstance; exact rfl; exact (of_decide_eq_true rfl)))))) goApp ?_
    refine Run.pv [9] [] rfl (fun vs => by apply ltr_pk; exact goPk; (refine ltr ?_; apply LT_frz; apply lt_lit (f := pnC); exact zE; exact rfl; (first | exact (of_decide_eq_true rfl) | decide | (simp; done) | (simp; omega)))) goApp ?_
    refine ⟨⟨by kernel_rfl, by kernel_rfl⟩, fun vs => ?_⟩
    apply WL_auto [0, 10]
    ·exact goPk
    ·exact goNrm
    ·kernel_rfl
    ·kernel_rfl
    refine zS ?_;repeat(refine yA ?_;intro p hp;refine zS ?_)
    (first | (apply wl_append; exact rfl; exact rfl; exact zN; exact inferInstance; exact inferInstance; (first | omega | (simp; omega)); exact rfl) | (apply wl_appendN; exact rfl; exact rfl; exact inferInstance; exact inferInstance; (first | omega | (simp; omega)); exact rfl))
    intro v2
    rw [← hpt]
    refine zS ?_;repeat(refine yA ?_;intro p hp;refine zS ?_)
    (refine ⟨(k + 1, v2), fun _ _ st => st_sub2 st ?_ ?_, ?_, ?_⟩; exact zR; exact zP)
    ·dsimp only; omega
    ·dsimp only; omega
   ·have hkk : k = l.length := by simp at hlt; omega
    subst hkk
    rw [show (prsG f l).take l.length = prsG f l from List.take_of_length_le (by simp [prsG])]
    have hlt0 := prsG_lt hli
    have hpl : (prsG f l).length ≤ 1000 := by simpa [prsG] using hll
    have H : Hd f.ids.length (headsR f.ids.length (prsG f l)) := hd_heads hlt0
    have GC := groups_con ph ow f (prsG f l) (by omega) hpl hlt0
    have hhl := headsR_len f.ids.length (prsG f l)
    unfold grG
    generalize headsR f.ids.length (prsG f l) = h at H GC hhl ⊢
    refine zS ?_;repeat(refine yA ?_;intro p hp;refine zS ?_)
    (apply wl_mmake keyN iG; exact rfl; intro mv hmv)
    refine zS ?_;repeat(refine yA ?_;intro p hp;refine zS ?_)
    (apply WL_frz 51; exact rfl; exact zN)
    (apply wl_callP (GC); exact rfl; exact yC; exact rfl)
    rintro _ _ ⟨u, rfl, rfl⟩
    refine zS ?_;repeat(refine yA ?_;intro p hp;refine zS ?_)
    refine W_rows0 3 1 iC ?_
    refine W_loopJ (fun (b : Nat × Value × List OV) => ⟨[(1, .val p), (10, .val mv), (11, .val b.2.1), (52, .val u), (53, .val (.int .i64 h.length)), (54, .val (.int .i64 b.1))], [.row b.2.1 22 1 vlC b.2.2, .pack (rowsZ 3 1 iC b.2.2 (allG h f.ids b.1)), mpI mv (atG h b.1), .row u 3 1 nC h, .box p (flC f) 27, tab8]⟩) (fun b => b.1 ≤ h.length ∧ b.2.2.length = (rtsG h b.1).length) (fun b => h.length - b.1) (0, .slice none 0 0, []) (fun _ _ st => st_sub2 (st_nil 22 1 vlC st) zR zP) ⟨Nat.zero_le _, rfl⟩ ?_
    rintro ⟨i, w, zs⟩ ⟨hi, hvl⟩
    dsimp only at hi hvl ⊢
    refine zS ?_;repeat(refine yA ?_;intro p hp;refine zS ?_)
    refine w_cond rfl (fun hlt2 => ?_) (fun hlt2 => ?_)
    ·have hi' : i < h.length := by simpa using hlt2
     have hin : i < f.ids.length := by omega
     have hst := allG_step H f.ids hin
     have hbg := baseG_get H f.ids hin
     have hhm := headG_mem H hin
     have hag := atG_get h hhm
     have hle := H.le i hin
     have hmp : atG h (i + 1) = if hf h i = i then putM (atG h i) i ((rtsG h i).length : Int) else atG h i := rfl
     have hml := atG_len h i
     have hrl := rtsG_succ h i
     have hbu : baseG h f.ids i = allG h f.ids i ++ if hf h i = i then [[]] else [] := rfl
     have hal := allG_len h f.ids i
     have hrz := rtsG_len h i
     have hgl := grpG_len h f.ids i (hf h i)
     rw [List.getD_eq_getElem?_getD, List.getElem?_eq_getElem hin, Option.getD_some] at hst
     rw [hf_at hi'] at hst hbg hhm hag hle hmp hrl hbu hgl
     refine zS ?_;repeat(refine yA ?_;intro p hp;refine zS ?_)
     generalize h[i] = kk at hst hbg hhm hag hle hmp hrl hbu hgl ⊢
     refine W_meetE (fun (b : Value × List OV) => ⟨[(1, .val p), (10, .val mv), (11, .val b.1), (12, .val (.int .i64 i)), (13, .val (.int .i64 kk)), (52, .val u), (53, .val (.int .i64 h.length)), (54, .val (.int .i64 i))], [.row b.1 22 1 vlC b.2, .pack (rowsZ 3 1 iC b.2 (baseG h f.ids i)), mpI mv (atG h (i + 1)), .row u 3 1 nC h, .box p (flC f) 27, tab8]⟩) (fun b => b.2.length = (rtsG h (i + 1)).length) ?_ ?_
     ·refine w_cond rfl (fun he => ?_) (fun he => ?_)
      ·have he' : kk = i := by simp at he; omega
       subst he'
       rw [if_pos rfl] at hbu hmp hrl
       rw [hbu, hmp, hrl]
       refine zS ?_;repeat(refine yA ?_;intro p hp;refine zS ?_)
       have hsn := rowsZ_snoc (e := 3) (n := 1) (f := iC) (v := nilOV) (g := []) (vs := zs) (gs := allG h f.ids kk) (by omega)
       rw [hvl]
       (apply wl_mput keyN kk ((rtsG h kk).length : Int) Tryz.underlying123; exact rfl; exact zM; exact rfl; exact KeyV.val; exact (by omega); exact rfl; omega)
       refine zS ?_;repeat(refine yA ?_;intro p hp;refine zS ?_)
       (apply wl_litF vlC (xs := [nilOV]); exact inferInstance; exact inferInstance; exact inferInstance; exact zE; exact rfl; (first | exact (of_decide_eq_true rfl) | decide | (simp; done) | (simp; omega)); exact rfl)
       (first | (apply wl_append; exact rfl; exact rfl; exact zN; exact inferInstance; exact inferInstance; (first | omega | (simp; omega)); exact rfl) | (apply wl_appendN; exact rfl; exact rfl; exact inferInstance; exact inferInstance; (first | omega | (simp; omega)); exact rfl))
       intro w2
       refine zS ?_;repeat(refine yA ?_;intro p hp;refine zS ?_)
       exact ⟨rfl, (w2, zs ++ [nilOV]), fun _ _ st => st_sub2 (st_repack hsn zN zN (st_nil 3 1 iC st)) zR zP, by simp [hvl]⟩
      ·have he' : ¬ kk = i := by simp at he; omega
       rw [if_neg he', List.append_nil] at hbu hrl
       rw [if_neg he'] at hmp
       rw [hbu, hmp, hrl]
       refine zS ?_;repeat(refine yA ?_;intro p hp;refine zS ?_)
       exact ⟨rfl, (w, zs), fun _ _ st => st_sub2 st zR zP, hvl⟩
     ·clear hvl hbu hal hrl
      rintro ⟨w, zs⟩ hvl
      dsimp only at hvl ⊢
      have hj := List.idxOf_lt_length_of_mem hhm
      have hjl : (rtsG h (i + 1)).idxOf kk ≤ 1000 := by have := rtsG_len h (i + 1); omega
      have hlk : lkA iG (.int .i64 0) (getM (atG h (i + 1)) kk) = .val (.int .i64 (((rtsG h (i + 1)).idxOf kk : Nat) : Int)) := by rw [hag]; rfl
      generalize (rtsG h (i + 1)).idxOf kk = j at hst hbg hj hjl hlk hag
      have hjz : j < zs.length := by omega
      obtain ⟨hjb, hge⟩ := List.getElem?_eq_some_iff.1 hbg
      clear hmp hag hml
      generalize hmE : atG h (i + 1) = m at hlk ⊢
      generalize baseG h f.ids i = bs at hst hbg hjb hge ⊢
      refine W_unpack (rowsZ_perm zs bs j hjz hjb) zN ?_
      rw [hge]
      generalize grpG h f.ids i kk = g at hst hgl hge hbg ⊢
      have hkk2 : kk ≤ 1000000 := by omega
      have hjq : zs[j]? = some zs[j] := List.getElem?_eq_getElem hjz
      have hiq : f.ids[i]? = some f.ids[i] := List.getElem?_eq_getElem hin
      refine W_run 17 [69, 70, 71, 72, 73, 74, 75, 76, 77, 78, 79, 80, 81, 82, 83, 84, 85] [0, 1, 2, 3, 4, 5, 6, 7, 8, 9, 10, 11, 12, 13, 14, 15, 16] (Cut.cons (h := HA.row zs[j].1 3 1 iC g) zN (Cut.nil)) rfl goFlt mixedS (by kernel_rfl) rfl ?_
      refine rpv [] [] ?_
      refine rpv [] [] ?_
      refine rpv [] [] ?_
      refine Run.pv [1, 2] [] rfl (fun vs => by apply ltr_pk; exact goPk; exact ltr_rd (h := mpI mv m) (LT_av (lt_look1 keyN Tryz.underlying123 (fun w => by kernel_rfl) kk rfl rfl KeyV.val hkk2) hlk) zM) goApp ?_
      refine rpv [] [] ?_
      refine rpv [] [] ?_
      refine rpv [] [] ?_
      refine Run.pv [5, 6] [] rfl (fun vs => by apply ltr_pk; exact goPk; exact ltr_rd (h := mpI mv m) (LT_av (lt_look1 keyN Tryz.underlying123 (fun w => by kernel_rfl) kk rfl rfl KeyV.val hkk2) hlk) zM) goApp ?_
      refine rpv [4, 7] [] ?_
      refine rpv [8] [] ?_
      refine rpv [] [] ?_
      refine rpv [10] [] ?_
      refine rpv [] [] ?_
      refine rpv [11, 12] [] ?_
      refine rpv [13] [] ?_
      refine Run.pv [14] [] rfl (fun vs => by apply ltr_pk; exact goPk; (refine ltr ?_; apply LT_frz; apply lt_lit (f := iC); exact zE; exact rfl; (first | exact (of_decide_eq_true rfl) | decide | (simp; done) | (simp; omega)))) goApp ?_
      refine Run.tok [9, 15] [1000] rfl (fun vs => by apply ltr_pk; exact goPk; (refine ltr ?_; apply lt_append; exact rfl; exact rfl; (first | omega | (simp; omega)))) goApp ?_
      refine ⟨⟨by kernel_rfl, by kernel_rfl⟩, fun vs => ?_⟩
      apply WL_auto [0, 3, 16]
      ·exact goPk
      ·exact goNrm
      ·kernel_rfl
      ·kernel_rfl
      generalize vs 16 = v2
      refine WL_one (v := v2) zM (fun hone => ?_)
      obtain ⟨ov, rfl⟩ : ∃ o : OV, v2 = o.1 := ⟨⟨v2, hone.out (fun _ => none) v2 rfl⟩, rfl⟩
      refine zS ?_;repeat(refine yA ?_;intro p hp;refine zS ?_)
      have hput := rowsZ_put (e := 3) (n := 1) (f := iC) zs bs j hjz hjb ov (g ++ [f.ids[i]])
      rw [← hst] at hput
      subst hmE
      refine ⟨(i + 1, w, zs.set j ov), fun _ _ st => st_sub2 (st_repack hput zN zN st) zR zP, ⟨hi', by simpa using hvl⟩, ?_⟩
      dsimp only; omega
    ·have hii : i = f.ids.length := by simp at hlt2; omega
     subst hii
     have hz : zs.length = (allG h f.ids f.ids.length).length := by rw [hvl, allG_len]
     refine W_frzRows hz zN zN ?_
     refine zS ?_;repeat(refine yA ?_;intro p hp;refine zS ?_)
     (apply Res_frz 2; exact rfl; exact zN)
     (apply resK2; exact rfl; exact rfl; exact rfl; exact ⟨rfl, rfl⟩; exact yC)
end Go.Proofs.YtihonljdanjfmaaGreatDoor.Sw
namespace Go.Proofs.YtihonljdanjfmaaGreatDoor.Sw
open Go.RowKit Go Go.Shelf Go.Proofs
def hsF (qs : List Qu) : Flo := ⟨[1, 2, 3, 4], qs, [⟨1, 1, 100, [⟨1, 1⟩, ⟨2, 1⟩, ⟨3, 1⟩]⟩, ⟨2, 2, 60, [⟨3, 1⟩, ⟨4, 2⟩]⟩], []⟩
theorem hs_sml {qs : List Qu} (h : qs.length ≤ 20) : Sml (hsF qs) := ⟨by simp [hsF], by simp [hsF]; omega, by simp [hsF], by simp [hsF], fun b hb => by simp [hsF] at hb; rcases hb with rfl | rfl <;> simp⟩
set_option maxRecDepth 100000 in
theorem hs_ok : floOk (hsF []) = true := by decide +kernel
set_option maxRecDepth 100000 in
theorem hs_few : fewN8 (hsF []) = (3, 0) := by decide +kernel
set_option maxRecDepth 100000 in
theorem hs_stl : stlN8 (hsF []) = ([⟨3, 1, 26⟩, ⟨3, 2, 27⟩, ⟨4, 1, 40⟩], 0) := by decide +kernel
set_option maxRecDepth 100000 in
theorem hs_chp : chpN8 (hsF []) = (93, 0) := by decide +kernel
set_option maxRecDepth 100000 in
theorem hs_cnt : cntN8 (hsF []) = (16, 0) := by decide +kernel
set_option maxRecDepth 100000 in
theorem hs_sur : surN8 (hsF []) = ([], 0) := by decide +kernel
set_option maxRecDepth 100000 in
theorem hs_grp : grpN (hsF []) = ([[1, 2, 3, 4]], 0) := by
 unfold grpN
 rw [stl_eq (hs_sml (by simp)), hs_stl]
 decide +kernel
set_option maxRecDepth 100000 in
theorem hs_alo : aloR (hsF []) [1, 3] = (false, 0) := by decide +kernel
set_option maxRecDepth 100000 in
theorem hs_jud : judgeR (hsF []) [⟨3, 1, 53⟩] = ([13, 27, 0, -40], 0, 0) := by decide +kernel
set_option maxRecDepth 100000 in
theorem hs_can : canR (hsF [⟨1, 3⟩, ⟨2, 3⟩, ⟨3, 4⟩]) = (false, 0) := by decide +kernel
set_option maxRecDepth 100000 in
theorem hs_sha : shaR (hsF []) 1 = ([34, 33, 33, 0], 0) := by decide +kernel
set_option maxRecDepth 100000 in
theorem hs_net : netR (hsF []) = ([66, 27, -53, -40], 0) := by decide +kernel
end Go.Proofs.YtihonljdanjfmaaGreatDoor.Sw
namespace Go.Proofs.YtihonljdanjfmaaGreatDoor.Sw
open Go.RowKit Go
theorem thaw_freeze {G : Nat → Option Obj} {F : List Nat} {w : World} {h : HA} {rest : List HA} {av av' : AV} {v : Value} (ht : Thaw h av av') (hI : Inv G F (h :: rest) w) (hv : av.P G v) : ∃ G' F', Inv G' F' rest w ∧ Fr w w F F' G G' ∧ av'.P G' v := by
 obtain ⟨F1, F2, ep, h1, h2⟩ := hI.hs
 have nd := ep.nodup_iff.1 hI.nd
 have hm1 : ∀ b, b ∈ F1 → b ∈ F := fun b hb => ep.mem_iff.2 (by simp [hb])
 have hm2 : ∀ b, b ∈ F2 → b ∈ F := fun b hb => ep.mem_iff.2 (by simp [hb])
 have hle : Gle G (gall G F1 w) := gall_le fun b hb => (hI.own b (hm1 b hb)).2
 refine ⟨gall G F1 w, F2, ⟨gall_in hI.gin, (List.nodup_append.1 nd).2.1, fun b hb => ⟨(hI.own b (hm2 b hb)).1, ?_⟩, hsP.mono hle h2⟩, ⟨rfl, rfl, rfl, Nat.le_refl _, fun _ _ _ => rfl, fun b hb => .inl (hm2 b hb), hle, fun b o eb => ?_⟩, ht.out G F1 w h1 hle v hv⟩
 ·unfold gall
  rw [if_neg fun hin => (List.nodup_append.1 nd).2.2 b hin b hb rfl]
  exact (hI.own b (hm2 b hb)).2
 ·unfold gall at eb
  split at eb
  ·rename_i hb; exact .inr (.inl (hm1 b hb))
  ·exact .inl eb
theorem thaw_tup {h : HA} {av av' x : AV} (k : Thaw h av av') : Thaw h (.tup [av, x]) (.tup [av', x]) := ⟨fun G F w hh hle v hv => by
 obtain ⟨us, e, hf⟩ := hv
 match us, hf with
 | [a, b], ⟨ha, hb, _⟩ => exact ⟨[a, b], e, k.out G F w hh hle a ha, x.mono hle hb, trivial⟩⟩
theorem Con.frz {α : Type} {P : Program} {k : FuncId} {args : List AV} {pre rest : List HA} {post : AV → List HA → Prop} {a : α → AV} {h : α → HA} {av' : AV} (hc : Con P k args pre post) (hp : ∀ x y, post x y → ∃ i, x = a i ∧ y = h i :: rest) (ht : ∀ i, Thaw (h i) (a i) av') : Con P k args pre (Is av' rest) :=
 ⟨hc.enters, fun G Fp vs w hf hI => (hc.calls G Fp vs w hf hI).mono fun e w' ⟨v, av, prod, G', F', he, hq, hfr, hi, hv⟩ => by
  obtain ⟨i, rfl, rfl⟩ := hp _ _ hq
  obtain ⟨G2, F2, h1, h2, h3⟩ := thaw_freeze (ht i) hi hv
  exact ⟨v, av', rest, G2, F2, he, ⟨rfl, rfl⟩, hfr.trans h2, h1, h3⟩⟩
section
variable {P : Program} {rs : List (Nat × AV)} {d : Option Nat} {ty : TypeId} {pos : String} {af : Array Edge} {g : Option (Nat × Bool)}
end
end Go.Proofs.YtihonljdanjfmaaGreatDoor.Sw
namespace Go.Proofs.YtihonljdanjfmaaGreatDoor.Sw
open Go.RowKit Go Go.Shelf Go.Proofs
def FlP2 (r : Flo × Int) : AV → List HA → Prop := fun x y => ∃ vi vq vb vp, (One (.val vi) ∧ One (.val vq) ∧ One (.val vb) ∧ One (.val vp)) ∧ x = .tup [.agg [.val vi, .val vq, .val vb, .val vp], .val (.int .i64 r.2)] ∧ y = [floOwn vi vq vb vp r.1, tab8, HA.tab]
theorem flP2_nil (e : Int) : FlP2 (floE, e) (.tup [.agg [.val (.slice none 0 0), .val (.slice none 0 0), .val (.slice none 0 0), .val (.slice none 0 0)], .val (.int .i64 e)]) [floOwn (.slice none 0 0) (.slice none 0 0) (.slice none 0 0) (.slice none 0 0) floE, tab8, HA.tab] :=
 ⟨_, _, _, _, ⟨inferInstance, inferInstance, inferInstance, inferInstance⟩, rfl, rfl⟩
noncomputable def ofTR (f : Flo) (x : Bil) (t : Tl) (r : Rt) : Flo × Int :=
 if floOk f = true then (if (owedR t r).2 = 0 then (if (owedR t r).1.1 = (owedR t r).1.2 ∧ 1 ≤ (owedR t r).1.1 ∧ (owedR t r).1.1 ≤ 1000000 then addR f { x with pe := (owedR t r).1.1 } else (floE, 8)) else (floE, (owedR t r).2)) else (floE, 80)
theorem ofTally_con (f : Flo) (x : Bil) (t : Tl) (r : Rt) (hS : Sml f) (hx : x.st.length ≤ 1000) (h1 : t.st.length ≤ 1000) (h2 : t.fo.length ≤ 1000) : Con Tryz.prog 38 [.agg (flC f), .agg (biC x), .agg (tC t), .agg (rC r)] [tab8, HA.tab] (FlP2 (ofTR f x t r)) := by
 have C := check_con f hS
 have CO := owed_con t r h1 h2
 unfold seA at CO
 cases hok : floOk f with
 | false =>
  rw [show errF f = 80 by unfold errF; rw [hok]; rfl] at C
  rw [show ofTR f x t r = (floE, 80) by unfold ofTR; rw [hok]; rfl]
  refine con_of Tryz.func38 rfl (enters_of Tryz.func38 (by kernel_rfl) rfl) rfl ?_; intro n w0 F0 G0
  refine zS ?_;repeat(refine yA ?_;intro p hp;refine zS ?_)
  (first | (apply wl_call (C); exact rfl; exact rfl) | (apply wl_callR (C); exact rfl; exact zM; exact rfl))
  refine zS ?_;repeat(refine yA ?_;intro p hp;refine zS ?_)
  (refine Res_add _ floE_own ?_; apply resKN1; exact rfl; exact rfl; exact zM; exact inferInstance; exact rfl; exact rfl; exact flP2_nil _; exact yC)
 | true =>
  rw [show errF f = 0 by unfold errF; rw [hok]; rfl] at C
  unfold ofTR
  rw [if_pos hok]
  generalize owedR t r = s at *
  obtain ⟨⟨lo, hi⟩, er⟩ := s
  dsimp only at CO ⊢
  refine con_of Tryz.func38 rfl (enters_of Tryz.func38 (by kernel_rfl) rfl) rfl ?_; intro n w0 F0 G0
  refine zS ?_;repeat(refine yA ?_;intro p hp;refine zS ?_)
  (first | (apply wl_call (C); exact rfl; exact rfl) | (apply wl_callR (C); exact rfl; exact zM; exact rfl))
  refine zS ?_;repeat(refine yA ?_;intro p hp;refine zS ?_)
  (first | (apply wl_call (CO); exact rfl; exact rfl) | (apply wl_callR (CO); exact rfl; exact zM; exact rfl))
  refine zS ?_;repeat(refine yA ?_;intro p hp;refine zS ?_)
  refine w_cond rfl (fun he => ?_) (fun he => ?_)
  ·rw [if_neg (by simpa using he)]
   refine zS ?_;repeat(refine yA ?_;intro p hp;refine zS ?_)
   (refine Res_add _ floE_own ?_; apply resKN1; exact rfl; exact rfl; exact zM; exact inferInstance; exact rfl; exact rfl; exact flP2_nil _; exact yC)
  ·rw [if_pos (by simpa using he)]
   have CA := add_con f { x with pe := lo } hS hx
   refine zS ?_;repeat(refine yA ?_;intro p hp;refine zS ?_)
   refine wl_part rfl rfl (fun hne => ?_) (fun hne => ?_)
   ·rw [if_neg (by simp at hne; omega)]
    refine zS ?_;repeat(refine yA ?_;intro p hp;refine zS ?_)
    (refine Res_add _ floE_own ?_; apply resKN1; exact rfl; exact rfl; exact zM; exact inferInstance; exact rfl; exact rfl; exact flP2_nil _; exact yC)
   ·have hlo : lo = hi := by simpa using hne
    subst hlo
    refine zS ?_;repeat(refine yA ?_;intro p hp;refine zS ?_)
    (apply wl_litF iC; exact inferInstance; exact inferInstance; exact inferInstance; exact zE; exact rfl; (first | exact (of_decide_eq_true rfl) | decide | (simp; done) | (simp; omega)); exact rfl)
    refine zS ?_;repeat(refine yA ?_;intro p hp;refine zS ?_)
    (first | (apply wl_call (inOne_con 1 1000000 lo); exact rfl; exact rfl) | (apply wl_callR (inOne_con 1 1000000 lo); exact rfl; exact zM; exact rfl))
    refine zS ?_;repeat(refine yA ?_;intro p hp;refine zS ?_)
    refine w_cond rfl (fun hin => ?_) (fun hin => ?_)
    ·rw [if_neg (by simp at hin; omega)]
     refine zS ?_;repeat(refine yA ?_;intro p hp;refine zS ?_)
     (refine Res_add _ floE_own ?_; apply resKN1; exact rfl; exact rfl; exact zM; exact inferInstance; exact rfl; exact rfl; exact flP2_nil _; exact yC)
    ·rw [if_pos (by simp at hin; omega)]
     refine zS ?_;repeat(refine yA ?_;intro p hp;refine zS ?_)
     refine WL_as 48 (.agg (biC { x with pe := lo })) rfl ?_
     generalize addR f { x with pe := lo } = ra at CA ⊢
     obtain ⟨fa, ea⟩ := ra
     (apply wl_callP (CA); exact rfl; exact yC; exact rfl)
     rintro _ _ ⟨vi, vq, vb, vp, ⟨o1, o2, o3, o4⟩, rfl, rfl⟩
     refine zS ?_;repeat(refine yA ?_;intro p hp;refine zS ?_)
     (apply resKN1; exact rfl; exact rfl; exact zM; exact inferInstance; exact rfl; exact rfl; exact ⟨vi, vq, vb, vp, ⟨inferInstance, inferInstance, inferInstance, inferInstance⟩, rfl, rfl⟩; exact yC)
theorem flP2_frz {P : Program} {k : FuncId} {args : List AV} {pre : List HA} {r : Flo × Int} (hc : Con P k args pre (FlP2 r)) : Con P k args pre (Is (.tup [.agg (flC r.1), .val (.int .i64 r.2)]) [tab8, HA.tab]) :=
 hc.frz (a := fun i : Value × Value × Value × Value => .tup [.agg [.val i.1, .val i.2.1, .val i.2.2.1, .val i.2.2.2], .val (.int .i64 r.2)]) (h := fun i => floOwn i.1 i.2.1 i.2.2.1 i.2.2.2 r.1)
  (fun x y ⟨vi, vq, vb, vp, _, e1, e2⟩ => ⟨(vi, vq, vb, vp), e1, e2⟩) fun i => thaw_tup (flo_thaw _ _ _ _ _)
theorem sameLists_con (xs ys : List (List Int)) (hl : xs.length ≤ 100000) (hl2 : ys.length ≤ 100000) (hx : ∀ x ∈ xs, x.length ≤ 100000) (hy : ∀ y ∈ ys, y.length ≤ 100000) : Con Tryz.prog 106 [.sl 1 (slC 1 iC) xs, .sl 1 (slC 1 iC) ys] [] (Is (.val (.bool (decide (xs = ys)))) []) := by
 refine con_of Tryz.func106 rfl (enters_of Tryz.func106 (by kernel_rfl) rfl) rfl ?_; intro n w0 F0 G0
 refine zS ?_
 refine w_cond rfl (fun hne => ?_) (fun hne => ?_)
 ·have hne' : xs ≠ ys := by intro e; rw [e] at hne; simp at hne
  refine zS ?_
  (apply res1; exact rfl; exact rfl; exact ⟨(congrArg (fun b => AV.val (Value.bool b)) (by simp [hne'])), rfl⟩)
 ·have hlen : xs.length = ys.length := by simp at hne; omega
  refine zS ?_
  refine W_loopJ (fun (k : Nat) => ⟨[(0, .sl 1 (slC 1 iC) xs), (1, .sl 1 (slC 1 iC) ys), (5, .val (.int .i64 k))], []⟩) (fun k => k ≤ xs.length ∧ xs.take k = ys.take k) (fun k => xs.length - k) 0 (fun _ _ st => st_sub2 st zR zP) ?hj0 ?round
  case hj0 => simp
  case round =>
   rintro k ⟨hk, hall⟩
   refine zS ?_
   refine w_cond rfl (fun hlt => ?_) (fun hlt => ?_)
   ·have hlt' : k < xs.length := by simpa using hlt
    have hlt2 : k < ys.length := by omega
    have hq1 : xs[k]? = some xs[k] := List.getElem?_eq_getElem hlt'
    have hq2 : ys[k]? = some ys[k] := List.getElem?_eq_getElem hlt2
    have SC := sameInts_con xs[k] ys[k] (by have := hx _ (List.getElem_mem hlt'); omega) (by have := hy _ (List.getElem_mem hlt2); omega)
    refine zS ?_
    refine W_run 8 [17, 18, 19, 20, 21, 22, 23, 24] [0, 1, 2, 3, 4, 5, 6, 7] Cut.nil rfl goFlt mixedS (by kernel_rfl) rfl ?_
    refine rpv [] [] ?_
    refine rpv [] [] ?_
    refine rpv [0, 1] [] ?_
    refine rpv [2] [] ?_
    refine rpv [] [] ?_
    refine rpv [] [] ?_
    refine rpv [4, 5] [] ?_
    refine rpv [6] [] ?_
    refine ⟨⟨by kernel_rfl, by kernel_rfl⟩, fun vs => ?_⟩
    apply WL_auto [3, 7]
    ·exact goPk
    ·exact goNrm
    ·kernel_rfl
    ·kernel_rfl
    refine zS ?_
    (first | (apply wl_call (SC); exact rfl; exact rfl) | (apply wl_callR (SC); exact rfl; exact zM; exact rfl))
    refine zS ?_
    refine w_cond rfl (fun hg => ?_) (fun hg => ?_)
    ·have hne' : xs ≠ ys := by intro e; subst e; simp at hg
     refine zS ?_
     (apply res1; exact rfl; exact rfl; exact ⟨(congrArg (fun b => AV.val (Value.bool b)) (by simp [hne'])), rfl⟩)
    ·refine zS ?_
     (refine ⟨k + 1, fun _ _ st => st_sub2 st ?_ ?_, ?_, ?_⟩; exact zR; exact zP)
     ·refine ⟨by omega, ?_⟩
      rw [List.take_succ_eq_append_getElem hlt', List.take_succ_eq_append_getElem hlt2, hall]
      simp at hg; rw [hg]
     ·omega
   ·refine zS ?_
    have hkk : k = xs.length := by simp at hlt; omega
    have he : xs = ys := by
     rw [List.take_of_length_le (by omega), List.take_of_length_le (by omega)] at hall; exact hall
    (apply res1; exact rfl; exact rfl; exact ⟨(congrArg (fun b => AV.val (Value.bool b)) (by simp [he])), rfl⟩)
theorem sameLists8_con (xs ys : List (List Int)) (hl : xs.length ≤ 100000) (hl2 : ys.length ≤ 100000) (hx : ∀ x ∈ xs, x.length ≤ 100000) (hy : ∀ y ∈ ys, y.length ≤ 100000) : Con Tryz.prog 57 [.sl 1 (slC 1 iC) xs, .sl 1 (slC 1 iC) ys] [] (Is (.val (.bool (decide (xs = ys)))) []) := by
 refine con_of Tryz.func57 rfl (enters_of Tryz.func57 (by kernel_rfl) rfl) rfl ?_; intro n w0 F0 G0
 refine zS ?_
 (first | (apply wl_call (sameLists_con xs ys hl hl2 hx hy); exact rfl; exact rfl) | (apply wl_callR (sameLists_con xs ys hl hl2 hx hy); exact rfl; exact zM; exact rfl))
 refine zS ?_
 (apply res1; exact rfl; exact rfl; exact ⟨rfl, rfl⟩)
theorem Con.resI {P : Program} {k : FuncId} {args : List AV} {pre prod : List HA} {av av' : AV} (hc : Con P k args pre (Is av prod)) (h : ∀ G v, av.P G v → av'.P G v) : Con P k args pre (Is av' prod) :=
 ⟨hc.enters, fun G Fp vs w hf hI => (hc.calls G Fp vs w hf hI).mono fun e w' ⟨v, a, pr, G', F', he, ⟨e1, e2⟩, hfr, hi, hv⟩ => by
  subst e1 e2
  exact ⟨v, av', _, G', F', he, ⟨rfl, rfl⟩, hfr, hi, h _ _ hv⟩⟩
theorem agg_house (qs : List Qu) (G : Nat → Option Obj) (v : Value) (h : (AV.agg [.sl 1 iC [1, 2, 3, 4], .sl 2 quC qs, .sl 4 biC (hsF qs).bs, .val (.slice none 0 0)]).P G v) : (AV.agg (flC (hsF qs))).P G v := by
 obtain ⟨us, e, h⟩ := h
 match us, h with
 | [a, b, c, d], ⟨ha, hb, hc, hd, _⟩ => exact ⟨[a, b, c, d], e, ha, hb, hc, nil_sl _ _ hd, trivial⟩
theorem houseL_con (qs : List Qu) : Con Tryz.prog 48 [.sl 2 quC qs] [] (Is (.agg (flC (hsF qs))) []) := by
 refine Con.resI (av := .agg [.sl 1 iC [1, 2, 3, 4], .sl 2 quC qs, .sl 4 biC (hsF qs).bs, .val (.slice none 0 0)]) ?_ (agg_house qs)
 refine con_of Tryz.func48 rfl (enters_of Tryz.func48 (by kernel_rfl) rfl) rfl ?_; intro n w0 F0 G0
 refine zS ?_;repeat(refine yA ?_;intro p hp;refine zS ?_)
 (apply wl_litF iC (xs := [1, 2, 3, 4]); exact inferInstance; exact inferInstance; exact inferInstance; exact zE; exact rfl; (first | exact (of_decide_eq_true rfl) | decide | (simp; done) | (simp; omega)); exact rfl)
 refine zS ?_
 (apply wl_litF stC (xs := [⟨1, 1⟩, ⟨2, 1⟩, ⟨3, 1⟩]); exact inferInstance; exact inferInstance; exact inferInstance; exact zE; exact rfl; (first | exact (of_decide_eq_true rfl) | decide | (simp; done) | (simp; omega)); exact rfl)
 refine zS ?_
 (apply wl_litF stC (xs := [⟨3, 1⟩, ⟨4, 2⟩]); exact inferInstance; exact inferInstance; exact inferInstance; exact zE; exact rfl; (first | exact (of_decide_eq_true rfl) | decide | (simp; done) | (simp; omega)); exact rfl)
 refine zS ?_
 (apply wl_litF biC (xs := (hsF qs).bs); exact inferInstance; exact inferInstance; exact inferInstance; exact zE; exact rfl; (first | exact (of_decide_eq_true rfl) | decide | (simp; done) | (simp; omega)); exact rfl)
 refine zS ?_
 (apply resN; exact rfl; exact rfl; exact zM; exact inferInstance; exact rfl; exact ⟨rfl, rfl⟩)
theorem house0_con : Con Tryz.prog 48 [.val (.slice none 0 0)] [] (Is (.agg (flC (hsF []))) []) := Con.arg (fun G v h => nil_sl _ _ h) (houseL_con [])
theorem payL_con (a b p : Int) : Con Tryz.prog 21 [.val (.int .i64 a), .val (.int .i64 b), .val (.int .i64 p)] [] (Is (.agg (payC ⟨a, b, p⟩)) []) := by
 refine con_of Tryz.func21 rfl (enters_of Tryz.func21 (by kernel_rfl) rfl) rfl ?_; intro n w0 F0 G0
 refine zS ?_;repeat(refine yA ?_;intro p hp;refine zS ?_)
 (apply resN; exact rfl; exact rfl; exact zM; exact inferInstance; exact rfl; exact ⟨rfl, rfl⟩)
theorem quaL_con (a b : Int) : Con Tryz.prog 44 [.val (.int .i64 a), .val (.int .i64 b)] [] (Is (.agg (quC ⟨a, b⟩)) []) := by
 refine con_of Tryz.func44 rfl (enters_of Tryz.func44 (by kernel_rfl) rfl) rfl ?_; intro n w0 F0 G0
 refine zS ?_;repeat(refine yA ?_;intro p hp;refine zS ?_)
 (apply resN; exact rfl; exact rfl; exact zM; exact inferInstance; exact rfl; exact ⟨rfl, rfl⟩)
theorem intsL_con (l want : List Int) (e : Int) (h1 : l.length ≤ 1000000) (h2 : want.length ≤ 1000000) : Con Tryz.prog 43 [.sl 1 iC l, .val (.int .i64 e), .sl 1 iC want] [] (Is (.val (.bool (decide (e = 0) && decide (l = want)))) []) := by
 refine con_of Tryz.func43 rfl (enters_of Tryz.func43 (by kernel_rfl) rfl) rfl ?_; intro n w0 F0 G0
 refine zS ?_
 cases decide (e = 0) with
 | true =>
  refine zS ?_
  (first | (apply wl_call (sameInts8_con l want h1 h2); exact rfl; exact rfl) | (apply wl_callR (sameInts8_con l want h1 h2); exact rfl; exact zM; exact rfl))
  refine zS ?_
  (apply res1; exact rfl; exact rfl; exact ⟨rfl, rfl⟩)
 | false =>
  refine zS ?_
  (apply res1; exact rfl; exact rfl; exact ⟨rfl, rfl⟩)
theorem paysL_con (l want : List Pay) (e : Int) (h1 : l.length ≤ 1000000) (h2 : want.length ≤ 1000000) : Con Tryz.prog 49 [.sl 3 payC l, .val (.int .i64 e), .sl 3 payC want] [] (Is (.val (.bool (decide (e = 0) && decide (l = want)))) []) := by
 refine con_of Tryz.func49 rfl (enters_of Tryz.func49 (by kernel_rfl) rfl) rfl ?_; intro n w0 F0 G0
 refine zS ?_
 cases decide (e = 0) with
 | true =>
  refine zS ?_
  (first | (apply wl_call (samePays_con l want h1 h2); exact rfl; exact rfl) | (apply wl_callR (samePays_con l want h1 h2); exact rfl; exact zM; exact rfl))
  refine zS ?_
  (apply res1; exact rfl; exact rfl; exact ⟨rfl, rfl⟩)
 | false =>
  refine zS ?_
  (apply res1; exact rfl; exact rfl; exact ⟨rfl, rfl⟩)
theorem Con.args {P : Program} {k : FuncId} {avs avs' : List AV} {pre : List HA} {post : AV → List HA → Prop} (h : ∀ G vs, Fits G avs vs → Fits G avs' vs) (c : Con P k avs' pre post) : Con P k avs pre post :=
 ⟨c.enters, fun G Fp vs w hf hI => c.calls G Fp vs w (h G vs hf) hI⟩
theorem intsEq (l : List Int) (h1 : l.length ≤ 1000000) : Con Tryz.prog 43 [.sl 1 iC l, .val (.int .i64 0), .sl 1 iC l] [] (Is (.val (.bool true)) []) := by
 have := intsL_con l l 0 h1 h1
 rwa [show (decide ((0 : Int) = 0) && decide (l = l)) = true by simp] at this
theorem paysEq (l : List Pay) (h1 : l.length ≤ 1000000) : Con Tryz.prog 49 [.sl 3 payC l, .val (.int .i64 0), .sl 3 payC l] [] (Is (.val (.bool true)) []) := by
 have := paysL_con l l 0 h1 h1
 rwa [show (decide ((0 : Int) = 0) && decide (l = l)) = true by simp] at this
theorem paysNo : Con Tryz.prog 49 [.sl 3 payC [], .val (.int .i64 0), .val (.slice none 0 0)] [] (Is (.val (.bool true)) []) := by
 refine Con.args (fun G vs h => ?_) (paysEq [] (by simp))
 match vs, h with
 | [a, b, c], ⟨ha, hb, hc, _⟩ => exact ⟨ha, hb, nil_sl _ _ hc, trivial⟩
theorem listsEq (l : List (List Int)) (h1 : l.length ≤ 100000) (h2 : ∀ x ∈ l, x.length ≤ 100000) : Con Tryz.prog 57 [.sl 1 (slC 1 iC) l, .sl 1 (slC 1 iC) l] [] (Is (.val (.bool true)) []) := by
 have := sameLists8_con l l h1 h1 h2 h2
 rwa [show decide (l = l) = true by simp] at this
theorem spanSelf {W : Int → Int} (s : List Int) : spanF W s s = (sumW W s, sumW W s) := by
 have hT : TrueL s s s := by unfold TrueL; rw [dist_self]
 refine spanF_eq ⟨⟨s, hT, rfl⟩, ⟨s, hT, rfl⟩, fun l h => ?_⟩
 have h' : dist s l + dist l s = dist s s := h
 rw [dist_self] at h'
 obtain rfl := dist_zero s l (by omega)
 exact ⟨Int.le_refl _, Int.le_refl _⟩
def hsT : Flo := ⟨[1, 2, 3, 4], [], [⟨1, 1, 100, [⟨1, 1⟩, ⟨2, 1⟩, ⟨3, 1⟩]⟩, ⟨2, 2, 60, [⟨3, 1⟩, ⟨4, 2⟩]⟩, ⟨3, 4, 9, [⟨1, 1⟩]⟩], []⟩
set_option maxRecDepth 100000 in
theorem hs_tal : ofTR (hsF []) ⟨3, 4, 0, [⟨1, 1⟩]⟩ ⟨1, 1, [1, 2], [1, 2]⟩ ⟨6, 3, 0, 0⟩ = (hsT, 0) := by
 have ho : owedR ⟨1, 1, [1, 2], [1, 2]⟩ ⟨6, 3, 0, 0⟩ = ((9, 9), 0) := by
  rw [owedR_eq, if_pos (by decide), if_pos (by decide), spanSelf]; rfl
 unfold ofTR
 rw [if_pos hs_ok, ho]
 decide +kernel
theorem alive_con : Con Tryz.prog 14 [] [tab8, HA.tab] (Is (.val (.bool true)) [tab8, HA.tab]) := by
 have hS : Sml (hsF []) := hs_sml (by simp)
 have hS3 : Sml (hsF [⟨1, 3⟩, ⟨2, 3⟩, ⟨3, 4⟩]) := hs_sml (by simp)
 have hk := flo_f hs_ok
 have hA : errL (hsF []) = 0 → ∀ x ∈ lsF (hsF []), PayB x := fun he x hx => by
  obtain ⟨k, hk, hb⟩ := lsF_told hS he
  exact (hb x hx).payB (by omega)
 have hC : errL (hsF []) = 0 → ∀ m, m ≤ 5 → ∀ l ∈ lstsR (hsF []) (owed8 (hsF [])) m, PayB l := fun he m hm l hl => by
  have hok := errL_ok he
  exact (told (flo_f hok) hS (rises_of_ok hok) ((lists_perm (rises_of_ok hok) m).mem_iff.1 hl)).payB (by omega)
 have hD : errL (hsF []) = 0 → ∀ l ∈ lsF (hsF []), l.length ≤ 5 ∧ ∀ x ∈ l, OkP x := fun he l hl => by
  obtain ⟨k, hk, hb⟩ := lsF_told hS he
  exact ⟨by rw [(hb l hl).len]; omega, fun x hx => ((hb l hl).ok x hx).1⟩
 have C1 := Shares_con (hsF []) 1 hS
 have C2 := Net_con (hsF []) hS
 have C3 := Fewest_con (hsF []) hS
 have C4 := Settle_con (hsF []) hS hA
 have C5 := Cheapest_con (hsF []) hS hC
 have C6 := Count_con (hsF []) hS
 have C7 := Sure_con (hsF []) hS hD
 have C8 := Groups_con (hsF []) hS hA
 have C9 := Alone_con (hsF []) [1, 3] hS (by simp)
 have CA := judge_con (hsF []) [⟨3, 1, 53⟩] hS (by simp)
 have CB := Can_con (hsF [⟨1, 3⟩, ⟨2, 3⟩, ⟨3, 4⟩]) hS3
 have CC := flP2_frz (ofTally_con (hsF []) ⟨3, 4, 0, [⟨1, 1⟩]⟩ ⟨1, 1, [1, 2], [1, 2]⟩ ⟨6, 3, 0, 0⟩ hS (by simp) (by simp) (by simp))
 rw [hs_sha] at C1
 rw [hs_net] at C2
 rw [few_eq hS, hs_few] at C3
 rw [stl_eq hS, hs_stl] at C4
 rw [chp_eq hS, hs_chp] at C5
 rw [cnt_eq hS, hs_cnt] at C6
 rw [sur_eq hS, hs_sur] at C7
 rw [hs_grp] at C8
 rw [hs_alo] at C9
 rw [hs_jud] at CA
 rw [hs_can] at CB
 rw [hs_tal] at CC
 unfold jAV at CA
 dsimp only at C1 C2 C3 C4 C5 C6 C7 C8 C9 CA CB CC
 clear hA hC hD hk
 refine con_of Tryz.func14 rfl (enters_of Tryz.func14 (by kernel_rfl) rfl) rfl ?_; intro n w0 F0 G0
 refine zS ?_;repeat(refine yA ?_;intro p hp;refine zS ?_)
 (first | (apply wl_call (house0_con); exact rfl; exact rfl) | (apply wl_callR (house0_con); exact rfl; exact zM; exact rfl))
 refine zS ?_;repeat(refine yA ?_;intro p hp;refine zS ?_)
 (first | (apply wl_call (C1); exact rfl; exact rfl) | (apply wl_callR (C1); exact rfl; exact zM; exact rfl))
 refine zS ?_;repeat(refine yA ?_;intro p hp;refine zS ?_)
 (first | (apply wl_call (house0_con); exact rfl; exact rfl) | (apply wl_callR (house0_con); exact rfl; exact zM; exact rfl))
 refine zS ?_;repeat(refine yA ?_;intro p hp;refine zS ?_)
 (first | (apply wl_call (C2); exact rfl; exact rfl) | (apply wl_callR (C2); exact rfl; exact zM; exact rfl))
 refine zS ?_;repeat(refine yA ?_;intro p hp;refine zS ?_)
 (first | (apply wl_call (house0_con); exact rfl; exact rfl) | (apply wl_callR (house0_con); exact rfl; exact zM; exact rfl))
 refine zS ?_;repeat(refine yA ?_;intro p hp;refine zS ?_)
 (first | (apply wl_call (C3); exact rfl; exact rfl) | (apply wl_callR (C3); exact rfl; exact zM; exact rfl))
 refine zS ?_;repeat(refine yA ?_;intro p hp;refine zS ?_)
 (first | (apply wl_call (house0_con); exact rfl; exact rfl) | (apply wl_callR (house0_con); exact rfl; exact zM; exact rfl))
 refine zS ?_;repeat(refine yA ?_;intro p hp;refine zS ?_)
 (first | (apply wl_call (C4); exact rfl; exact rfl) | (apply wl_callR (C4); exact rfl; exact zM; exact rfl))
 refine zS ?_;repeat(refine yA ?_;intro p hp;refine zS ?_)
 (first | (apply wl_call (house0_con); exact rfl; exact rfl) | (apply wl_callR (house0_con); exact rfl; exact zM; exact rfl))
 refine zS ?_;repeat(refine yA ?_;intro p hp;refine zS ?_)
 (first | (apply wl_call (C5); exact rfl; exact rfl) | (apply wl_callR (C5); exact rfl; exact zM; exact rfl))
 refine zS ?_;repeat(refine yA ?_;intro p hp;refine zS ?_)
 (first | (apply wl_call (house0_con); exact rfl; exact rfl) | (apply wl_callR (house0_con); exact rfl; exact zM; exact rfl))
 refine zS ?_;repeat(refine yA ?_;intro p hp;refine zS ?_)
 (first | (apply wl_call (C6); exact rfl; exact rfl) | (apply wl_callR (C6); exact rfl; exact zM; exact rfl))
 refine zS ?_;repeat(refine yA ?_;intro p hp;refine zS ?_)
 (first | (apply wl_call (house0_con); exact rfl; exact rfl) | (apply wl_callR (house0_con); exact rfl; exact zM; exact rfl))
 refine zS ?_;repeat(refine yA ?_;intro p hp;refine zS ?_)
 (first | (apply wl_call (C7); exact rfl; exact rfl) | (apply wl_callR (C7); exact rfl; exact zM; exact rfl))
 refine zS ?_;repeat(refine yA ?_;intro p hp;refine zS ?_)
 (apply wl_litF iC; exact inferInstance; exact inferInstance; exact inferInstance; exact zE; exact rfl; (first | exact (of_decide_eq_true rfl) | decide | (simp; done) | (simp; omega)); exact rfl)
 refine zS ?_;repeat(refine yA ?_;intro p hp;refine zS ?_)
 (first | (apply wl_call (intsEq [34, 33, 33, 0] (by simp)); exact rfl; exact rfl) | (apply wl_callR (intsEq [34, 33, 33, 0] (by simp)); exact rfl; exact zM; exact rfl))
 refine zS ?_;repeat(refine yA ?_;intro p hp;refine zS ?_)
 (apply wl_litF iC; exact inferInstance; exact inferInstance; exact inferInstance; exact zE; exact rfl; (first | exact (of_decide_eq_true rfl) | decide | (simp; done) | (simp; omega)); exact rfl)
 refine zS ?_;repeat(refine yA ?_;intro p hp;refine zS ?_)
 (first | (apply wl_call (intsEq [66, 27, -53, -40] (by simp)); exact rfl; exact rfl) | (apply wl_callR (intsEq [66, 27, -53, -40] (by simp)); exact rfl; exact zM; exact rfl))
 refine zS ?_;repeat(refine yA ?_;intro p hp;refine zS ?_)
 (first | (apply wl_call (payL_con 3 1 26); exact rfl; exact rfl) | (apply wl_callR (payL_con 3 1 26); exact rfl; exact zM; exact rfl))
 refine zS ?_;repeat(refine yA ?_;intro p hp;refine zS ?_)
 (first | (apply wl_call (payL_con 3 2 27); exact rfl; exact rfl) | (apply wl_callR (payL_con 3 2 27); exact rfl; exact zM; exact rfl))
 refine zS ?_;repeat(refine yA ?_;intro p hp;refine zS ?_)
 (first | (apply wl_call (payL_con 4 1 40); exact rfl; exact rfl) | (apply wl_callR (payL_con 4 1 40); exact rfl; exact zM; exact rfl))
 refine zS ?_;repeat(refine yA ?_;intro p hp;refine zS ?_)
 (apply wl_litF payC (xs := [⟨3, 1, 26⟩, ⟨3, 2, 27⟩, ⟨4, 1, 40⟩]); exact inferInstance; exact inferInstance; exact inferInstance; exact zE; exact rfl; (first | exact (of_decide_eq_true rfl) | decide | (simp; done) | (simp; omega)); exact rfl)
 refine zS ?_;repeat(refine yA ?_;intro p hp;refine zS ?_)
 (first | (apply wl_call (paysEq [⟨3, 1, 26⟩, ⟨3, 2, 27⟩, ⟨4, 1, 40⟩] (by simp)); exact rfl; exact rfl) | (apply wl_callR (paysEq [⟨3, 1, 26⟩, ⟨3, 2, 27⟩, ⟨4, 1, 40⟩] (by simp)); exact rfl; exact zM; exact rfl))
 refine zS ?_;repeat(refine yA ?_;intro p hp;refine zS ?_)
 (first | (apply wl_call (paysNo); exact rfl; exact rfl) | (apply wl_callR (paysNo); exact rfl; exact zM; exact rfl))
 refine zS ?_;repeat(refine yA ?_;intro p hp;refine zS ?_)
 (first | (apply wl_call (house0_con); exact rfl; exact rfl) | (apply wl_callR (house0_con); exact rfl; exact zM; exact rfl))
 refine zS ?_;repeat(refine yA ?_;intro p hp;refine zS ?_)
 (first | (apply wl_call (C8); exact rfl; exact rfl) | (apply wl_callR (C8); exact rfl; exact zM; exact rfl))
 refine zS ?_;repeat(refine yA ?_;intro p hp;refine zS ?_)
 (first | (apply wl_call (house0_con); exact rfl; exact rfl) | (apply wl_callR (house0_con); exact rfl; exact zM; exact rfl))
 refine zS ?_;repeat(refine yA ?_;intro p hp;refine zS ?_)
 (apply wl_litF iC; exact inferInstance; exact inferInstance; exact inferInstance; exact zE; exact rfl; (first | exact (of_decide_eq_true rfl) | decide | (simp; done) | (simp; omega)); exact rfl)
 refine zS ?_;repeat(refine yA ?_;intro p hp;refine zS ?_)
 (first | (apply wl_call (C9); exact rfl; exact rfl) | (apply wl_callR (C9); exact rfl; exact zM; exact rfl))
 refine zS ?_;repeat(refine yA ?_;intro p hp;refine zS ?_)
 (first | (apply wl_call (house0_con); exact rfl; exact rfl) | (apply wl_callR (house0_con); exact rfl; exact zM; exact rfl))
 refine zS ?_;repeat(refine yA ?_;intro p hp;refine zS ?_)
 (first | (apply wl_call (payL_con 3 1 53); exact rfl; exact rfl) | (apply wl_callR (payL_con 3 1 53); exact rfl; exact zM; exact rfl))
 refine zS ?_;repeat(refine yA ?_;intro p hp;refine zS ?_)
 (apply wl_litF payC (xs := [⟨3, 1, 53⟩]); exact inferInstance; exact inferInstance; exact inferInstance; exact zE; exact rfl; (first | exact (of_decide_eq_true rfl) | decide | (simp; done) | (simp; omega)); exact rfl)
 refine zS ?_;repeat(refine yA ?_;intro p hp;refine zS ?_)
 (first | (apply wl_call (CA); exact rfl; exact rfl) | (apply wl_callR (CA); exact rfl; exact zM; exact rfl))
 refine zS ?_;repeat(refine yA ?_;intro p hp;refine zS ?_)
 (first | (apply wl_call (quaL_con 1 3); exact rfl; exact rfl) | (apply wl_callR (quaL_con 1 3); exact rfl; exact zM; exact rfl))
 refine zS ?_;repeat(refine yA ?_;intro p hp;refine zS ?_)
 (first | (apply wl_call (quaL_con 2 3); exact rfl; exact rfl) | (apply wl_callR (quaL_con 2 3); exact rfl; exact zM; exact rfl))
 refine zS ?_;repeat(refine yA ?_;intro p hp;refine zS ?_)
 (first | (apply wl_call (quaL_con 3 4); exact rfl; exact rfl) | (apply wl_callR (quaL_con 3 4); exact rfl; exact zM; exact rfl))
 refine zS ?_;repeat(refine yA ?_;intro p hp;refine zS ?_)
 (apply wl_litF quC (xs := [⟨1, 3⟩, ⟨2, 3⟩, ⟨3, 4⟩]); exact inferInstance; exact inferInstance; exact inferInstance; exact zE; exact rfl; (first | exact (of_decide_eq_true rfl) | decide | (simp; done) | (simp; omega)); exact rfl)
 refine zS ?_;repeat(refine yA ?_;intro p hp;refine zS ?_)
 (first | (apply wl_call (houseL_con [⟨1, 3⟩, ⟨2, 3⟩, ⟨3, 4⟩]); exact rfl; exact rfl) | (apply wl_callR (houseL_con [⟨1, 3⟩, ⟨2, 3⟩, ⟨3, 4⟩]); exact rfl; exact zM; exact rfl))
 refine zS ?_;repeat(refine yA ?_;intro p hp;refine zS ?_)
 (first | (apply wl_call (CB); exact rfl; exact rfl) | (apply wl_callR (CB); exact rfl; exact zM; exact rfl))
 refine zS ?_;repeat(refine yA ?_;intro p hp;refine zS ?_)
 (first | (apply wl_call (house0_con); exact rfl; exact rfl) | (apply wl_callR (house0_con); exact rfl; exact zM; exact rfl))
 refine zS ?_;repeat(refine yA ?_;intro p hp;refine zS ?_)
 (apply wl_litF stC (xs := [⟨1, 1⟩]); exact inferInstance; exact inferInstance; exact inferInstance; exact zE; exact rfl; (first | exact (of_decide_eq_true rfl) | decide | (simp; done) | (simp; omega)); exact rfl)
 refine zS ?_;repeat(refine yA ?_;intro p hp;refine zS ?_)
 (apply wl_litF iC; exact inferInstance; exact inferInstance; exact inferInstance; exact zE; exact rfl; (first | exact (of_decide_eq_true rfl) | decide | (simp; done) | (simp; omega)); exact rfl)
 refine zS ?_;repeat(refine yA ?_;intro p hp;refine zS ?_)
 (apply wl_litF iC; exact inferInstance; exact inferInstance; exact inferInstance; exact zE; exact rfl; (first | exact (of_decide_eq_true rfl) | decide | (simp; done) | (simp; omega)); exact rfl)
 refine zS ?_;repeat(refine yA ?_;intro p hp;refine zS ?_)
 refine WL_as 140 (.agg (biC ⟨3, 4, 0, [⟨1, 1⟩]⟩)) rfl ?_
 refine WL_as 143 (.agg (tC ⟨1, 1, [1, 2], [1, 2]⟩)) rfl ?_
 refine WL_as 144 (.agg (rC ⟨6, 3, 0, 0⟩)) rfl ?_
 (apply wl_callP (CC); exact rfl; exact yC; exact rfl)
 rintro _ _ ⟨rfl, rfl⟩
 refine zS ?_;repeat(refine yA ?_;intro p hp;refine zS ?_)
 (apply wl_litF iC; exact inferInstance; exact inferInstance; exact inferInstance; exact zE; exact rfl; (first | exact (of_decide_eq_true rfl) | decide | (simp; done) | (simp; omega)); exact rfl)
 refine zS ?_;repeat(refine yA ?_;intro p hp;refine zS ?_)
 (apply wl_litF (slC 1 iC) (xs := [[1, 2, 3, 4]]); exact inferInstance; exact inferInstance; exact inferInstance; exact zE; exact rfl; (first | exact (of_decide_eq_true rfl) | decide | (simp; done) | (simp; omega)); exact rfl)
 refine zS ?_;repeat(refine yA ?_;intro p hp;refine zS ?_)
 (first | (apply wl_call (listsEq [[1, 2, 3, 4]] (by simp) (by simp)); exact rfl; exact rfl) | (apply wl_callR (listsEq [[1, 2, 3, 4]] (by simp) (by simp)); exact rfl; exact zM; exact rfl))
 refine zS ?_;repeat(refine yA ?_;intro p hp;refine zS ?_)
 (apply wl_litF iC; exact inferInstance; exact inferInstance; exact inferInstance; exact zE; exact rfl; (first | exact (of_decide_eq_true rfl) | decide | (simp; done) | (simp; omega)); exact rfl)
 refine zS ?_;repeat(refine yA ?_;intro p hp;refine zS ?_)
 (first | (apply wl_call (intsEq [13, 27, 0, -40] (by simp)); exact rfl; exact rfl) | (apply wl_callR (intsEq [13, 27, 0, -40] (by simp)); exact rfl; exact zM; exact rfl))
 refine zS ?_;repeat(refine yA ?_;intro p hp;refine zS ?_)
 have hlt : 2 < hsT.bs.length := by decide
 (apply wl_indexSl; exact rfl; exact rfl; exact (rfl : (2 : Int) = ((2 : Nat) : Int)); exact hlt; exact rfl)
 refine zS ?_;repeat(refine yA ?_;intro p hp;refine zS ?_)
 (apply resK1; exact rfl; exact rfl; exact ⟨rfl, rfl⟩; exact yC)
theorem ready_con (f : Flo) : Con Tryz.prog 15 [.agg (flC f)] [] (Is (.val (.bool (!greatF f && floOk f))) []) := by
 refine con_of Tryz.func15 rfl (enters_of Tryz.func15 (by kernel_rfl) rfl) rfl ?_; intro n w0 F0 G0
 refine zS ?_;repeat(refine yA ?_;intro p hp;refine zS ?_)
 (first | (apply wl_call (great8_con f); exact rfl; exact rfl) | (apply wl_callR (great8_con f); exact rfl; exact zM; exact rfl))
 refine zS ?_
 cases hg : greatF f with
 | true =>
  refine zS ?_
  (apply res1; exact rfl; exact rfl; exact ⟨rfl, rfl⟩)
 | false =>
  have hS := sml_small hg
  refine zS ?_
  (first | (apply wl_call (floors_con f hS); exact rfl; exact rfl) | (apply wl_callR (floors_con f hS); exact rfl; exact zM; exact rfl))
  refine zS ?_
  (apply res1; exact rfl; exact rfl; exact ⟨rfl, rfl⟩)
theorem ready_ok {f : Flo} (h : (!greatF f && floOk f) = true) : Sml f ∧ floOk f = true := by
 rw [Bool.and_eq_true, Bool.not_eq_true'] at h
 exact ⟨sml_small h.1, h.2⟩
end Go.Proofs.YtihonljdanjfmaaGreatDoor.Sw
namespace Go.Proofs.YtihonljdanjfmaaGreatDoor.Sw
open Go.RowKit Go Go.Shelf Go.Proofs
open Go.Proofs.YtihonljdanjfmaaGreatDoor.Gr (treeR pick sub_pick pick_sub)
end Go.Proofs.YtihonljdanjfmaaGreatDoor.Sw
namespace Go.Proofs.YtihonljdanjfmaaGreatDoor.Sw
open Go.RowKit Go Go.Shelf Go.Proofs
open Go.Proofs.YtihonljdanjfmaaGreatDoor.Gr (SortedP payLt payLt_no)
def onlyB (f : Flo) (x : Pay) (id : Int) : Bool := decide (id = x.a) || (decide (id = x.b) || !speakR f.qs id x.a)
structure SureF (f : Flo) (xs : List (List Pay)) (s l : List Pay) : Prop where
 sl : ∀ x ∈ s, x ∈ l
 od : ∀ i (h : i < s.length) (h1 : i - 1 < s.length), 0 < i → ¬ s[i].a < s[i - 1].a ∧ (s[i - 1].a = s[i].a → s[i - 1].b < s[i].b)
 on : ∀ x ∈ l, f.ids.all (onlyB f x) = true → x ∈ s
 ne : 1 ≤ xs.length
 one : xs.length = 1 → s = l
 none : l.length = 0 → xs.length = 1
 sn : s.length ≤ 1000
 ln : l.length ≤ 1000
end Go.Proofs.YtihonljdanjfmaaGreatDoor.Sw
namespace Go.Proofs.YtihonljdanjfmaaGreatDoor.Sw
open Go.RowKit Go Go.Shelf Go.Proofs
end Go.Proofs.YtihonljdanjfmaaGreatDoor.Sw
