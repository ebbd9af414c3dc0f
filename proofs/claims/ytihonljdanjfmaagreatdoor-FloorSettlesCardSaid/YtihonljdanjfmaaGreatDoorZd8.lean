/- Proofs for the seat's cards: FloorLd, FloorLe, FloorLf, FloorCe, FloorDa, FloorCg, FloorDb, FloorLp, FloorLg, FloorLh, FloorLi, FloorLj, FloorLk, FloorLl, SwN, FloorLm, FloorDd, FloorLn, FloorLo. No condition of its own. -/
import Derived.WideKeyEntry
import Derived.Test.YtihonljdanjfmaaGreatDoorZd7
set_option linter.unusedVariables false
set_option linter.unusedSimpArgs false
set_option maxRecDepth 40000
set_option maxHeartbeats 32000000
namespace Go.Proofs.YtihonljdanjfmaaGreatDoor.Sw
open Go.RowKit Go Go.Shelf Go.Proofs
open Go.Proofs.YtihonljdanjfmaaGreatDoor.Gr (Ok Ord Forest Zr lf headsR hf Lab)
theorem clonePr_con (xs : List (Nat × Nat)) (hl : xs.length ≤ 100000) : Con Tryz.prog 122 [.sl 2 pnC xs] [] (Tok 122 2 pnC xs) := by
 refine con_of Tryz.func122 rfl (enters_of Tryz.func122 (by kernel_rfl) rfl) rfl ?_; intro n w0 F0 G0
 refine zS ?_
 apply wl_eqlNil
 ·exact rfl
 ·exact inferInstance
 ·exact rfl
 intro b hb
 refine zS ?_
 refine w_cond rfl (fun h => ?_) (fun h => ?_)
 ·obtain rfl := hb h
  refine zS ?_
  refine Res_row0 122 2 pnC ?_
  (apply resK; exact rfl; exact rfl; (apply Cut.cons; exact zN; exact Cut.nil); exact ⟨_, rfl, rfl⟩)
 ·refine zS ?_
  (apply wl_lit pnC; exact inferInstance; exact inferInstance; exact inferInstance; exact zE; exact rfl; (first | exact (of_decide_eq_true rfl) | decide | (simp; done) | (simp; omega)); exact rfl)
  intro v0
  refine zS ?_
  (first | (apply wl_append; exact rfl; exact rfl; exact zN; exact inferInstance; exact inferInstance; (first | omega | (simp; omega)); exact rfl) | (apply wl_appendN; exact rfl; exact rfl; exact inferInstance; exact inferInstance; (first | omega | (simp; omega)); exact rfl))
  intro v1
  refine zS ?_
  (apply resK; exact rfl; exact rfl; (apply Cut.cons; exact zN; exact Cut.nil); exact ⟨_, rfl, rfl⟩)
def apB (n : Nat) (l : List (Nat × Nat)) (p : Nat × Nat) : Bool := decide (hf (headsR n l) p.1 ≠ hf (headsR n l) p.2)
noncomputable def leafG (f : Flo) (cu : List Int) (l : List (Nat × Nat)) : List (List Pay) := if evB f.ids.length l cu = true then (lstR f.ids l cu).toList else []
noncomputable def chG (f : Flo) (cu : List Int) (many : Nat) : List (Nat × Nat) → List (Nat × Nat) → List (List Pay)
 | [], l => if l.length = many then leafG f cu l else []
 | p :: t, l => if l.length = many then leafG f cu l else (if apB f.ids.length l p = true then chG f cu many t (l ++ [p]) else []) ++ chG f cu many t l
theorem chG_yes {f : Flo} {cu : List Int} {many : Nat} {l : List (Nat × Nat)} (h : l.length = many) : ∀ rest, chG f cu many rest l = leafG f cu l
 | [] => by rw [chG, if_pos h]
 | _ :: _ => by rw [chG, if_pos h]
theorem chG_nil {f : Flo} {cu : List Int} {many : Nat} {l : List (Nat × Nat)} (h : l.length ≠ many) : chG f cu many [] l = [] := by rw [chG, if_neg h]
theorem chG_cons {f : Flo} {cu : List Int} {many : Nat} {p : Nat × Nat} {t l : List (Nat × Nat)} (h : l.length ≠ many) : chG f cu many (p :: t) l = (if apB f.ids.length l p = true then chG f cu many t (l ++ [p]) else []) ++ chG f cu many t l := by rw [chG, if_neg h]
structure Chs (n : Nat) (Lp : List (Nat × Nat)) (fr many : Nat) (l : List (Nat × Nat)) : Prop where
 nd : l.Nodup
 sub : ∀ q ∈ l, q ∈ Lp.take fr
 fo : Forest l
 le : l.length ≤ many
theorem Chs.props {n : Nat} {Lp : List (Nat × Nat)} {fr many : Nat} {l : List (Nat × Nat)} (h : Chs n Lp fr many l) (hL : ∀ p ∈ Lp, p.1 < p.2 ∧ p.2 < n) : Ok n l ∧ Ord l ∧ ∀ p ∈ l, p.1 < n ∧ p.2 < n := by
 have hm : ∀ p ∈ l, p.1 < p.2 ∧ p.2 < n := fun p hp => hL p (List.mem_of_mem_take (h.sub p hp))
 exact ⟨⟨h.nd, fun p hp => by have := hm p hp; omega⟩, fun p hp => (hm p hp).1, fun p hp => by have := hm p hp; omega⟩
theorem Chs.step {n : Nat} {Lp : List (Nat × Nat)} {fr many i : Nat} {l : List (Nat × Nat)} (h : Chs n Lp fr many l) (hn : Lp.Nodup) (hL : ∀ p ∈ Lp, p.1 < p.2 ∧ p.2 < n) (hfr : fr ≤ i) (hi : i < Lp.length) (hne : l.length ≠ many) (hap : apB n l Lp[i] = true) : Chs n Lp (i + 1) many (l ++ [Lp[i]]) := by
 obtain ⟨hok, _, hlt⟩ := h.props hL
 have hni : Lp[i] ∉ l := fun hm => by
  have h1 := List.mem_of_mem_take (show Lp[i] ∈ Lp.take fr from h.sub _ hm)
  obtain ⟨j, hj, e⟩ := List.getElem_of_mem (h.sub _ hm)
  rw [List.getElem_take] at e
  have hjl : j < Lp.length := by rw [List.length_take] at hj; omega
  have hj2 : j < fr := by rw [List.length_take] at hj; omega
  have := (List.getElem_inj hn).1 e
  omega
 have hnd : (l ++ [Lp[i]]).Nodup := List.nodup_append.2 ⟨h.nd, by simp, fun a ha b hb e => by
  have : b = Lp[i] := by simpa using hb
  subst e this; exact hni ha⟩
 have hp := hL _ (List.getElem_mem hi)
 refine ⟨hnd, fun q hq => ?_, (Gr.forest_snoc hnd).2 ⟨h.fo, (Gr.lab_apart (Gr.lab_all hlt) (by omega) hp.2).1 (of_decide_eq_true hap)⟩, by rw [List.length_append, List.length_singleton]; have := h.le; omega⟩
 rw [List.take_succ_eq_append_getElem hi]
 rcases List.mem_append.1 hq with hq | hq
 ·refine List.mem_append.2 (.inl ?_)
  have := h.sub q hq
  exact List.take_subset_take_left Lp hfr this
 ·exact List.mem_append.2 (.inr hq)
abbrev capC (ph yv p9 : Value) (many : Nat) (Lp : List (Nat × Nat)) : List AV := [.fp 1 [.val (.int .i64 many)], .fp 1 [.val ph], .fp 1 [.val yv], .fp 1 [.sl 2 pnC Lp], .val p9]
abbrev preC {β : Type} (ph ow yv p9 : Value) (f : Flo) (cu : List Int) (many : Nat) (Lp : List (Nat × Nat)) (H : β → List HA) (b : β) : List HA := [.box p9 [.clo 120 (capC ph yv p9 many Lp)] 172, hsB ph f ow, .row ow 3 1 iC cu, .pack (H b)]
def lsC (x : List Pay) (_ : Unit) : List AV := [.sl 3 payC x]
theorem choose_con {β βx : Type} (ph ow yv p9 : Value) (f : Flo) (cu : List Int) (many : Nat) (Lp : List (Nat × Nat)) (XS : List (List Pay)) (H : β → List HA) (Hx : βx → List HA) (I : Nat → β → Prop) (Ix : Nat → βx → Prop)
  (hF : FloF f) (hm5 : many ≤ 5) (hLn : Lp.Nodup) (hLl : Lp.length ≤ 15) (hL : ∀ p ∈ Lp, p.1 < p.2 ∧ p.2 < f.ids.length) (hcl : cu.length = f.ids.length) (hbt : Btw (-1000000000) 1000000000 cu)
  (hY : ∀ k (hk : k < XS.length) b (u : Unit), I k b → Yield Tryz.prog yv (lsC XS[k] u) (([hsB ph f ow, .row ow 3 1 iC cu] ++ []) ++ [.pack (H b)]) fun av prod => (av = .val (.bool true) ∧ ∃ b', I (k + 1) b' ∧ prod = [hsB ph f ow, .row ow 3 1 iC cu] ++ [.pack (H b')]) ∨ (av = .val (.bool false) ∧ ∃ b', Ix (k + 1) b' ∧ prod = [hsB ph f ow, .row ow 3 1 iC cu] ++ [.pack (Hx b')])) :
  ∀ (m fr : Nat) (l : List (Nat × Nat)) (k0 : Nat) (b : β), Lp.length - fr = m → fr ≤ Lp.length → Chs f.ids.length Lp fr many l → chG f cu many (Lp.drop fr) l <+: XS.drop k0 → I k0 b →
   Con Tryz.prog 120 ([.sl 2 pnC l, .val (.int .i64 fr)] ++ capC ph yv p9 many Lp) (preC ph ow yv p9 f cu many Lp H b) fun av prod =>
    (av = .val (.bool true) ∧ ∃ b', I (k0 + (chG f cu many (Lp.drop fr) l).length) b' ∧ prod = preC ph ow yv p9 f cu many Lp H b') ∨
    (av = .val (.bool false) ∧ ∃ k b', 0 < k ∧ k ≤ XS.length ∧ Ix k b' ∧ prod = preC ph ow yv p9 f cu many Lp Hx b') := by
 have hn := hF.ids
 intro m
 induction m using Nat.strongRecOn with
 | _ m ih =>
  intro fr l k0 b hfm hfr hch hpre hI
  obtain ⟨hok, hord, hlt⟩ := hch.props hL
  have hle := hch.le
  have hbb := hbt
  refine con_of Tryz.func120 rfl (enters_of Tryz.func120 (by kernel_rfl) rfl) rfl ?_; intro n w0 F0 G0
  refine zS ?_;repeat(refine yA ?_;intro p hp;refine zS ?_)
  refine W_scope ?_
  refine zS ?_;repeat(refine yA ?_;intro p hp;refine zS ?_)
  refine w_cond rfl (fun hm => ?_) (fun hm => ?_)
  ·have hm' : l.length = many := by have := of_decide_eq_true hm; omega
   rw [chG_yes hm'] at hpre ⊢
   unfold leafG at hpre ⊢
   refine zS ?_;repeat(refine yA ?_;intro p hp;refine zS ?_)
   (apply wl_callP (even_con ph ow f cu l (by omega) (by omega) hlt hcl hbt); exact rfl; exact yC; exact rfl)
   rintro _ _ ⟨rfl, rfl⟩
   refine zS ?_;repeat(refine yA ?_;intro p hp;refine zS ?_)
   cases hev : evB f.ids.length l cu with
   | false =>
    rw [if_neg (by simp)]
    refine zS ?_;repeat(refine yA ?_;intro p hp;refine zS ?_)
    (apply resK1; exact rfl; exact rfl; exact .inl ⟨rfl, b, hI, rfl⟩; exact yC)
   | true =>
    rw [if_pos rfl]
    rw [hev, if_pos rfl] at hpre
    have hz := (evB_iff hlt).1 hev
    have CL := list_con ph ow f cu l (by omega) (by omega) hcl hbt hok hord hch.fo hz
    refine zS ?_;repeat(refine yA ?_;intro p hp;refine zS ?_)
    cases hls : lstR f.ids l cu with
    | none =>
     rw [hls] at CL
     unfold treeA at CL
     (apply wl_callP (CL); exact rfl; exact yC; exact rfl)
     rintro _ _ ⟨rfl, rfl⟩
     refine zS ?_;repeat(refine yA ?_;intro p hp;refine zS ?_)
     (apply resK1; exact rfl; exact rfl; exact .inl ⟨rfl, b, hI, rfl⟩; exact yC)
    | some out =>
     rw [hls] at CL hpre
     unfold treeA at CL
     obtain ⟨s, hs⟩ := hpre
     have hk0 : k0 < XS.length := by
      have := congrArg List.length hs
      simp at this; omega
     have hx0 : XS[k0] = out := by
      have h1 : out :: s = XS[k0] :: XS.drop (k0 + 1) := hs.trans (List.drop_eq_getElem_cons hk0)
      injection h1 with h1 h2
      exact h1.symm
     have Y := hY k0 hk0 b () hI
     rw [hx0] at Y
     (apply wl_callP (CL); exact rfl; exact yC; exact rfl)
     rintro _ _ ⟨rfl, rfl⟩
     refine zS ?_;repeat(refine yA ?_;intro p hp;refine zS ?_)
     (apply wl_yield Y; exact rfl; exact rfl; exact yC; exact rfl)
     rintro _ _ (⟨rfl, b', hb', rfl⟩ | ⟨rfl, b', hb', rfl⟩)
     ·refine zS ?_;repeat(refine yA ?_;intro p hp;refine zS ?_)
      (apply resK1; exact rfl; exact rfl; exact .inl ⟨rfl, b', hb', rfl⟩; exact yC)
     ·refine zS ?_;repeat(refine yA ?_;intro p hp;refine zS ?_)
      (apply resK1; exact rfl; exact rfl; exact .inr ⟨rfl, k0 + 1, b', by omega, by omega, hb', rfl⟩; exact yC)
  ·have hm' : l.length ≠ many := fun h => by have := of_decide_eq_false hm; omega
   have hrest : chG f cu many (Lp.drop fr) l = chG f cu many (Lp.drop fr) l := rfl
   refine zS ?_;repeat(refine yA ?_;intro p hp;refine zS ?_)
   (apply wl_callP (groups_con ph ow f l (by omega) (by omega) hlt); exact rfl; exact yC; exact rfl)
   rintro _ _ ⟨u, rfl, rfl⟩
   refine zS ?_;repeat(refine yA ?_;intro p hp;refine zS ?_)
   refine W_label ?_
   refine zS ?_;repeat(refine yA ?_;intro p hp;refine zS ?_)
   have hhl := headsR_len f.ids.length l
   have hhf : ∀ v, v < f.ids.length → hf (headsR f.ids.length l) v = (headsR f.ids.length l).getD v 0 := fun v _ => rfl
   unfold preC
   refine W_loopJ (fun (b : Nat × Nat × β) => ⟨[(0, .sl 2 pnC l), (2, .fp 1 [.val (.int .i64 many)]), (3, .fp 1 [.val ph]), (4, .fp 1 [.val yv]), (5, .fp 1 [.sl 2 pnC Lp]), (6, .val p9), (12, .val u), (13, .val (.int .i64 b.1))], [.row u 3 1 nC (headsR f.ids.length l), .box p9 [.clo 120 (capC ph yv p9 many Lp)] 172, hsB ph f ow, .row ow 3 1 iC cu, .pack (H b.2.2)]⟩)
    (fun b => fr ≤ b.1 ∧ b.1 ≤ Lp.length ∧ I b.2.1 b.2.2 ∧ chG f cu many (Lp.drop b.1) l <+: XS.drop b.2.1 ∧ b.2.1 + (chG f cu many (Lp.drop b.1) l).length = k0 + (chG f cu many (Lp.drop fr) l).length) (fun b => Lp.length - b.1) (fr, k0, b) (fun _ _ st => st_sub2 st zR zP) ⟨Nat.le_refl _, hfr, hI, hpre, rfl⟩ ?_
   rintro ⟨i, k, b2⟩ ⟨hi1, hi2, hIk, hpk, hkl⟩
   dsimp only at hi1 hi2 hIk hpk hkl ⊢
   refine zS ?_;repeat(refine yA ?_;intro p hp;refine zS ?_)
   refine w_cond rfl (fun hlt2 => ?_) (fun hlt2 => ?_)
   ·have hi' : i < Lp.length := by simpa using hlt2
    have hp := hL _ (List.getElem_mem hi')
    have hq3 : Lp[i]? = some Lp[i] := List.getElem?_eq_getElem hi'
    rw [drop_step hi', chG_cons hm'] at hpk hkl
    have hq1 : (headsR f.ids.length l)[Lp[i].1]? = some (headsR f.ids.length l)[Lp[i].1] := List.getElem?_eq_getElem (by omega)
    have hq2 : (headsR f.ids.length l)[Lp[i].2]? = some (headsR f.ids.length l)[Lp[i].2] := List.getElem?_eq_getElem (by omega)
    have hap : apB f.ids.length l Lp[i] = !decide (((headsR f.ids.length l)[Lp[i].1] : Int) = (headsR f.ids.length l)[Lp[i].2]) := by
     unfold apB
     rw [hf_at (by omega), hf_at (by omega)]
     by_cases h : (headsR f.ids.length l)[Lp[i].1] = (headsR f.ids.length l)[Lp[i].2]
     ·simp [h]
     ·rw [decide_eq_true h, decide_eq_false (fun e => h (by omega))]; rfl
    refine zS ?_;repeat(refine yA ?_;intro p hp;refine zS ?_)
    refine W_run 10 [50, 51, 52, 53, 54, 55, 56, 57, 58, 59] [0, 1, 2, 3, 4, 5, 6, 7, 8, 9] Cut.nil rfl goFlt mixedS (by kernel_rfl) rfl ?_
    refine rpv [] [] ?_
    refine rpv [] [] ?_
    refine rpv [1] [] ?_
    refine rpv [0, 2] [] ?_
    refine rpv [3] [] ?_
    refine rpv [] [] ?_
    refine rpv [] [] ?_
    refine rpv [6] [] ?_
    refine rpv [5, 7] [] ?_
    refine rpv [8] [] ?_
    refine ⟨⟨by kernel_rfl, by kernel_rfl⟩, fun vs => ?_⟩
    apply WL_auto [4, 9]
    ·exact goPk
    ·exact goNrm
    ·kernel_rfl
    ·kernel_rfl
    refine zS ?_;repeat(refine yA ?_;intro p hp;refine zS ?_)
    refine w_cond rfl (fun heq => ?_) (fun heq => ?_)
    ·rw [heq] at hap
     rw [hap, if_neg (by simp), List.nil_append] at hpk hkl
     refine zS ?_;repeat(refine yA ?_;intro p hp;refine zS ?_)
     (refine ⟨(i + 1, k, b2), fun _ _ st => st_sub2 st ?_ ?_, ?_, ?_⟩; exact zR; exact zP)
     ·exact ⟨by dsimp only; omega, hi', hIk, hpk, hkl⟩
     ·dsimp only; omega
    ·rw [heq] at hap
     rw [hap, if_pos (by rfl), List.length_append] at hkl
     rw [hap, if_pos (by rfl)] at hpk
     have hch2 := hch.step hLn hL hi1 hi' hm' hap
     have IH := ih (Lp.length - (i + 1)) (by omega) (i + 1) (l ++ [Lp[i]]) k b2 rfl hi' hch2 ((List.prefix_append _ _).trans hpk) hIk
     refine zS ?_;repeat(refine yA ?_;intro p hp;refine zS ?_)
     refine W_run 11 [61, 62, 63, 64, 65, 66, 67, 68, 69, 70, 71] [0, 1, 3, 4, 5, 6, 7, 8, 9, 10] Cut.nil rfl goFlt mixedS (by kernel_rfl) rfl ?_
     refine rpv [] [] ?_
     refine rpv [] [] ?_
     refine Run.tok [1] [] rfl (fun vs => by apply ltr_pk; exact goPk; (refine ltr ?_; refine lt_call ?_ (clonePr_con l (by omega)); exact rfl)) goApp ?_
     refine Run.pv [] [] rfl (fun vs => by apply ltr_pk; exact goPk; (refine ltr ?_; apply lt_loadE1'; exact rfl; exact rfl; exact rfl)) goApp ?_
     refine rpv [] [] ?_
     refine rpv [3, 4] [] ?_
     refine rpv [5] [] ?_
     refine Run.pv [6] [] rfl (fun vs => by apply ltr_pk; exact goPk; (refine ltr ?_; apply LT_frz; apply lt_lit (f := pnC); exact zE; exact rfl; (first | exact (of_decide_eq_true rfl) | decide | (simp; done) | (simp; omega)))) goApp ?_
     refine Run.tok [2, 7] [2] rfl (fun vs => by apply ltr_pk; exact goPk; (refine ltr ?_; apply lt_append; exact rfl; exact rfl; (first | omega | (simp; omega)))) goApp ?_
     refine rpv [] [] ?_
     refine rpv [9] [] ?_
     refine ⟨⟨by kernel_rfl, by kernel_rfl⟩, fun vs => ?_⟩
     apply WL_auto [0, 8, 10]
     ·exact goPk
     ·exact goNrm
     ·kernel_rfl
     ·kernel_rfl
     refine zS ?_;repeat(refine yA ?_;intro p hp;refine zS ?_)
     (apply WL_frz 69; exact rfl; exact zN)
     refine zS ?_;repeat(refine yA ?_;intro p hp;refine zS ?_)
     (apply wl_callVP IH; exact rfl; exact rfl; exact yC; exact rfl)
     rintro _ _ (⟨rfl, b', hb', rfl⟩ | ⟨rfl, k', b', h1, h2, hb', rfl⟩)
     ·refine zS ?_;repeat(refine yA ?_;intro p hp;refine zS ?_)
      (refine ⟨(i + 1, k + (chG f cu many (Lp.drop (i + 1)) (l ++ [Lp[i]])).length, b'), fun _ _ st => st_sub2 st ?_ ?_, ?_, ?_⟩; exact zR; exact zP)
      ·refine ⟨by dsimp only; omega, hi', hb', ?_, by dsimp only; omega⟩
       obtain ⟨s, hs⟩ := hpk
       refine ⟨s, ?_⟩
       have := congrArg (List.drop (chG f cu many (Lp.drop (i + 1)) (l ++ [Lp[i]])).length) hs
       rw [List.append_assoc, List.drop_left, List.drop_drop] at this
       exact this
      ·dsimp only; omega
     ·refine zS ?_;repeat(refine yA ?_;intro p hp;refine zS ?_)
      (apply resK1; exact rfl; exact rfl; exact .inr ⟨rfl, k', b', h1, h2, hb', rfl⟩; exact yC)
   ·have hii : i = Lp.length := by simp at hlt2; omega
    subst hii
    rw [List.drop_length, chG_nil hm'] at hkl
    refine zS ?_;repeat(refine yA ?_;intro p hp;refine zS ?_)
    have hIf : I (k0 + (chG f cu many (Lp.drop fr) l).length) b2 := by rw [← hkl]; exact hIk
    (apply resK1; exact rfl; exact rfl; exact .inl ⟨rfl, b2, hIf, rfl⟩; exact yC)
theorem Con.arg {P : Program} {k : FuncId} {av av' : AV} {t : List AV} {pre : List HA} {post : AV → List HA → Prop} (h : ∀ G v, av.P G v → av'.P G v) (c : Con P k (av' :: t) pre post) : Con P k (av :: t) pre post :=
 ⟨c.enters, fun G Fp vs w hf hI => by
  match vs, hf with
  | v :: vs, ⟨h1, h2⟩ => exact c.calls G Fp (v :: vs) w ⟨h _ _ h1, h2⟩ hI⟩
noncomputable def lstsR (f : Flo) (cu : List Int) (many : Nat) : List (List Pay) := chG f cu many (prP (spk f) f.ids.length) []
theorem prI_nodup (sp : Nat → Nat → Bool) (i k : Nat) : (prI sp i k).Nodup := by
 unfold prI
 rw [List.Nodup, List.pairwise_map]
 exact (List.nodup_range.filter _).imp fun h e => h (by injection e)
theorem prP_nodup (sp : Nat → Nat → Bool) : ∀ n, (prP sp n).Nodup
 | 0 => by simp [prP]
 | n + 1 => by
  rw [prP_succ]
  refine List.nodup_append.2 ⟨prP_nodup sp n, prI_nodup sp _ _, fun a ha b hb e => ?_⟩
  subst e
  have h1 := prP_mem.1 ha
  have h2 := prI_mem.1 hb
  omega
def triP : Nat → Nat
 | 0 => 0
 | n + 1 => triP n + n
theorem prP_tri (sp : Nat → Nat → Bool) : ∀ n, (prP sp n).length ≤ triP n
 | 0 => by simp [prP, triP]
 | n + 1 => by
  have h1 := prP_tri sp n
  have h2 := prI_len sp n n
  rw [prP_succ, List.length_append, triP]; omega
theorem prP_15 (sp : Nat → Nat → Bool) {n : Nat} (h : n ≤ 6) : (prP sp n).length ≤ 15 := by
 refine Nat.le_trans (prP_tri sp n) ?_
 have : n = 0 ∨ n = 1 ∨ n = 2 ∨ n = 3 ∨ n = 4 ∨ n = 5 ∨ n = 6 := by omega
 rcases this with rfl | rfl | rfl | rfl | rfl | rfl | rfl <;> decide
theorem lists_iter (ph ow : Value) (f : Flo) (cu : List Int) (many : Nat) (hok : floOk f = true) (hql : f.qs.length ≤ 1000) (hm5 : many ≤ 5) (hcl : cu.length = f.ids.length) (hbt : Btw (-1000000000) 1000000000 cu) :
  Iter Tryz.prog 119 [.fp 1 [.val ph], .fp 1 [.val (.int .i64 many)]] [hsB ph f ow, .row ow 3 1 iC cu] lsC (fun _ _ => []) (lstsR f cu many) := by
 have hF := flo_f hok
 have hn := hF.ids
 have hr := rises_of_ok hok
 have h15 := prP_15 (spk f) hn
 have hll : ∀ n, n ≤ 6 → (prP (spk f) n).length ≤ 15 := fun n hn => prP_15 (spk f) hn
 refine ⟨fun yv β βx H Hx I Ix hone hY b0 hI0 => ?_⟩
 refine con_of Tryz.func119 rfl (enters_of Tryz.func119 (by kernel_rfl) rfl) rfl ?_; intro n w0 F0 G0
 refine zS ?_;repeat(refine yA ?_;intro p hp;refine zS ?_)
 rename_i p3 hp3
 (apply WL_frzb 3 1; exact rfl; exact zN)
 (apply wl_bind; exact rfl; exact rfl)
 refine zS ?_;repeat(refine yA ?_;intro p hp;refine zS ?_)
 refine W_loopJ (fun (b : Nat × Value) => ⟨[(1, .fp 1 [.val ph]), (2, .fp 1 [.val (.int .i64 many)]), (3, .fp 1 [.val yv]), (4, .val p), (5, .val (bndV 89 ph)), (17, .val (.int .i64 f.ids.length)), (18, .val (.int .i64 b.1))], [.box p [.val b.2] 119, .row b.2 122 2 pnC (prP (spk f) b.1), hsB ph f ow, .row ow 3 1 iC cu, .pack (H b0)]⟩) (fun b => b.1 ≤ f.ids.length) (fun b => f.ids.length - b.1) (0, .slice none 0 0) (fun _ _ st => st_sub2 (st_nil 122 2 pnC st) zR zP) (Nat.zero_le _) ?_
 rintro ⟨i, v⟩ hi
 dsimp only at hi ⊢
 refine zS ?_;repeat(refine yA ?_;intro p hp;refine zS ?_)
 refine w_cond rfl (fun hlt => ?_) (fun hlt => ?_)
 ·have hi' : i < f.ids.length := by simpa using hlt
  have hl1 := hll i (by omega)
  refine zS ?_;repeat(refine yA ?_;intro p hp;refine zS ?_)
  refine W_loopJ (fun (b : Nat × Value) => ⟨[(1, .fp 1 [.val ph]), (2, .fp 1 [.val (.int .i64 many)]), (3, .fp 1 [.val yv]), (4, .val p), (5, .val (bndV 89 ph)), (17, .val (.int .i64 f.ids.length)), (18, .val (.int .i64 i)), (6, .val (.int .i64 i)), (21, .val (.int .i64 i)), (22, .val (.int .i64 b.1))], [.box p [.val b.2] 119, .row b.2 122 2 pnC (prP (spk f) i ++ prI (spk f) i b.1), hsB ph f ow, .row ow 3 1 iC cu, .pack (H b0)]⟩) (fun b => b.1 ≤ i) (fun b => i - b.1) (0, v) (fun _ _ st => st_sub2 st zR (by rw [show prI (spk f) i 0 = [] from rfl, List.append_nil]; exact zP)) (Nat.zero_le _) ?_
  rintro ⟨k, u⟩ hk
  dsimp only at hk ⊢
  refine zS ?_;repeat(refine yA ?_;intro p hp;refine zS ?_)
  refine w_cond rfl (fun hlt2 => ?_) (fun hlt2 => ?_)
  ·have hk' : k < i := by simpa using hlt2
   have hl2 := prI_len (spk f) i k
   have hks : k < f.ids.length := by omega
   have S := speak_con ph ow f k i hks hi' hr (by omega) hql
   rw [show speakR f.qs f.ids[k] f.ids[i] = spk f k i from by simp [spk, List.getD_eq_getElem?_getD, hks, hi']] at S
   have hsu := prI_succ (spk f) i k
   refine zS ?_;repeat(refine yA ?_;intro p hp;refine zS ?_)
   (apply wl_callB S; exact rfl; exact rfl; exact yC; exact rfl)
   rintro _ _ ⟨rfl, rfl⟩
   refine zS ?_;repeat(refine yA ?_;intro p hp;refine zS ?_)
   refine w_cond rfl (fun hs => ?_) (fun hs => ?_)
   ·rw [if_pos hs] at hsu
    refine zS ?_;repeat(refine yA ?_;intro p hp;refine zS ?_)
    refine WL_as 32 (.agg (pnC (k, i))) rfl ?_
    (apply wl_litF pnC; exact inferInstance; exact inferInstance; exact inferInstance; exact zE; exact rfl; (first | exact (of_decide_eq_true rfl) | decide | (simp; done) | (simp; omega)); exact rfl)
    (first | (apply wl_append; exact rfl; exact rfl; exact zN; exact inferInstance; exact inferInstance; (first | omega | (simp; omega)); exact rfl) | (apply wl_appendN; exact rfl; exact rfl; exact inferInstance; exact inferInstance; (first | omega | (simp; omega)); exact rfl))
    intro v2
    rw [List.append_assoc, ← hsu]
    refine WL_one At.here (fun hone2 => ?_)
    refine zS ?_;repeat(refine yA ?_;intro p hp;refine zS ?_)
    (refine ⟨(k + 1, v2), fun _ _ st => st_sub2 st ?_ ?_, ?_, ?_⟩; exact zR; exact zP)
    ·dsimp only; omega
    ·dsimp only; omega
   ·rw [if_neg (by rw [hs]; simp)] at hsu
    rw [← hsu]
    refine zS ?_;repeat(refine yA ?_;intro p hp;refine zS ?_)
    (refine ⟨(k + 1, u), fun _ _ st => st_sub2 st ?_ ?_, ?_, ?_⟩; exact zR; exact zP)
    ·dsimp only; omega
    ·dsimp only; omega
  ·have hkk : k = i := by simp at hlt2; omega
   subst hkk
   rw [← prP_succ]
   refine zS ?_;repeat(refine yA ?_;intro p hp;refine zS ?_)
   (refine ⟨(k + 1, u), fun _ _ st => st_sub2 st ?_ ?_, ?_, ?_⟩; exact zR; exact zP)
   ·dsimp only; omega
   ·dsimp only; omega
 ·have hii : i = f.ids.length := by simp at hlt; omega
  subst hii
  (apply W_frzX (v := v) p 0; exact zN; exact rfl; exact zM; exact rfl)
  simp only [List.set_cons_zero]
  (apply W_frzb 4 1; exact rfl; exact zN)
  refine zS ?_;repeat(refine yA ?_;intro p hp;refine zS ?_)
  have C := choose_con ph ow yv p f cu many (prP (spk f) f.ids.length) (lstsR f cu many) H Hx I Ix hF hm5 (prP_nodup _ _) h15 (fun q hq => by have := prP_mem.1 hq; exact ⟨this.1, this.2.1⟩) hcl hbt hY ((prP (spk f) f.ids.length).length) 0 [] 0 b0 (by simp) (Nat.zero_le _) ⟨List.nodup_nil, (fun q hq => by cases hq), (fun e he => by cases he), Nat.zero_le _⟩ (by rw [List.drop_zero, List.drop_zero]; exact List.prefix_refl _) hI0
  have C' : Con Tryz.prog 120 ([.val (.slice none 0 0), .val (.int .i64 0)] ++ capC ph yv p many (prP (spk f) f.ids.length)) _ _ := Con.arg (av' := .sl 2 pnC ([] : List (Nat × Nat))) (fun G v h => ⟨none, 0, h, Nat.le_refl _, fun i hi => (by cases hi)⟩) C
  (apply wl_callVP C'; exact rfl; exact rfl; exact yC; exact rfl)
  rintro _ _ (⟨rfl, b', hb', rfl⟩ | ⟨rfl, k', b', h1, h2, hb', rfl⟩)
  ·rw [Nat.zero_add, List.drop_zero] at hb'
   refine zS ?_;repeat(refine yA ?_;intro p hp;refine zS ?_)
   (apply resK0; exact rfl; exact .inl ⟨b', hb', rfl⟩; exact yC)
  ·refine zS ?_;repeat(refine yA ?_;intro p hp;refine zS ?_)
   (apply resK0; exact rfl; exact .inr ⟨k', b', h1, h2, hb', rfl⟩; exact yC)
theorem lists_con (ph : Value) [One (.val ph)] (many : Nat) : Con Tryz.prog 74 [.val ph, .val (.int .i64 many)] [] (Is (.clo 119 [.fp 1 [.val ph], .fp 1 [.val (.int .i64 many)]]) []) := by
 refine con_of Tryz.func74 rfl (enters_of Tryz.func74 (by kernel_rfl) rfl) rfl ?_; intro n w0 F0 G0
 refine zS ?_
 refine yA ?_
 intro p1 hp1
 refine yA ?_
 intro p2 hp2
 (apply WL_frzb 2 1; exact rfl; exact zN)
 (apply WL_frzb 3 1; exact rfl; exact zN)
 refine zS ?_;repeat(refine yA ?_;intro p hp;refine zS ?_)
 (apply res1; exact rfl; exact rfl; exact ⟨rfl, rfl⟩)
theorem leafG_len (f : Flo) (cu : List Int) (l : List (Nat × Nat)) : (leafG f cu l).length ≤ 1 := by
 unfold leafG
 split
 ·cases lstR f.ids l cu <;> simp
 ·simp
theorem chG_len (f : Flo) (cu : List Int) (many : Nat) : ∀ (t l : List (Nat × Nat)), (chG f cu many t l).length ≤ 2 ^ t.length
 | [], l => by
  rw [chG]; split
  ·simpa using leafG_len f cu l
  ·simp
 | p :: t, l => by
  have h1 := chG_len f cu many t (l ++ [p])
  have h2 := chG_len f cu many t l
  have h3 := leafG_len f cu l
  have h4 : 1 ≤ 2 ^ t.length := Nat.one_le_two_pow
  rw [chG, List.length_cons, Nat.pow_succ]
  split
  ·omega
  ·rw [List.length_append]
   split
   ·omega
   ·simp; omega
theorem lsts_len {f : Flo} (cu : List Int) (many : Nat) (hn : f.ids.length ≤ 6) : (lstsR f cu many).length ≤ 32768 := Nat.le_trans (chG_len f cu many _ _) (pow15 (prP_15 (spk f) hn))
def TokL (xs : List (List Pay)) (r : List HA) : AV → List HA → Prop := fun x y => ∃ u, x = .val u ∧ y = .row u 108 1 plC xs :: r
theorem appendSeq_con (ph ow : Value) (f : Flo) (cu : List Int) (many : Nat) (hok : floOk f = true) (hql : f.qs.length ≤ 1000) (hm5 : many ≤ 5) (hcl : cu.length = f.ids.length) (hbt : Btw (-1000000000) 1000000000 cu) :
  Con Tryz.prog 155 [.val (.slice none 0 0), .clo 119 [.fp 1 [.val ph], .fp 1 [.val (.int .i64 many)]]] [hsB ph f ow, .row ow 3 1 iC cu] (TokL (lstsR f cu many) [hsB ph f ow, .row ow 3 1 iC cu]) := by
 have IT := lists_iter ph ow f cu many hok hql hm5 hcl hbt
 have hl := lsts_len cu many (flo_f hok).ids
 generalize lstsR f cu many = xs at IT hl ⊢
 refine con_of Tryz.func155 rfl (enters_of Tryz.func155 (by kernel_rfl) rfl) rfl ?_; intro n w0 F0 G0
 refine zS ?_;repeat(refine yA ?_;intro p hp;refine zS ?_)
 refine W_weak ⟨[(2, .val p), (6, .clo 119 [.fp 1 [.val ph], .fp 1 [.val (.int .i64 many)]])], [.box p [.val (.slice none 0 0)] 105, .row (.slice none 0 0) 108 1 plC [], hsB ph f ow, .row ow 3 1 iC cu]⟩ (fun _ _ st => st_sub2 (st_nil 108 1 plC st) zR zP) ?_
 refine W_range (own := [hsB ph f ow, .row ow 3 1 iC cu]) (by exact rfl) IT yC (fun k (b : Nat × Value) => b.1 = k) (fun b => [.box p [.val b.2] 105, .row b.2 108 1 plC (xs.take b.1)]) (fun _ _ => False) (fun _ _ => []) (0, .slice none 0 0) (by exact rfl) zP (by intro _ _ _; exact rfl) (by exact rfl) ?_ ?_ (fun _ _ _ h => h.elim)
 ·intro lr m w1 F1 G1 hrec k hk b u hI
  obtain ⟨j, v⟩ := b
  dsimp only at hI
  subst hI
  dsimp only [zipR, lsC, List.cons_append, List.nil_append]
  have hst : xs.take (j + 1) = xs.take j ++ [xs[j]] := by rw [List.take_succ_eq_append_getElem hk]
  have htl : (xs.take j).length ≤ 32768 := by rw [List.length_take]; omega
  refine zS ?_
  intro w2 F2 G2 hrec2
  refine zS ?_
  (apply wl_litF plC; exact inferInstance; exact inferInstance; exact inferInstance; exact zE; exact rfl; (first | exact (of_decide_eq_true rfl) | decide | (simp; done) | (simp; omega)); exact rfl)
  (first | (apply wl_append; exact rfl; exact rfl; exact zN; exact inferInstance; exact inferInstance; (first | omega | (simp; omega)); exact rfl) | (apply wl_appendN; exact rfl; exact rfl; exact inferInstance; exact inferInstance; (first | omega | (simp; omega)); exact rfl))
  intro v2
  rw [← hst]
  refine WL_one At.here (fun hone2 => ?_)
  refine zS ?_
  refine ⟨(j + 1, v2), rfl, fun a w st => st_sub2 st zR zP⟩
 ·rintro ⟨j, v⟩ hI
  dsimp only at hI
  subst hI
  dsimp only
  rw [List.take_length]
  (repeat (first | refine th_norm ?_ | refine th_exit ?_ | refine th_ret ?_ | refine bl_norm ?_ | refine bl_eq ?_ | refine bl_ne rfl ?_ | refine bl_ret ?_ | refine rt_norm ?_ | refine rt_ret ?_))
  refine zS ?_
  (apply resK1; exact rfl; exact rfl; exact ⟨_, rfl, rfl⟩; exact yC)
theorem collect_con (ph ow : Value) (f : Flo) (cu : List Int) (many : Nat) (hok : floOk f = true) (hql : f.qs.length ≤ 1000) (hm5 : many ≤ 5) (hcl : cu.length = f.ids.length) (hbt : Btw (-1000000000) 1000000000 cu) :
  Con Tryz.prog 138 [.clo 119 [.fp 1 [.val ph], .fp 1 [.val (.int .i64 many)]]] [hsB ph f ow, .row ow 3 1 iC cu] (Is (.sl 1 plC (lstsR f cu many)) [hsB ph f ow, .row ow 3 1 iC cu]) := by
 refine con_of Tryz.func138 rfl (enters_of Tryz.func138 (by kernel_rfl) rfl) rfl ?_; intro n w0 F0 G0
 refine zS ?_
 (apply wl_callP (appendSeq_con ph ow f cu many hok hql hm5 hcl hbt); exact rfl; exact yC; exact rfl)
 rintro _ _ ⟨u, rfl, rfl⟩
 refine zS ?_
 (apply Res_frz 2; exact rfl; exact zN)
 (apply resK1; exact rfl; exact rfl; exact ⟨rfl, rfl⟩; exact yC)
theorem fewTo_hit {α : Type} {g : Nat → List α} {m : Nat} (h0 : ∀ k, k < m → g k = []) (hm : g m ≠ []) : ∀ N, m < N → fewTo g N = g m
 | 0, h => by omega
 | N + 1, h => by
  rw [fewTo]
  by_cases hN : N = m
  ·subst hN
   rw [fewTo_nil.2 h0]; rfl
  ·rw [fewTo_hit h0 hm N (by omega)]
   rw [if_neg (by simp [hm])]
noncomputable def fewP (f : Flo) (cu : List Int) : List (List Pay) := fewTo (lstsR f cu) (max 1 f.ids.length)
theorem fewest_con (ph ow : Value) (f : Flo) (cu : List Int) (hok : floOk f = true) (hql : f.qs.length ≤ 1000) (hcl : cu.length = f.ids.length) (hbt : Btw (-1000000000) 1000000000 cu) :
  Con Tryz.prog 108 [.val ph] [hsB ph f ow, .row ow 3 1 iC cu] (Is (.sl 1 plC (fewP f cu)) [hsB ph f ow, .row ow 3 1 iC cu]) := by
 have hn := (flo_f hok).ids
 have hl : ∀ k, (lstsR f cu k).length ≤ 32768 := fun k => lsts_len cu k hn
 have CC := fun many h5 => collect_con ph ow f cu many hok hql h5 hcl hbt
 unfold fewP
 have hmx : (max (1 : Int) (f.ids.length : Int)) = ((max 1 f.ids.length : Nat) : Int) := by omega
 have hmx6 : max 1 f.ids.length ≤ 6 := by omega
 generalize max 1 f.ids.length = mx at hmx hmx6 ⊢
 generalize lstsR f cu = g at CC hl ⊢
 refine con_of Tryz.func108 rfl (enters_of Tryz.func108 (by kernel_rfl) rfl) rfl ?_; intro n w0 F0 G0
 refine zS ?_
 rw [hmx]
 refine W_loopJ (fun (b : Nat) => ⟨[(0, .val ph), (11, .val (.int .i64 mx)), (12, .val (.int .i64 b))], [hsB ph f ow, .row ow 3 1 iC cu]⟩) (fun b => b ≤ mx ∧ ∀ k, k < b → g k = []) (fun b => mx - b) 0 (fun _ _ st => st_sub2 st zR zP) ⟨Nat.zero_le _, fun k hk => by omega⟩ ?_
 rintro i ⟨hi, hg⟩
 refine zS ?_
 refine w_cond rfl (fun hlt => ?_) (fun hlt => ?_)
 ·have hi' : i < mx := by simpa using hlt
  have hll := hl i
  refine zS ?_
  apply WL_oneB At.here
  intro hone
  (first | (apply wl_call (lists_con ph i); exact rfl; exact rfl) | (apply wl_callR (lists_con ph i); exact rfl; exact zM; exact rfl))
  refine zS ?_
  (apply wl_callP (CC i (by omega)); exact rfl; exact yC; exact rfl)
  rintro _ _ ⟨rfl, rfl⟩
  refine zS ?_
  refine w_cond rfl (fun hne => ?_) (fun hne => ?_)
  ·have hne' : g i ≠ [] := fun e => by rw [e] at hne; simp at hne
   rw [fewTo_hit hg hne' mx hi']
   refine zS ?_
   (apply resK1; exact rfl; exact rfl; exact ⟨rfl, rfl⟩; exact yC)
  ·have hnil : g i = [] := by
    rcases hq : g i with _ | ⟨x, t⟩
    ·rfl
    ·rw [hq] at hne; simp at hne
   refine zS ?_
   (refine ⟨i + 1, fun _ _ st => st_sub2 st ?_ ?_, ?_, ?_⟩; exact zR; exact zP)
   ·exact ⟨hi', fun k hk => by
     by_cases hki : k = i
     ·rw [hki]; exact hnil
     ·exact hg k (by omega)⟩
   ·omega
 ·have hii : i = mx := by simp at hlt; omega
  subst hii
  rw [fewTo_nil.2 hg]
  refine zS ?_
  refine Res_nil 2 1 plC rfl ?_
  (apply resK1; exact rfl; exact rfl; exact ⟨rfl, rfl⟩; exact yC)
noncomputable def errL (f : Flo) : Int := if floOk f = true then (if (fewP f (owed8 f)).isEmpty = true then 8 else 0) else 80
theorem askedErr_con (f : Flo) (hS : Sml f) (he : errL f ≠ 0) : Con Tryz.prog 60 [.agg (flC f)] [tab8] (Is (.tup [.val (.pointer none), .val (.slice none 0 0), .val (.int .i64 (errL f))]) [tab8]) := by
 cases hok : floOk f with
 | false =>
  have C := openedNo_con f hS hok
  unfold errL
  rw [if_neg (by rw [hok]; simp)]
  refine con_of Tryz.func60 rfl (enters_of Tryz.func60 (by kernel_rfl) rfl) rfl ?_; intro n w0 F0 G0
  refine zS ?_;repeat(refine yA ?_;intro p hp;refine zS ?_)
  (first | (apply wl_call (C); exact rfl; exact rfl) | (apply wl_callR (C); exact rfl; exact zM; exact rfl))
  refine zS ?_
  (apply resK3; exact rfl; exact rfl; exact rfl; exact rfl; exact ⟨rfl, rfl⟩; exact yC)
 | true =>
  have C := opened_con f hS hok
  have hF := flo_f hok
  have hidl := hF.ids
  have hqsl := hS.qs
  have hnil : fewP f (owed8 f) = [] := by
   unfold errL at he
   rw [if_pos hok] at he
   rcases hq : fewP f (owed8 f) with _ | ⟨x, t⟩
   ·rfl
   ·rw [hq] at he; exact absurd rfl he
  unfold errL
  rw [if_pos hok, hnil, if_pos (show ([] : List (List Pay)).isEmpty = true from rfl)]
  refine con_of Tryz.func60 rfl (enters_of Tryz.func60 (by kernel_rfl) rfl) rfl ?_; intro n w0 F0 G0
  refine zS ?_;repeat(refine yA ?_;intro p hp;refine zS ?_)
  (apply wl_callP (C); exact rfl; exact yC; exact rfl)
  rintro _ _ ⟨ph, ow, rfl, rfl⟩
  have CF := fewest_con ph ow f (owed8 f) hok (by omega) (owed8_len f) ((owed8_btw hF hS).mono (by omega) (by omega))
  rw [hnil] at CF
  refine zS ?_
  (apply wl_callP (CF); exact rfl; exact yC; exact rfl)
  rintro _ _ ⟨rfl, rfl⟩
  refine zS ?_
  (apply resK3; exact rfl; exact rfl; exact rfl; exact rfl; exact ⟨rfl, rfl⟩; exact yC)
def AskP (f : Flo) (xs : List (List Pay)) : AV → List HA → Prop := fun x y => ∃ ph v, x = .tup [.val ph, .sl 1 plC xs, .val (.int .i64 0)] ∧ y = [hsB ph f v, .row v 3 1 iC (owed8 f), tab8]
theorem askedOk_con (f : Flo) (hS : Sml f) (he : errL f = 0) : Con Tryz.prog 60 [.agg (flC f)] [tab8] (AskP f (fewP f (owed8 f))) := by
 unfold errL at he
 cases hok : floOk f with
 | false => rw [hok] at he; simp at he
 | true =>
  have C := opened_con f hS hok
  have hF := flo_f hok
  have hidl := hF.ids
  have hqsl := hS.qs
  have hl : (fewP f (owed8 f)).length ≠ 0 := fun h => by
   rw [if_pos hok, List.length_eq_zero_iff.1 h] at he
   exact absurd he (by decide)
  refine con_of Tryz.func60 rfl (enters_of Tryz.func60 (by kernel_rfl) rfl) rfl ?_; intro n w0 F0 G0
  refine zS ?_;repeat(refine yA ?_;intro p hp;refine zS ?_)
  (apply wl_callP (C); exact rfl; exact yC; exact rfl)
  rintro _ _ ⟨ph, ow, rfl, rfl⟩
  have CF := fewest_con ph ow f (owed8 f) hok (by omega) (owed8_len f) ((owed8_btw hF hS).mono (by omega) (by omega))
  generalize fewP f (owed8 f) = xs at CF hl ⊢
  refine zS ?_
  (apply wl_callP (CF); exact rfl; exact yC; exact rfl)
  rintro _ _ ⟨rfl, rfl⟩
  refine zS ?_
  refine w_cond rfl (fun h => ?_) (fun h => ?_)
  ·have := of_decide_eq_true h
   omega
  ·refine zS ?_
   (apply resK3; exact rfl; exact rfl; exact rfl; exact rfl; exact ⟨ph, ow, rfl, rfl⟩; exact yC)
end Go.Proofs.YtihonljdanjfmaaGreatDoor.Sw
namespace Go.Proofs.YtihonljdanjfmaaGreatDoor.Sw
open Go.RowKit Go Go.Shelf Go.Proofs
instance tyzQ : TyZ Tryz.prog 87 [.int .i64 0, .int .i64 0] := inferInstance
abbrev Tk := { u : Value // One (AV.val u) }
instance (u : Tk) : One (AV.val u.1) := u.2
abbrev MB := Bil × Tk
def tkC (p : MB) : List AV := [.val (.int .i64 p.1.no), .val (.int .i64 p.1.py), .val (.int .i64 p.1.pe), .val p.2.1]
instance {p : MB} : OneL (tkC p) := inferInstanceAs (OneL [_, _, _, _])
instance : OneF tkC := ⟨fun _ => inferInstance⟩
theorem isortM_con (v : Value) (xs : List MB) (k : FuncId) (caps : List AV) (cmp : MB → MB → Int) (hl : xs.length ≤ 100000) (hc : ∀ x y, Con Tryz.prog k ([.agg (tkC x), .agg (tkC y)] ++ caps) [] (Is (.val (.int .i64 (cmp x y))) [])) : Con Tryz.prog 153 [.val v, .val (.int .i64 0), .val (.int .i64 xs.length), .clo k caps] [.row v 49 4 tkC xs] (Is (.tup []) [.row v 49 4 tkC (srt (fun x y => decide (cmp x y < 0)) xs)]) := by
 generalize hlt0 : (fun x y => decide (cmp x y < 0)) = lt
 have hlt : ∀ x y, decide (cmp x y < 0) = lt x y := fun x y => by rw [← hlt0]
 refine con_of Tryz.func153 rfl (enters_of Tryz.func153 (by kernel_rfl) rfl) rfl ?_; intro n w0 F0 G0
 refine zS ?_
 refine W_loopJ (fun (i : Nat) => ⟨[(0, .val v), (1, .val (.int .i64 0)), (2, .val (.int .i64 xs.length)), (3, .clo k caps), (8, .val (.int .i64 i))], [.row v 49 4 tkC (srt lt (xs.take i) ++ xs.drop i)]⟩) (fun i => 1 ≤ i ∧ (i ≤ xs.length ∨ i = 1)) (fun i => xs.length - i) 1 (fun _ _ st => st_sub2 st (by exact zR) (by rw [show srt lt (xs.take 1) ++ xs.drop 1 = xs from by cases xs <;> rfl]; exact zP)) ⟨Nat.le_refl _, .inr rfl⟩ ?_
 rintro i ⟨hi1, hi2⟩
 refine zS ?_
 refine w_cond rfl (fun hin => ?_) (fun hin => ?_)
 ·have hin' : i < xs.length := by simp at hin; omega
  have hpl : (srt lt (xs.take i)).length = i := by rw [srt_len, List.length_take]; omega
  have hnx : srt lt (xs.take (i + 1)) = insE lt (srt lt (xs.take i)) xs[i] := by rw [List.take_succ_eq_append_getElem hin', srt_snoc]
  have hdr : xs.drop i = xs[i] :: xs.drop (i + 1) := List.drop_eq_getElem_cons hin'
  have hsl : (xs.drop (i + 1)).length + i + 1 = xs.length := by rw [List.length_drop]; omega
  generalize srt lt (xs.take i) = pre at *
  generalize hsuf : xs.drop (i + 1) = suf at *
  generalize hx : xs[i] = x at *
  rw [hdr]
  refine zS ?_
  refine W_loopJ (fun (j : Nat) => ⟨[(0, .val v), (1, .val (.int .i64 0)), (2, .val (.int .i64 xs.length)), (3, .clo k caps), (8, .val (.int .i64 i)), (9, .val (.int .i64 j))], [.row v 49 4 tkC (snk pre suf x j)]⟩) (fun j => j ≤ i ∧ insE lt pre x = insE lt (pre.take j) x ++ pre.drop j) (fun j => j) i (fun _ _ st => st_sub2 st (by exact zR) (by rw [show snk pre suf x i = pre ++ x :: suf from by rw [← hpl]; exact snk_full _ _ _]; exact zP)) ⟨Nat.le_refl _, by rw [← hpl]; simp⟩ ?_
  rintro j ⟨hj, hins⟩
  have hdl : (snk pre suf x j).length = xs.length := by rw [snk_len (by omega)]; omega
  have hq1 : (snk pre suf x j)[j]? = some x := snk_at (by omega)
  refine zS ?_
  cases j with
  | zero =>
   have hend : snk pre suf x 0 = insE lt pre x ++ suf := by rw [hins]; simp [snk, insE_nil]
   refine W_run 14 [18, 19, 20, 21, 22, 23, 24, 25, 26, 27, 28, 29, 30, 31] [0, 1, 2, 3, 4, 5, 6, 7, 8, 9, 10, 11, 12, 13] Cut.nil rfl goFlt mixedS (by kernel_rfl) rfl ?_
   refine rpv [] [] ?_
   refine rpv [] [] ?_
   refine Run.pv [0, 1] [] rfl (fun vs => by apply ltr_pk; exact goPk; (refine ltr ?_; apply LT_bool false; apply lt_gtr; exact rfl; exact rfl; simp)) goApp ?_
   refine rpv [2] [] ?_
   refine rno [3] ?_
   refine rno [3] ?_
   refine rno [3] ?_
   refine rno [3, 5, 6] ?_
   refine rno [3, 7] ?_
   refine rno [3] ?_
   refine rno [3] ?_
   refine rno [3, 10] ?_
   refine rno [3, 9, 11] ?_
   refine rno [3, 12] ?_
   refine ⟨⟨by kernel_rfl, by kernel_rfl⟩, fun vs => ?_⟩
   apply WL_auto [3, 4, 8, 13]
   ·exact goPk
   ·exact goNrm
   ·kernel_rfl
   ·kernel_rfl
   refine zS ?_
   refine ⟨i + 1, fun _ _ st => st_sub2 st ?_ ?_, ?_, ?_⟩
   ·exact zR
   ·rw [hnx, hsuf, ← hend]; exact zP
   ·omega
   ·omega
  | succ j =>
   have hjp : j < pre.length := by omega
   have hq2 : (snk pre suf x (j + 1))[j]? = some pre[j] := snk_before (by omega)
   have htk : pre.take (j + 1) = pre.take j ++ [pre[j]] := List.take_succ_eq_append_getElem hjp
   have hdp : pre.drop j = pre[j] :: pre.drop (j + 1) := List.drop_eq_getElem_cons hjp
   refine W_run 14 [18, 19, 20, 21, 22, 23, 24, 25, 26, 27, 28, 29, 30, 31] [0, 1, 2, 3, 4, 5, 6, 7, 8, 9, 10, 11, 12, 13] Cut.nil rfl goFlt mixedS (by kernel_rfl) rfl ?_
   refine rpv [] [] ?_
   refine rpv [] [] ?_
   refine Run.pv [0, 1] [] rfl (fun vs => by apply ltr_pk; exact goPk; (refine ltr ?_; apply LT_bool true; apply lt_gtr; exact rfl; exact rfl; (first | (simp; done) | (simp; omega)))) goApp ?_
   refine rpv [2] [] ?_
   refine ryv [3] ?_
   refine ryv [3] ?_
   refine ryv [3] ?_
   refine ryv [3, 5, 6] ?_
   refine ryv [3, 7] ?_
   refine ryv [3] ?_
   refine ryv [3] ?_
   refine ryx [3, 10] (fun vs => by apply ltr_pk; exact goPk; (refine ltr ?_; apply LT_int (j : Int); apply lt_sub; exact rfl; exact rfl; omega; omega; omega)) ?_
   refine ryv [3, 9, 11] ?_
   refine ryv [3, 12] ?_
   refine ⟨⟨by kernel_rfl, by kernel_rfl⟩, fun vs => ?_⟩
   apply WL_auto [3, 4, 8, 13]
   ·exact goPk
   ·exact goNrm
   ·kernel_rfl
   ·kernel_rfl
   refine zS ?_
   (apply wl_callV (hc x pre[j]); exact rfl; exact rfl; exact rfl)
   refine zS ?_
   rw [hlt]
   cases hb : lt x pre[j] with
   | false =>
    have hend : snk pre suf x (j + 1) = insE lt pre x ++ suf := by
     rw [hins, htk, insE_no hb, ← htk]; simp [snk]
    refine zS ?_
    refine ⟨i + 1, fun _ _ st => st_sub2 st ?_ ?_, ?_, ?_⟩
    ·exact zR
    ·rw [hnx, hsuf, ← hend]; exact zP
    ·omega
    ·omega
   | true =>
    have hins2 : insE lt pre x = insE lt (pre.take j) x ++ pre.drop j := by
     rw [hins, htk, insE_yes hb, hdp]; simp
    refine zS ?_
    refine W_run 16 [37, 38, 39, 40, 41, 42, 43, 44, 45, 46, 47, 48, 49, 50, 51, 1000015] [0, 1, 2, 3, 4, 5, 6, 7, 8, 9, 10, 11, 12, 13, 14, 15] (Cut.cons (h := HA.row v 49 4 tkC (snk pre suf x (j + 1))) zN (Cut.nil)) rfl goFlt mixedS (by kernel_rfl) rfl ?_
    refine rpv [] [] ?_
    refine rpv [] [] ?_
    refine rpv [] [] ?_
    refine rpv [] [] ?_
    refine Run.pv [3] [] rfl (fun vs => by apply ltr_pk; exact goPk; (refine ltr ?_; apply LT_int (j : Int); apply lt_sub; exact rfl; exact rfl; omega; omega; omega)) goApp ?_
    refine rpv [] [] ?_
    refine rpv [] [] ?_
    refine Run.pv [6] [] rfl (fun vs => by apply ltr_pk; exact goPk; (refine ltr ?_; apply LT_int (j : Int); apply lt_sub; exact rfl; exact rfl; omega; omega; omega)) goApp ?_
    refine Run.rd [5, 7] [] [1000] rfl (fun vs => by apply ltr_pk; exact goPk; exact goLtr) goApp ?_
    refine Run.rd [8] [] [1000] rfl (fun vs => by apply ltr_pk; exact goPk; exact goLtr) goApp ?_
    refine rpv [] [] ?_
    refine rpv [] [] ?_
    refine Run.rd [10, 11] [] [1000] rfl (fun vs => by apply ltr_pk; exact goPk; exact goLtr) goApp ?_
    refine Run.rd [12] [] [1000] rfl (fun vs => by apply ltr_pk; exact goPk; exact goLtr) goApp ?_
    refine Run.rd [0, 1] [] [1000] rfl (fun vs => by apply ltr_pk; exact goPk; exact goLtr) goApp ?_
    refine Run.fx [9, 14] [1000] 14 (fun _ => [HA.row v 49 4 tkC ((snk pre suf x (j + 1)).set (j + 1) pre[j])]) rfl (fun vs => by apply ltr_pk; exact goPk; (refine ltr ?_; refine LT.fx (lt_storeRN (n := 4) (f := tkC) (xs := snk pre suf x (j + 1)) (k := j + 1) (x' := pre[j]) rfl rfl (by omega) rfl) rfl)) goApp ?_
    refine ⟨⟨by kernel_rfl, by kernel_rfl⟩, fun vs => ?_⟩
    apply WL_auto [2, 4, 13]
    ·exact goPk
    ·exact goNrm
    ·kernel_rfl
    ·kernel_rfl
    refine zS ?_
    apply wl_storeRNx x
    ·exact rfl
    ·exact zM
    ·exact rfl
    ·exact inferInstance
    ·exact inferInstance
    ·rw [List.length_set]; omega
    ·rfl
    rw [snk_swap (by omega)]
    refine zS ?_
    rw [show (((j + 1 : Nat) : Int) - 1) = (j : Int) by omega]
    refine ⟨j, fun _ _ st => st_sub2 st ?_ ?_, ?_, ?_⟩
    ·exact zR
    ·exact zP
    ·exact ⟨by omega, hins2⟩
    ·omega
 ·have hkk : xs.length ≤ i := by simp at hin; omega
  rw [List.take_of_length_le hkk, List.drop_of_length_le hkk, List.append_nil]
  refine zS ?_
  (apply resK0; exact rfl; exact ⟨rfl, rfl⟩; exact yC)
theorem stableM_con (v : Value) (xs : List MB) (k : FuncId) (caps : List AV) (cmp : MB → MB → Int) (hl : xs.length < 20) (hc : ∀ x y, Con Tryz.prog k ([.agg (tkC x), .agg (tkC y)] ++ caps) [] (Is (.val (.int .i64 (cmp x y))) [])) : Con Tryz.prog 136 [.val v, .val (.int .i64 xs.length), .clo k caps] [.row v 49 4 tkC xs] (Is (.tup []) [.row v 49 4 tkC (srt (fun x y => decide (cmp x y < 0)) xs)]) := by
 refine con_of Tryz.func136 rfl (enters_of Tryz.func136 (by kernel_rfl) rfl) rfl ?_; intro n w0 F0 G0
 refine zS ?_
 refine W_rounds 1 (WR_step ?_)
 refine zS ?_
 refine w_cond rfl (fun g => ?_) (fun g => ?_)
 ·simp at g; omega
 ·refine zS ?_
  (apply wl_callP (isortM_con v xs k caps cmp (by omega) hc); exact rfl; exact yC; exact rfl)
  rintro _ _ ⟨rfl, rfl⟩
  refine zS ?_
  refine W_rounds 1 (WR_step ?_)
  refine zS ?_
  refine w_cond rfl (fun g2 => ?_) (fun g2 => ?_)
  ·simp at g2; omega
  ·refine zS ?_
   (apply resK0; exact rfl; exact ⟨rfl, rfl⟩; exact yC)
theorem sortSM_con (v : Value) (xs : List MB) (k : FuncId) (caps : List AV) (cmp : MB → MB → Int) (hl : xs.length < 20) (hc : ∀ x y, Con Tryz.prog k ([.agg (tkC x), .agg (tkC y)] ++ caps) [] (Is (.val (.int .i64 (cmp x y))) [])) : Con Tryz.prog 100 [.val v, .clo k caps] [.row v 49 4 tkC xs] (Is (.tup []) [.row v 49 4 tkC (srt (fun x y => decide (cmp x y < 0)) xs)]) := by
 refine con_of Tryz.func100 rfl (enters_of Tryz.func100 (by kernel_rfl) rfl) rfl ?_; intro n w0 F0 G0
 refine zS ?_
 (apply wl_callP (stableM_con v xs k caps cmp hl hc); exact rfl; exact yC; exact rfl)
 rintro _ _ ⟨rfl, rfl⟩
 refine zS ?_
 (apply resK0; exact rfl; exact ⟨rfl, rfl⟩; exact yC)
def floE : Flo := ⟨[], [], [], []⟩
theorem floE_own (G : Nat → Option Obj) (w : World) : (floOwn (.slice none 0 0) (.slice none 0 0) (.slice none 0 0) (.slice none 0 0) floE).P G [] w :=
 ⟨[], hsP.fact.2 ⟨rfl, [], [], .refl _, row_nilP _ _ _ G w, [], [], .refl _, row_nilP _ _ _ G w, [], [], .refl _, row_nilP _ _ _ G w, [], [], .refl _, row_nilP _ _ _ G w, [], [], .refl _, rfl, rfl⟩⟩
def FlP (r : Flo × Int) : AV → List HA → Prop := fun x y => ∃ vi vq vb vp, (One (.val vi) ∧ One (.val vq) ∧ One (.val vb) ∧ One (.val vp)) ∧ x = .tup [.agg [.val vi, .val vq, .val vb, .val vp], .val (.int .i64 r.2)] ∧ y = [floOwn vi vq vb vp r.1, tab8]
theorem flP_nil (e : Int) : FlP (floE, e) (.tup [.agg [.val (.slice none 0 0), .val (.slice none 0 0), .val (.slice none 0 0), .val (.slice none 0 0)], .val (.int .i64 e)]) [floOwn (.slice none 0 0) (.slice none 0 0) (.slice none 0 0) (.slice none 0 0) floE, tab8] :=
 ⟨_, _, _, _, ⟨inferInstance, inferInstance, inferInstance, inferInstance⟩, rfl, rfl⟩
theorem WL_packFact {c : Cx} {rs : List (Nat × AV)} {hs r l : List HA} {Q : Exit → S → Prop} {ops : Array Oper} {tl : List Oper} {p : Prop} (h : ∀ G F w, hsP l G F w → p) (hr : Rm hs (.pack l) r) (k : p → WL c ops tl ⟨rs, hs⟩ Q) : WL c ops tl ⟨rs, hs⟩ Q := ⟨fun a w st => by
 have st' := st
 obtain ⟨G, F, hI, rr⟩ := st'
 obtain ⟨F1, F2, e, h1, h2⟩ := hr.sel hI.hs
 exact (k (h _ _ _ h1)).out a w st⟩
theorem WL_packPerm {c : Cx} {rs : List (Nat × AV)} {hs r l l' : List HA} {Q : Exit → S → Prop} {ops : Array Oper} {tl : List Oper} (hp : l.Perm l') (hr : Rm hs (.pack l) r) (k : WL c ops tl ⟨rs, .pack l' :: r⟩ Q) : WL c ops tl ⟨rs, hs⟩ Q := ⟨fun a w st => by
 obtain ⟨G, F, hI, rr⟩ := st
 obtain ⟨F1, F2, e, h1, h2⟩ := hr.sel hI.hs
 exact k.out a w ⟨G, F, ⟨hI.gin, hI.nd, hI.own, F1, F2, e, hsP.permL hp h1, h2⟩, rr⟩⟩
theorem row_one {α : Type} {w : World} {G : Nat → Option Obj} {F : List Nat} {v : Value} {e : TypeId} {n : Nat} {f : α → List AV} {xs : List α} (h : (HA.row v e n f xs).P G F w) : One (.val v) := by
 rcases row_val h with ⟨rfl, _⟩ | ⟨b, cap, cur, vs, rfl, _⟩ <;> exact inferInstance
theorem stkR_one {G : Nat → Option Obj} {w : World} : ∀ {bs : List Bil} {us : List Value} {F : List Nat}, us.length = bs.length → hsP (stkR bs us) G F w → ∀ u ∈ us, One (.val u)
 | [], [], _, _, _, u, hu => by cases hu
 | x :: t, v :: us, F, hl, h, u, hu => by
  obtain ⟨F1, F2, e, h1, h2⟩ := h
  rcases List.mem_cons.1 hu with rfl | hu
  ·exact row_one h1
  ·exact stkR_one (by simpa using hl) h2 u hu
 | [], _ :: _, _, hl, _, _, _ => by simp at hl
 | _ :: _, [], _, hl, _, _, _ => by simp at hl
theorem marry : ∀ {bs : List Bil} {us : List Value}, us.length = bs.length → (∀ u ∈ us, One (.val u)) → ∃ L : List MB, bs = L.map (·.1) ∧ us = L.map (·.2.1)
 | [], [], _, _ => ⟨[], rfl, rfl⟩
 | x :: t, v :: us, hl, h => by
  obtain ⟨L, h1, h2⟩ := marry (bs := t) (us := us) (by simpa using hl) fun u hu => h u (by simp [hu])
  exact ⟨(x, ⟨v, h v (by simp)⟩) :: L, congrArg (x :: ·) h1, congrArg (v :: ·) h2⟩
 | [], _ :: _, hl, _ => by simp at hl
 | _ :: _, [], hl, _ => by simp at hl
theorem mixL_map (L : List MB) : mixL (L.map (·.1)) (L.map (·.2.1)) = L.map fun p => (p.1, some p.2.1) := by
 induction L with
 | nil => rfl
 | cons p L ih => simp only [List.map_cons, mixL, ih]
theorem row_tk (vb : Value) (L : List MB) : HA.row vb 49 4 mbC (mixL (L.map (·.1)) (L.map (·.2.1))) = HA.row vb 49 4 tkC L := by
 rw [mixL_map, row_map]; rfl
def stkH (p : MB) : HA := .row p.2.1 52 2 stC p.1.st
theorem stkR_map (L : List MB) : stkR (L.map (·.1)) (L.map (·.2.1)) = L.map stkH := by
 induction L with
 | nil => rfl
 | cons p L ih => simp only [List.map_cons, stkR, ih]; rfl
theorem insR_perm {α : Type} (lt : α → α → Bool) (x : α) : ∀ l : List α, (insR lt x l).Perm (x :: l)
 | [] => .refl _
 | a :: t => by
  rw [insR]
  split
  ·exact ((insR_perm lt x t).cons a).trans (List.Perm.swap _ _ _)
  ·exact .refl _
theorem srt_perm {α : Type} (lt : α → α → Bool) (l : List α) : (srt lt l).Perm l := by
 have h : ∀ (l acc : List α), (l.foldl (insE lt) acc).Perm (acc ++ l) := by
  intro l
  induction l with
  | nil => intro acc; simp
  | cons x t ih =>
   intro acc
   rw [List.foldl_cons]
   refine (ih _).trans ?_
   have h1 : (insE lt acc x).Perm (acc ++ [x]) := by
    unfold insE
    exact ((List.reverse_perm _).trans (insR_perm lt x _)).trans (((List.reverse_perm acc).cons x).trans (List.perm_append_comm (l₁ := [x]) (l₂ := acc)))
   have h2 := h1.append_right t
   rwa [List.append_assoc] at h2
 have := h l []
 unfold srt; simpa using this
theorem insE_map {α β : Type} (g : α → β) (lt : β → β → Bool) (l : List α) (x : α) : (insE (fun a b => lt (g a) (g b)) l x).map g = insE lt (l.map g) (g x) := by
 have h : ∀ l : List α, (insR (fun a b => lt (g a) (g b)) x l).map g = insR lt (g x) (l.map g) := by
  intro l
  induction l with
  | nil => rfl
  | cons a t ih =>
   rw [List.map_cons, insR, insR]
   split
   ·rw [List.map_cons, ih]
   ·rfl
 unfold insE
 rw [List.map_reverse, h, List.map_reverse]
theorem srt_map {α β : Type} (g : α → β) (lt : β → β → Bool) (l : List α) : (srt (fun a b => lt (g a) (g b)) l).map g = srt lt (l.map g) := by
 have h : ∀ (l acc : List α), (l.foldl (insE (fun a b => lt (g a) (g b))) acc).map g = (l.map g).foldl (insE lt) (acc.map g) := by
  intro l
  induction l with
  | nil => intro acc; rfl
  | cons x t ih => intro acc; rw [List.foldl_cons, ih, insE_map, List.map_cons, List.foldl_cons]
 exact h l []
def bCmp (x y : Bil) : Int := cmpR x.no y.no
def bLt (x y : Bil) : Bool := decide (bCmp x y < 0)
theorem add1_con (x y : MB) : Con Tryz.prog 101 [.agg (tkC x), .agg (tkC y)] [] (Is (.val (.int .i64 (bCmp x.1 y.1))) []) := by
 refine con_of Tryz.func101 rfl (enters_of Tryz.func101 (by kernel_rfl) rfl) rfl ?_; intro n w0 F0 G0
 refine zS ?_;repeat(refine yA ?_;intro p hp;refine zS ?_)
 (first | (apply wl_call (compare_con _ _); exact rfl; exact rfl) | (apply wl_callR (compare_con _ _); exact rfl; exact zM; exact rfl))
 refine zS ?_
 (apply res1; exact rfl; exact rfl; exact ⟨rfl, rfl⟩)
def addR (f : Flo) (x : Bil) : Flo × Int :=
 if floOk f = true then (if f.bs.length = 10 then (floE, 9) else if floOk { f with bs := srt bLt (f.bs ++ [x]) } = true then ({ f with bs := srt bLt (f.bs ++ [x]) }, 0) else (floE, 81)) else (floE, 80)
theorem add_con (f : Flo) (x : Bil) (hS : Sml f) (hx : x.st.length ≤ 1000) : Con Tryz.prog 50 [.agg (flC f), .agg (biC x)] [tab8] (FlP (addR f x)) := by
 have C := check_con f hS
 cases hok : floOk f with
 | false =>
  rw [show errF f = 80 by unfold errF; rw [hok]; rfl] at C
  rw [show addR f x = (floE, 80) by unfold addR; rw [hok]; rfl]
  refine con_of Tryz.func50 rfl (enters_of Tryz.func50 (by kernel_rfl) rfl) rfl ?_; intro n w0 F0 G0
  refine zS ?_;repeat(refine yA ?_;intro p hp;refine zS ?_)
  (first | (apply wl_call (C); exact rfl; exact rfl) | (apply wl_callR (C); exact rfl; exact zM; exact rfl))
  refine zS ?_
  (refine Res_add _ floE_own ?_; apply resKN1; exact rfl; exact rfl; exact zM; exact inferInstance; exact rfl; exact rfl; exact flP_nil _; exact yC)
 | true =>
  rw [show errF f = 0 by unfold errF; rw [hok]; rfl] at C
  have hbl := (flo_f hok).bs
  refine con_of Tryz.func50 rfl (enters_of Tryz.func50 (by kernel_rfl) rfl) rfl ?_; intro n w0 F0 G0
  refine zS ?_;repeat(refine yA ?_;intro p hp;refine zS ?_)
  (first | (apply wl_call (C); exact rfl; exact rfl) | (apply wl_callR (C); exact rfl; exact zM; exact rfl))
  refine zS ?_
  refine w_cond rfl (fun g => ?_) (fun g => ?_)
  ·rw [show addR f x = (floE, 9) by unfold addR; rw [if_pos hok, if_pos (by simp at g; omega)]]
   refine zS ?_
   (refine Res_add _ floE_own ?_; apply resKN1; exact rfl; exact rfl; exact zM; exact inferInstance; exact rfl; exact rfl; exact flP_nil _; exact yC)
  ·have hn : ¬ f.bs.length = 10 := by simp at g; omega
   have hst : ∀ b ∈ f.bs ++ [x], b.st.length ≤ 1000 := fun b hb => by
    rcases List.mem_append.1 hb with hb | hb
    ·exact hS.st b hb
    ·rw [List.mem_singleton.1 hb]; exact hx
   have hS0 : Sml { f with bs := f.bs ++ [x] } := ⟨hS.ids, hS.qs, by simp; omega, hS.ps, hst⟩
   have hS' : Sml { f with bs := srt bLt (f.bs ++ [x]) } := ⟨hS.ids, hS.qs, by show (srt bLt (f.bs ++ [x])).length ≤ 1000; rw [srt_len]; simp; omega, hS.ps, fun b hb => hst b ((srt_perm bLt _).mem_iff.1 hb)⟩
   have hW : addR f x = if floOk { f with bs := srt bLt (f.bs ++ [x]) } = true then ({ f with bs := srt bLt (f.bs ++ [x]) }, 0) else (floE, 81) := by unfold addR; rw [if_pos hok, if_neg hn]
   rw [hW]
   refine zS ?_
   refine W_run 5 [18, 19, 20, 21, 22] [0, 1, 2, 3, 4] Cut.nil rfl goFlt mixedS (by kernel_rfl) rfl ?_
   refine rpv [] [] ?_
   refine rpv [0] [] ?_
   refine Run.tok [1] [] rfl (fun vs => by apply ltr_pk; exact goPk; (refine ltr ?_; refine lt_call ?_ (cloneB_con f.bs (by omega)); exact rfl)) goApp ?_
   refine rpv [] [] ?_
   refine Run.pv [3] [] rfl (fun vs => by apply ltr_pk; exact goPk; (refine ltr ?_; apply LT_frz; apply lt_lit (f := biC); exact zE; exact rfl; (first | exact (of_decide_eq_true rfl) | decide | (simp; done) | (simp; omega)))) goApp ?_
   refine ⟨⟨by kernel_rfl, by kernel_rfl⟩, fun vs => ?_⟩
   apply WL_auto [2, 4]
   ·exact goPk
   ·exact goNrm
   ·kernel_rfl
   ·kernel_rfl
   refine zS ?_
   (first | (apply wl_append; exact rfl; exact rfl; exact zN; exact inferInstance; exact inferInstance; (first | omega | (simp; omega)); exact rfl) | (apply wl_appendN; exact rfl; exact rfl; exact inferInstance; exact inferInstance; (first | omega | (simp; omega)); exact rfl))
   intro v1
   (apply WL_frz 23; exact rfl; exact zN)
   refine zS ?_
   refine WL_as 25 (.agg (flC { f with bs := f.bs ++ [x] })) rfl ?_
   (apply wl_callP (copied_con { f with bs := f.bs ++ [x] } hS0); exact rfl; exact yC; exact rfl)
   rintro _ _ ⟨vi, vq, vb, vp, ⟨o1, o2, o3, o4⟩, rfl, rfl⟩
   apply WL_exs
   ·exact zN
   intro us
   apply WL_fact
   ·exact zN
   intro hus
   apply WL_packFact (l := stkR (f.bs ++ [x]) us) (p := ∀ u ∈ us, One (.val u)) (fun _ _ _ h => stkR_one hus h)
   ·exact zN
   intro hone
   obtain ⟨L, hL1, hL2⟩ := marry hus hone
   have e1 : HA.row vb 49 4 mbC (mixL (f.bs ++ [x]) us) = HA.row vb 49 4 tkC L := by
    rw [show f.bs ++ [x] = L.map (·.1) from hL1, hL2, row_tk]
   have e2 : stkR (f.bs ++ [x]) us = L.map stkH := by rw [show f.bs ++ [x] = L.map (·.1) from hL1, hL2, stkR_map]
   have hLl : L.length < 20 := by have := congrArg List.length hL1; simp at this; omega
   dsimp only
   rw [e1, e2]
   refine zS ?_
   (apply wl_callP (sortSM_con vb L 101 [] (fun x y => bCmp x.1 y.1) hLl (fun x y => add1_con x y)); exact rfl; exact yC; exact rfl)
   rintro _ _ ⟨rfl, rfl⟩
   have hLm : (srt (fun x y : MB => decide (bCmp x.1 y.1 < 0)) L).map (·.1) = srt bLt (f.bs ++ [x]) := by
    rw [show f.bs ++ [x] = L.map (·.1) from hL1]; exact srt_map Prod.fst bLt L
   have hLp := srt_perm (fun x y : MB => decide (bCmp x.1 y.1 < 0)) L
   generalize srt (fun x y : MB => decide (bCmp x.1 y.1 < 0)) L = L' at hLm hLp ⊢
   clear hW
   generalize srt bLt (f.bs ++ [x]) = bs' at hLm hS' ⊢
   apply WL_packPerm (hLp.symm.map stkH)
   ·exact zN
   have e3 : HA.row vb 49 4 tkC L' = HA.row vb 49 4 mbC (mixL bs' (L'.map (·.2.1))) := by rw [← hLm, row_tk]
   have e4 : L'.map stkH = stkR bs' (L'.map (·.2.1)) := by rw [← hLm, stkR_map]
   have hus' : (L'.map (·.2.1)).length = bs'.length := by rw [← hLm]; simp
   rw [e3, e4]
   apply WL_mkFact hus'
   apply WL_mkExs (h := fun us : List Value => [.fact (us.length = bs'.length), .row vi 3 1 iC f.ids, .row vq 87 2 quC f.qs, .row vb 49 4 mbC (mixL bs' us), .row vp 42 3 payC f.ps, .pack (stkR bs' us)]) (L'.map (·.2.1))
   ·exact yC
   rw [show HA.exs (fun us : List Value => [.fact (us.length = bs'.length), .row vi 3 1 iC f.ids, .row vq 87 2 quC f.qs, .row vb 49 4 mbC (mixL bs' us), .row vp 42 3 payC f.ps, .pack (stkR bs' us)]) = floOwn vi vq vb vp { f with bs := bs' } from rfl]
   refine zS ?_
   (apply wl_borrow 30 (flo_thaw vi vq vb vp { f with bs := bs' }) (check_con { f with bs := bs' } hS'); exact rfl; exact rfl; exact yC; exact Pers.glob Pers.nil; exact rfl)
   cases hok2 : floOk { f with bs := bs' } with
   | false =>
    rw [show errF { f with bs := bs' } = 80 by unfold errF; rw [hok2]; rfl]
    refine zS ?_
    rw [if_neg (by simp)]
    (refine Res_add _ floE_own ?_; apply resKN1; exact rfl; exact rfl; exact zM; exact inferInstance; exact rfl; exact rfl; exact flP_nil _; exact yC)
   | true =>
    rw [show errF { f with bs := bs' } = 0 by unfold errF; rw [hok2]; rfl]
    refine zS ?_
    rw [if_pos rfl]
    (apply resKN1; exact rfl; exact rfl; exact zM; exact inferInstance; exact rfl; exact rfl; exact ⟨vi, vq, vb, vp, ⟨inferInstance, inferInstance, inferInstance, inferInstance⟩, rfl, rfl⟩; exact yC)
end Go.Proofs.YtihonljdanjfmaaGreatDoor.Sw
namespace Go.Proofs.YtihonljdanjfmaaGreatDoor.Sw
open Go.RowKit Go Go.Shelf Go.Proofs
open Go.Proofs.YtihonljdanjfmaaGreatDoor.Gr (Ok Ord Forest Zr lf headsR hf Lab payLt payLt_iff payLt_no SortedP sorted_uniq amt payE treeR treeR_iff pick Side)
theorem erase_same {L M : List (Nat × Nat)} (hL : L.Nodup) (hM : M.Nodup) (h : ∀ p, p ∈ L ↔ p ∈ M) (e p : Nat × Nat) : p ∈ L.erase e ↔ p ∈ M.erase e := by
 rw [hL.mem_erase_iff, hM.mem_erase_iff, h]
theorem side_same {L M : List (Nat × Nat)} (hL : L.Nodup) (hM : M.Nodup) (h : ∀ p, p ∈ L ↔ p ∈ M) {e : Nat × Nat} {i o : Nat} {Q : Nat → Bool} (k : Side L e i o Q) : Side M e i o Q :=
 ⟨cl_same (fun p hp => (erase_same hL hM h e p).2 hp) k.cl, k.inn, k.out⟩
theorem amt_same {n : Nat} {x : Nat → Int} {L M : List (Nat × Nat)} (hL : L.Nodup) (hM : M.Nodup) (h : ∀ p, p ∈ L ↔ p ∈ M) (hf : Forest L) (hz : Zr n L x) {e : Nat × Nat} (he : e ∈ L) : amt n x L e = amt n x M e := by
 obtain ⟨Q, hQ⟩ := Gr.side_of hf he (.inr ⟨rfl, rfl⟩ : Gr.Ends e e.2 e.1)
 rw [Gr.amt_side hL hz hQ, Gr.amt_side hM ((zr_same h).1 hz) (side_same hL hM h hQ)]
theorem payE_same {ids : List Int} {x : Nat → Int} {L M : List (Nat × Nat)} (hL : L.Nodup) (hM : M.Nodup) (h : ∀ p, p ∈ L ↔ p ∈ M) (hf : Forest L) (hz : Zr ids.length L x) {e : Nat × Nat} (he : e ∈ L) : payE ids x L e = payE ids x M e := by
 unfold payE
 rw [amt_same hL hM h hf hz he]
structure SetL (ids cu : List Int) (p : Nat × Nat → Prop) (many : Nat) (L : List (Nat × Nat)) (out : List Pay) : Prop where
 nd : L.Nodup
 mem : ∀ e ∈ L, p e
 len : L.length = many
 fo : Forest L
 zr : Zr ids.length L (lf cu)
 nz : ∀ e ∈ L, amt ids.length (lf cu) L e ≠ 0
 so : SortedP out
 pe : out.Perm (L.map (payE ids (lf cu) L))
theorem SetL.same {ids cu : List Int} {p : Nat × Nat → Prop} {many : Nat} {L M : List (Nat × Nat)} {out : List Pay} (h : SetL ids cu p many L out) (hM : M.Nodup) (hm : ∀ e, e ∈ L ↔ e ∈ M) : SetL ids cu p many M out := by
 have hp : L.Perm M := (List.perm_ext_iff_of_nodup h.nd hM).2 hm
 refine ⟨hM, fun e he => h.mem e ((hm e).2 he), hp.length_eq ▸ h.len, h.fo.sub h.nd hM fun e he => (hm e).2 he, (zr_same hm).1 h.zr, fun e he => ?_, h.so, ?_⟩
 ·rw [← amt_same h.nd hM hm h.fo h.zr ((hm e).2 he)]; exact h.nz e ((hm e).2 he)
 ·refine h.pe.trans ((List.Perm.of_eq ?_).trans (hp.map _))
  exact List.map_congr_left fun e he => payE_same h.nd hM hm h.fo h.zr he
def PrS (f : Flo) (e : Nat × Nat) : Prop := e.1 < e.2 ∧ e.2 < f.ids.length ∧ spk f e.1 e.2 = true
theorem sub_of_set {α : Type} [DecidableEq α] {L R : List α} (hL : L.Nodup) (hR : R.Nodup) (h : ∀ e ∈ L, e ∈ R) : ∃ S, List.Sublist S R ∧ S.Nodup ∧ ∀ e, e ∈ L ↔ e ∈ S :=
 ⟨R.filter fun e => decide (e ∈ L), List.filter_sublist, hR.filter _, fun e => by
  rw [List.mem_filter]
  exact ⟨fun he => ⟨h e he, by simpa using he⟩, fun he => by simpa using he.2⟩⟩
theorem allR_mem {f : Flo} {k : Nat} {out : List Pay} : out ∈ allR f k ↔ ∃ L, SetL f.ids (owed8 f) (PrS f) k L out := by
 have hok := prR_ok (spk f) f.ids.length
 unfold allR allTo
 rw [List.mem_filterMap]
 constructor
 ·rintro ⟨s, _, hs⟩
  split at hs
  ·rename_i hk
   have hsub := Gr.pick_sub (prR (spk f) f.ids.length f.ids.length) s
   have hoS := hok.sub hsub
   obtain ⟨h1, h2, h3, h4, h5⟩ := (treeR_iff hoS (owed8_len f)).1 hs
   refine ⟨_, hoS.nd, fun e he => ?_, hk, h1, h2, h3, h4, h5⟩
   have := (prR_mem (Nat.le_refl _)).1 (hsub.subset he)
   exact ⟨this.2.1, this.2.2.1, this.2.2.2⟩
  ·cases hs
 ·rintro ⟨L, h⟩
  obtain ⟨S, h1, h2, h3⟩ := sub_of_set (R := prR (spk f) f.ids.length f.ids.length) h.nd hok.nd fun e he => by
   have := h.mem e he
   exact (prR_mem (Nat.le_refl _)).2 ⟨Nat.lt_trans this.1 this.2.1, this.1, this.2.1, this.2.2⟩
  have hS := h.same h2 h3
  obtain ⟨s, hs1, hs2⟩ := Gr.sub_pick h1
  refine ⟨s, List.mem_range.2 hs1, ?_⟩
  rw [hs2, if_pos hS.len]
  exact (treeR_iff (hok.sub h1) (owed8_len f)).2 ⟨hS.fo, hS.zr, hS.nz, hS.so, hS.pe⟩
theorem insR_desc (x : Pay) : ∀ l : List Pay, l.Pairwise (fun a b => payLt a b = false) → (insR payLt x l).Pairwise (fun a b => payLt a b = false)
 | [], _ => by simp [insR]
 | a :: t, h => by
  obtain ⟨h1, h2⟩ := List.pairwise_cons.1 h
  rw [insR]
  split
  ·rename_i hx
   refine List.pairwise_cons.2 ⟨fun y hy => ?_, insR_desc x t h2⟩
   rcases List.mem_cons.1 ((insR_perm payLt x t).mem_iff.1 hy) with rfl | hy
   ·rw [payLt_iff] at hx; rw [payLt_no]; omega
   ·exact h1 y hy
  ·rename_i hx
   have hx' : payLt x a = false := by simpa using hx
   refine List.pairwise_cons.2 ⟨fun y hy => ?_, h⟩
   rcases List.mem_cons.1 hy with rfl | hy
   ·exact hx'
   ·have := h1 y hy
    rw [payLt_no] at this hx' ⊢; omega
theorem srtP_sorted (l : List Pay) : SortedP (srt payLt l) := by
 unfold srt SortedP
 have h : ∀ (l acc : List Pay), acc.Pairwise (fun a b => payLt b a = false) → (l.foldl (insE payLt) acc).Pairwise (fun a b => payLt b a = false) := by
  intro l
  induction l with
  | nil => exact fun acc h => h
  | cons x t ih =>
   intro acc h
   refine ih _ ?_
   unfold insE
   rw [List.pairwise_reverse]
   exact insR_desc x _ (by rw [List.pairwise_reverse]; exact h)
 exact h l [] List.Pairwise.nil
theorem lstR_iff {ids cu : List Int} {L : List (Nat × Nat)} {out : List Pay} : lstR ids L cu = some out ↔ (∀ e ∈ L, amt ids.length (lf cu) L e ≠ 0) ∧ SortedP out ∧ out.Perm (L.map (payE ids (lf cu) L)) := by
 have hlt : (fun x y => decide (pyCmp x y < 0)) = payLt := by funext x y; exact pyCmp_lt x y
 unfold lstR
 rw [hlt]
 have hall : L.all (fun e => decide (amt ids.length (lf cu) L e ≠ 0)) = true ↔ ∀ e ∈ L, amt ids.length (lf cu) L e ≠ 0 := by simp [List.all_eq_true]
 split
 ·rename_i h
  constructor
  ·intro e
   injection e with e
   subst e
   exact ⟨hall.1 h, srtP_sorted _, srt_perm _ _⟩
  ·rintro ⟨_, h2, h3⟩
   rw [sorted_uniq (srtP_sorted _) h2 ((srt_perm _ _).trans h3.symm)]
 ·rename_i h
  constructor
  ·intro e; cases e
  ·rintro ⟨h1, _⟩; exact absurd (hall.2 h1) h
theorem leafG_mem {f : Flo} {cu : List Int} {l : List (Nat × Nat)} {out : List Pay} (h : ∀ p ∈ l, p.1 < f.ids.length ∧ p.2 < f.ids.length) : out ∈ leafG f cu l ↔ Zr f.ids.length l (lf cu) ∧ lstR f.ids l cu = some out := by
 unfold leafG
 rw [← evB_iff h]
 split
 ·rename_i he
  rw [Option.mem_toList]
  simp [he]
 ·rename_i he
  simp [he]
theorem chG_mem {f : Flo} {cu : List Int} {many : Nat} {out : List Pay} : ∀ {t l : List (Nat × Nat)}, (l ++ t).Nodup → (∀ p ∈ l ++ t, p.1 < f.ids.length ∧ p.2 < f.ids.length) → Forest l → l.length ≤ many →
  (out ∈ chG f cu many t l ↔ ∃ s, List.Sublist s t ∧ (l ++ s).length = many ∧ Forest (l ++ s) ∧ Zr f.ids.length (l ++ s) (lf cu) ∧ lstR f.ids (l ++ s) cu = some out)
 | [], l, hn, hl, hf, hle => by
  rw [chG]
  constructor
  ·intro h
   split at h
   ·rename_i hm
    have := (leafG_mem (fun p hp => hl p (by simp [hp]))).1 h
    exact ⟨[], .slnil, by simpa using hm, by simpa using hf, by simpa using this.1, by simpa using this.2⟩
   ·cases h
  ·rintro ⟨s, hs, h1, h2, h3, h4⟩
   obtain rfl := List.sublist_nil.1 hs
   rw [List.append_nil] at h1 h3 h4
   rw [if_pos h1]
   exact (leafG_mem (fun p hp => hl p (by simp [hp]))).2 ⟨h3, h4⟩
 | p :: t, l, hn, hl, hf, hle => by
  by_cases hm : l.length = many
  ·rw [chG_yes hm]
   constructor
   ·intro h
    have := (leafG_mem (fun p hp => hl p (by simp [hp]))).1 h
    exact ⟨[], List.nil_sublist _, by simpa using hm, by simpa using hf, by simpa using this.1, by simpa using this.2⟩
   ·rintro ⟨s, hs, h1, h2, h3, h4⟩
    have : s = [] := List.length_eq_zero_iff.1 (by rw [List.length_append] at h1; omega)
    subst this
    rw [List.append_nil] at h3 h4
    exact (leafG_mem (fun p hp => hl p (by simp [hp]))).2 ⟨h3, h4⟩
  ·rw [chG_cons hm, List.mem_append]
   have e1 : l ++ p :: t = (l ++ [p]) ++ t := by simp
   have hn1 : ((l ++ [p]) ++ t).Nodup := by rw [← e1]; exact hn
   have hl1 : ∀ q ∈ (l ++ [p]) ++ t, q.1 < f.ids.length ∧ q.2 < f.ids.length := by rw [← e1]; exact hl
   have hn2 : (l ++ t).Nodup := hn.sublist ((List.sublist_cons_self p t).append_left l)
   have hl2 : ∀ q ∈ l ++ t, q.1 < f.ids.length ∧ q.2 < f.ids.length := fun q hq => hl q (by simp at hq ⊢; rcases hq with h | h <;> simp [h])
   have hnp : (l ++ [p]).Nodup := (List.nodup_append.1 hn1).1
   have hp := hl p (by simp)
   have hap : Forest (l ++ [p]) ↔ apB f.ids.length l p = true := by
    rw [Gr.forest_snoc hnp, ← Gr.lab_apart (Gr.lab_all (fun q hq => hl q (by simp [hq]))) hp.1 hp.2]
    unfold apB
    simp [hf]
   have ih2 := chG_mem (out := out) (cu := cu) hn2 hl2 hf hle
   constructor
   ·rintro (h | h)
    ·split at h
     ·rename_i ha
      obtain ⟨s, h1, h2, h3, h4, h5⟩ := (chG_mem hn1 hl1 (hap.2 ha) (by rw [List.length_append, List.length_singleton]; omega)).1 h
      rw [List.append_assoc, List.singleton_append] at h2 h3 h4 h5
      exact ⟨p :: s, h1.cons_cons p, h2, h3, h4, h5⟩
     ·cases h
    ·obtain ⟨s, h1, h2⟩ := ih2.1 h
     exact ⟨s, h1.cons p, h2⟩
   ·rintro ⟨s, hs, h1, h2, h3, h4⟩
    cases hs with
    | cons _ hs => exact .inr (ih2.2 ⟨s, hs, h1, h2, h3, h4⟩)
    | cons_cons _ hs =>
     rename_i s
     have e2 : l ++ p :: s = (l ++ [p]) ++ s := by simp
     rw [e2] at h1 h2 h3 h4
     have hns : ((l ++ [p]) ++ s).Nodup := hn1.sublist (hs.append_left _)
     have hfp : Forest (l ++ [p]) := h2.sub hns hnp fun q hq => by simp only [List.mem_append] at hq ⊢; exact .inl hq
     refine .inl ?_
     rw [if_pos (hap.1 hfp)]
     exact (chG_mem hn1 hl1 hfp (by rw [List.length_append, List.length_singleton]; omega)).2 ⟨s, hs, h1, h2, h3, h4⟩
theorem forest_nil : Forest [] := fun e he => by cases he
theorem lstsR_mem {f : Flo} {k : Nat} {out : List Pay} : out ∈ lstsR f (owed8 f) k ↔ ∃ L, SetL f.ids (owed8 f) (PrS f) k L out := by
 unfold lstsR
 rw [chG_mem (by simpa using prP_nodup _ _) (fun p hp => by have := prP_mem.1 (by simpa using hp : p ∈ prP (spk f) f.ids.length); omega) forest_nil (Nat.zero_le _)]
 constructor
 ·rintro ⟨s, hs, h1, h2, h3, h4⟩
  rw [List.nil_append] at h1 h2 h3 h4
  obtain ⟨h5, h6, h7⟩ := lstR_iff.1 h4
  exact ⟨s, (prP_nodup _ _).sublist hs, fun e he => prP_mem.1 (hs.subset he), h1, h2, h3, h5, h6, h7⟩
 ·rintro ⟨L, h⟩
  obtain ⟨S, h1, h2, h3⟩ := sub_of_set (R := prP (spk f) f.ids.length) h.nd (prP_nodup _ _) fun e he => prP_mem.2 (h.mem e he)
  have hS := h.same h2 h3
  exact ⟨S, h1, by simpa using hS.len, by simpa using hS.fo, by simpa using hS.zr, by simpa using lstR_iff.2 ⟨hS.nz, hS.so, hS.pe⟩⟩
end Go.Proofs.YtihonljdanjfmaaGreatDoor.Sw
namespace Go.Proofs.YtihonljdanjfmaaGreatDoor.Sw
open Go.RowKit Go Go.Shelf Go.Proofs
structure PayB (l : List Pay) : Prop where
 len : l.length ≤ 1000
 bd : ∀ x ∈ l, -1000000000000 ≤ x.p ∧ x.p ≤ 1000000000000
theorem sum_con (l : List Pay) (hB : PayB l) : Con Tryz.prog 75 [.sl 3 payC l] [] (Is (.val (.int .i64 (sumPay l))) []) := by
 obtain ⟨hl, hb⟩ := hB
 refine con_of Tryz.func75 rfl (enters_of Tryz.func75 (by kernel_rfl) rfl) rfl ?_; intro n w0 F0 G0
 refine zS ?_;repeat(refine yA ?_;intro p hp;refine zS ?_)
 refine W_loopJ (fun (k : Nat) => ⟨[(6, .sl 3 payC l), (7, .val (.int .i64 l.length)), (8, .val (.int .i64 k)), (3, .val (.int .i64 (sumPay (l.take k))))], []⟩) (fun k => k ≤ l.length) (fun k => l.length - k) 0 (fun _ _ st => st_sub2 st zR zP) (Nat.zero_le _) ?_
 rintro k hk
 refine zS ?_;repeat(refine yA ?_;intro p hp;refine zS ?_)
 refine w_cond rfl (fun hlt => ?_) (fun hlt => ?_)
 ·have hlt' : k < l.length := by simpa using hlt
  have h1 := hb _ (List.getElem_mem hlt')
  have h2 := sumPay_bound (c := 1000000000000) (by omega) (l := l.take k) fun y hy => hb y (List.mem_of_mem_take hy)
  have h3 : (l.take k).length = k := by rw [List.length_take]; omega
  rw [h3] at h2
  have h4 : sumPay (l.take (k + 1)) = sumPay (l.take k) + l[k].p := by rw [List.take_succ_eq_append_getElem hlt', sumPay_snoc]
  refine zS ?_;repeat(refine yA ?_;intro p hp;refine zS ?_)
  rw [← h4]
  (refine ⟨k + 1, fun _ _ st => st_sub2 st ?_ ?_, ?_, ?_⟩; exact zR; exact zP)
  ·omega
  ·omega
 ·have hkk : k = l.length := by simp at hlt; omega
  subst hkk
  rw [List.take_length]
  refine zS ?_;repeat(refine yA ?_;intro p hp;refine zS ?_)
  (apply res1; exact rfl; exact rfl; exact ⟨rfl, rfl⟩)
def cmpL : List Pay → List Pay → Int
 | [], [] => 0
 | [], _ :: _ => -1
 | _ :: _, [] => 1
 | x :: s, y :: t => if pyCmp x y ≠ 0 then pyCmp x y else cmpL s t
theorem cmpL_0 : cmpL [] [] = 0 := rfl
theorem cmpL_1 (x : Pay) (s : List Pay) : cmpL (x :: s) [] = 1 := rfl
theorem cmpL_3 (x : Pay) (s : List Pay) : cmpL [] (x :: s) = -1 := rfl
theorem cmpL_2 (x y : Pay) (s t : List Pay) : cmpL (x :: s) (y :: t) = if pyCmp x y ≠ 0 then pyCmp x y else cmpL s t := rfl
theorem cmpF_con (a b : List Pay) (ha : a.length ≤ 1000) (hb : b.length ≤ 1000) : Con Tryz.prog 111 [.sl 3 payC a, .sl 3 payC b, .clo 112 []] [] (Is (.val (.int .i64 (cmpL a b))) []) := by
 refine con_of Tryz.func111 rfl (enters_of Tryz.func111 (by kernel_rfl) rfl) rfl ?_; intro n w0 F0 G0
 refine zS ?_;repeat(refine yA ?_;intro p hp;refine zS ?_)
 refine W_loopJ (fun (k : Nat) => ⟨[(0, .sl 3 payC a), (1, .sl 3 payC b), (2, .clo 112 []), (11, .sl 3 payC a), (12, .val (.int .i64 a.length)), (13, .val (.int .i64 k))], []⟩) (fun k => k ≤ a.length ∧ k ≤ b.length ∧ cmpL (a.drop k) (b.drop k) = cmpL a b) (fun k => a.length - k) 0 (fun _ _ st => st_sub2 st zR zP) ⟨Nat.zero_le _, Nat.zero_le _, rfl⟩ ?_
 rintro k ⟨hk, hkb, hc⟩
 refine zS ?_;repeat(refine yA ?_;intro p hp;refine zS ?_)
 refine w_cond rfl (fun hlt => ?_) (fun hlt => ?_)
 ·have hlt' : k < a.length := by simpa using hlt
  refine zS ?_;repeat(refine yA ?_;intro p hp;refine zS ?_)
  refine w_cond rfl (fun hge => ?_) (fun hge => ?_)
  ·have hke : k = b.length := by have := of_decide_eq_true hge; omega
   have e2 : b.drop k = [] := List.drop_eq_nil_of_le (by omega)
   rw [drop_step hlt', e2] at hc
   rw [cmpL_1] at hc
   rw [← hc]
   refine zS ?_;repeat(refine yA ?_;intro p hp;refine zS ?_)
   (apply res1; exact rfl; exact rfl; exact ⟨rfl, rfl⟩)
  ·have hkb' : k < b.length := by have := of_decide_eq_false hge; omega
   rw [drop_step hlt', drop_step hkb', cmpL_2] at hc
   have CP := payments_con a[k] b[k]
   refine zS ?_;repeat(refine yA ?_;intro p hp;refine zS ?_)
   (apply wl_callV0 (CP); exact rfl; exact rfl; exact rfl)
   refine zS ?_;repeat(refine yA ?_;intro p hp;refine zS ?_)
   refine w_cond rfl (fun hz => ?_) (fun hz => ?_)
   ·rw [if_pos (by simpa using hz)] at hc
    rw [hc]
    refine zS ?_;repeat(refine yA ?_;intro p hp;refine zS ?_)
    (apply res1; exact rfl; exact rfl; exact ⟨rfl, rfl⟩)
   ·rw [if_neg (by simpa using hz)] at hc
    refine zS ?_;repeat(refine yA ?_;intro p hp;refine zS ?_)
    (refine ⟨k + 1, fun _ _ st => st_sub2 st ?_ ?_, ?_, ?_⟩; exact zR; exact zP)
    ·exact ⟨hlt', hkb', hc⟩
    ·omega
 ·have hke : k = a.length := by simp at hlt; omega
  have e2 : a.drop k = [] := List.drop_eq_nil_of_le (by omega)
  rw [e2] at hc
  refine zS ?_;repeat(refine yA ?_;intro p hp;refine zS ?_)
  refine w_cond rfl (fun hl => ?_) (fun hl => ?_)
  ·have hl' : k < b.length := by have := of_decide_eq_true hl; omega
   rw [drop_step hl', cmpL_3] at hc
   rw [← hc]
   refine zS ?_;repeat(refine yA ?_;intro p hp;refine zS ?_)
   (apply res1; exact rfl; exact rfl; exact ⟨rfl, rfl⟩)
  ·have hl' : k = b.length := by have := of_decide_eq_false hl; omega
   rw [List.drop_eq_nil_of_le (by omega), cmpL_0] at hc
   rw [← hc]
   refine zS ?_;repeat(refine yA ?_;intro p hp;refine zS ?_)
   (apply res1; exact rfl; exact rfl; exact ⟨rfl, rfl⟩)
def befI (a b : List Pay) : Int := firstNZ [cmpR (sumPay a) (sumPay b), cmpL a b]
theorem before_con (a b : List Pay) (ha : PayB a) (hb : PayB b) : Con Tryz.prog 63 [.sl 3 payC a, .sl 3 payC b] [] (Is (.val (.int .i64 (befI a b))) []) := by
 refine con_of Tryz.func63 rfl (enters_of Tryz.func63 (by kernel_rfl) rfl) rfl ?_; intro n w0 F0 G0
 refine zS ?_
 (first | (apply wl_call (sum_con a ha); exact rfl; exact rfl) | (apply wl_callR (sum_con a ha); exact rfl; exact zM; exact rfl))
 refine zS ?_
 (first | (apply wl_call (sum_con b hb); exact rfl; exact rfl) | (apply wl_callR (sum_con b hb); exact rfl; exact zM; exact rfl))
 refine zS ?_
 (first | (apply wl_call (compare_con (sumPay a) (sumPay b)); exact rfl; exact rfl) | (apply wl_callR (compare_con (sumPay a) (sumPay b)); exact rfl; exact zM; exact rfl))
 refine zS ?_
 (first | (apply wl_call (cmpF_con a b ha.len hb.len); exact rfl; exact rfl) | (apply wl_callR (cmpF_con a b ha.len hb.len); exact rfl; exact zM; exact rfl))
 refine zS ?_
 (apply wl_litF iC; exact inferInstance; exact inferInstance; exact inferInstance; exact zE; exact rfl; (first | exact (of_decide_eq_true rfl) | decide | (simp; done) | (simp; omega)); exact rfl)
 refine zS ?_
 (first | (apply wl_call (or_con [cmpR (sumPay a) (sumPay b), cmpL a b] (by simp)); exact rfl; exact rfl) | (apply wl_callR (or_con [cmpR (sumPay a) (sumPay b), cmpL a b] (by simp)); exact rfl; exact zM; exact rfl))
 refine zS ?_
 (apply res1; exact rfl; exact rfl; exact ⟨rfl, rfl⟩)
theorem values_iter (xs : List (List Pay)) (hl : xs.length ≤ 100000) : Iter Tryz.prog 109 [.fp 1 [.sl 1 plC xs]] [] lsC (fun _ _ => []) xs := by
 refine ⟨fun yv β βx H Hx I Ix hone hY b0 hI0 => ?_⟩
 refine con_of Tryz.func109 rfl (enters_of Tryz.func109 (by kernel_rfl) rfl) rfl ?_; intro n w0 F0 G0
 refine zS ?_
 refine W_loopJ (fun (b : Nat × β) => ⟨[(0, .val yv), (5, .sl 1 plC xs), (6, .val (.int .i64 xs.length)), (7, .val (.int .i64 b.1))], [.pack (H b.2)]⟩) (fun b => b.1 ≤ xs.length ∧ I b.1 b.2) (fun b => xs.length - b.1) (0, b0) (fun _ _ st => st_sub2 st zR zP) ⟨Nat.zero_le _, hI0⟩ ?_
 rintro ⟨k, b⟩ ⟨hk, hI⟩
 dsimp only at hk hI ⊢
 refine zS ?_
 refine w_cond rfl (fun hlt => ?_) (fun hlt => ?_)
 ·have hk' : k < xs.length := by simpa using hlt
  have Y := hY k hk' b () hI
  refine zS ?_
  (apply wl_yield Y; exact rfl; exact rfl; exact yC; exact rfl)
  rintro _ _ (⟨rfl, b', hb', rfl⟩ | ⟨rfl, b', hb', rfl⟩)
  ·refine zS ?_
   (refine ⟨(k + 1, b'), fun _ _ st => st_sub2 st ?_ ?_, ?_, ?_⟩; exact zR; exact zP)
   ·exact ⟨hk', hb'⟩
   ·dsimp only; omega
  ·refine zS ?_
   (apply resK0; exact rfl; exact .inr ⟨k + 1, b', by omega, by omega, hb', rfl⟩; exact yC)
 ·have hkk : k = xs.length := by simp at hlt; omega
  subst hkk
  refine zS ?_
  (apply resK0; exact rfl; exact .inl ⟨b, hI, rfl⟩; exact yC)
theorem values_con (xs : List (List Pay)) : Con Tryz.prog 62 [.sl 1 plC xs] [] (Is (.clo 109 [.fp 1 [.sl 1 plC xs]]) []) := by
 refine con_of Tryz.func62 rfl (enters_of Tryz.func62 (by kernel_rfl) rfl) rfl ?_; intro n w0 F0 G0
 refine zS ?_
 refine yA ?_
 intro p1 hp1
 (apply WL_frzb 1 1; exact rfl; exact zN)
 refine zS ?_;repeat(refine yA ?_;intro p hp;refine zS ?_)
 (apply res1; exact rfl; exact rfl; exact ⟨rfl, rfl⟩)
def opA (o : Option (List Pay)) : AV := match o with | none => .val (.slice none 0 0) | some l => .sl 3 payC l
def bstS (b : Option (List Pay)) (x : List Pay) : Option (List Pay) := match b with | none => some x | some y => if befI x y < 0 then some x else some y
theorem bstS_mem {xs : List (List Pay)} {b : Option (List Pay)} {y : List Pay} (h : xs.foldl bstS b = some y) : y ∈ xs ∨ b = some y := by
 induction xs generalizing b with
 | nil => exact .inr h
 | cons x t ih =>
  rcases ih h with h1 | h1
  ·exact .inl (by simp [h1])
  ·unfold bstS at h1
   cases b with
   | none => injection h1 with h1; exact .inl (by simp [h1])
   | some z =>
    dsimp only at h1
    split at h1
    ·injection h1 with h1; exact .inl (by simp [h1])
    ·exact .inr h1
theorem firstL_con (xs : List (List Pay)) (hl : xs.length ≤ 100000) (hb : ∀ x ∈ xs, PayB x) : Con Tryz.prog 61 [.clo 109 [.fp 1 [.sl 1 plC xs]], .clo 63 []] [] (Is (.tup [opA (xs.foldl bstS none), .val (.bool (xs.foldl bstS none).isSome)]) []) := by
 have IT := values_iter xs hl
 refine con_of Tryz.func61 rfl (enters_of Tryz.func61 (by kernel_rfl) rfl) rfl ?_; intro n w0 F0 G0
 refine zS ?_;repeat(refine yA ?_;intro p hp;refine zS ?_)
 rename_i p3 hp3 p6 hp6
 refine W_range (own := []) (by exact rfl) IT yC (fun k (b : Nat × Option (List Pay)) => b.1 = k ∧ b.2 = (xs.take k).foldl bstS none) (fun b => [.box p6 [opA b.2] 108, .box p [.val (.bool b.2.isSome)] 4, .box p3 [.clo 63 []] 114]) (fun _ _ => False) (fun _ _ => []) (0, none) ⟨rfl, rfl⟩ zP (by intro _ _ _; exact rfl) (by exact rfl) ?_ ?_ (fun _ _ _ h => h.elim)
 ·intro lr m w1 F1 G1 hrec k hk b u hI
  obtain ⟨j, o⟩ := b
  obtain ⟨hI, ho⟩ := hI
  dsimp only at hI ho
  subst hI
  dsimp only [zipR, lsC, List.cons_append, List.nil_append]
  have hst : (xs.take (j + 1)).foldl bstS none = bstS o xs[j] := by rw [List.take_succ_eq_append_getElem hk, List.foldl_append, ← ho]; rfl
  have hb1 := hb _ (List.getElem_mem hk)
  cases o with
  | none =>
   dsimp only [opA, Option.isSome]
   unfold bstS at hst
   dsimp only at hst
   refine zS ?_;repeat(refine yA ?_;intro p hp;refine zS ?_)
   intro w2 F2 G2 hrec2
   refine zS ?_;repeat(refine yA ?_;intro p hp;refine zS ?_)
   refine ⟨(j + 1, some xs[j]), ⟨rfl, hst.symm⟩, fun a w st => st_sub2 st zR zP⟩
  | some y =>
   have hb2 : PayB y := hb _ (by
    rcases bstS_mem ho.symm with h | h
    ·exact List.mem_of_mem_take h
    ·cases h)
   have BC := before_con xs[j] y hb1 hb2
   dsimp only [opA, Option.isSome]
   unfold bstS at hst
   dsimp only at hst
   refine zS ?_;repeat(refine yA ?_;intro p hp;refine zS ?_)
   intro w2 F2 G2 hrec2
   refine zS ?_;repeat(refine yA ?_;intro p hp;refine zS ?_)
   (apply wl_callV0 (BC); exact rfl; exact rfl; exact rfl)
   refine zS ?_;repeat(refine yA ?_;intro p hp;refine zS ?_)
   refine w_cond rfl (fun hlt => ?_) (fun hlt => ?_)
   ·rw [if_pos (of_decide_eq_true hlt)] at hst
    refine zS ?_;repeat(refine yA ?_;intro p hp;refine zS ?_)
    refine ⟨(j + 1, some xs[j]), ⟨rfl, hst.symm⟩, fun a w st => st_sub2 st zR zP⟩
   ·rw [if_neg (of_decide_eq_false hlt)] at hst
    refine zS ?_;repeat(refine yA ?_;intro p hp;refine zS ?_)
    refine ⟨(j + 1, some y), ⟨rfl, hst.symm⟩, fun a w st => st_sub2 st zR zP⟩
 ·rintro ⟨j, o⟩ ⟨hI, ho⟩
  dsimp only at hI ho
  subst hI
  dsimp only
  rw [List.take_length] at ho
  rw [← ho]
  clear ho
  cases o with
  | none =>
   dsimp only [opA, Option.isSome]
   (repeat (first | refine th_norm ?_ | refine th_exit ?_ | refine th_ret ?_ | refine bl_norm ?_ | refine bl_eq ?_ | refine bl_ne rfl ?_ | refine bl_ret ?_ | refine rt_norm ?_ | refine rt_ret ?_))
   refine zS ?_;repeat(refine yA ?_;intro p hp;refine zS ?_)
   refine W_run 3 [21, 22, 4] [0, 1, 2] Cut.nil rfl goFlt mixedS (by kernel_rfl) rfl ?_
   refine rpv [] [] ?_
   refine rpv [] [] ?_
   refine rpv [0] [] ?_
   refine ⟨⟨by kernel_rfl, by kernel_rfl⟩, fun vs => ?_⟩
   apply WL_auto [1, 2]
   ·exact goPk
   ·exact goNrm
   ·kernel_rfl
   ·kernel_rfl
   refine zS ?_;repeat(refine yA ?_;intro p hp;refine zS ?_)
   refine zS ?_;repeat(refine yA ?_;intro p hp;refine zS ?_)
   (apply resK2; exact rfl; exact rfl; exact rfl; exact ⟨rfl, rfl⟩; exact yC)
  | some y =>
   dsimp only [opA, Option.isSome]
   (repeat (first | refine th_norm ?_ | refine th_exit ?_ | refine th_ret ?_ | refine bl_norm ?_ | refine bl_eq ?_ | refine bl_ne rfl ?_ | refine bl_ret ?_ | refine rt_norm ?_ | refine rt_ret ?_))
   refine zS ?_;repeat(refine yA ?_;intro p hp;refine zS ?_)
   refine W_run 3 [21, 22, 4] [0, 1, 2] Cut.nil rfl goFlt mixedS (by kernel_rfl) rfl ?_
   refine rpv [] [] ?_
   refine rpv [] [] ?_
   refine rpv [0] [] ?_
   refine ⟨⟨by kernel_rfl, by kernel_rfl⟩, fun vs => ?_⟩
   apply WL_auto [1, 2]
   ·exact goPk
   ·exact goNrm
   ·kernel_rfl
   ·kernel_rfl
   refine zS ?_;repeat(refine yA ?_;intro p hp;refine zS ?_)
   refine zS ?_;repeat(refine yA ?_;intro p hp;refine zS ?_)
   (apply resK2; exact rfl; exact rfl; exact rfl; exact ⟨rfl, rfl⟩; exact yC)
theorem fewTo_mem {α : Type} {g : Nat → List α} {x : α} : ∀ {m : Nat}, x ∈ fewTo g m → ∃ k, k < m ∧ x ∈ g k
 | 0, h => by cases h
 | m + 1, h => by
  rw [fewTo] at h
  split at h
  ·exact ⟨m, by omega, h⟩
  ·obtain ⟨k, h1, h2⟩ := fewTo_mem h
   exact ⟨k, by omega, h2⟩
theorem fewTo_len {α : Type} {g : Nat → List α} {c : Nat} (h : ∀ k, (g k).length ≤ c) : ∀ m, (fewTo g m).length ≤ c
 | 0 => by simp [fewTo]
 | m + 1 => by
  rw [fewTo]
  split
  ·exact h m
  ·exact fewTo_len h m
noncomputable def lsF (f : Flo) : List (List Pay) := fewP f (owed8 f)
noncomputable def fewN (f : Flo) : Int × Int := if errL f = 0 then ((((lsF f).headD []).length : Int), 0) else (0, errL f)
noncomputable def cntN (f : Flo) : Int × Int := if errL f = 0 then (((lsF f).length : Int), 0) else (0, errL f)
noncomputable def stlN (f : Flo) : List Pay × Int := if errL f = 0 then (((lsF f).foldl bstS none).getD [], 0) else ([], errL f)
theorem lsF_ne {f : Flo} (h : errL f = 0) : lsF f ≠ [] := by
 intro e
 unfold errL at h
 unfold lsF at e
 split at h
 ·rw [e] at h; exact absurd h (by decide)
 ·exact absurd h (by decide)
theorem lsF_len {f : Flo} (h : errL f = 0) : (lsF f).length ≤ 32768 := by
 have hok : floOk f = true := by
  unfold errL at h
  split at h
  ·assumption
  ·exact absurd h (by decide)
 exact fewTo_len (fun k => lsts_len (owed8 f) k (flo_f hok).ids) _
theorem bstS_some : ∀ {xs : List (List Pay)} {b : Option (List Pay)}, (xs ≠ [] ∨ b.isSome = true) → (xs.foldl bstS b).isSome = true
 | [], b, h => h.elim (fun h => absurd rfl h) id
 | x :: t, b, _ => by
  rw [List.foldl_cons]
  refine bstS_some (.inr ?_)
  unfold bstS
  cases b with
  | none => rfl
  | some y => dsimp only; split <;> rfl
theorem Fewest_con (f : Flo) (hS : Sml f) : Con Tryz.prog 19 [.agg (flC f)] [tab8] (Is (.tup [.val (.int .i64 (fewN f).1), .val (.int .i64 (fewN f).2)]) [tab8]) := by
 by_cases he : errL f = 0
 ·have C := askedOk_con f hS he
  have hne := lsF_ne he
  have hl := lsF_len he
  unfold fewN
  rw [if_pos he]
  unfold lsF at hne hl ⊢
  generalize fewP f (owed8 f) = xs at C hne hl ⊢
  obtain ⟨x, t, rfl⟩ := List.exists_cons_of_ne_nil hne
  have h0 : 0 < (x :: t).length := Nat.succ_pos _
  refine con_of Tryz.func19 rfl (enters_of Tryz.func19 (by kernel_rfl) rfl) rfl ?_; intro n w0 F0 G0
  refine zS ?_;repeat(refine yA ?_;intro p hp;refine zS ?_)
  (apply wl_callP (C); exact rfl; exact yC; exact rfl)
  rintro _ _ ⟨ph, ow, rfl, rfl⟩
  refine zS ?_
  (apply resK2; exact rfl; exact rfl; exact rfl; exact ⟨rfl, rfl⟩; exact yC)
 ·have C := askedErr_con f hS he
  unfold fewN
  rw [if_neg he]
  generalize errL f = e at C he ⊢
  refine con_of Tryz.func19 rfl (enters_of Tryz.func19 (by kernel_rfl) rfl) rfl ?_; intro n w0 F0 G0
  refine zS ?_;repeat(refine yA ?_;intro p hp;refine zS ?_)
  (apply wl_callP (C); exact rfl; exact yC; exact rfl)
  rintro _ _ ⟨rfl, rfl⟩
  refine zS ?_
  refine w_cond rfl (fun h => ?_) (fun h => ?_)
  ·refine zS ?_
   (apply resK2; exact rfl; exact rfl; exact rfl; exact ⟨rfl, rfl⟩; exact yC)
  ·exact absurd (by simpa using h) he
theorem Count_con (f : Flo) (hS : Sml f) : Con Tryz.prog 30 [.agg (flC f)] [tab8] (Is (.tup [.val (.int .i64 (cntN f).1), .val (.int .i64 (cntN f).2)]) [tab8]) := by
 by_cases he : errL f = 0
 ·have C := askedOk_con f hS he
  have hl := lsF_len he
  unfold cntN
  rw [if_pos he]
  unfold lsF at hl ⊢
  generalize fewP f (owed8 f) = xs at C hl ⊢
  refine con_of Tryz.func30 rfl (enters_of Tryz.func30 (by kernel_rfl) rfl) rfl ?_; intro n w0 F0 G0
  refine zS ?_;repeat(refine yA ?_;intro p hp;refine zS ?_)
  (apply wl_callP (C); exact rfl; exact yC; exact rfl)
  rintro _ _ ⟨ph, ow, rfl, rfl⟩
  refine zS ?_
  (apply resK2; exact rfl; exact rfl; exact rfl; exact ⟨rfl, rfl⟩; exact yC)
 ·have C := askedErr_con f hS he
  unfold cntN
  rw [if_neg he]
  generalize errL f = e at C he ⊢
  refine con_of Tryz.func30 rfl (enters_of Tryz.func30 (by kernel_rfl) rfl) rfl ?_; intro n w0 F0 G0
  refine zS ?_;repeat(refine yA ?_;intro p hp;refine zS ?_)
  (apply wl_callP (C); exact rfl; exact yC; exact rfl)
  rintro _ _ ⟨rfl, rfl⟩
  refine zS ?_
  (apply resK2; exact rfl; exact rfl; exact rfl; exact ⟨rfl, rfl⟩; exact yC)
theorem Settle_con (f : Flo) (hS : Sml f) (hB : errL f = 0 → ∀ x ∈ lsF f, PayB x) : Con Tryz.prog 18 [.agg (flC f)] [tab8] (Is (.tup [.sl 3 payC (stlN f).1, .val (.int .i64 (stlN f).2)]) [tab8]) := by
 by_cases he : errL f = 0
 ·have C := askedOk_con f hS he
  have hB := hB he
  have hl := lsF_len he
  have hne := lsF_ne he
  unfold stlN
  rw [if_pos he]
  unfold lsF at hl hB hne ⊢
  generalize fewP f (owed8 f) = xs at C hl hB hne ⊢
  have FC := firstL_con xs (by omega) hB
  have hs := bstS_some (b := none) (.inl hne)
  generalize xs.foldl bstS none = o at FC hs ⊢
  obtain ⟨y, rfl⟩ := Option.isSome_iff_exists.1 hs
  dsimp only [opA, Option.isSome, Option.getD] at FC ⊢
  refine con_of Tryz.func18 rfl (enters_of Tryz.func18 (by kernel_rfl) rfl) rfl ?_; intro n w0 F0 G0
  refine zS ?_;repeat(refine yA ?_;intro p hp;refine zS ?_)
  (apply wl_callP (C); exact rfl; exact yC; exact rfl)
  rintro _ _ ⟨ph, ow, rfl, rfl⟩
  refine zS ?_
  (first | (apply wl_call (values_con xs); exact rfl; exact rfl) | (apply wl_callR (values_con xs); exact rfl; exact zM; exact rfl))
  refine zS ?_
  (first | (apply wl_call (FC); exact rfl; exact rfl) | (apply wl_callR (FC); exact rfl; exact zM; exact rfl))
  refine zS ?_
  (apply resK2; exact rfl; exact rfl; exact rfl; exact ⟨rfl, rfl⟩; exact yC)
 ·have C := askedErr_con f hS he
  unfold stlN
  rw [if_neg he]
  generalize errL f = e at C he ⊢
  refine con_of Tryz.func18 rfl (enters_of Tryz.func18 (by kernel_rfl) rfl) rfl ?_; intro n w0 F0 G0
  refine zS ?_;repeat(refine yA ?_;intro p hp;refine zS ?_)
  (apply wl_callP (C); exact rfl; exact yC; exact rfl)
  rintro _ _ ⟨rfl, rfl⟩
  refine zS ?_
  refine w_cond rfl (fun h => ?_) (fun h => ?_)
  ·refine zS ?_
   refine Res_nil 2 3 payC rfl ?_
   (apply resK2; exact rfl; exact rfl; exact rfl; exact ⟨rfl, rfl⟩; exact yC)
  ·exact absurd (by simpa using h) he
noncomputable def sumsTo (f : Flo) (cu : List Int) : Nat → List Int
 | 0 => []
 | m + 1 => sumsTo f cu m ++ (lstsR f cu m).map sumPay
theorem sumsTo_pre {f : Flo} {cu : List Int} {a : Nat} : ∀ {m : Nat}, a ≤ m → sumsTo f cu a <+: sumsTo f cu m
 | 0, h => by obtain rfl : a = 0 := by omega
              exact List.prefix_refl _
 | m + 1, h => by
  by_cases e : a = m + 1
  ·subst e; exact List.prefix_refl _
  ·exact (sumsTo_pre (m := m) (by omega)).trans (List.prefix_append _ _)
def siC (x : Int) (_ : Unit) : List AV := [.val (.int .i64 x)]
def HX {β βx : Type} (H : β → List HA) (Hx : βx → List HA) (b : Nat × (β ⊕ βx)) : List HA := match b.2 with | .inl b => [.pack (H b)] | .inr b => [.pack (Hx b)]
theorem sums_iter (ph ow : Value) [One (.val ph)] (f : Flo) (cu : List Int) (hok : floOk f = true) (hql : f.qs.length ≤ 1000) (hcl : cu.length = f.ids.length) (hbt : Btw (-1000000000) 1000000000 cu) (hB : ∀ m, m ≤ 5 → ∀ l ∈ lstsR f cu m, PayB l) :
  Iter Tryz.prog 73 [.fp 4 (flC f), .fp 1 [.val ph]] [hsB ph f ow, .row ow 3 1 iC cu] siC (fun _ _ => []) (sumsTo f cu (max 1 f.ids.length)) := by
 have hn := (flo_f hok).ids
 have hmx : (max (1 : Int) (f.ids.length : Int)) = ((max 1 f.ids.length : Nat) : Int) := by omega
 have hmx6 : max 1 f.ids.length ≤ 6 := by omega
 generalize max 1 f.ids.length = mx at hmx hmx6 ⊢
 refine ⟨fun yv β βx H Hx I Ix hone hY b0 hI0 => ?_⟩
 refine con_of Tryz.func73 rfl (enters_of Tryz.func73 (by kernel_rfl) rfl) rfl ?_; intro n w0 F0 G0
 refine zS ?_;repeat(refine yA ?_;intro p hp;refine zS ?_)
 (apply W_frzb 3 1; exact rfl; exact zN)
 refine zS ?_
 rw [hmx]
 refine W_loopJ (fun (b : Nat × β) => ⟨[(3, .fp 1 [.val yv]), (1, .fp 4 (flC f)), (2, .fp 1 [.val ph]), (9, .val (.int .i64 mx)), (10, .val (.int .i64 b.1))], [hsB ph f ow, .row ow 3 1 iC cu, .pack (H b.2)]⟩) (fun b => b.1 ≤ mx ∧ I (sumsTo f cu b.1).length b.2) (fun b => mx - b.1) (0, b0) (fun _ _ st => st_sub2 st zR zP) ⟨Nat.zero_le _, hI0⟩ ?_
 rintro ⟨i, b⟩ ⟨hi, hI⟩
 dsimp only at hi hI ⊢
 refine zS ?_
 refine w_cond rfl (fun hlt => ?_) (fun hlt => ?_)
 ·have hi' : i < mx := by simpa using hlt
  have IT := lists_iter ph ow f cu i hok hql (by omega) hcl hbt
  have hBi := hB i (by omega)
  obtain ⟨s, hs⟩ := sumsTo_pre (f := f) (cu := cu) (show i + 1 ≤ mx from hi')
  have hsu : sumsTo f cu (i + 1) = sumsTo f cu i ++ (lstsR f cu i).map sumPay := rfl
  rw [hsu, List.append_assoc] at hs
  refine zS ?_
  (first | (apply wl_call (lists_con ph i); exact rfl; exact rfl) | (apply wl_callR (lists_con ph i); exact rfl; exact zM; exact rfl))
  refine zS ?_
  refine W_range (own := [hsB ph f ow, .row ow 3 1 iC cu]) (by exact rfl) IT yC (fun k (b : Nat × (β ⊕ βx)) => ∃ b', b = (k, .inl b') ∧ I ((sumsTo f cu i).length + k) b') (HX H Hx) (fun e b => e = .ret ∧ ∃ k b', b = (k, .inr b') ∧ 0 < k ∧ k ≤ (sumsTo f cu mx).length ∧ Ix k b') (fun _ b => HX H Hx b) (0, .inl b) ⟨b, rfl, hI⟩ zP (by intro _ _ _; exact rfl) (by exact rfl) ?_ ?_ ?_
  ·intro lr m w1 F1 G1 hrec k hk b u hI
   obtain ⟨b', rfl, hI⟩ := hI
   have hkk : (sumsTo f cu i).length + k < (sumsTo f cu mx).length := by
    rw [← hs, List.length_append, List.length_append, List.length_map]; omega
   have hx0 : (sumsTo f cu mx)[(sumsTo f cu i).length + k] = sumPay (lstsR f cu i)[k] := by
    apply Option.some.inj
    rw [← List.getElem?_eq_getElem hkk, ← hs, List.getElem?_append_right (by omega), Nat.add_sub_cancel_left, List.getElem?_append_left (by rw [List.length_map]; exact hk), List.getElem?_map, List.getElem?_eq_getElem hk]
    rfl
   have Y := hY _ hkk b' () hI
   rw [hx0] at Y
   have SC := sum_con _ (hBi _ (List.getElem_mem hk))
   dsimp only [zipR, lsC, HX, List.cons_append, List.nil_append]
   generalize (lstsR f cu i)[k] = x at SC Y ⊢
   refine zS ?_
   intro w2 F2 G2 hrec2
   refine zS ?_
   refine W_run 3 [17, 18, 19] [0, 1, 2] Cut.nil rfl goFlt mixedS (by kernel_rfl) rfl ?_
   refine Run.pv [] [] rfl (fun vs => by apply ltr_pk; exact goPk; (refine ltr ?_; apply lt_loadE1'; exact rfl; exact rfl; exact rfl)) goApp ?_
   refine rpv [] [] ?_
   refine Run.pv [1] [] rfl (fun vs => by apply ltr_pk; exact goPk; (refine ltr ?_; refine lt_call ?_ (SC); exact rfl)) goApp ?_
   refine ⟨⟨by kernel_rfl, by kernel_rfl⟩, fun vs => ?_⟩
   apply WL_auto [0, 2]
   ·exact goPk
   ·exact goNrm
   ·kernel_rfl
   ·kernel_rfl
   refine zS ?_
   (apply wl_yield Y; exact rfl; exact rfl; exact yC; exact rfl)
   rintro _ _ (⟨rfl, b2, hb2, rfl⟩ | ⟨rfl, b2, hb2, rfl⟩)
   ·refine zS ?_
    refine ⟨(k + 1, .inl b2), ⟨b2, rfl, hb2⟩, fun a w st => st_sub2 st zR zP⟩
   ·refine zS ?_
    refine ⟨(_, .inr b2), ⟨rfl, _, b2, rfl, by omega, by omega, hb2⟩, fun a w st => st_sub2 st zR zP⟩
  ·rintro _ ⟨b', rfl, hI⟩
   dsimp only [HX]
   (repeat (first | refine th_norm ?_ | refine th_exit ?_ | refine th_ret ?_ | refine bl_norm ?_ | refine bl_eq ?_ | refine bl_ne rfl ?_ | refine bl_ret ?_ | refine rt_norm ?_ | refine rt_ret ?_))
   refine zS ?_
   (refine ⟨(i + 1, b'), fun _ _ st => st_sub2 st ?_ ?_, ?_, ?_⟩; exact zR; exact zP)
   ·exact ⟨hi', by rw [hsu, List.length_append, List.length_map]; exact hI⟩
   ·dsimp only; omega
  ·rintro _ _ _ ⟨rfl, k, b', rfl, h1, h2, h3⟩
   dsimp only [HX]
   (repeat (first | refine th_norm ?_ | refine th_exit ?_ | refine th_ret ?_ | refine bl_norm ?_ | refine bl_eq ?_ | refine bl_ne rfl ?_ | refine bl_ret ?_ | refine rt_norm ?_ | refine rt_ret ?_))
   (apply resK0; exact rfl; exact .inr ⟨k, b', h1, h2, h3, rfl⟩; exact yC)
 ·have hii : i = mx := by simp at hlt; omega
  subst hii
  refine zS ?_
  (apply resK0; exact rfl; exact .inl ⟨b, hI, rfl⟩; exact yC)
theorem cheap2_con (x y : Int) : Con Tryz.prog 76 [.val (.int .i64 x), .val (.int .i64 y)] [] (Is (.val (.int .i64 (cmpR x y))) []) := by
 refine con_of Tryz.func76 rfl (enters_of Tryz.func76 (by kernel_rfl) rfl) rfl ?_; intro n w0 F0 G0
 refine zS ?_
 (first | (apply wl_call (compare_con x y); exact rfl; exact rfl) | (apply wl_callR (compare_con x y); exact rfl; exact zM; exact rfl))
 refine zS ?_
 (apply res1; exact rfl; exact rfl; exact ⟨rfl, rfl⟩)
def bstJ (b : Option Int) (x : Int) : Option Int := match b with | none => some x | some y => if cmpR x y < 0 then some x else some y
theorem firstI_con {g : FuncId} {caps : List AV} (ph ow : Value) (f : Flo) (cu : List Int) (xs : List Int) (IT : Iter Tryz.prog g caps [hsB ph f ow, .row ow 3 1 iC cu] siC (fun _ _ => []) xs) : Con Tryz.prog 72 [.clo g caps, .clo 76 []] [hsB ph f ow, .row ow 3 1 iC cu] (Is (.tup [.val (.int .i64 ((xs.foldl bstJ none).getD 0)), .val (.bool (xs.foldl bstJ none).isSome)]) [hsB ph f ow, .row ow 3 1 iC cu]) := by
 refine con_of Tryz.func72 rfl (enters_of Tryz.func72 (by kernel_rfl) rfl) rfl ?_; intro n w0 F0 G0
 refine zS ?_;repeat(refine yA ?_;intro p hp;refine zS ?_)
 rename_i p3 hp3 p6 hp6
 refine W_range (own := [hsB ph f ow, .row ow 3 1 iC cu]) (by exact rfl) IT yC (fun k (b : Nat × Option Int) => b.1 = k ∧ b.2 = (xs.take k).foldl bstJ none) (fun b => [.box p6 [.val (.int .i64 (b.2.getD 0))] 3, .box p [.val (.bool b.2.isSome)] 4, .box p3 [.clo 76 []] 131]) (fun _ _ => False) (fun _ _ => []) (0, none) ⟨rfl, rfl⟩ zP (by intro _ _ _; exact rfl) (by exact rfl) ?_ ?_ (fun _ _ _ h => h.elim)
 ·intro lr m w1 F1 G1 hrec k hk b u hI
  obtain ⟨j, o⟩ := b
  obtain ⟨hI, ho⟩ := hI
  dsimp only at hI ho
  subst hI
  dsimp only [zipR, siC, List.cons_append, List.nil_append]
  have hst : (xs.take (j + 1)).foldl bstJ none = bstJ o xs[j] := by rw [List.take_succ_eq_append_getElem hk, List.foldl_append, ← ho]; rfl
  cases o with
  | none =>
   dsimp only [Option.isSome, Option.getD]
   unfold bstJ at hst
   dsimp only at hst
   refine zS ?_;repeat(refine yA ?_;intro p hp;refine zS ?_)
   intro w2 F2 G2 hrec2
   refine zS ?_;repeat(refine yA ?_;intro p hp;refine zS ?_)
   refine ⟨(j + 1, some xs[j]), ⟨rfl, hst.symm⟩, fun a w st => st_sub2 st zR zP⟩
  | some y =>
   dsimp only [Option.isSome, Option.getD]
   unfold bstJ at hst
   dsimp only at hst
   refine zS ?_;repeat(refine yA ?_;intro p hp;refine zS ?_)
   intro w2 F2 G2 hrec2
   refine zS ?_;repeat(refine yA ?_;intro p hp;refine zS ?_)
   (apply wl_callV0 (cheap2_con xs[j] y); exact rfl; exact rfl; exact rfl)
   refine zS ?_;repeat(refine yA ?_;intro p hp;refine zS ?_)
   refine w_cond rfl (fun hlt => ?_) (fun hlt => ?_)
   ·rw [if_pos (of_decide_eq_true hlt)] at hst
    refine zS ?_;repeat(refine yA ?_;intro p hp;refine zS ?_)
    refine ⟨(j + 1, some xs[j]), ⟨rfl, hst.symm⟩, fun a w st => st_sub2 st zR zP⟩
   ·rw [if_neg (of_decide_eq_false hlt)] at hst
    refine zS ?_;repeat(refine yA ?_;intro p hp;refine zS ?_)
    refine ⟨(j + 1, some y), ⟨rfl, hst.symm⟩, fun a w st => st_sub2 st zR zP⟩
 ·rintro ⟨j, o⟩ ⟨hI, ho⟩
  dsimp only at hI ho
  subst hI
  dsimp only
  rw [List.take_length] at ho
  rw [← ho]
  clear ho
  (repeat (first | refine th_norm ?_ | refine th_exit ?_ | refine th_ret ?_ | refine bl_norm ?_ | refine bl_eq ?_ | refine bl_ne rfl ?_ | refine bl_ret ?_ | refine rt_norm ?_ | refine rt_ret ?_))
  refine zS ?_;repeat(refine yA ?_;intro p hp;refine zS ?_)
  refine W_run 3 [21, 22, 4] [0, 1, 2] Cut.nil rfl goFlt mixedS (by kernel_rfl) rfl ?_
  refine rpv [] [] ?_
  refine rpv [] [] ?_
  refine rpv [0] [] ?_
  refine ⟨⟨by kernel_rfl, by kernel_rfl⟩, fun vs => ?_⟩
  apply WL_auto [1, 2]
  ·exact goPk
  ·exact goNrm
  ·kernel_rfl
  ·kernel_rfl
  refine zS ?_;repeat(refine yA ?_;intro p hp;refine zS ?_)
  refine zS ?_;repeat(refine yA ?_;intro p hp;refine zS ?_)
  (apply resK2; exact rfl; exact rfl; exact rfl; exact ⟨rfl, rfl⟩; exact yC)
noncomputable def chpN (f : Flo) : Int × Int := if errL f = 0 then (((sumsTo f (owed8 f) (max 1 f.ids.length)).foldl bstJ none).getD 0, 0) else (0, errL f)
theorem errL_ok {f : Flo} (h : errL f = 0) : floOk f = true := by
 unfold errL at h
 split at h
 ·assumption
 ·exact absurd h (by decide)
theorem Cheapest_con (f : Flo) (hS : Sml f) (hB : errL f = 0 → ∀ m, m ≤ 5 → ∀ l ∈ lstsR f (owed8 f) m, PayB l) : Con Tryz.prog 29 [.agg (flC f)] [tab8] (Is (.tup [.val (.int .i64 (chpN f).1), .val (.int .i64 (chpN f).2)]) [tab8]) := by
 by_cases he : errL f = 0
 ·have C := askedOk_con f hS he
  have hB := hB he
  have hok := errL_ok he
  have hF := flo_f hok
  have hqsl := hS.qs
  unfold chpN
  rw [if_pos he]
  refine con_of Tryz.func29 rfl (enters_of Tryz.func29 (by kernel_rfl) rfl) rfl ?_; intro n w0 F0 G0
  refine zS ?_;repeat(refine yA ?_;intro p hp;refine zS ?_)
  (apply wl_callP (C); exact rfl; exact yC; exact rfl)
  rintro _ _ ⟨ph, ow, rfl, rfl⟩
  apply WL_oneB At.here
  intro hone
  have IT := sums_iter ph ow f (owed8 f) hok (by omega) (owed8_len f) ((owed8_btw hF hS).mono (by omega) (by omega)) hB
  have FC := firstI_con ph ow f (owed8 f) _ IT
  generalize sumsTo f (owed8 f) (max 1 f.ids.length) = xs at FC ⊢
  refine zS ?_;repeat(refine yA ?_;intro p hp;refine zS ?_)
  (apply WL_frzC 19 0 4; exact rfl; exact rfl; exact zN)
  (apply WL_frzC 19 1 1; exact rfl; exact rfl; exact zN)
  refine zS ?_;repeat(refine yA ?_;intro p hp;refine zS ?_)
  (apply wl_callP (FC); exact rfl; exact yC; exact rfl)
  rintro _ _ ⟨rfl, rfl⟩
  refine zS ?_;repeat(refine yA ?_;intro p hp;refine zS ?_)
  (apply resK2; exact rfl; exact rfl; exact rfl; exact ⟨rfl, rfl⟩; exact yC)
 ·have C := askedErr_con f hS he
  unfold chpN
  rw [if_neg he]
  generalize errL f = e at C he ⊢
  refine con_of Tryz.func29 rfl (enters_of Tryz.func29 (by kernel_rfl) rfl) rfl ?_; intro n w0 F0 G0
  refine zS ?_;repeat(refine yA ?_;intro p hp;refine zS ?_)
  (apply wl_callP (C); exact rfl; exact yC; exact rfl)
  rintro _ _ ⟨rfl, rfl⟩
  refine zS ?_;repeat(refine yA ?_;intro p hp;refine zS ?_)
  refine w_cond rfl (fun h => ?_) (fun h => ?_)
  ·refine zS ?_;repeat(refine yA ?_;intro p hp;refine zS ?_)
   (apply resK2; exact rfl; exact rfl; exact rfl; exact ⟨rfl, rfl⟩; exact yC)
  ·exact absurd (by simpa using h) he
end Go.Proofs.YtihonljdanjfmaaGreatDoor.Sw
namespace Go.Proofs.YtihonljdanjfmaaGreatDoor.Sw
open Go.RowKit Go Go.Shelf Go.Proofs
open Go.Proofs.YtihonljdanjfmaaGreatDoor.Gr (payLt)
def fewN8 (f : Flo) : Int × Int := if (askR f).2.2 = 0 then ((((askR f).1.headD []).length : Int), 0) else (0, (askR f).2.2)
def cntN8 (f : Flo) : Int × Int := ((((askR f).1).length : Int), (askR f).2.2)
def chpN8 (f : Flo) : Int × Int := if (askR f).2.2 = 0 then ((askR f).2.1, 0) else (0, (askR f).2.2)
theorem pay_eq {x y : Pay} (h : x.a = y.a ∧ x.b = y.b ∧ x.p = y.p) : x = y := by
 cases x; cases y; simp_all
def ltL : List Pay → List Pay → Bool
 | x :: s, y :: t => if x ≠ y then payLt x y else ltL s t
 | [], _ => false
 | _ :: _, [] => false
theorem ltL_2 (x y : Pay) (s t : List Pay) : ltL (x :: s) (y :: t) = if x ≠ y then payLt x y else ltL s t := rfl
theorem ltL_1 (t : List Pay) : ltL [] t = false := rfl
def befR (a b : List Pay) : Bool := if sumPay a ≠ sumPay b then decide (sumPay a < sumPay b) else ltL a b
def bst8 (xs : List (List Pay)) : List Pay := xs.foldl (fun b x => if befR x b = true then x else b) (xs.headD [])
def stlN8 (f : Flo) : List Pay × Int := if (askR f).2.2 = 0 then (bst8 (askR f).1, 0) else ([], (askR f).2.2)
def hasP (l : List Pay) (x : Pay) : Bool := l.any fun y => decide (x = y)
end Go.Proofs.YtihonljdanjfmaaGreatDoor.Sw
namespace Go.Proofs.YtihonljdanjfmaaGreatDoor.Sw
open Go.RowKit Go Go.Shelf Go.Proofs
def sur8 (xs : List (List Pay)) : List Pay := (xs.headD []).filter fun x => xs.all fun y => hasP y x
def surN8 (f : Flo) : List Pay × Int := if (askR f).2.2 = 0 then (sur8 (askR f).1, 0) else ([], (askR f).2.2)
end Go.Proofs.YtihonljdanjfmaaGreatDoor.Sw
namespace Go.Proofs.YtihonljdanjfmaaGreatDoor.Sw
open Go.RowKit Go
open Go.WideElems (Fit)
open Go.ChangeMaps (setBlock heap_setBlock_same heap_setBlock_other)
structure WA (c : Cx) (ops : Array Oper) (j : Nat) (D : Array Bool) (s : S) (Q : Exit → S → Prop) : Prop where
 out : ∀ a w, St c s a w → wpAnyIn c.F c.n c.P .any ops (Post c Q) j D a w
theorem WA_done {c : Cx} {ops : Array Oper} {j : Nat} {D : Array Bool} {s : S} {Q : Exit → S → Prop} (hr : Region.ready .any ops D = []) (h : Q .normal s) : WA c ops j D s Q :=
 ⟨fun _ _ st => wpAnyIn_done hr ⟨s, st, h⟩ j⟩
def Each (p : Nat → Prop) : List Nat → Prop
 | [] => True
 | i :: t => p i ∧ Each p t
theorem Each.mem {p : Nat → Prop} : ∀ {l : List Nat}, Each p l → ∀ i ∈ l, p i
 | _ :: _, h, i, hi => by
  rcases List.mem_cons.1 hi with rfl | hi
  ·exact h.1
  ·exact Each.mem h.2 i hi
theorem wpIn_q {F : Fence} {n : Nat} {P : Program} {o : Oper} {a : Act} {w : World} {K : Act → World → Prop} {Q Q' : Exit → Act → World → Prop} (hq : ∀ e a w, e ≠ .normal → Q' e a w → Q e a w) (hl : LetsOut Q' → LetsOut Q) (hh : o.wpIn F n P a w K Q') : o.wpIn F n P a w K Q := by
 unfold Oper.wpIn at *
 refine ⟨hh.1, ?_⟩
 have hh := hh.2
 generalize (o.semAt F.round a.eval).run P w = r at *
 cases r with
 | ok x w' =>
  cases x <;> simp only [Oper.uponIn] at hh ⊢ <;>
   first
    | exact hh
    | exact ⟨hh.1, CallsIn.mono hh.2 (fun e w'' he => by cases e <;> first | exact he | exact hq _ _ _ (by simp) he | exact hl he)⟩
    | exact ⟨hh.1, RoundIn.mono hh.2 (fun e w'' he => by cases e <;> first | exact he | exact hq _ _ _ (by simp) he | exact hl he)⟩
 | halt x w' => cases x <;> simp only [Oper.uponIn] at hh ⊢ <;> first | exact hh | exact hq _ _ _ (by simp) hh
def norQ (Q : Exit → S → Prop) (K : S → Prop) : Exit → S → Prop
 | .normal, s => K s
 | e, s => Q e s
def StepA (c : Cx) (ops : Array Oper) (j : Nat) (D : Array Bool) (s : S) (Q : Exit → S → Prop) (i : Nat) : Prop :=
 ∃ o, ops[i]? = some o ∧ WL c ops [o] s (norQ Q fun s' => WA c ops j (D.setIfInBounds i true) s' Q)
theorem WA_go {c : Cx} {ops : Array Oper} {j : Nat} {D : Array Bool} {s : S} {Q : Exit → S → Prop} (rs : List Nat) (hr : Region.ready .any ops D = rs) (hne : rs ≠ []) (h : Each (StepA c ops j D s Q) rs) : WA c ops (j + 1) D s Q :=
 ⟨fun a w st => wpAnyIn_all hr hne fun i hi => by
  obtain ⟨o, ho, hw⟩ := h.mem i hi
  have hl := hw.out a w st
  unfold wpListIn at hl
  unfold wpOpIn
  simp only [ho]
  have key : ∀ a w, wpListIn c.F c.n c.P ops (Post c (norQ Q fun s' => WA c ops j (D.setIfInBounds i true) s' Q)) [] a w → wpAnyIn c.F c.n c.P .any ops (Post c Q) j (D.setIfInBounds i true) a w := fun a w h => by
   obtain ⟨s', st', h2⟩ := h
   exact WA.out h2 a w st'
  have hq : ∀ e a w, e ≠ Exit.normal → Post c (norQ Q fun s' => WA c ops j (D.setIfInBounds i true) s' Q) e a w → Post c Q e a w := fun e a w hne ⟨s', st', h2⟩ => ⟨s', st', by cases e <;> first | exact absurd rfl hne | exact h2⟩
  split
  ·rename_i hw2
   rw [if_pos hw2] at hl
   exact Oper.wpIn_mono key (wpIn_q hq (fun ⟨a, w, h⟩ => ⟨a, w, hq _ _ _ (by simp) h⟩) hl)
  ·rename_i hw2
   rw [if_neg hw2] at hl
   exact ⟨hl.1, key _ _ hl.2⟩⟩
theorem nor_norm {Q : Exit → S → Prop} {K : S → Prop} {s : S} (h : K s) : norQ Q K .normal s := h
theorem W_all {c : Cx} {Q : Exit → S → Prop} {id : Nat} {l : List Oper} {rs : List (Nat × AV)} {hs : List HA} (hm : c.P.follows .mixedOrders = true) (h : WA c l.toArray l.length (Array.replicate l.length false) ⟨rs, hs⟩ Q) : W c (.region id l.toArray true) ⟨rs, hs⟩ Q := ⟨fun a w st => by
 refine wpIn_region_any hm ?_
 simp only [List.size_toArray]
 refine h.out a _ ?_
 obtain ⟨G, F, hI, hF, r⟩ := st
 have hF' : Fr c.w0 w c.F0 F c.G0 G := hF
 exact ⟨G, F, ⟨hI.gin, hI.nd, hI.own, hsP.loc (w := w) (fun _ _ => rfl) hI.hs⟩, ⟨hF'.os, hF'.tape, hF'.output, hF'.size, hF'.same, hF'.newF, hF'.gle, hF'.newG⟩, r⟩⟩
section
variable {P : Program} {κ α : Type} [DecidableEq κ] {t : TypeId} {kv : κ → Value} {ok : κ → Prop} {g : α → AV} {l : List (κ × α)} {G : Nat → Option Obj} {F : List Nat} {w : World} {v : Value}
def HA.mpE {κ α : Type} (P : Program) (v : Value) (t : TypeId) (kv : κ → Value) (g : α → AV) (l : List (κ × α)) (k : κ) (st : Nat) : HA :=
 ⟨fun G F w => (HA.mp P v t kv g l).P G F w ∧ ∃ b es clock, ∃ j : Nat, ∃ e0 : MapEntry, v = .map (some b) ∧ F = [b] ∧ w.heap[b]? = some (.map es clock) ∧ es.toList[j]? = some e0 ∧ e0.key = kv k ∧ e0.born = st,
  fun h k => ⟨(HA.mp P v t kv g l).mono h k.1, k.2⟩,
  fun h k => ⟨(HA.mp P v t kv g l).loc h k.1, by
   obtain ⟨_, b, es, clock, j, e0, e1, e2, e3, e4⟩ := k
   exact ⟨b, es, clock, j, e0, e1, e2, (h b (by rw [e2]; simp)).trans e3, e4⟩⟩⟩
theorem mp_entry (K : KeyT P t kv ok) {tm e : TypeId} (ht : P.underlying tm = some (.map t e)) {z : Value} (hz : ∀ w, (zeroValue e).run P w = .ok z w) {k : κ} (hk : ok k) (hl : l.length ≤ 1000000) {a0 : α} (hz0 : g a0 = .val z) (h : (HA.mp P v t kv g l).P G F w) :
  ∃ b o o0 st v0, v = .map (some b) ∧ F = [b] ∧ w.heap[b]? = some o0 ∧ (∃ es cl, o0 = .map es cl) ∧ (∃ es cl, o = .map es cl) ∧ (Instr.mapEntry tm v (kv k)).run P w = .ok (.tuple #[v0, goInt ((st : Nat) : Int)]) (setBlock w b o) ∧ (HA.mpE P v t kv g (putM l k ((getM l k).getD a0)) k st).P G F (setBlock w b o) := by
 have h' := h
 obtain ⟨b, es, clock, rfl, rfl, hb, hF, hm⟩ := h
 obtain ⟨kl, hkey⟩ := K.key k hk
 have hn := hm.nodup hF.stamped.2.2
 rcases K.keyed.find w hkey es.toList hF.keys with ⟨h1, h2⟩ | ⟨j, e0, h1, h2, h3⟩
 ·have hg : getM l k = none := getM_none.2 fun p hp e => by
   obtain ⟨l', e1, h1⟩ := hm
   have h4 : kv p.1 ∈ es.toList.map (·.key) := by rw [h1.keys]; exact List.mem_map.2 ⟨p, e1.mem_iff.1 hp, rfl⟩
   obtain ⟨x, hx, ex⟩ := List.mem_map.1 h4
   exact h2 x hx (by rw [ex, e])
  obtain ⟨b', o, o0, hb', hF', hb2, _, hr, hm'⟩ := mp_store (a := a0) (u := z) K ht hk hl (by rw [hz0]; rfl) h'
  have hbb : b' = b := by simpa using hF'.symm
  subst hbb
  have hr2 : (Instr.mapUpdate tm (.map (some b')) (kv k) z).run P w = .ok () (setBlock w b' (.map (es.push ⟨kv k, z, clock⟩) (clock + 1))) := by
   simp [Instr.mapUpdate, run_underlying ht, MapKept.run_getObj_map hb, K.keyed.check w false hkey, h1, MapKept.run_setObj_map _ hb, Result.andThen, setBlock]
  have e1 : o = .map (es.push ⟨kv k, z, clock⟩) (clock + 1) := by
   have e := hr.symm.trans hr2
   injection e with _ e
   have h5 := heap_setBlock_same hb o
   rw [e, heap_setBlock_same hb _] at h5
   exact (Option.some.inj h5).symm
  subst e1
  refine ⟨b', _, _, clock, z, rfl, rfl, hb, ⟨_, _, rfl⟩, ⟨_, _, rfl⟩, ?_, by rw [hg]; exact hm', b', _, _, es.size, ⟨kv k, z, clock⟩, rfl, rfl, heap_setBlock_same hb _, by simp, rfl, rfl⟩
  simp [Instr.mapEntry, run_underlying ht, MapKept.run_getObj_map hb, K.keyed.check w false hkey, h1, hz, MapKept.run_setObj_map _ hb, Result.andThen, setBlock]
 ·have hj : es[j]? = some e0 := by simpa using h2
  obtain ⟨r, p1, _, _⟩ := set_permM (x := e0) h2
  obtain ⟨p, l3, q1, q2, q3, _⟩ := (hm.perm p1).uncons
  have hpk : p.1 = k := K.inj _ _ (q2.symm.trans h3)
  have hg : getM l k = some p.2 := (getM_iff hn).2 (q1.mem_iff.2 (by rw [← hpk]; simp))
  obtain ⟨b', o, o0, hb', hF', hb2, _, hr, hm'⟩ := mp_store (a := p.2) (u := e0.val) K ht hk hl q3 h'
  have hbb : b' = b := by simpa using hF'.symm
  subst hbb
  have hsame : es.modify j (fun e => { e with key := kv k, val := e0.val }) = es := by
   apply Array.ext'
   rw [Array.toList_modify, Go.ChangeMaps.modify_eq_set _ _ _ _ h2]
   have : ({ e0 with key := kv k, val := e0.val } : MapEntry) = e0 := by rw [← h3]
   rw [this]
   exact Go.WideElems.set_self _ _ _ h2
  have hsame2 : es.modify j (fun e => { e with key := kv k }) = es := by
   apply Array.ext'
   rw [Array.toList_modify, Go.ChangeMaps.modify_eq_set _ _ _ _ h2]
   have : ({ e0 with key := kv k } : MapEntry) = e0 := by rw [← h3]
   rw [this]
   exact Go.WideElems.set_self _ _ _ h2
  have hr2 : (Instr.mapUpdate tm (.map (some b')) (kv k) e0.val).run P w = .ok () (setBlock w b' (.map es clock)) := by
   simp [Instr.mapUpdate, run_underlying ht, MapKept.run_getObj_map hb, K.keyed.check w false hkey, h1, hj, h3, K.keyed.stays w hkey, MapKept.run_setObj_map _ hb, Result.andThen, setBlock, hsame]
  have e1 : o = .map es clock := by
   have e := hr.symm.trans hr2
   injection e with _ e
   have h5 := heap_setBlock_same hb o
   rw [e, heap_setBlock_same hb _] at h5
   exact (Option.some.inj h5).symm
  subst e1
  refine ⟨b', _, _, e0.born, e0.val, rfl, rfl, hb, ⟨_, _, rfl⟩, ⟨_, _, rfl⟩, ?_, by rw [hg]; exact hm', b', _, _, j, e0, rfl, rfl, heap_setBlock_same hb _, h2, h3, rfl⟩
  simp [Instr.mapEntry, run_underlying ht, MapKept.run_getObj_map hb, K.keyed.check w false hkey, h1, hj, h3, K.keyed.stays w hkey, hsame2, MapKept.run_setObj_map _ hb, Result.andThen, setBlock]
omit [DecidableEq κ] in
theorem mpE_store (K : KeyT P t kv ok) {tm e : TypeId} (ht : P.underlying tm = some (.map t e)) {k : κ} (hk : ok k) {st : Nat} {u : Value} (h : (HA.mpE P v t kv g l k st).P G F w) :
  (Instr.entryStore tm v (goInt ((st : Nat) : Int)) u).run P w = (Instr.mapUpdate tm v (kv k) u).run P w := by
 obtain ⟨⟨b, es, clock, rfl, rfl, hb, hF, hm⟩, b', es', clock', j, e0, e1, e2, e3, e4, e5, e6⟩ := h
 injection e1 with e1
 injection e1 with e1
 subst e1
 rw [hb] at e3
 injection e3 with e3
 injection e3 with e3 e7
 subst e3 e7 e6
 obtain ⟨kl, hkey⟩ := K.key k hk
 have hidx : es.findIdx? (fun e => ((e.born : Nat) : Int) == ((e0.born : Nat) : Int)) = some j := by
  rw [Go.WideElems.findIdx_arr]
  exact Go.WideElems.findIdx_born hF.stamped.2.1 e4
 rcases K.keyed.find w hkey es.toList hF.keys with ⟨h1, h2⟩ | ⟨i, e0', h1, h2, h3⟩
 ·exact absurd e5 (h2 _ (List.mem_of_getElem? e4))
 ·have hij : i = j := by
   have hnd := hF.stamped.2.2
   have hi : i < (es.toList.map (·.key)).length := by rw [List.length_map]; exact (List.getElem?_eq_some_iff.1 h2).1
   have hjl : j < (es.toList.map (·.key)).length := by rw [List.length_map]; exact (List.getElem?_eq_some_iff.1 e4).1
   refine (List.getElem_inj (h₀ := hi) (h₁ := hjl) hnd).1 ?_
   rw [List.getElem_map, List.getElem_map, (List.getElem?_eq_some_iff.1 h2).2, (List.getElem?_eq_some_iff.1 e4).2, h3, e5]
  subst hij
  have hee : e0' = e0 := Option.some.inj (h2.symm.trans e4)
  subst hee
  have hj : es[i]? = some e0' := by simpa using h2
  have hmod : es.modify i (fun e => { e with val := u }) = es.modify i (fun e' => { e' with key := kv k, val := u }) := by
   apply Array.ext'
   rw [Array.toList_modify, Array.toList_modify, Go.ChangeMaps.modify_eq_set _ _ _ _ h2, Go.ChangeMaps.modify_eq_set _ _ _ _ h2, ← e5]
  have hr2 : (Instr.mapUpdate tm (.map (some b)) (kv k) u).run P w = .ok () (setBlock w b (.map (es.modify i (fun e' => { e' with key := kv k, val := u })) clock)) := by
   simp [Instr.mapUpdate, run_underlying ht, MapKept.run_getObj_map hb, K.keyed.check w false hkey, h1, hj, h3, K.keyed.stays w hkey, MapKept.run_setObj_map _ hb, Result.andThen, setBlock]
  rw [hr2]
  simp [Instr.entryStore, MapKept.run_getObj_map hb, asInt, asIntOf, goInt, hidx, hmod, MapKept.run_setObj_map _ hb, Result.andThen, setBlock]
variable {rs : List (Nat × AV)} {d : Option Nat} {ty : TypeId} {pos : String} {af : Array Edge} {gd : Option (Nat × Bool)}
theorem lt_ment (K : KeyT P t kv ok) {tm e : TypeId} (ht : P.underlying tm = some (.map t e)) {z : Value} (hz : ∀ w, (zeroValue e).run P w = .ok z w) {x y : Operand} {av : AV} (k : κ) (a0 : α) (hz0 : g a0 = .val z) (hx : opv rs x = some (.val v)) (hy : opv rs y = some av) (hv : KeyV av (kv k)) (hk : ok k) (hl : l.length ≤ 1000000) :
  LT P ⟨d, .mapEntry tm x y, ty, pos, af, gd⟩ rs [.mp P v t kv g l] (fun p q => ∃ st : Nat, p = .tup [AV.any, .val (.int .i64 st)] ∧ q = [.mpE P v t kv g (putM l k ((getM l k).getD a0)) k st]) :=
 LT_eff (fun _ e => by cases e) fun ac w G F hR hI => by
  obtain ⟨F1, F2, e, hm, h2⟩ := hI.hs
  have h2' : F2 = [] := h2
  subst h2'
  have e1 : ac.eval x = v := opv_ok hR hx
  have e2 := hv.out G _ (opv_ok hR hy)
  obtain ⟨b, o, o0, st, v0, hvb, hF1, hb, ho, _, hr, hm'⟩ := mp_entry K ht hz hk hl hz0 hm
  subst hF1
  have hF : F = [b] := List.perm_singleton.1 (by simpa using e)
  subst hF
  obtain ⟨f1, f2⟩ := inv_setB hI hb ho hm'
  exact ⟨.value (.tuple #[v0, goInt ((st : Nat) : Int)]), setBlock w b o, .tuple #[v0, goInt ((st : Nat) : Int)], _, _, G, [b], by simp [execOp, e1, e2, hr, Result.andThen], .inl rfl, ⟨st, rfl, rfl⟩, f1, f2, [_, _], rfl, trivial, rfl, trivial⟩
theorem lt_mstE (K : KeyT P t kv ok) {tm e : TypeId} (ht : P.underlying tm = some (.map t e)) {x y z : Operand} (k : κ) (a : α) {st : Nat} (hx : opv rs x = some (.val v)) (hy : opv rs y = some (.val (.int .i64 st))) (hk : ok k) (hz : opv rs z = some (g a)) (hl : l.length ≤ 1000000) :
  LT P ⟨d, .entryStore tm x y z, ty, pos, af, gd⟩ rs [.mpE P v t kv g l k st] (Is (.val undef) [.mp P v t kv g (putM l k a)]) :=
 LT_eff (fun _ e => by cases e) fun ac w G F hR hI => by
  obtain ⟨F1, F2, e, hm, h2⟩ := hI.hs
  have h2' : F2 = [] := h2
  subst h2'
  have e1 : ac.eval x = v := opv_ok hR hx
  have e2 : ac.eval y = goInt ((st : Nat) : Int) := opv_ok hR hy
  have hst := fun u => mpE_store (u := u) K ht hk hm
  obtain ⟨b, o, o0, hvb, hF1, hb, ho, hr, hm'⟩ := mp_store K ht hk hl (opv_ok hR hz) hm.1
  subst hF1
  have hF : F = [b] := List.perm_singleton.1 (by simpa using e)
  subst hF
  have hI' : Inv G [b] [.mp P v t kv g l] w := ⟨hI.gin, hI.nd, hI.own, [b], [], by simp, hm.1, rfl⟩
  obtain ⟨f1, f2⟩ := inv_setB hI' hb ho hm'
  exact ⟨_, setBlock w b o, undef, _, _, G, [b], by simp [execOp, e1, e2, hst, hr, Result.andThen], .inr ⟨rfl, rfl⟩, ⟨rfl, rfl⟩, f1, f2, rfl⟩
theorem lt_look1E (K : KeyT P t kv ok) {tm e : TypeId} (ht : P.underlying tm = some (.map t e)) {z : Value} (hz : ∀ w, (zeroValue e).run P w = .ok z w) {x y : Operand} {av : AV} {k' : κ} {st : Nat} (k : κ) (hx : opv rs x = some (.val v)) (hy : opv rs y = some av) (hv : KeyV av (kv k)) (hk : ok k) :
  LT P ⟨d, .lookup tm x y false, ty, pos, af, gd⟩ rs [.mpE P v t kv g l k' st] (Is (lkA g z (getM l k)) [.mpE P v t kv g l k' st]) :=
 LT_read (fun _ e => by cases e) fun a w G F hR _ hh => by
  have e1 : a.eval x = v := opv_ok hR hx
  have e2 := hv.out G _ (opv_ok hR hy)
  obtain ⟨u, h1, h2⟩ := mp_look K ht hz false hk hh.1
  rw [if_neg (by simp)] at h2
  exact ⟨u, h1, by simp [execOp, e1, e2, h2, Result.andThen]⟩
end
section
variable {c : Cx} {rs : List (Nat × AV)} {hs : List HA} {Q : Exit → S → Prop} {ops : Array Oper} {tl : List Oper} {d : Nat} {ty : TypeId} {pos : String} {af : Array Edge} {κ α : Type} [DecidableEq κ] {t : TypeId} {kv : κ → Value} {ok : κ → Prop} {g : α → AV} {l : List (κ × α)} {v : Value}
theorem wl_ment {tm e : TypeId} {z : Value} {x y : Operand} {av : AV} {r : List HA} (K : KeyT c.P t kv ok) (k : κ) (a0 : α) (hz0 : g a0 = .val z) (ht : c.P.underlying tm = some (.map t e)) (hz : ∀ w, (zeroValue e).run c.P w = .ok z w) (hx : opv rs x = some (.val v)) (hr : Rm hs (.mp c.P v t kv g l) r) (hy : opv rs y = some av) (hv : KeyV av (kv k)) (hk : ok k) (hl : l.length ≤ 1000000) (hd : Nat.blt d c.nt = true)
  (kk : ∀ st : Nat, WL c ops tl ⟨(d, .tup [AV.any, .val (.int .i64 st)]) :: rs, .mpE c.P v t kv g (putM l k ((getM l k).getD a0)) k st :: r⟩ Q) : WL c ops (⟨some d, .mapEntry tm x y, ty, pos, af, none⟩ :: tl) ⟨rs, hs⟩ Q :=
 WL_lt (cons := [.mp c.P v t kv g l]) (rest := r) hd rfl (fun _ _ _ h => hr.sel h) (lt_ment K ht hz k a0 hz0 hx hy hv hk hl) fun av pr ⟨st, e1, e2⟩ => by subst e1; subst e2; exact kk st
theorem wl_mstE {tm e : TypeId} {x y z : Operand} {st : Nat} {r : List HA} (K : KeyT c.P t kv ok) (k : κ) (a : α) (ht : c.P.underlying tm = some (.map t e)) (hx : opv rs x = some (.val v)) (hr : Rm hs (.mpE c.P v t kv g l k st) r) (hy : opv rs y = some (.val (.int .i64 st))) (hk : ok k) (hz : opv rs z = some (g a)) (hl : l.length ≤ 1000000)
  (kk : WL c ops tl ⟨rs, .mp c.P v t kv g (putM l k a) :: r⟩ Q) : WL c ops (⟨none, .entryStore tm x y z, ty, pos, af, none⟩ :: tl) ⟨rs, hs⟩ Q :=
 WL_lt (cons := [.mpE c.P v t kv g l k st]) (rest := r) rfl rfl (fun _ _ _ h => hr.sel h) (lt_mstE K ht k a hx hy hk hz hl) fun av pr ⟨e1, e2⟩ => by subst e1; subst e2; exact kk
theorem wl_look1E {tm e : TypeId} {z : Value} {x y : Operand} {av : AV} {k' : κ} {st : Nat} {h : HA → List HA} (K : KeyT c.P t kv ok) (k : κ) (ht : c.P.underlying tm = some (.map t e)) (hz : ∀ w, (zeroValue e).run c.P w = .ok z w) (hx : opv rs x = some (.val v)) (hat : At hs (.mpE c.P v t kv g l k' st) h) (hy : opv rs y = some av) (hv : KeyV av (kv k)) (hk : ok k) (hd : Nat.blt d c.nt = true)
  (kk : WL c ops tl ⟨(d, lkA g z (getM l k)) :: rs, hs⟩ Q) : WL c ops (⟨some d, .lookup tm x y false, ty, pos, af, none⟩ :: tl) ⟨rs, hs⟩ Q := wl_rd (lt_look1E K ht hz k hx hy hv hk) hat hd kk
end
def k3 (x : Int × Int × Int) : Value := .agg #[.int .i64 x.1, .int .i64 x.2.1, .int .i64 x.2.2]
end Go.Proofs.YtihonljdanjfmaaGreatDoor.Sw
namespace Go.Proofs.YtihonljdanjfmaaGreatDoor.Sw
open Go.RowKit Go Go.Shelf Go.Proofs
def kP (x : Pay) : Value := .agg #[.int .i64 x.a, .int .i64 x.b, .int .i64 x.p]
structure OkP (x : Pay) : Prop where
 a : -1000000000000 ≤ x.a ∧ x.a ≤ 1000000000000
 b : -1000000000000 ≤ x.b ∧ x.b ≤ 1000000000000
 p : -1000000000000 ≤ x.p ∧ x.p ≤ 1000000000000
theorem laid_P : laidOutB Tryz.prog = true := by kernel_rfl
theorem row_P : 42 < (Tryz.prog).types.size := of_decide_eq_true (by kernel_rfl)
theorem deep_P : (Tryz.prog).keyTypeAt 2 42 = true := by kernel_rfl
theorem law_P : Go.WideMaps.KeyLaw Tryz.prog 42 := deep_law_laid laid_P (m := 2) (by omega) row_P deep_P (by rw [Tryz.underlying42])
theorem keytype_P : (Tryz.prog).keyType 42 = true := by kernel_rfl
theorem cells_P : (Tryz.prog).cellsOf 42 = 3 := by kernel_rfl
theorem cells_I : (Tryz.prog).cellsOf 3 = 1 := by kernel_rfl
theorem wf_I {i : Int} (h : -1000000000000 ≤ i ∧ i ≤ 1000000000000) : (Lit.int .i64 i).wf = true := by
 simp only [Lit.wf, IntKind.min, IntKind.max, IntKind.signed, IntKind.bits, Bool.and_eq_true, decide_eq_true_eq, if_true]
 omega
theorem key_P {x : Pay} (h : OkP x) : keyOf Tryz.prog 42 (kP x) = some (.string (keyBytes [.int .i64 x.a, .int .i64 x.b, .int .i64 x.p])) := by
 have w1 := wf_I h.a
 have w2 := wf_I h.b
 have w3 := wf_I h.p
 have u1 := Tryz.underlying42
 have u2 : (Tryz.prog).underlying 3 = some (.int .i64) := Tryz.underlying3
 have c1 := cells_P
 have c2 := cells_I
 have kt := keytype_P
 have hs : ∃ m, (Tryz.prog).types.size = m + 1 := ⟨(Tryz.prog).types.size - 1, by have := row_P; omega⟩
 obtain ⟨m, hm⟩ := hs
 obtain ⟨d, hd⟩ : ∃ d, d = (Tryz.prog).types.size + 1 := ⟨_, rfl⟩
 have kl : (Tryz.prog).keyLits d 42 [.int .i64 x.a, .int .i64 x.b, .int .i64 x.p] = some [.int .i64 x.a, .int .i64 x.b, .int .i64 x.p] := by
  rw [hd, hm]
  unfold Program.keyLits
  simp only [u1]
  simp [c1, c2, Program.keyLits, u2, w1, w2, w3]
 unfold keyOf
 rw [← hd]
 simp only [u1]
 rw [if_pos (by simp [kt, kP, Value.formed, u1, c1])]
 show ((Tryz.prog).keyLits d 42 [.int .i64 x.a, .int .i64 x.b, .int .i64 x.p]).map _ = _
 rw [kl]
 rfl
theorem keyT_P : KeyT Tryz.prog 42 kP OkP :=
 ⟨Go.Maps.Keyed.of_law law_P, fun x h => ⟨_, key_P h⟩, fun a b e => by
  unfold kP at e
  injection e with e
  injection e with e
  injection e with e1 e
  injection e with e2 e
  injection e with e3 e
  injection e1 with _ e1
  injection e2 with _ e2
  injection e3 with _ e3
  exact pay_eq ⟨e1, e2, e3⟩⟩
instance : DecidableEq Pay := inferInstance
abbrev mpP (v : Value) (l : List (Pay × Int)) : HA := .mp Tryz.prog v 42 kP iG l
theorem kvP (x : Pay) : KeyV (.agg (payC x)) (kP x) := KeyV.ints (xs := [x.a, x.b, x.p]) (by (repeat (first | exact Ints.nil | apply Ints.cons)))
theorem Fits.front {G : Nat → Option Obj} : ∀ {cs ds : List AV} {vs : List Value}, Fits G (cs ++ ds) vs → ∃ us ws, vs = us ++ ws ∧ Fits G cs us
 | [], ds, vs, h => ⟨[], vs, rfl, trivial⟩
 | c :: cs, ds, [], h => h.elim
 | c :: cs, ds, v :: vs, h => by
  obtain ⟨us, ws, e, k⟩ := Fits.front (cs := cs) (ds := ds) h.2
  exact ⟨v :: us, ws, by rw [e]; rfl, h.1, k⟩
theorem WL_cutCells {c : Cx} {rs : List (Nat × AV)} {hs r : List HA} {Q : Exit → S → Prop} {ops : Array Oper} {tl : List Oper} {b tot : Nat} {e : TypeId} {cs ds : List AV} (hr : Rm hs (.cells b e (cs ++ ds) tot) r) (k : WL c ops tl ⟨rs, .cells b e cs tot :: r⟩ Q) : WL c ops tl ⟨rs, hs⟩ Q := ⟨fun a w st => by
 obtain ⟨G, F, hI, rr⟩ := st
 obtain ⟨F1, F2, ep, ⟨vs, rest, e1, e2, e3, e4, e5⟩, h2⟩ := hr.sel hI.hs
 obtain ⟨us, ws, hv, hf⟩ := Fits.front e2
 subst hv
 exact k.out a w ⟨G, F, ⟨hI.gin, hI.nd, hI.own, F1, F2, ep, ⟨us, ws ++ rest, e1, hf, fun u hu => e3 u (by simp [hu]), by rw [e4, List.append_assoc], by rw [← e5, List.append_assoc]⟩, h2⟩, rr⟩⟩
instance tyzP : TyZ Tryz.prog 42 [.int .i64 0, .int .i64 0, .int .i64 0] := inferInstance
def TokP (xs : List Pay) (Rc : HA) : AV → List HA → Prop := fun x y => ∃ u, x = .val u ∧ y = [.row u 42 3 payC xs, Rc]
theorem indexFuncPL_con (v : Value) (xs : List Pay) (k : FuncId) (caps : List AV) (p : Pay → Bool) (Rc : HA) (hl : xs.length ≤ 1000000) (hc : ∀ x, x ∈ xs → Con Tryz.prog k ([.agg (payC x)] ++ caps) [Rc] (Is (.val (.bool (p x))) [Rc])) : Con Tryz.prog 124 [.val v, .clo k caps] [.row v 42 3 payC xs, Rc] (Is (.val (.int .i64 (fiX p xs))) [.row v 42 3 payC xs, Rc]) := by
 refine con_of Tryz.func124 rfl (enters_of Tryz.func124 (by kernel_rfl) rfl) rfl ?_; intro n w0 F0 G0
 refine zS ?_
 refine W_loopJ (fun (m : Nat) => ⟨[(0, .val v), (1, .clo k caps), (7, .val (.int .i64 xs.length)), (8, .val (.int .i64 m))], [.row v 42 3 payC xs, Rc]⟩) (fun m => m ≤ xs.length ∧ (xs.take m).any p = false) (fun m => xs.length - m) 0 (fun _ _ st => st_sub2 st zR zP) ?hj0 ?round
 case hj0 => simp
 case round =>
  rintro m ⟨hk, hno⟩
  refine zS ?_
  refine w_cond rfl (fun hlt => ?_) (fun hlt => ?_)
  ·have hlt' : m < xs.length := by simpa using hlt
   refine zS ?_
   (apply wl_callVP (hc xs[m] (List.getElem_mem hlt')); exact rfl; exact rfl; exact yC; exact rfl)
   rintro _ _ ⟨rfl, rfl⟩
   refine zS ?_
   refine w_cond rfl (fun he => ?_) (fun he => ?_)
   ·refine zS ?_
    (apply resK1; exact rfl; exact rfl; exact ⟨(congrArg (fun b => AV.val (Value.int .i64 b)) (fiX_at hlt' hno he).symm), rfl⟩; exact yC)
   ·refine zS ?_
    (refine ⟨m + 1, fun _ _ st => st_sub2 st ?_ ?_, ?_, ?_⟩; exact zR; exact zP)
    ·refine ⟨by omega, ?_⟩
     rw [List.take_succ_eq_append_getElem hlt', List.any_append, hno]
     simpa using he
    ·omega
  ·refine zS ?_
   have hkk : m = xs.length := by simp at hlt; omega
   subst hkk
   rw [List.take_length] at hno
   (apply resK1; exact rfl; exact rfl; exact ⟨(congrArg (fun b => AV.val (Value.int .i64 b)) (fiX_none hno).symm), rfl⟩; exact yC)
theorem deleteFuncPL_con (v : Value) (xs : List Pay) (k : FuncId) (caps : List AV) (d : Pay → Bool) (Rc : HA) (hl : xs.length ≤ 100000) (hc : ∀ x, x ∈ xs → Con Tryz.prog k ([.agg (payC x)] ++ caps) [Rc] (Is (.val (.bool (d x))) [Rc])) : Con Tryz.prog 78 [.val v, .clo k caps] [.row v 42 3 payC xs, Rc] (TokP (xs.filter fun x => !d x) Rc) := by
 refine con_of Tryz.func78 rfl (enters_of Tryz.func78 (by kernel_rfl) rfl) rfl ?_; intro n w0 F0 G0
 refine zS ?_;repeat(refine yA ?_;intro p hp;refine zS ?_)
 (apply wl_callP (indexFuncPL_con v xs k caps d Rc (by omega) hc); exact rfl; exact yC; exact rfl)
 rintro _ _ ⟨rfl, rfl⟩
 cases ha : xs.any d with
 | false =>
  rw [fiX_none ha]
  have hf : (xs.filter fun x => !d x) = xs := List.filter_eq_self.2 fun x hx => by simpa using List.any_eq_false.1 ha x hx
  rw [hf]
  refine zS ?_;repeat(refine yA ?_;intro p hp;refine zS ?_)
  (apply resK1; exact rfl; exact rfl; exact ⟨_, rfl, rfl⟩; exact yC)
 | true =>
  have hlt : xs.findIdx d < xs.length := List.findIdx_lt_length_of_exists (List.any_eq_true.1 ha)
  have hget : d xs[xs.findIdx d] = true := List.findIdx_getElem (w := hlt)
  have hbef : ∀ x ∈ xs.take (xs.findIdx d), d x = false := fun x hx => by
   obtain ⟨i, hi, rfl⟩ := List.mem_iff_getElem.1 hx
   rw [List.length_take] at hi
   rw [List.getElem_take]
   simpa using List.not_of_lt_findIdx (p := d) (xs := xs) (i := i) (by omega)
  rw [show fiX d xs = (xs.findIdx d : Nat) by unfold fiX; rw [if_pos ha]]
  generalize xs.findIdx d = i0 at *
  have hft : (xs.take (i0 + 1)).filter (fun x => !d x) = xs.take i0 := by
   rw [List.take_succ_eq_append_getElem hlt, List.filter_append, List.filter_eq_self.2 (fun x hx => by simpa using hbef x hx), List.filter_cons, if_neg (by rw [hget]; simp)]; simp
  have hx0 : xs = (xs.take (i0 + 1)).filter (fun x => !d x) ++ [xs[i0]] ++ xs.drop (i0 + 1) := by
   rw [hft, List.append_assoc, List.singleton_append, ← List.drop_eq_getElem_cons hlt, List.take_append_drop]
  have hl0 : ((xs.take (i0 + 1)).filter (fun x => !d x)).length = i0 := by rw [hft, List.length_take]; omega
  have hst : ∀ {c : Cx} {rs : List (Nat × AV)} {hs r : List HA} {a : Act} {w : World}, Rm hs (.row v 42 3 payC xs) r → St c ⟨rs, hs⟩ a w → St c ⟨rs, .row v 42 3 payC ((xs.take (i0 + 1)).filter (fun x => !d x) ++ [xs[i0]] ++ xs.drop (i0 + 1)) :: r⟩ a w := fun hr st => by
   rw [← hx0]
   obtain ⟨G, F, hI, rr⟩ := st
   exact ⟨G, F, ⟨hI.gin, hI.nd, hI.own, hr.sel hI.hs⟩, rr⟩
  refine zS ?_;repeat(refine yA ?_;intro p hp;refine zS ?_)
  refine W_loopJ (fun (b : Nat × List Pay) => ⟨[(0, .val v), (1, .clo k caps), (5, .val (.int .i64 ((xs.take b.1).filter fun x => !d x).length)), (6, .val (.int .i64 b.1))], [.row v 42 3 payC ((xs.take b.1).filter (fun x => !d x) ++ b.2 ++ xs.drop b.1), Rc]⟩) (fun b => b.1 ≤ xs.length ∧ ((xs.take b.1).filter fun x => !d x).length + b.2.length = b.1 ∧ b.2 ≠ []) (fun b => xs.length - b.1) (i0 + 1, [xs[i0]]) (fun _ _ st => st_sub2 (hst (by exact zN) st) (by dsimp only; rw [hl0]; exact zR) (by exact zP)) ⟨by dsimp only; omega, by dsimp only; rw [hl0]; rfl, by simp⟩ ?_
  clear hst hx0 hl0 hft hbef hget hlt ha
  rintro ⟨j, M⟩ ⟨hj, hjm, hM⟩
  dsimp only at hj hjm hM ⊢
  have hrl : ((xs.take j).filter (fun x => !d x) ++ M ++ xs.drop j).length = xs.length := by simp only [List.length_append, List.length_drop]; omega
  obtain ⟨R, hR⟩ : ∃ R, R = (xs.take j).filter (fun x => !d x) ++ M ++ xs.drop j := ⟨_, rfl⟩
  rw [← hR] at hrl ⊢
  refine zS ?_;repeat(refine yA ?_;intro p hp;refine zS ?_)
  rw [hrl]
  refine w_cond rfl (fun hlt => ?_) (fun hlt => ?_)
  ·have hlt' : j < xs.length := by simpa using hlt
   have hjR : j < R.length := by omega
   have htk : xs.take (j + 1) = xs.take j ++ [xs[j]] := List.take_succ_eq_append_getElem hlt'
   have hdr : xs.drop j = xs[j] :: xs.drop (j + 1) := List.drop_eq_getElem_cons hlt'
   have hRj : R[j] = xs[j] := by
    have h : R[j]? = some xs[j] := by
     rw [hR, List.getElem?_append_right (by rw [List.length_append]; omega), List.length_append, hjm, Nat.sub_self, hdr]; rfl
    rw [List.getElem?_eq_getElem hjR] at h; exact Option.some.inj h
   have hxm : xs[j] ∈ xs := List.getElem_mem hlt'
   have CX := hc _ hxm
   generalize hx : xs[j] = x at *
   have hfl : ((xs.take j).filter fun x => !d x).length < R.length := by
    have : 0 < M.length := List.length_pos_iff.2 hM
    omega
   refine zS ?_;repeat(refine yA ?_;intro p hp;refine zS ?_)
   rw [hRj]
   refine WL_as 27 (.agg (payC x)) rfl ?_
   (apply wl_callVP CX; exact rfl; exact rfl; exact yC; exact rfl)
   rintro _ _ ⟨rfl, rfl⟩
   cases hdx : d x with
   | true =>
    have hfk : (xs.take (j + 1)).filter (fun x => !d x) = (xs.take j).filter (fun x => !d x) := by
     rw [htk, List.filter_append, List.filter_cons, if_neg (by rw [hdx]; simp)]; simp
    have hR2 : R = (xs.take (j + 1)).filter (fun x => !d x) ++ (M ++ [x]) ++ xs.drop (j + 1) := by
     rw [hfk, hR, hdr]; simp
    refine zS ?_;repeat(refine yA ?_;intro p hp;refine zS ?_)
    refine ⟨(j + 1, M ++ [x]), fun _ _ st => st_sub2 st ?_ ?_, ?_, ?_⟩
    ·dsimp only; rw [hfk]; exact zR
    ·rw [hR2]; exact zP
    ·refine ⟨by dsimp only; omega, ?_, by simp⟩
     dsimp only; rw [hfk, List.length_append, List.length_singleton]; omega
    ·dsimp only; omega
   | false =>
    have hfk : (xs.take (j + 1)).filter (fun x => !d x) = (xs.take j).filter (fun x => !d x) ++ [x] := by
     rw [htk, List.filter_append, List.filter_cons, if_pos (by rw [hdx]; rfl)]; rfl
    refine zS ?_;repeat(refine yA ?_;intro p hp;refine zS ?_)
    refine WL_as 32 (.agg (payC x)) rfl ?_
    apply wl_storeRNx x
    ·exact rfl
    ·exact zM
    ·exact rfl
    ·exact inferInstance
    ·exact inferInstance
    ·exact hfl
    ·rfl
    cases M with
    | nil => exact absurd rfl hM
    | cons m0 M1 =>
     have hset : R.set ((xs.take j).filter fun x => !d x).length x = (xs.take (j + 1)).filter (fun x => !d x) ++ (M1 ++ [x]) ++ xs.drop (j + 1) := by
      rw [hfk, hR, hdr, List.append_assoc, List.set_append_right _ _ (Nat.le_refl _), Nat.sub_self]; simp
     rw [hset]
     have hfl2 : (((xs.take j).filter fun x => !d x).length : Int) + 1 = (((xs.take (j + 1)).filter fun x => !d x).length : Nat) := by rw [hfk, List.length_append, List.length_singleton]; omega
     refine zS ?_;repeat(refine yA ?_;intro p hp;refine zS ?_)
     refine ⟨(j + 1, M1 ++ [x]), fun _ _ st => st_sub2 st ?_ ?_, ?_, ?_⟩
     ·dsimp only; rw [← hfl2]; exact zR
     ·exact zP
     ·refine ⟨by dsimp only; omega, ?_, by simp⟩
      simp only [List.length_cons] at hjm
      dsimp only; rw [hfk, List.length_append, List.length_singleton, List.length_append, List.length_singleton]; omega
     ·dsimp only; omega
  ·have hkk : j = xs.length := by simp at hlt; omega
   subst hkk
   rw [List.take_length] at hR hjm ⊢
   rw [List.drop_length, List.append_nil] at hR
   generalize xs.filter (fun x => !d x) = F at *
   have hRne : R ≠ [] := by
    intro e
    rw [e] at hR
    cases M with
    | nil => exact hM rfl
    | cons a t => simp at hR
   have hFR : F.length + M.length = xs.length := hjm
   have hRl : R.length = xs.length := hrl
   refine zS ?_;repeat(refine yA ?_;intro p hp;refine zS ?_)
   refine WL_openRow (v := v) (e := 42) (n := 3) (f := payC) (xs := R) hRne (by exact zN) ?_
   intro b cap hv hnc hcm hlf
   subst hv
   rw [show R.flatMap payC = F.flatMap payC ++ M.flatMap payC by rw [hR, List.flatMap_append]]
   apply WL_cutCells (cs := F.flatMap payC) (ds := M.flatMap payC)
   ·exact zN
   rw [hRl] at hnc ⊢
   (apply wl_sliceV (l := F.length) (h := xs.length); exact rfl; exact inferInstance; exact .inl rfl; exact rfl; exact .inr ⟨rfl, rfl⟩; exact rfl; omega; omega; omega; exact rfl)
   rw [fromV]
   refine zS ?_;repeat(refine yA ?_;intro p hp;refine zS ?_)
   (apply wl_clearV (n := 3) (j := F.length) (m := xs.length - F.length); exact rfl; exact zM; exact inferInstance; exact inferInstance; exact rfl; (intro u hu; simp at hu; rcases hu with rfl | rfl | rfl <;> rfl); (rw [lenL (f := payC) (n := 3) (fun x hx => rfl)]); omega)
   refine zS ?_;repeat(refine yA ?_;intro p hp;refine zS ?_)
   (apply wl_sliceV (l := 0) (h := F.length) (li := 0); exact rfl; exact inferInstance; exact .inr ⟨rfl, rfl⟩; exact rfl; exact .inl rfl; exact rfl; omega; omega; omega; exact rfl)
   rw [toV]
   apply WL_shutRow (cap := cap) (b := b) (e := 42) (n := 3) (f := payC) F (fun x _ => rfl) (by omega) hcm
   ·exact zN
   refine zS ?_;repeat(refine yA ?_;intro p hp;refine zS ?_)
   (apply resK1; exact rfl; exact rfl; exact ⟨_, rfl, rfl⟩; exact yC)
theorem clonePy_con (xs : List Pay) (hl : xs.length ≤ 100000) : Con Tryz.prog 79 [.sl 3 payC xs] [] (Tok 42 3 payC xs) := by
 refine con_of Tryz.func79 rfl (enters_of Tryz.func79 (by kernel_rfl) rfl) rfl ?_; intro n w0 F0 G0
 refine zS ?_
 apply wl_eqlNil
 ·exact rfl
 ·exact inferInstance
 ·exact rfl
 intro b hb
 refine zS ?_
 refine w_cond rfl (fun h => ?_) (fun h => ?_)
 ·obtain rfl := hb h
  refine zS ?_
  refine Res_row0 42 3 payC ?_
  (apply resK; exact rfl; exact rfl; (apply Cut.cons; exact zN; exact Cut.nil); exact ⟨_, rfl, rfl⟩)
 ·refine zS ?_
  (apply wl_lit payC; exact inferInstance; exact inferInstance; exact inferInstance; exact zE; exact rfl; (first | exact (of_decide_eq_true rfl) | decide | (simp; done) | (simp; omega)); exact rfl)
  intro v0
  refine zS ?_
  (first | (apply wl_append; exact rfl; exact rfl; exact zN; exact inferInstance; exact inferInstance; (first | omega | (simp; omega)); exact rfl) | (apply wl_appendN; exact rfl; exact rfl; exact inferInstance; exact inferInstance; (first | omega | (simp; omega)); exact rfl))
  intro v1
  refine zS ?_
  (apply resK; exact rfl; exact rfl; (apply Cut.cons; exact zN; exact Cut.nil); exact ⟨_, rfl, rfl⟩)
theorem delM_idem {κ α : Type} [DecidableEq κ] (l : List (κ × α)) (k : κ) : delM (delM l k) k = delM l k := by
 unfold delM; rw [List.filter_filter]; simp
theorem putM_put {κ α : Type} [DecidableEq κ] (l : List (κ × α)) (k : κ) (a b : α) : putM (putM l k a) k b = putM l k b := by
 unfold putM
 rw [show delM ((k, a) :: delM l k) k = delM (delM l k) k from by unfold delM; rw [List.filter_cons_of_neg (by simp)], delM_idem]
theorem W_meetB {c : Cx} {id : Nat} {s : S} {x y : Code} {Q Q' : Exit → S → Prop} (s1 : S) (h : W c x s (fun e s' => e = .normal ∧ ∀ a w, St c s' a w → St c s1 a w)) (k : W c y s1 Q') : W c x s (blockQ id (thenQ (fun s' => W c y s' Q') Q)) :=
 W_mono h fun e s' ⟨he, hs⟩ => by subst he; exact W_weak s1 hs k
def cntM (m : List (Pay × Int)) (x : Pay) : Int := (getM m x).getD 0
theorem cntM_put (m : List (Pay × Int)) (x y : Pay) (n : Int) : cntM (putM m x n) y = if y = x then n else cntM m y := by
 unfold cntM
 rw [getM_put]
 split <;> rfl
structure CntJ (m : List (Pay × Int)) (L : List Pay) : Prop where
 eq : ∀ x, cntM m x = (L.count x : Nat)
 len : m.length ≤ L.length
theorem CntJ.nil : CntJ [] [] := ⟨fun x => rfl, Nat.le_refl _⟩
theorem CntJ.snoc {m : List (Pay × Int)} {L : List Pay} (h : CntJ m L) (x : Pay) : CntJ (putM m x (cntM m x + 1)) (L ++ [x]) := by
 refine ⟨fun y => ?_, by rw [List.length_append, List.length_singleton]; have := putM_len m x (cntM m x + 1); have := h.len; omega⟩
 rw [cntM_put, List.count_append, h.eq x, h.eq y, List.count_singleton]
 split
 ·rename_i e; subst e; simp
 ·rename_i e; simp [Ne.symm e]
theorem CntJ.le {m : List (Pay × Int)} {L : List Pay} (h : CntJ m L) (x : Pay) : 0 ≤ cntM m x ∧ cntM m x ≤ L.length := by
 rw [h.eq]; have := List.count_le_length (a := x) (l := L); omega
def surP (xs : List (List Pay)) : List Pay := (xs.headD []).filter fun x => !decide ((xs.flatten.count x : Int) < xs.length)
theorem sure1_con (mv : Value) (m : List (Pay × Int)) (xs : List (List Pay)) (x : Pay) (hx : OkP x) : Con Tryz.prog 80 [.agg (payC x), .fp 1 [.val mv], .fp 1 [.sl 1 plC xs]] [mpP mv m] (Is (.val (.bool (decide (cntM m x < xs.length)))) [mpP mv m]) := by
 refine con_of Tryz.func80 rfl (enters_of Tryz.func80 (by kernel_rfl) rfl) rfl ?_; intro n w0 F0 G0
 refine zS ?_;repeat(refine yA ?_;intro p hp;refine zS ?_)
 refine W_run 5 [5, 6, 7, 8, 9] [0, 1, 2, 3, 4] Cut.nil rfl goFlt mixedS (by kernel_rfl) rfl ?_
 refine Run.pv [] [] rfl (fun vs => by apply ltr_pk; exact goPk; (refine ltr ?_; apply lt_loadE1'; exact rfl; exact rfl; exact rfl)) goApp ?_
 refine rpv [] [] ?_
 refine Run.pv [0, 1] [] rfl (fun vs => by apply ltr_pk; exact goPk; exact ltr_rd (h := mpP mv m) (LT_av (lt_look1 keyT_P Tryz.underlying132 (fun w => by kernel_rfl) x rfl rfl (kvP x) hx) (lkA_int _)) zM) goApp ?_
 refine Run.pv [] [] rfl (fun vs => by apply ltr_pk; exact goPk; (refine ltr ?_; apply lt_loadE1'; exact rfl; exact rfl; exact rfl)) goApp ?_
 refine rpv [3] [] ?_
 refine ⟨⟨by kernel_rfl, by kernel_rfl⟩, fun vs => ?_⟩
 apply WL_auto [2, 4]
 ·exact goPk
 ·exact goNrm
 ·kernel_rfl
 ·kernel_rfl
 refine zS ?_
 refine zS ?_
 (apply resK1; exact rfl; exact rfl; exact ⟨rfl, rfl⟩; exact yC)
theorem flat_le {xs : List (List Pay)} {c : Nat} (h : ∀ l ∈ xs, l.length ≤ c) : xs.flatten.length ≤ xs.length * c := by
 induction xs with
 | nil => simp
 | cons x t ih =>
  have h1 := h x (by simp)
  have h2 := ih fun l hl => h l (by simp [hl])
  rw [List.flatten_cons, List.length_append, List.length_cons, Nat.succ_mul]; omega
noncomputable def surN (f : Flo) : List Pay × Int := if errL f = 0 then (surP (lsF f), 0) else ([], errL f)
theorem Sure_con (f : Flo) (hS : Sml f) (hB : errL f = 0 → ∀ l ∈ lsF f, l.length ≤ 5 ∧ ∀ x ∈ l, OkP x) : Con Tryz.prog 31 [.agg (flC f)] [tab8] (Is (.tup [.sl 3 payC (surN f).1, .val (.int .i64 (surN f).2)]) [tab8]) := by
 by_cases he : errL f = 0
 ·have C := askedOk_con f hS he
  have hB := hB he
  have hl := lsF_len he
  have hne := lsF_ne he
  unfold surN
  rw [if_pos he]
  unfold lsF at hl hB hne ⊢
  generalize fewP f (owed8 f) = xs at C hl hB hne ⊢
  have h0 : 0 < xs.length := List.length_pos_iff.2 hne
  have hh : xs.headD [] = xs[0] := by
   obtain ⟨x, t, rfl⟩ := List.exists_cons_of_ne_nil hne
   rfl
  have hb0 := hB _ (List.getElem_mem h0)
  unfold surP
  rw [hh]
  refine con_of Tryz.func31 rfl (enters_of Tryz.func31 (by kernel_rfl) rfl) rfl ?_; intro n w0 F0 G0
  refine zS ?_;repeat(refine yA ?_;intro p hp;refine zS ?_)
  (apply wl_callP (C); exact rfl; exact yC; exact rfl)
  rintro _ _ ⟨ph, ow, rfl, rfl⟩
  refine zS ?_;repeat(refine yA ?_;intro p hp;refine zS ?_)
  (apply wl_mmake keyT_P iG; exact rfl; intro mv hmv)
  refine zS ?_;repeat(refine yA ?_;intro p hp;refine zS ?_)
  rename_i p1 hp1 p5 hp5
  refine W_loopJ (fun (b : Nat × List (Pay × Int)) => ⟨[(5, .val p5), (7, .val p), (22, .sl 1 plC xs), (23, .val (.int .i64 xs.length)), (24, .val (.int .i64 b.1))], [.box p5 [.sl 1 plC xs] 105, .box p [.val mv] 132, mpP mv b.2, tab8]⟩) (fun b => b.1 ≤ xs.length ∧ CntJ b.2 (xs.take b.1).flatten) (fun b => xs.length - b.1) (0, []) (fun _ _ st => st_sub2 st zR zP) ⟨Nat.zero_le _, CntJ.nil⟩ ?_
  rintro ⟨i, m⟩ ⟨hi, hm⟩
  dsimp only at hi hm ⊢
  have hfl := flat_le (xs := xs.take i) (c := 5) fun l h => (hB l (List.mem_of_mem_take h)).1
  rw [List.length_take] at hfl
  refine zS ?_;repeat(refine yA ?_;intro p hp;refine zS ?_)
  refine w_cond rfl (fun hlt => ?_) (fun hlt => ?_)
  ·have hlt' : i < xs.length := by simpa using hlt
   have hst : (xs.take (i + 1)).flatten = (xs.take i).flatten ++ xs[i] := by rw [List.take_succ_eq_append_getElem hlt', List.flatten_append]; simp
   have hbi := hB _ (List.getElem_mem hlt')
   refine zS ?_;repeat(refine yA ?_;intro p hp;refine zS ?_)
   generalize xs[i] = l at hst hbi ⊢
   obtain ⟨hl5, hok⟩ := hbi
   generalize (xs.take i).flatten = L at hm hfl hst
   refine W_loopJ (fun (b : Nat × List (Pay × Int)) => ⟨[(5, .val p5), (7, .val p), (22, .sl 1 plC xs), (23, .val (.int .i64 xs.length)), (24, .val (.int .i64 i)), (28, .sl 3 payC l), (29, .val (.int .i64 l.length)), (30, .val (.int .i64 b.1))], [.box p5 [.sl 1 plC xs] 105, .box p [.val mv] 132, mpP mv b.2, tab8]⟩) (fun b => b.1 ≤ l.length ∧ CntJ b.2 (L ++ l.take b.1)) (fun b => l.length - b.1) (0, m) (fun _ _ st => st_sub2 st zR zP) ⟨Nat.zero_le _, by simpa using hm⟩ ?_
   clear hm
   rintro ⟨j, m⟩ ⟨hj, hm⟩
   dsimp only at hj hm ⊢
   refine zS ?_;repeat(refine yA ?_;intro p hp;refine zS ?_)
   refine w_cond rfl (fun hlt2 => ?_) (fun hlt2 => ?_)
   ·have hlt2' : j < l.length := by simpa using hlt2
    have hst2 : L ++ l.take (j + 1) = (L ++ l.take j) ++ [l[j]] := by rw [List.take_succ_eq_append_getElem hlt2', List.append_assoc]
    have hx := hok _ (List.getElem_mem hlt2')
    have hm1 := hm.snoc l[j]
    rw [← hst2] at hm1
    have hle := hm.le l[j]
    have hln := hm.len
    rw [List.length_append, List.length_take] at hle hln
    refine zS ?_;repeat(refine yA ?_;intro p hp;refine zS ?_)
    generalize l[j] = x at hx hm1 hle ⊢
    rename_i p7 hp7 _
    have hm6 : m.length ≤ 900000 := by omega
    have hc6 : 0 ≤ cntM m x ∧ cntM m x ≤ 900000 := by omega
    have hp6 := putM_len m x ((getM m x).getD 0)
    have hL1 : lkA iG (.int .i64 0) (getM m x) = .val (.int .i64 (cntM m x)) := lkA_int _
    have hL2 : lkA iG (.int .i64 0) (getM (putM m x ((getM m x).getD 0)) x) = .val (.int .i64 (cntM m x)) := by rw [getM_put, if_pos rfl]; rfl
    refine W_meetB ⟨[(5, .val p5), (7, .val p7), (22, .sl 1 plC xs), (23, .val (.int .i64 xs.length)), (24, .val (.int .i64 i)), (28, .sl 3 payC l), (29, .val (.int .i64 l.length)), (30, .val (.int .i64 j))], [.box p5 [.sl 1 plC xs] 105, .box p7 [.val mv] 132, mpP mv (putM m x (cntM m x + 1)), tab8]⟩ ?_ ?_
    ·skip
     refine W_all mixedS ?_
     refine WA_go [0, 1] (by kernel_rfl) (by decide) ⟨⟨_, rfl, ?_⟩, ⟨_, rfl, ?_⟩, trivial⟩
     ·refine zS ?_;repeat(refine yA ?_;intro p hp;refine zS ?_)
      refine nor_norm ?_
      refine WA_go [1] (by kernel_rfl) (by decide) ⟨⟨_, rfl, ?_⟩, trivial⟩
      refine zS ?_;repeat(refine yA ?_;intro p hp;refine zS ?_)
      refine nor_norm ?_
      refine WA_go [2, 4] (by kernel_rfl) (by decide) ⟨⟨_, rfl, ?_⟩, ⟨_, rfl, ?_⟩, trivial⟩
      ·(first | (apply wl_look1 keyT_P x Tryz.underlying132 (fun w => by kernel_rfl); exact rfl; exact zM; exact rfl; exact kvP x; exact hx; exact rfl; rw [hL1]) | (apply wl_look1E keyT_P x Tryz.underlying132 (fun w => by kernel_rfl); exact rfl; exact zM; exact rfl; exact kvP x; exact hx; exact rfl; rw [hL2])); (refine zS ?_; (repeat (refine yA ?_; intro p hp; refine zS ?_)))
       refine nor_norm ?_
       refine WA_go [3, 4] (by kernel_rfl) (by decide) ⟨⟨_, rfl, ?_⟩, ⟨_, rfl, ?_⟩, trivial⟩
       ·refine zS ?_;repeat(refine yA ?_;intro p hp;refine zS ?_)
        refine nor_norm ?_
        refine WA_go [4] (by kernel_rfl) (by decide) ⟨⟨_, rfl, ?_⟩, trivial⟩
        (apply wl_ment (g := iG) keyT_P x (0 : Int) rfl Tryz.underlying132 (fun w => by kernel_rfl); exact rfl; exact zN; exact rfl; exact kvP x; exact hx; omega; exact rfl); intro stmp; (refine zS ?_; (repeat (refine yA ?_; intro p hp; refine zS ?_)))
        refine nor_norm ?_
        refine WA_go [5] (by kernel_rfl) (by decide) ⟨⟨_, rfl, ?_⟩, trivial⟩
        refine zS ?_;repeat(refine yA ?_;intro p hp;refine zS ?_)
        refine nor_norm ?_
        refine WA_go [6] (by kernel_rfl) (by decide) ⟨⟨_, rfl, ?_⟩, trivial⟩
        (apply wl_mstE (g := iG) keyT_P x (cntM m x + 1) Tryz.underlying132; exact rfl; exact zN; exact rfl; exact hx; exact rfl; omega); rw [putM_put]; (refine zS ?_; (repeat (refine yA ?_; intro p hp; refine zS ?_)))
        refine nor_norm ?_
        refine WA_done (by kernel_rfl) ?_
        exact ⟨rfl, fun _ _ st => st_sub2 st zR zP⟩
       ·(apply wl_ment (g := iG) keyT_P x (0 : Int) rfl Tryz.underlying132 (fun w => by kernel_rfl); exact rfl; exact zN; exact rfl; exact kvP x; exact hx; omega; exact rfl); intro stmp; (refine zS ?_; (repeat (refine yA ?_; intro p hp; refine zS ?_)))
        refine nor_norm ?_
        refine WA_go [3, 5] (by kernel_rfl) (by decide) ⟨⟨_, rfl, ?_⟩, ⟨_, rfl, ?_⟩, trivial⟩
        ·refine zS ?_;repeat(refine yA ?_;intro p hp;refine zS ?_)
         refine nor_norm ?_
         refine WA_go [5] (by kernel_rfl) (by decide) ⟨⟨_, rfl, ?_⟩, trivial⟩
         refine zS ?_;repeat(refine yA ?_;intro p hp;refine zS ?_)
         refine nor_norm ?_
         refine WA_go [6] (by kernel_rfl) (by decide) ⟨⟨_, rfl, ?_⟩, trivial⟩
         (apply wl_mstE (g := iG) keyT_P x (cntM m x + 1) Tryz.underlying132; exact rfl; exact zN; exact rfl; exact hx; exact rfl; omega); rw [putM_put]; (refine zS ?_; (repeat (refine yA ?_; intro p hp; refine zS ?_)))
         refine nor_norm ?_
         refine WA_done (by kernel_rfl) ?_
         exact ⟨rfl, fun _ _ st => st_sub2 st zR zP⟩
        ·refine zS ?_;repeat(refine yA ?_;intro p hp;refine zS ?_)
         refine nor_norm ?_
         refine WA_go [3] (by kernel_rfl) (by decide) ⟨⟨_, rfl, ?_⟩, trivial⟩
         refine zS ?_;repeat(refine yA ?_;intro p hp;refine zS ?_)
         refine nor_norm ?_
         refine WA_go [6] (by kernel_rfl) (by decide) ⟨⟨_, rfl, ?_⟩, trivial⟩
         (apply wl_mstE (g := iG) keyT_P x (cntM m x + 1) Tryz.underlying132; exact rfl; exact zN; exact rfl; exact hx; exact rfl; omega); rw [putM_put]; (refine zS ?_; (repeat (refine yA ?_; intro p hp; refine zS ?_)))
         refine nor_norm ?_
         refine WA_done (by kernel_rfl) ?_
         exact ⟨rfl, fun _ _ st => st_sub2 st zR zP⟩
      ·(apply wl_ment (g := iG) keyT_P x (0 : Int) rfl Tryz.underlying132 (fun w => by kernel_rfl); exact rfl; exact zN; exact rfl; exact kvP x; exact hx; omega; exact rfl); intro stmp; (refine zS ?_; (repeat (refine yA ?_; intro p hp; refine zS ?_)))
       refine nor_norm ?_
       refine WA_go [2, 5] (by kernel_rfl) (by decide) ⟨⟨_, rfl, ?_⟩, ⟨_, rfl, ?_⟩, trivial⟩
       ·(first | (apply wl_look1 keyT_P x Tryz.underlying132 (fun w => by kernel_rfl); exact rfl; exact zM; exact rfl; exact kvP x; exact hx; exact rfl; rw [hL1]) | (apply wl_look1E keyT_P x Tryz.underlying132 (fun w => by kernel_rfl); exact rfl; exact zM; exact rfl; exact kvP x; exact hx; exact rfl; rw [hL2])); (refine zS ?_; (repeat (refine yA ?_; intro p hp; refine zS ?_)))
        refine nor_norm ?_
        refine WA_go [3, 5] (by kernel_rfl) (by decide) ⟨⟨_, rfl, ?_⟩, ⟨_, rfl, ?_⟩, trivial⟩
        ·refine zS ?_;repeat(refine yA ?_;intro p hp;refine zS ?_)
         refine nor_norm ?_
         refine WA_go [5] (by kernel_rfl) (by decide) ⟨⟨_, rfl, ?_⟩, trivial⟩
         refine zS ?_;repeat(refine yA ?_;intro p hp;refine zS ?_)
         refine nor_norm ?_
         refine WA_go [6] (by kernel_rfl) (by decide) ⟨⟨_, rfl, ?_⟩, trivial⟩
         (apply wl_mstE (g := iG) keyT_P x (cntM m x + 1) Tryz.underlying132; exact rfl; exact zN; exact rfl; exact hx; exact rfl; omega); rw [putM_put]; (refine zS ?_; (repeat (refine yA ?_; intro p hp; refine zS ?_)))
         refine nor_norm ?_
         refine WA_done (by kernel_rfl) ?_
         exact ⟨rfl, fun _ _ st => st_sub2 st zR zP⟩
        ·refine zS ?_;repeat(refine yA ?_;intro p hp;refine zS ?_)
         refine nor_norm ?_
         refine WA_go [3] (by kernel_rfl) (by decide) ⟨⟨_, rfl, ?_⟩, trivial⟩
         refine zS ?_;repeat(refine yA ?_;intro p hp;refine zS ?_)
         refine nor_norm ?_
         refine WA_go [6] (by kernel_rfl) (by decide) ⟨⟨_, rfl, ?_⟩, trivial⟩
         (apply wl_mstE (g := iG) keyT_P x (cntM m x + 1) Tryz.underlying132; exact rfl; exact zN; exact rfl; exact hx; exact rfl; omega); rw [putM_put]; (refine zS ?_; (repeat (refine yA ?_; intro p hp; refine zS ?_)))
         refine nor_norm ?_
         refine WA_done (by kernel_rfl) ?_
         exact ⟨rfl, fun _ _ st => st_sub2 st zR zP⟩
       ·refine zS ?_;repeat(refine yA ?_;intro p hp;refine zS ?_)
        refine nor_norm ?_
        refine WA_go [2] (by kernel_rfl) (by decide) ⟨⟨_, rfl, ?_⟩, trivial⟩
        (first | (apply wl_look1 keyT_P x Tryz.underlying132 (fun w => by kernel_rfl); exact rfl; exact zM; exact rfl; exact kvP x; exact hx; exact rfl; rw [hL1]) | (apply wl_look1E keyT_P x Tryz.underlying132 (fun w => by kernel_rfl); exact rfl; exact zM; exact rfl; exact kvP x; exact hx; exact rfl; rw [hL2])); (refine zS ?_; (repeat (refine yA ?_; intro p hp; refine zS ?_)))
        refine nor_norm ?_
        refine WA_go [3] (by kernel_rfl) (by decide) ⟨⟨_, rfl, ?_⟩, trivial⟩
        refine zS ?_;repeat(refine yA ?_;intro p hp;refine zS ?_)
        refine nor_norm ?_
        refine WA_go [6] (by kernel_rfl) (by decide) ⟨⟨_, rfl, ?_⟩, trivial⟩
        (apply wl_mstE (g := iG) keyT_P x (cntM m x + 1) Tryz.underlying132; exact rfl; exact zN; exact rfl; exact hx; exact rfl; omega); rw [putM_put]; (refine zS ?_; (repeat (refine yA ?_; intro p hp; refine zS ?_)))
        refine nor_norm ?_
        refine WA_done (by kernel_rfl) ?_
        exact ⟨rfl, fun _ _ st => st_sub2 st zR zP⟩
     ·refine zS ?_;repeat(refine yA ?_;intro p hp;refine zS ?_)
      refine nor_norm ?_
      refine WA_go [0] (by kernel_rfl) (by decide) ⟨⟨_, rfl, ?_⟩, trivial⟩
      refine zS ?_;repeat(refine yA ?_;intro p hp;refine zS ?_)
      refine nor_norm ?_
      refine WA_go [2, 4] (by kernel_rfl) (by decide) ⟨⟨_, rfl, ?_⟩, ⟨_, rfl, ?_⟩, trivial⟩
      ·(first | (apply wl_look1 keyT_P x Tryz.underlying132 (fun w => by kernel_rfl); exact rfl; exact zM; exact rfl; exact kvP x; exact hx; exact rfl; rw [hL1]) | (apply wl_look1E keyT_P x Tryz.underlying132 (fun w => by kernel_rfl); exact rfl; exact zM; exact rfl; exact kvP x; exact hx; exact rfl; rw [hL2])); (refine zS ?_; (repeat (refine yA ?_; intro p hp; refine zS ?_)))
       refine nor_norm ?_
       refine WA_go [3, 4] (by kernel_rfl) (by decide) ⟨⟨_, rfl, ?_⟩, ⟨_, rfl, ?_⟩, trivial⟩
       ·refine zS ?_;repeat(refine yA ?_;intro p hp;refine zS ?_)
        refine nor_norm ?_
        refine WA_go [4] (by kernel_rfl) (by decide) ⟨⟨_, rfl, ?_⟩, trivial⟩
        (apply wl_ment (g := iG) keyT_P x (0 : Int) rfl Tryz.underlying132 (fun w => by kernel_rfl); exact rfl; exact zN; exact rfl; exact kvP x; exact hx; omega; exact rfl); intro stmp; (refine zS ?_; (repeat (refine yA ?_; intro p hp; refine zS ?_)))
        refine nor_norm ?_
        refine WA_go [5] (by kernel_rfl) (by decide) ⟨⟨_, rfl, ?_⟩, trivial⟩
        refine zS ?_;repeat(refine yA ?_;intro p hp;refine zS ?_)
        refine nor_norm ?_
        refine WA_go [6] (by kernel_rfl) (by decide) ⟨⟨_, rfl, ?_⟩, trivial⟩
        (apply wl_mstE (g := iG) keyT_P x (cntM m x + 1) Tryz.underlying132; exact rfl; exact zN; exact rfl; exact hx; exact rfl; omega); rw [putM_put]; (refine zS ?_; (repeat (refine yA ?_; intro p hp; refine zS ?_)))
        refine nor_norm ?_
        refine WA_done (by kernel_rfl) ?_
        exact ⟨rfl, fun _ _ st => st_sub2 st zR zP⟩
       ·(apply wl_ment (g := iG) keyT_P x (0 : Int) rfl Tryz.underlying132 (fun w => by kernel_rfl); exact rfl; exact zN; exact rfl; exact kvP x; exact hx; omega; exact rfl); intro stmp; (refine zS ?_; (repeat (refine yA ?_; intro p hp; refine zS ?_)))
        refine nor_norm ?_
        refine WA_go [3, 5] (by kernel_rfl) (by decide) ⟨⟨_, rfl, ?_⟩, ⟨_, rfl, ?_⟩, trivial⟩
        ·refine zS ?_;repeat(refine yA ?_;intro p hp;refine zS ?_)
         refine nor_norm ?_
         refine WA_go [5] (by kernel_rfl) (by decide) ⟨⟨_, rfl, ?_⟩, trivial⟩
         refine zS ?_;repeat(refine yA ?_;intro p hp;refine zS ?_)
         refine nor_norm ?_
         refine WA_go [6] (by kernel_rfl) (by decide) ⟨⟨_, rfl, ?_⟩, trivial⟩
         (apply wl_mstE (g := iG) keyT_P x (cntM m x + 1) Tryz.underlying132; exact rfl; exact zN; exact rfl; exact hx; exact rfl; omega); rw [putM_put]; (refine zS ?_; (repeat (refine yA ?_; intro p hp; refine zS ?_)))
         refine nor_norm ?_
         refine WA_done (by kernel_rfl) ?_
         exact ⟨rfl, fun _ _ st => st_sub2 st zR zP⟩
        ·refine zS ?_;repeat(refine yA ?_;intro p hp;refine zS ?_)
         refine nor_norm ?_
         refine WA_go [3] (by kernel_rfl) (by decide) ⟨⟨_, rfl, ?_⟩, trivial⟩
         refine zS ?_;repeat(refine yA ?_;intro p hp;refine zS ?_)
         refine nor_norm ?_
         refine WA_go [6] (by kernel_rfl) (by decide) ⟨⟨_, rfl, ?_⟩, trivial⟩
         (apply wl_mstE (g := iG) keyT_P x (cntM m x + 1) Tryz.underlying132; exact rfl; exact zN; exact rfl; exact hx; exact rfl; omega); rw [putM_put]; (refine zS ?_; (repeat (refine yA ?_; intro p hp; refine zS ?_)))
         refine nor_norm ?_
         refine WA_done (by kernel_rfl) ?_
         exact ⟨rfl, fun _ _ st => st_sub2 st zR zP⟩
      ·(apply wl_ment (g := iG) keyT_P x (0 : Int) rfl Tryz.underlying132 (fun w => by kernel_rfl); exact rfl; exact zN; exact rfl; exact kvP x; exact hx; omega; exact rfl); intro stmp; (refine zS ?_; (repeat (refine yA ?_; intro p hp; refine zS ?_)))
       refine nor_norm ?_
       refine WA_go [2, 5] (by kernel_rfl) (by decide) ⟨⟨_, rfl, ?_⟩, ⟨_, rfl, ?_⟩, trivial⟩
       ·(first | (apply wl_look1 keyT_P x Tryz.underlying132 (fun w => by kernel_rfl); exact rfl; exact zM; exact rfl; exact kvP x; exact hx; exact rfl; rw [hL1]) | (apply wl_look1E keyT_P x Tryz.underlying132 (fun w => by kernel_rfl); exact rfl; exact zM; exact rfl; exact kvP x; exact hx; exact rfl; rw [hL2])); (refine zS ?_; (repeat (refine yA ?_; intro p hp; refine zS ?_)))
        refine nor_norm ?_
        refine WA_go [3, 5] (by kernel_rfl) (by decide) ⟨⟨_, rfl, ?_⟩, ⟨_, rfl, ?_⟩, trivial⟩
        ·refine zS ?_;repeat(refine yA ?_;intro p hp;refine zS ?_)
         refine nor_norm ?_
         refine WA_go [5] (by kernel_rfl) (by decide) ⟨⟨_, rfl, ?_⟩, trivial⟩
         refine zS ?_;repeat(refine yA ?_;intro p hp;refine zS ?_)
         refine nor_norm ?_
         refine WA_go [6] (by kernel_rfl) (by decide) ⟨⟨_, rfl, ?_⟩, trivial⟩
         (apply wl_mstE (g := iG) keyT_P x (cntM m x + 1) Tryz.underlying132; exact rfl; exact zN; exact rfl; exact hx; exact rfl; omega); rw [putM_put]; (refine zS ?_; (repeat (refine yA ?_; intro p hp; refine zS ?_)))
         refine nor_norm ?_
         refine WA_done (by kernel_rfl) ?_
         exact ⟨rfl, fun _ _ st => st_sub2 st zR zP⟩
        ·refine zS ?_;repeat(refine yA ?_;intro p hp;refine zS ?_)
         refine nor_norm ?_
         refine WA_go [3] (by kernel_rfl) (by decide) ⟨⟨_, rfl, ?_⟩, trivial⟩
         refine zS ?_;repeat(refine yA ?_;intro p hp;refine zS ?_)
         refine nor_norm ?_
         refine WA_go [6] (by kernel_rfl) (by decide) ⟨⟨_, rfl, ?_⟩, trivial⟩
         (apply wl_mstE (g := iG) keyT_P x (cntM m x + 1) Tryz.underlying132; exact rfl; exact zN; exact rfl; exact hx; exact rfl; omega); rw [putM_put]; (refine zS ?_; (repeat (refine yA ?_; intro p hp; refine zS ?_)))
         refine nor_norm ?_
         refine WA_done (by kernel_rfl) ?_
         exact ⟨rfl, fun _ _ st => st_sub2 st zR zP⟩
       ·refine zS ?_;repeat(refine yA ?_;intro p hp;refine zS ?_)
        refine nor_norm ?_
        refine WA_go [2] (by kernel_rfl) (by decide) ⟨⟨_, rfl, ?_⟩, trivial⟩
        (first | (apply wl_look1 keyT_P x Tryz.underlying132 (fun w => by kernel_rfl); exact rfl; exact zM; exact rfl; exact kvP x; exact hx; exact rfl; rw [hL1]) | (apply wl_look1E keyT_P x Tryz.underlying132 (fun w => by kernel_rfl); exact rfl; exact zM; exact rfl; exact kvP x; exact hx; exact rfl; rw [hL2])); (refine zS ?_; (repeat (refine yA ?_; intro p hp; refine zS ?_)))
        refine nor_norm ?_
        refine WA_go [3] (by kernel_rfl) (by decide) ⟨⟨_, rfl, ?_⟩, trivial⟩
        refine zS ?_;repeat(refine yA ?_;intro p hp;refine zS ?_)
        refine nor_norm ?_
        refine WA_go [6] (by kernel_rfl) (by decide) ⟨⟨_, rfl, ?_⟩, trivial⟩
        (apply wl_mstE (g := iG) keyT_P x (cntM m x + 1) Tryz.underlying132; exact rfl; exact zN; exact rfl; exact hx; exact rfl; omega); rw [putM_put]; (refine zS ?_; (repeat (refine yA ?_; intro p hp; refine zS ?_)))
        refine nor_norm ?_
        refine WA_done (by kernel_rfl) ?_
        exact ⟨rfl, fun _ _ st => st_sub2 st zR zP⟩
    ·refine zS ?_;repeat(refine yA ?_;intro p hp;refine zS ?_)
     (refine ⟨(j + 1, putM m x (cntM m x + 1)), fun _ _ st => st_sub2 st ?_ ?_, ?_, ?_⟩; exact zR; exact zP)
     ·exact ⟨hlt2', hm1⟩
     ·dsimp only; omega
   ·have hjj : j = l.length := by simp at hlt2; omega
    subst hjj
    rw [List.take_length, ← hst] at hm
    refine zS ?_;repeat(refine yA ?_;intro p hp;refine zS ?_)
    (refine ⟨(i + 1, m), fun _ _ st => st_sub2 st ?_ ?_, ?_, ?_⟩; exact zR; exact zP)
    ·exact ⟨hlt', hm⟩
    ·dsimp only; omega
  ·have hii : i = xs.length := by simp at hlt; omega
   subst hii
   rw [List.take_length] at hm
   have hfil : (fun x => !decide ((xs.flatten.count x : Int) < xs.length)) = fun x => !decide (cntM m x < xs.length) := by funext x; rw [hm.eq]
   rw [hfil]
   refine zS ?_;repeat(refine yA ?_;intro p hp;refine zS ?_)
   generalize xs[0] = l0 at hb0 ⊢
   obtain ⟨hl5, hok⟩ := hb0
   (apply wl_callC (clonePy_con l0 (by omega)); exact rfl; exact Cut.nil; exact rfl)
   rintro _ _ ⟨u, rfl, rfl⟩
   refine zS ?_;repeat(refine yA ?_;intro p hp;refine zS ?_)
   (apply WL_frzC 46 0 1; exact rfl; exact rfl; exact zN)
   (apply WL_frzC 46 1 1; exact rfl; exact rfl; exact zN)
   (apply wl_callP (deleteFuncPL_con u l0 _ _ (fun x => decide (cntM m x < xs.length)) (mpP mv m) (by omega) (fun x hx => sure1_con mv m xs x (hok x hx))); exact rfl; exact yC; exact rfl)
   rintro _ _ ⟨u2, rfl, rfl⟩
   refine zS ?_;repeat(refine yA ?_;intro p hp;refine zS ?_)
   (apply Res_frz 2; exact rfl; exact zN)
   (apply resK2; exact rfl; exact rfl; exact rfl; exact ⟨rfl, rfl⟩; exact yC)
 ·have C := askedErr_con f hS he
  unfold surN
  rw [if_neg he]
  generalize errL f = e at C he ⊢
  refine con_of Tryz.func31 rfl (enters_of Tryz.func31 (by kernel_rfl) rfl) rfl ?_; intro n w0 F0 G0
  refine zS ?_;repeat(refine yA ?_;intro p hp;refine zS ?_)
  (apply wl_callP (C); exact rfl; exact yC; exact rfl)
  rintro _ _ ⟨rfl, rfl⟩
  refine zS ?_;repeat(refine yA ?_;intro p hp;refine zS ?_)
  refine w_cond rfl (fun h => ?_) (fun h => ?_)
  ·refine zS ?_;repeat(refine yA ?_;intro p hp;refine zS ?_)
   refine Res_nil 2 3 payC rfl ?_
   (apply resK2; exact rfl; exact rfl; exact rfl; exact ⟨rfl, rfl⟩; exact yC)
  ·exact absurd (by simpa using h) he
end Go.Proofs.YtihonljdanjfmaaGreatDoor.Sw
