/- Proofs for the seat's cards: MtH, MtI, MtG, MtJ, MtK, TallyMatches. No condition of its own. -/
import Derived.Test.YthddoikmgpgakaaDoorMa4
set_option linter.unusedVariables false
set_option linter.unusedSimpArgs false
set_option maxRecDepth 40000
set_option maxHeartbeats 32000000
namespace Go.Proofs.YthddoikmgpgakaaDoor.Sw
open Go.RowKit Go Go.Shelf Go.Proofs
open Go.Proofs.YthddoikmgpgakaaDoor.Ma
theorem refBetween_con (a b : List Int) (h1 : a.length ≤ 1000) (h2 : b.length ≤ 1000) : Con Tryd.prog 85 [.sl 1 iC a, .sl 1 iC b] [] (Is (.val (.int .i64 (dist a b : Int))) []) := by
 refine con_same (enters_of Tryd.func85 (by kernel_rfl) rfl) fun G vs w hf hG => ?_
 match vs, hf with
 | [v, v'], ⟨h, h', _⟩ =>
  obtain ⟨sa, sc, rfl, g1⟩ := fits_slI hG h
  obtain ⟨sb, sd, rfl, g2⟩ := fits_slI hG h'
  exact (refBetween_any a b sa sb sc sd w h1 h2 g1 g2).mono fun e w' ⟨h, hb⟩ => ⟨_, h, rfl, hb⟩
abbrev mR (b : List Nat × List Int × Int) (sv : Value) : List AV := [.sl 1 iC (ints b.1), .val sv, .val (.int .i64 b.2.2)]
def okB (N : Nat) (b : List Nat × List Int × Int) : Prop := 0 ≤ b.2.2 → b.2.1.length = N
theorem okB_step {N : Nat} {b : List Nat × List Int × Int} (h : okB N b) {p : List Nat × Int} (hp : p.1.length = N) : okB N (stepR b p) := by
 unfold okB stepR at *
 split
 ·intro _; show (ints p.1).length = N; rw [ints_len]; exact hp
 ·split
  ·intro h0
   show (msk b.2.1 p.1).length = N
   rw [msk_len, h h0, hp, Nat.min_self]
  ·exact h
theorem okB_fold {N : Nat} : ∀ {l : List (List Nat × Int)} {b : List Nat × List Int × Int}, okB N b → (∀ p ∈ l, p.1.length = N) → okB N (l.foldl stepR b)
 | [], _, h, _ => h
 | p :: l, b, h, hl => okB_fold (l := l) (b := stepR b p) (okB_step h (hl p (by simp))) fun q hq => hl q (by simp [hq])
theorem matched0_con (N : Nat) (css : List (List Int)) (hN : N ≤ 6) (hl : css.length = N) (s : List Nat) (cn : Int) (b : List Nat × List Int × Int) (sv : Value) (hsm : s.length = N) (hok : okB N b) :
   Con Tryd.prog 117 [.agg (mR b sv), .sl 1 (slC 1 iC) css, .sl 1 iC (ints s), .val (.int .i64 cn)] [.row sv 3 1 iC b.2.1] (fun x y => ∃ sv', x = .agg (mR (stepR b (s, cn)) sv') ∧ y = [.row sv' 3 1 iC (stepR b (s, cn)).2.1]) := by
 have hil := ints_len s
 unfold stepR
 refine con_of Tryd.func117 rfl (enters_of Tryd.func117 (by kernel_rfl) rfl) rfl ?_; intro n w0 F0 G0
 refine zS ?_;repeat(refine yA ?_;intro p hp;refine zS ?_)
 refine w_cond rfl (fun hm => ?_) (fun hm => ?_)
 ·refine zS ?_
  refine wl_part rfl rfl (fun h1 => ?_) (fun h1 => ?_)
  ·rw [if_pos (.inl (of_decide_eq_true h1))]
   refine zS ?_
   (apply wl_lit iC; exact inferInstance; exact inferInstance; exact inferInstance; exact zE; exact rfl; (first | exact (of_decide_eq_true rfl) | decide | (simp; done) | (simp; omega)); exact rfl)
   intro v0
   refine zS ?_
   (first | (apply wl_append; exact rfl; exact rfl; exact zN; exact inferInstance; exact inferInstance; (first | omega | (simp; omega)); exact rfl) | (apply wl_appendN; exact rfl; exact rfl; exact inferInstance; exact inferInstance; (first | omega | (simp; omega)); exact rfl))
   intro v1
   refine zS ?_
   (apply WL_frz 30; exact rfl; exact zN)
   refine zS ?_
   (apply wl_lit iC; exact inferInstance; exact inferInstance; exact inferInstance; exact zE; exact rfl; (first | exact (of_decide_eq_true rfl) | decide | (simp; done) | (simp; omega)); exact rfl)
   intro v2
   refine zS ?_
   (first | (apply wl_append; exact rfl; exact rfl; exact zN; exact inferInstance; exact inferInstance; (first | omega | (simp; omega)); exact rfl) | (apply wl_appendN; exact rfl; exact rfl; exact inferInstance; exact inferInstance; (first | omega | (simp; omega)); exact rfl))
   intro v3
   refine WL_one At.here (fun hone => ?_)
   refine zS ?_
   (apply resKN; exact rfl; exact rfl; exact zM; exact inferInstance; exact rfl; exact ⟨v3, rfl, rfl⟩; exact yC)
  ·have h1' : ¬ b.2.2 < 0 := of_decide_eq_false h1
   have hbl := hok (by omega)
   refine zS ?_
   refine w_cond rfl (fun h2 => ?_) (fun h2 => ?_)
   ·rw [if_pos (.inr (of_decide_eq_true h2))]
    refine zS ?_
    (apply wl_lit iC; exact inferInstance; exact inferInstance; exact inferInstance; exact zE; exact rfl; (first | exact (of_decide_eq_true rfl) | decide | (simp; done) | (simp; omega)); exact rfl)
    intro v0
    refine zS ?_
    (first | (apply wl_append; exact rfl; exact rfl; exact zN; exact inferInstance; exact inferInstance; (first | omega | (simp; omega)); exact rfl) | (apply wl_appendN; exact rfl; exact rfl; exact inferInstance; exact inferInstance; (first | omega | (simp; omega)); exact rfl))
    intro v1
    refine zS ?_
    (apply WL_frz 30; exact rfl; exact zN)
    refine zS ?_
    (apply wl_lit iC; exact inferInstance; exact inferInstance; exact inferInstance; exact zE; exact rfl; (first | exact (of_decide_eq_true rfl) | decide | (simp; done) | (simp; omega)); exact rfl)
    intro v2
    refine zS ?_
    (first | (apply wl_append; exact rfl; exact rfl; exact zN; exact inferInstance; exact inferInstance; (first | omega | (simp; omega)); exact rfl) | (apply wl_appendN; exact rfl; exact rfl; exact inferInstance; exact inferInstance; (first | omega | (simp; omega)); exact rfl))
    intro v3
    refine WL_one At.here (fun hone => ?_)
    refine zS ?_
    (apply resKN; exact rfl; exact rfl; exact zM; exact inferInstance; exact rfl; exact ⟨v3, rfl, rfl⟩; exact yC)
   ·have h2' : ¬ cn < b.2.2 := of_decide_eq_false h2
    rw [if_neg (by rintro (h | h); exact h1' h; exact h2' h)]
    refine zS ?_
    refine w_cond rfl (fun h3 => ?_) (fun h3 => ?_)
    ·rw [if_pos (of_decide_eq_true h3)]
     have hbm : b.2.1.length = s.length := by omega
     refine zS ?_
     rename_i p8 hp8
     refine W_loopJ (fun (i : Nat) => ⟨[(1, .sl 1 (slC 1 iC) css), (2, .sl 1 iC (ints s)), (4, .val p8), (8, .val p), (9, .val (.int .i64 i))], [.box p (List.map AV.val [Value.slice none 0 0, Value.slice none 0 0, Value.int IntKind.i64 0]) 159, .box p8 (mR b sv) 159, .row sv 3 1 iC (mskA b.2.1 s i)]⟩) (fun i => i ≤ s.length) (fun i => s.length - i) 0 (fun _ _ st => st_sub2 st zR (by rw [mskA_0]; exact zP)) (Nat.zero_le _) ?_
     intro i hi
     have hml2 := mskA_len hbm (i := i) (by omega)
     refine zS ?_
     refine w_cond rfl (fun hlt => ?_) (fun hlt => ?_)
     ·have hi' : i < s.length := by have : i < (ints s).length := by simpa using hlt
                                    omega
      have e2 : (ints s)[i]'(by omega) = (s[i] : Int) := by simp [ints]
      have e1 := mskA_at hbm hi'
      have f1 : (mskA b.2.1 s i)[i]? = some b.2.1[i] := by rw [List.getElem?_eq_getElem (by omega), e1]
      have f2 : (ints s)[i]? = some (s[i] : Int) := by rw [List.getElem?_eq_getElem (by omega), e2]
      refine zS ?_
      refine W_run 9 [46, 47, 48, 49, 50, 51, 52, 53, 54] [0, 1, 2, 3, 4, 5, 6, 7, 8] Cut.nil rfl goFlt mixedS (by kernel_rfl) rfl ?_
      refine rpv [] [] ?_
      refine rpv [0] [] ?_
      refine rpv [] [] ?_
      refine rpv [1, 2] [] ?_
      refine rpv [3] [] ?_
      refine rpv [] [] ?_
      refine rpv [] [] ?_
      refine rpv [5, 6] [] ?_
      refine rpv [7] [] ?_
      refine ⟨⟨by kernel_rfl, by kernel_rfl⟩, fun vs => ?_⟩
      apply WL_auto [4, 8]
      ·exact goPk
      ·exact goNrm
      ·kernel_rfl
      ·kernel_rfl
      refine zS ?_
      refine zS ?_
      refine w_cond rfl (fun hn => ?_) (fun hn => ?_)
      ·have hn' : ¬ b.2.1[i] = (s[i] : Int) := by simpa using hn
       have hs1 := mskA_other hbm hi' hn'
       refine zS ?_
       refine ⟨i + 1, fun _ _ st => st_sub2 st zR (by rw [hs1]; exact zP), ?_, ?_⟩
       ·show i + 1 ≤ s.length
        omega
       ·omega
      ·have hn' : b.2.1[i] = (s[i] : Int) := by simpa using hn
       have hs1 := mskA_same hbm hi' hn'
       refine zS ?_
       refine ⟨i + 1, fun _ _ st => st_sub2 st zR (by rw [hs1]; exact zP), ?_, ?_⟩
       ·show i + 1 ≤ s.length
        omega
       ·omega
     ·have hii : i = s.length := by simp [hil] at hlt; omega
      subst hii
      rw [mskA_end hbm]
      refine zS ?_
      refine WL_one (At.there (At.there At.here)) (fun hone => ?_)
      refine zS ?_
      (apply resKN; exact rfl; exact rfl; exact zM; exact inferInstance; exact rfl; exact ⟨sv, rfl, rfl⟩; exact yC)
    ·rw [if_neg (of_decide_eq_false h3)]
     refine zS ?_
     refine WL_one (At.there (At.there At.here)) (fun hone => ?_)
     refine zS ?_
     (apply resKN; exact rfl; exact rfl; exact zM; exact inferInstance; exact rfl; exact ⟨sv, rfl, rfl⟩; exact yC)
 ·exfalso
  have := of_decide_eq_false hm
  omega
theorem matched_con (N : Nat) (c : Nat → Nat → Int) (css : List (List Int)) (hN : N ≤ 6) (hl : css.length = N) (hr : ∀ i (hi : i < css.length), css[i].length = N) (hc : ∀ i k (hi : i < css.length) (hk : k < (css[i]).length), css[i][k] = c i k) (hb : ∀ i k, 0 ≤ c i k ∧ c i k ≤ 100000) :
  ∀ (m : Nat) (s : List Nat) (cn : Int) (b : List Nat × List Int × Int) (sv : Value), s.length + m = N → 0 ≤ cn ∧ cn ≤ 100000 * (s.length : Int) → okB N b →
   Con Tryd.prog 117 [.agg (mR b sv), .sl 1 (slC 1 iC) css, .sl 1 iC (ints s), .val (.int .i64 cn)] [.row sv 3 1 iC b.2.1] (fun x y => ∃ sv', x = .agg (mR ((mats N c m s cn).foldl stepR b) sv') ∧ y = [.row sv' 3 1 iC ((mats N c m s cn).foldl stepR b).2.1]) := by
 intro m
 induction m with
 | zero => exact fun s cn b sv hsm _ hok => matched0_con N css hN hl s cn b sv hsm hok
 | succ m ih =>
  intro s cn b sv hsm hcn hok
  have hil := ints_len s
  rw [goM_0]
  refine con_of Tryd.func117 rfl (enters_of Tryd.func117 (by kernel_rfl) rfl) rfl ?_; intro n w0 F0 G0
  refine zS ?_;repeat(refine yA ?_;intro p hp;refine zS ?_)
  refine w_cond rfl (fun hm => ?_) (fun hm => ?_)
  ·exfalso
   have := of_decide_eq_true hm
   omega
  ·refine zS ?_
   rename_i p4 hp4
   refine W_loopJ (fun (q : Nat × (List Nat × List Int × Int) × Value) => ⟨[(1, .sl 1 (slC 1 iC) css), (2, .sl 1 iC (ints s)), (3, .val (.int .i64 cn)), (4, .val p4), (8, .val p), (10, .val (.int .i64 q.1))], [.box p (List.map AV.val [Value.slice none 0 0, Value.slice none 0 0, Value.int IntKind.i64 0]) 159, .box p4 (mR q.2.1 q.2.2) 159, .row q.2.2 3 1 iC q.2.1.2.1]⟩) (fun q => q.1 ≤ N ∧ okB N q.2.1 ∧ (goM N c m s cn q.1).foldl stepR q.2.1 = (goM N c m s cn 0).foldl stepR b) (fun q => N - q.1) (0, b, sv) (fun _ _ st => st_sub2 st zR zP) ⟨Nat.zero_le _, hok, rfl⟩ ?_
   rintro ⟨k, b2, sv2⟩ ⟨hk, hok2, hf⟩
   dsimp only at hk hok2 hf ⊢
   refine zS ?_
   refine w_cond rfl (fun hlt => ?_) (fun hlt => ?_)
   ·have hk' : k < N := by have : k < css.length := by simpa using hlt
                           omega
    rw [goM_step hk', List.foldl_append] at hf
    refine zS ?_
    refine W_loopJ (fun (i : Nat) => ⟨[(1, .sl 1 (slC 1 iC) css), (2, .sl 1 iC (ints s)), (3, .val (.int .i64 cn)), (4, .val p4), (8, .val p), (10, .val (.int .i64 k)), (11, .val (.bool (decide (k ∈ s.take i)))), (67, .sl 1 iC (ints s)), (68, .val (.int .i64 (ints s).length)), (69, .val (.int .i64 i))], [.box p (List.map AV.val [Value.slice none 0 0, Value.slice none 0 0, Value.int IntKind.i64 0]) 159, .box p4 (mR b2 sv2) 159, .row sv2 3 1 iC b2.2.1]⟩) (fun i => i ≤ s.length) (fun i => s.length - i) 0 (fun _ _ st => st_sub2 st (by rw [List.take_zero]; exact zR) zP) (Nat.zero_le _) ?_
    intro i hi
    refine zS ?_
    refine w_cond rfl (fun hli => ?_) (fun hli => ?_)
    ·have hi' : i < s.length := by have : i < (ints s).length := by simpa using hli
                                   omega
     have e2 : (ints s)[i]'(by omega) = (s[i] : Int) := by simp [ints]
     have hts : s.take (i + 1) = s.take i ++ [s[i]] := List.take_succ_eq_append_getElem hi'
     have hin : decide (k ∈ s.take (i + 1)) = (decide (k ∈ s.take i) || decide ((ints s)[i]'(by omega) = (k : Int))) := by
      have h3 : (k ∈ s.take (i + 1)) ↔ (k ∈ s.take i ∨ (s[i] : Int) = (k : Int)) := by
       rw [hts, List.mem_append, List.mem_singleton]
       exact ⟨fun h => h.imp id fun h => by omega, fun h => h.imp id fun h => by omega⟩
      rw [e2, decide_eq_decide.2 h3, Bool.decide_or]
     refine zS ?_
     refine wl_part rfl rfl (fun hp1 => ?_) (fun hp1 => ?_)
     ·rw [hp1, Bool.true_or] at hin
      refine zS ?_
      refine ⟨i + 1, fun _ _ st => st_sub2 st (by rw [hin]; exact zR) zP, ?_, ?_⟩
      ·show i + 1 ≤ s.length
       omega
      ·omega
     ·rw [hp1, Bool.false_or] at hin
      refine zS ?_
      refine ⟨i + 1, fun _ _ st => st_sub2 st (by rw [hin]; exact zR) zP, ?_, ?_⟩
      ·show i + 1 ≤ s.length
       omega
      ·omega
    ·have hii : i = s.length := by simp [hil] at hli; omega
     subst hii
     rw [List.take_length]
     refine zS ?_
     by_cases hks : k ∈ s
     ·rw [if_pos hks] at hf
      simp only [hks, decide_true, Bool.not_true]
      refine zS ?_
      refine ⟨(k + 1, b2, sv2), fun _ _ st => st_sub2 st zR zP, ⟨hk', hok2, hf⟩, ?_⟩
      dsimp only; omega
     ·rw [if_neg hks] at hf
      simp only [hks, decide_false, Bool.not_false]
      have hkc : k < css.length := by omega
      have hrow : s.length < css.length := by omega
      have hcl : css[s.length].length = N := hr _ _
      have hce := hc s.length k hrow (by omega)
      have hbb := hb s.length k
      have hrow2 : (ints s).length < css.length := by omega
      have f1 : css[(ints s).length]? = some css[s.length] := by rw [hil]; exact List.getElem?_eq_getElem _
      have f2 : (css[s.length])[k]? = some (c s.length k) := by rw [List.getElem?_eq_getElem (by omega), hce]
      have IH := ih (s ++ [k]) (cn + c s.length k) b2 sv2 (by rw [List.length_append, List.length_singleton]; omega) (by rw [List.length_append, List.length_singleton]; omega) hok2
      rw [ints_snoc] at IH
      refine zS ?_
      refine W_run 18 [82, 83, 84, 85, 86, 87, 88, 89, 90, 91, 92, 93, 94, 95, 96, 97, 98, 99] [0, 1, 3, 5, 6, 7, 8, 9, 10, 11, 12, 13, 14, 15, 16, 17] Cut.nil rfl goFlt mixedS (by kernel_rfl) rfl ?_
      refine rpv [] [] ?_
      refine rpv [] [] ?_
      refine Run.tok [] [] rfl (fun vs => by apply ltr_pk; exact goPk; (refine ltr ?_; apply lt_lit (f := iC); exact zE; exact rfl; (first | exact (of_decide_eq_true rfl) | decide | (simp; done) | (simp; omega)))) goApp ?_
      refine rpv [] [] ?_
      refine Run.tok [2, 3] [2] rfl (fun vs => by apply ltr_pk; exact goPk; (refine ltr ?_; apply lt_append; exact rfl; exact rfl; (first | omega | (simp; omega)))) goApp ?_
      refine rpv [] [] ?_
      refine Run.pv [5] [] rfl (fun vs => by apply ltr_pk; exact goPk; (refine ltr ?_; apply LT_frz; apply lt_lit (f := iC); exact zE; exact rfl; (first | exact (of_decide_eq_true rfl) | decide | (simp; done) | (simp; omega)))) goApp ?_
      refine Run.tok [4, 6] [4] rfl (fun vs => by apply ltr_pk; exact goPk; (refine ltr ?_; apply lt_append; exact rfl; exact rfl; (first | omega | (simp; omega)))) goApp ?_
      refine rpv [] [] ?_
      refine rpv [] [] ?_
      refine rpv [] [] ?_
      refine rpv [10] [] ?_
      refine rpv [9, 11] [] ?_
      refine rpv [12] [] ?_
      refine rpv [] [] ?_
      refine rpv [13, 14] [] ?_
      refine rpv [15] [] ?_
      refine rpv [8, 16] [] ?_
      refine ⟨⟨by kernel_rfl, by kernel_rfl⟩, fun vs => ?_⟩
      apply WL_auto [0, 1, 7, 17]
      ·exact goPk
      ·exact goNrm
      ·kernel_rfl
      ·kernel_rfl
      refine zS ?_
      refine zS ?_
      (apply WL_frz 89; exact rfl; exact zN)
      (apply wl_callP (IH); exact rfl; exact yC; exact rfl)
      rintro _ _ ⟨sv3, rfl, rfl⟩
      refine WL_one At.here (fun hone => ?_)
      have hmm : ∀ p ∈ mats N c m (s ++ [k]) (cn + c s.length k), p.1.length = N := fun p hp => by rw [mats_len p hp, List.length_append, List.length_singleton]; omega
      have hok3 := okB_fold (l := mats N c m (s ++ [k]) (cn + c s.length k)) hok2 hmm
      refine zS ?_
      refine ⟨(k + 1, (mats N c m (s ++ [k]) (cn + c s.length k)).foldl stepR b2, sv3), fun _ _ st => st_sub2 st zR zP, ⟨hk', hok3, hf⟩, ?_⟩
      dsimp only; omega
   ·have hkk : k = N := by simp [hl] at hlt; omega
    subst hkk
    rw [goM_end] at hf
    rw [← hf]
    refine zS ?_
    refine WL_one (At.there (At.there At.here)) (fun hone => ?_)
    refine zS ?_
    (apply resKN; exact rfl; exact rfl; exact zM; exact inferInstance; exact rfl; exact ⟨sv2, rfl, rfl⟩; exact yC)
instance {α : Type} {n : Nat} {f : α → List AV} {g : List α} : OneL (slC n f g) := inferInstanceAs (OneL [_])
instance {α : Type} {n : Nat} {f : α → List AV} : OneF (slC n f) := ⟨fun _ => inferInstance⟩
instance {α : Type} {n : Nat} {f : α → List AV} : LenF (slC n f) 1 := ⟨fun _ => rfl⟩
def bestR (ts : List Tl) : (List Nat × List Int × Int) × Int := if errAll ts = 0 then (bstR (matsT ts), 0) else (([], [], 0), errAll ts)
theorem bestR_is (ts : List Tl) : bestR ts = (((matchR ts).1, (sureR ts).1, (matchR ts).2.1), (matchR ts).2.2) ∧ (sureR ts).2 = (matchR ts).2.2 := by
 unfold bestR matchR sureR
 by_cases h : errAll ts = 0
 ·rw [if_pos h, if_pos h, if_pos h, (bi _ (matsT_nonneg ts)).R]; exact ⟨rfl, rfl⟩
 ·rw [if_neg h, if_neg h, if_neg h]; exact ⟨rfl, rfl⟩
def cssT (ts : List Tl) : List (List Int) := ts.map fun t => ts.map fun u => (dist t.st u.fo : Int)
theorem costT_b {ts : List Tl} (hs : small3 ts) (i k : Nat) : 0 ≤ costT ts i k ∧ costT ts i k ≤ 100000 := by
 refine ⟨costT_nonneg ts i k, ?_⟩
 unfold costT
 split
 ·rename_i h
  have h1 := (hs _ (List.getElem_mem h.1)).1
  have h2 := (hs _ (List.getElem_mem h.2)).2
  have := dist_le ts[i].st ts[k].fo
  omega
 ·omega
theorem Res_impP {P : Program} {fn : Func} {av av' : AV} {l : List HA} {s : S} {post : AV → List HA → Prop} (hp : post av' l) (hi : ∀ G v, av.P G v → av'.P G v) (k : Res P fn (Is av l) s) : Res P fn post s := by
 obtain ⟨_, _, ⟨rfl, rfl⟩, k⟩ := k
 refine ⟨_, _, hp, fun a w G F hR hI => ?_⟩
 obtain ⟨v, G', F', h1, h2, h3, h4⟩ := k a w G F hR hI
 exact ⟨v, G', F', h1, h2, h3, hi _ _ h4⟩
theorem mR0_imp (e : Int) (G : Nat → Option Obj) (v : Value) (h : (AV.tup [.agg [.val (.slice none 0 0), .val (.slice none 0 0), .val (.int .i64 0)], .val (.int .i64 e)]).P G v) : (AV.tup [.agg (mR ([], [], 0) (.slice none 0 0)), .val (.int .i64 e)]).P G v := by
 obtain ⟨vs, e1, h⟩ := h
 match vs, h with
 | [x, y], ⟨⟨us, e2, h2⟩, hy, _⟩ =>
  match us, h2 with
  | [a, b, c], ⟨ha, hb, hc, _⟩ =>
   exact ⟨[x, y], e1, ⟨[a, b, c], e2, ⟨none, 0, ha, Nat.le_refl _, fun i h => absurd h (Nat.not_lt_zero _)⟩, hb, hc, trivial⟩, hy, trivial⟩
theorem Con.argsW {P : Program} {k : FuncId} {avs avs' : List AV} {pre : List HA} {post : AV → List HA → Prop} (h : ∀ G vs, Fits G avs vs → Fits G avs' vs) (c : Con P k avs' pre post) : Con P k avs pre post :=
 ⟨c.enters, fun G Fp vs w hf hI => c.calls G Fp vs w (h G vs hf) hI⟩
theorem nil_sl0 {α : Type} {n : Nat} {f : α → List AV} (G : Nat → Option Obj) (v : Value) (h : (AV.val (.slice none 0 0)).P G v) : (AV.sl n f []).P G v := ⟨none, 0, h, Nat.le_refl _, fun i h => absurd h (Nat.not_lt_zero _)⟩
theorem mArgs (css : AV) (G : Nat → Option Obj) (vs : List Value) (h : Fits G [.agg [.val (.slice none 0 0), .val (.slice none 0 0), .val (.int .i64 (-1))], css, .val (.slice none 0 0), .val (.int .i64 0)] vs) : Fits G [.agg (mR ([], [], -1) (.slice none 0 0)), css, .sl 1 iC (ints []), .val (.int .i64 0)] vs := by
 match vs, h with
 | [a, b, c, d], ⟨⟨us, e, hu⟩, hb, hc, hd, _⟩ =>
  match us, hu with
  | [x, y, z], ⟨hx, hy, hz, _⟩ => exact ⟨⟨[x, y, z], e, nil_sl0 G x hx, hy, hz, trivial⟩, hb, nil_sl0 G c hc, hd, trivial⟩
theorem cssT_len (ts : List Tl) : (cssT ts).length = ts.length := by simp [cssT]
theorem best_con (ts : List Tl) (hl : ts.length ≤ 4000) (hs : small3 ts) : Con Tryd.prog 99 [.sl 4 tC ts] [] (fun x y => ∃ sv, x = .tup [.agg (mR (bestR ts).1 sv), .val (.int .i64 (bestR ts).2)] ∧ y = [.row sv 3 1 iC (bestR ts).1.2.1]) := by
 have CC := checked_con ts hl hs.small
 unfold bestR
 by_cases he' : errAll ts = 0
 ·rw [if_pos he'] at ⊢
  rw [he'] at CC
  have h6 := err_len he'
  refine con_of Tryd.func99 rfl (enters_of Tryd.func99 (by kernel_rfl) rfl) rfl ?_; intro n w0 F0 G0
  refine zS ?_;repeat(refine yA ?_;intro p hp;refine zS ?_)
  (first | (apply wl_call (CC); exact rfl; exact rfl) | (apply wl_callR (CC); exact rfl; exact zM; exact rfl))
  refine zS ?_;repeat(refine yA ?_;intro p hp;refine zS ?_)
  refine W_loopJ (fun (q : Nat × Value) => ⟨[(0, .sl 4 tC ts), (2, .val p), (5, .val q.2), (17, .sl 4 tC ts), (18, .val (.int .i64 ts.length)), (19, .val (.int .i64 q.1))], [.row q.2 22 1 (slC 1 iC) ((cssT ts).take q.1), .box p (List.map AV.val [Value.slice none 0 0, Value.slice none 0 0, Value.int IntKind.i64 0]) 159]⟩) (fun q => q.1 ≤ ts.length) (fun q => ts.length - q.1) (0, .slice none 0 0) (fun _ _ st => st_sub2 (st_nil 22 1 (slC 1 iC) st) zR zP) (Nat.zero_le _) ?_
  rintro ⟨i, v⟩ hi
  dsimp only at hi ⊢
  refine zS ?_;repeat(refine yA ?_;intro p hp;refine zS ?_)
  refine w_cond rfl (fun hlt => ?_) (fun hlt => ?_)
  ·have hi' : i < ts.length := by simpa using hlt
   have s1 := hs _ (List.getElem_mem hi')
   have hcl := cssT_len ts
   refine zS ?_;repeat(refine yA ?_;intro p hp;refine zS ?_)
   rename_i p2 hp2
   refine W_loopJ (fun (q : Nat × Value) => ⟨[(0, .sl 4 tC ts), (2, .val p2), (5, .val v), (7, .val p), (8, .val q.2), (17, .sl 4 tC ts), (18, .val (.int .i64 ts.length)), (19, .val (.int .i64 i)), (23, .sl 4 tC ts), (24, .val (.int .i64 ts.length)), (25, .val (.int .i64 q.1))], [.row q.2 3 1 iC ((ts.map fun u => (dist ts[i].st u.fo : Int)).take q.1), .box p (tC ts[i]) 24, .row v 22 1 (slC 1 iC) ((cssT ts).take i), .box p2 (List.map AV.val [Value.slice none 0 0, Value.slice none 0 0, Value.int IntKind.i64 0]) 159]⟩) (fun q => q.1 ≤ ts.length) (fun q => ts.length - q.1) (0, .slice none 0 0) (fun _ _ st => st_sub2 (st_nil 3 1 iC st) zR zP) (Nat.zero_le _) ?_
   rintro ⟨k, v2⟩ hk
   dsimp only at hk ⊢
   refine zS ?_;repeat(refine yA ?_;intro p hp;refine zS ?_)
   refine w_cond rfl (fun hlt2 => ?_) (fun hlt2 => ?_)
   ·have hk' : k < ts.length := by simpa using hlt2
    have s2 := hs _ (List.getElem_mem hk')
    have B := refBetween_con ts[i].st ts[k].fo (by omega) (by omega)
    have hz : (ts.map fun u => (dist ts[i].st u.fo : Int)).take (k + 1) = (ts.map fun u => (dist ts[i].st u.fo : Int)).take k ++ [(dist ts[i].st ts[k].fo : Int)] := by
     rw [List.take_succ_eq_append_getElem (by rw [List.length_map]; exact hk'), List.getElem_map]
    refine zS ?_;repeat(refine yA ?_;intro p hp;refine zS ?_)
    (first | (apply wl_call (B); exact rfl; exact rfl) | (apply wl_callR (B); exact rfl; exact zM; exact rfl))
    refine zS ?_;repeat(refine yA ?_;intro p hp;refine zS ?_)
    (apply wl_litF iC; exact inferInstance; exact inferInstance; exact inferInstance; exact zE; exact rfl; (first | exact (of_decide_eq_true rfl) | decide | (simp; done) | (simp; omega)); exact rfl)
    (first | (apply wl_append; exact rfl; exact rfl; exact zN; exact inferInstance; exact inferInstance; (first | omega | (simp; omega)); exact rfl) | (apply wl_appendN; exact rfl; exact rfl; exact inferInstance; exact inferInstance; (first | omega | (simp; omega)); exact rfl))
    intro v3
    refine zS ?_;repeat(refine yA ?_;intro p hp;refine zS ?_)
    refine ⟨(k + 1, v3), fun _ _ st => st_sub2 st zR (by dsimp only; rw [hz]; exact zP), hk', ?_⟩
    dsimp only; omega
   ·have hkk : k = ts.length := by simp at hlt2; omega
    subst hkk
    have hz : (cssT ts).take (i + 1) = (cssT ts).take i ++ [ts.map fun u => (dist ts[i].st u.fo : Int)] := by
     rw [List.take_succ_eq_append_getElem (by omega)]
     simp [cssT]
    rw [List.take_of_length_le (by rw [List.length_map]; exact Nat.le_refl _)]
    (apply W_frz 8; exact rfl; exact zN)
    refine zS ?_;repeat(refine yA ?_;intro p hp;refine zS ?_)
    (apply wl_litF (slC 1 iC); exact inferInstance; exact inferInstance; exact inferInstance; exact zE; exact rfl; (first | exact (of_decide_eq_true rfl) | decide | (simp; done) | (simp; omega)); exact rfl)
    (first | (apply wl_append; exact rfl; exact rfl; exact zN; exact inferInstance; exact inferInstance; (first | omega | (simp; omega)); exact rfl) | (apply wl_appendN; exact rfl; exact rfl; exact inferInstance; exact inferInstance; (first | omega | (simp; omega)); exact rfl))
    intro v3
    refine zS ?_;repeat(refine yA ?_;intro p hp;refine zS ?_)
    refine ⟨(i + 1, v3), fun _ _ st => st_sub2 st zR (by dsimp only; rw [hz]; exact zP), hi', ?_⟩
    dsimp only; omega
  ·have hii : i = ts.length := by simp at hlt; omega
   subst hii
   have hcl := cssT_len ts
   rw [List.take_of_length_le (by omega)]
   have MC := matched_con ts.length (costT ts) (cssT ts) h6 hcl (fun i hi => by simp [cssT]) (fun i k hi hk => by
    have h1 : i < ts.length := by omega
    have h2 : k < ts.length := by simpa [cssT] using hk
    unfold costT; rw [dif_pos ⟨h1, h2⟩]; simp [cssT]) (costT_b hs) ts.length [] 0 ([], [], -1) (.slice none 0 0) (by simp) (by simp) (fun h => by exact absurd h (by decide))
   (apply W_frz 5; exact rfl; exact zN)
   refine zS ?_;repeat(refine yA ?_;intro p hp;refine zS ?_)
   refine WL_weak _ (fun _ _ st => st_nil 3 1 iC st) ?_
   (apply wl_callP (Con.argsW (mArgs _) MC); exact rfl; exact yC; exact rfl)
   rintro _ _ ⟨sv, rfl, rfl⟩
   refine WL_one At.here (fun hone => ?_)
   refine zS ?_;repeat(refine yA ?_;intro p hp;refine zS ?_)
   (apply resKN1; exact rfl; exact rfl; exact zM; exact inferInstance; exact rfl; exact rfl; exact ⟨sv, rfl, rfl⟩; exact yC)
 ·rw [if_neg he']
  refine con_of Tryd.func99 rfl (enters_of Tryd.func99 (by kernel_rfl) rfl) rfl ?_; intro n w0 F0 G0
  refine zS ?_;repeat(refine yA ?_;intro p hp;refine zS ?_)
  (first | (apply wl_call (CC); exact rfl; exact rfl) | (apply wl_callR (CC); exact rfl; exact zM; exact rfl))
  refine zS ?_;repeat(refine yA ?_;intro p hp;refine zS ?_)
  simp only [he', decide_false, Bool.not_false]
  refine zS ?_;repeat(refine yA ?_;intro p hp;refine zS ?_)
  refine Res_row0 3 1 iC ?_
  refine Res_impP ⟨.slice none 0 0, rfl, rfl⟩ (mR0_imp _) ?_
  (apply resKN1; exact rfl; exact rfl; exact zM; exact inferInstance; exact rfl; exact rfl; exact ⟨rfl, rfl⟩; exact yC)
theorem match8_con (ts : List Tl) (hl : ts.length ≤ 4000) (hs : small3 ts) : Con Tryd.prog 50 [.sl 4 tC ts] [] (Is (.tup [.sl 1 iC (ints (matchR ts).1), .val (.int .i64 (matchR ts).2.1), .val (.int .i64 (matchR ts).2.2)]) []) := by
 have BC := best_con ts hl hs
 rw [(bestR_is ts).1] at BC
 refine con_of Tryd.func50 rfl (enters_of Tryd.func50 (by kernel_rfl) rfl) rfl ?_; intro n w0 F0 G0
 refine zS ?_;repeat(refine yA ?_;intro p hp;refine zS ?_)
 (apply wl_callP (BC); exact rfl; exact yC; exact rfl)
 rintro _ _ ⟨sv, rfl, rfl⟩
 refine WL_one At.here (fun hone => ?_)
 refine zS ?_;repeat(refine yA ?_;intro p hp;refine zS ?_)
 refine W_run 7 [12, 13, 14, 15, 16, 2, 3] [0, 1, 2, 3, 4, 5, 6] Cut.nil rfl goFlt mixedS (by kernel_rfl) rfl ?_
 refine rpv [] [] ?_
 refine rpv [0] [] ?_
 refine rpv [] [] ?_
 refine rpv [2] [] ?_
 refine rpv [] [] ?_
 refine rpv [1] [] ?_
 refine rpv [3] [] ?_
 refine ⟨⟨by kernel_rfl, by kernel_rfl⟩, fun vs => ?_⟩
 apply WL_auto [4, 5, 6]
 ·exact goPk
 ·exact goNrm
 ·kernel_rfl
 ·kernel_rfl
 refine zS ?_;repeat(refine yA ?_;intro p hp;refine zS ?_)
 refine zS ?_;repeat(refine yA ?_;intro p hp;refine zS ?_)
 (apply resK3; exact rfl; exact rfl; exact rfl; exact rfl; exact ⟨rfl, rfl⟩; exact yC)
theorem sure8_con (ts : List Tl) (hl : ts.length ≤ 4000) (hs : small3 ts) : Con Tryd.prog 52 [.sl 4 tC ts] [] (Is (.tup [.sl 1 iC (sureR ts).1, .val (.int .i64 (sureR ts).2)]) []) := by
 have BC := best_con ts hl hs
 rw [(bestR_is ts).1, ← (bestR_is ts).2] at BC
 refine con_of Tryd.func52 rfl (enters_of Tryd.func52 (by kernel_rfl) rfl) rfl ?_; intro n w0 F0 G0
 refine zS ?_;repeat(refine yA ?_;intro p hp;refine zS ?_)
 (apply wl_callP (BC); exact rfl; exact yC; exact rfl)
 rintro _ _ ⟨sv, rfl, rfl⟩
 refine WL_one At.here (fun hone => ?_)
 refine zS ?_;repeat(refine yA ?_;intro p hp;refine zS ?_)
 (apply Res_frz 2; exact rfl; exact zN)
 (apply resK2; exact rfl; exact rfl; exact rfl; exact ⟨rfl, rfl⟩; exact yC)
def sorT (ts : List Tl) (t : Tl) (k : Nat) : Tl := ⟨t.id, t.hs, t.st, if h : k < ts.length then ts[k].fo else []⟩
def sortR (ts : List Tl) : List Tl × Int := if errAll ts = 0 then (List.zipWith (sorT ts) ts (bst (matsT ts)).1, 0) else ([], errAll ts)
theorem best_ok (ts : List Tl) (hne : matsT ts ≠ []) : (bst (matsT ts)).1.length = ts.length ∧ ∀ k ∈ (bst (matsT ts)).1, k < ts.length := by
 have hm := (bi _ (matsT_nonneg ts)).mem hne
 obtain ⟨r, h1, h2, h3, _⟩ := mats_mem.1 hm
 rw [List.nil_append] at h1
 rw [h1]
 exact ⟨h2, fun k hk => (h3 k hk).1⟩
theorem mats_ne {N : Nat} (c : Nat → Nat → Int) : ∀ (m : Nat) (s : List Nat) (cn : Int), s.Nodup → (∀ k ∈ s, k < N) → s.length + m = N → mats N c m s cn ≠ []
 | 0, s, cn, _, _, _ => by simp [mats]
 | m + 1, s, cn, hn, hs, hl => by
  have : ∃ k, k < N ∧ k ∉ s := by
   refine Classical.byContradiction fun h => ?_
   have hsub : List.range N ⊆ s := fun k hk => Classical.byContradiction fun h2 => h ⟨k, List.mem_range.1 hk, h2⟩
   have := (List.nodup_range (n := N)).length_le_of_subset hsub
   rw [List.length_range] at this
   omega
  obtain ⟨k, hk, hks⟩ := this
  intro e
  rw [mats_succ] at e
  have h1 := List.flatMap_eq_nil_iff.1 e k (List.mem_range.2 hk)
  rw [if_neg hks] at h1
  refine mats_ne c m (s ++ [k]) _ (List.nodup_append.2 ⟨hn, by simp, fun a ha b hb e => ?_⟩) (fun j hj => ?_) (by rw [List.length_append, List.length_singleton]; omega) h1
  ·have : b = k := by simpa using hb
   subst this; subst e; exact hks ha
  ·rcases List.mem_append.1 hj with hj | hj
   ·exact hs j hj
   ·have : j = k := by simpa using hj
    subst this; exact hk
theorem matsT_ne (ts : List Tl) : matsT ts ≠ [] := mats_ne _ _ _ _ List.nodup_nil (fun k hk => by cases hk) (by simp)
theorem WL_packN {c : Cx} {rs : List (Nat × AV)} {hs : List HA} {Q : Exit → S → Prop} {ops : Array Oper} {tl : List Oper} (kk : WL c ops tl ⟨rs, .pack [] :: hs⟩ Q) : WL c ops tl ⟨rs, hs⟩ Q := ⟨fun a w st => kk.out a w (by
 obtain ⟨G, F, hI, rr⟩ := st
 exact ⟨G, F, ⟨hI.gin, hI.nd, hI.own, [], F, .refl _, rfl, hI.hs⟩, rr⟩)⟩
theorem sort_con (ts : List Tl) (hl : ts.length ≤ 4000) (hs : small3 ts) : Con Tryd.prog 53 [.sl 4 tC ts] [HA.tab] (fun x y => ∃ (u : Value) (L : List TO), L.map (·.1) = (sortR ts).1 ∧ x = .tup [.val u, .val (.int .i64 (sortR ts).2)] ∧ y = [.row u 24 4 toC L, .pack (L.flatMap toR), HA.tab]) := by
 have MC := match_con ts hl hs
 unfold matchR at MC
 unfold sortR
 by_cases he' : errAll ts = 0
 ·rw [if_pos he'] at MC ⊢
  have h6 := err_len he'
  obtain ⟨hml, hmk⟩ := best_ok ts (matsT_ne ts)
  generalize bst (matsT ts) = B at MC hml hmk ⊢
  refine con_of Tryd.func53 rfl (enters_of Tryd.func53 (by kernel_rfl) rfl) rfl ?_; intro n w0 F0 G0
  refine zS ?_;repeat(refine yA ?_;intro p hp;refine zS ?_)
  (apply wl_callP (MC); exact rfl; exact yC; exact rfl)
  rintro _ _ ⟨v0, rfl, rfl⟩
  refine WL_one At.here (fun hone => ?_)
  refine WL_packN ?_
  refine zS ?_;repeat(refine yA ?_;intro p hp;refine zS ?_)
  refine W_loopJ (fun (q : Nat × Value × List TO) => ⟨[(0, .sl 4 tC ts), (4, .val v0), (7, .val q.2.1), (19, .sl 4 tC ts), (20, .val (.int .i64 ts.length)), (21, .val (.int .i64 q.1))], [.row q.2.1 24 4 toC q.2.2, .pack (q.2.2.flatMap toR), .row v0 3 1 iC (ints B.1), HA.tab]⟩) (fun q => q.1 ≤ ts.length ∧ q.2.2.map (·.1) = (List.zipWith (sorT ts) ts B.1).take q.1) (fun q => ts.length - q.1) (0, .slice none 0 0, []) (fun _ _ st => st_sub2 (st_nil 24 4 toC st) zR zP) ⟨Nat.zero_le _, by simp⟩ ?_
  rintro ⟨i, v, L⟩ ⟨hi, hL⟩
  dsimp only at hi hL ⊢
  refine zS ?_;repeat(refine yA ?_;intro p hp;refine zS ?_)
  refine w_cond rfl (fun hlt => ?_) (fun hlt => ?_)
  ·have hi' : i < ts.length := by simpa using hlt
   have hib : i < B.1.length := by omega
   have hil := ints_len B.1
   have hk := hmk _ (List.getElem_mem hib)
   have e2 : (ints B.1)[i]'(by omega) = (B.1[i] : Int) := by simp [ints]
   have e4 : sorT ts ts[i] B.1[i] = ⟨ts[i].id, ts[i].hs, ts[i].st, ts[B.1[i]].fo⟩ := by unfold sorT; rw [dif_pos hk]
   have hz : (List.zipWith (sorT ts) ts B.1).take (i + 1) = (List.zipWith (sorT ts) ts B.1).take i ++ [⟨ts[i].id, ts[i].hs, ts[i].st, ts[B.1[i]].fo⟩] := by
    rw [List.take_succ_eq_append_getElem (by rw [List.length_zipWith]; omega), List.getElem_zipWith, e4]
   have hLl : L.length ≤ 6 := by
    have := congrArg List.length hL
    rw [List.length_map, List.length_take] at this; omega
   have s1 := hs _ (List.getElem_mem hi')
   have s2 := hs _ (List.getElem_mem hk)
   have CC := copied_con ⟨ts[i].id, ts[i].hs, ts[i].st, ts[B.1[i]].fo⟩ ⟨by show _ ≤ _; dsimp only; omega, by show _ ≤ _; dsimp only; omega⟩
   refine zS ?_;repeat(refine yA ?_;intro p hp;refine zS ?_)
   rw [e2]
   refine zS ?_;repeat(refine yA ?_;intro p hp;refine zS ?_)
   (apply wl_callP (CC); exact rfl; exact yC; exact rfl)
   rintro _ _ ⟨⟨o1, o2⟩, rfl, rfl⟩
   refine WL_as 37 (.agg (toC (⟨ts[i].id, ts[i].hs, ts[i].st, ts[B.1[i]].fo⟩, o1, o2))) rfl ?_
   (apply wl_litF toC; exact inferInstance; exact inferInstance; exact inferInstance; exact zE; exact rfl; (first | exact (of_decide_eq_true rfl) | decide | (simp; done) | (simp; omega)); exact rfl)
   (first | (apply wl_append; exact rfl; exact rfl; exact zN; exact inferInstance; exact inferInstance; (first | omega | (simp; omega)); exact rfl) | (apply wl_appendN; exact rfl; exact rfl; exact inferInstance; exact inferInstance; (first | omega | (simp; omega)); exact rfl))
   intro v2
   refine WL_snoc (h := .row o1.1 3 1 iC ts[i].st) zN zN ?_
   refine WL_snoc (h := .row o2.1 3 1 iC ts[B.1[i]].fo) zN zN ?_
   refine zS ?_;repeat(refine yA ?_;intro p hp;refine zS ?_)
   have hpk : (L ++ [((⟨ts[i].id, ts[i].hs, ts[i].st, ts[B.1[i]].fo⟩ : Tl), o1, o2)]).flatMap toR = L.flatMap toR ++ [.row o1.1 3 1 iC ts[i].st] ++ [.row o2.1 3 1 iC ts[B.1[i]].fo] := by
    rw [List.flatMap_append]
    simp [toR]
   refine ⟨(i + 1, v2, L ++ [((⟨ts[i].id, ts[i].hs, ts[i].st, ts[B.1[i]].fo⟩ : Tl), o1, o2)]), fun _ _ st => st_sub2 st zR (by dsimp only; rw [hpk]; exact zP), ⟨hi', ?_⟩, ?_⟩
   ·dsimp only
    rw [List.map_append, hL, hz]; rfl
   ·dsimp only; omega
  ·have hii : i = ts.length := by simp at hlt; omega
   subst hii
   rw [List.take_of_length_le (by rw [List.length_zipWith]; omega)] at hL
   refine zS ?_;repeat(refine yA ?_;intro p hp;refine zS ?_)
   (apply resK2; exact rfl; exact rfl; exact rfl; exact ⟨v, L, hL, rfl, rfl⟩; exact yC)
 ·rw [if_neg he'] at MC ⊢
  refine con_of Tryd.func53 rfl (enters_of Tryd.func53 (by kernel_rfl) rfl) rfl ?_; intro n w0 F0 G0
  refine zS ?_;repeat(refine yA ?_;intro p hp;refine zS ?_)
  (apply wl_callP (MC); exact rfl; exact yC; exact rfl)
  rintro _ _ ⟨v0, rfl, rfl⟩
  refine WL_one At.here (fun hone => ?_)
  refine WL_packN ?_
  refine zS ?_;repeat(refine yA ?_;intro p hp;refine zS ?_)
  simp only [he', decide_false, Bool.not_false]
  refine zS ?_;repeat(refine yA ?_;intro p hp;refine zS ?_)
  refine Res_row0 24 4 toC ?_
  (apply resK2; exact rfl; exact rfl; exact rfl; exact ⟨_, [], rfl, rfl, rfl⟩; exact yC)
theorem sort8_con (ts : List Tl) (hl : ts.length ≤ 4000) (hs : small3 ts) : Con Tryd.prog 54 [.sl 4 tC ts] [] (Is (.tup [.sl 4 tC (sortR ts).1, .val (.int .i64 (sortR ts).2)]) []) := by
 have BC := best_con ts hl hs
 rw [(bestR_is ts).1] at BC
 unfold matchR at BC
 unfold sortR
 by_cases he' : errAll ts = 0
 ·rw [if_pos he'] at BC ⊢
  have h6 := err_len he'
  obtain ⟨hml, hmk⟩ := best_ok ts (matsT_ne ts)
  generalize bst (matsT ts) = B at BC hml hmk ⊢
  refine con_of Tryd.func54 rfl (enters_of Tryd.func54 (by kernel_rfl) rfl) rfl ?_; intro n w0 F0 G0
  refine zS ?_;repeat(refine yA ?_;intro p hp;refine zS ?_)
  (apply wl_callP (BC); exact rfl; exact yC; exact rfl)
  rintro _ _ ⟨sv, rfl, rfl⟩
  refine WL_one At.here (fun hone => ?_)
  refine zS ?_;repeat(refine yA ?_;intro p hp;refine zS ?_)
  refine W_loopJ (fun (q : Nat × Value) => ⟨[(0, .sl 4 tC ts), (4, .val p), (6, .val q.2), (18, .sl 4 tC ts), (19, .val (.int .i64 ts.length)), (20, .val (.int .i64 q.1))], [.row q.2 24 4 tC ((List.zipWith (sorT ts) ts B.1).take q.1), .box p (mR (B.1, (sureR ts).1, B.2) sv) 159]⟩) (fun q => q.1 ≤ ts.length) (fun q => ts.length - q.1) (0, .slice none 0 0) (fun _ _ st => st_sub2 (st_nil 24 4 tC st) zR zP) (Nat.zero_le _) ?_
  rintro ⟨i, v⟩ hi
  dsimp only at hi ⊢
  refine zS ?_;repeat(refine yA ?_;intro p hp;refine zS ?_)
  refine w_cond rfl (fun hlt => ?_) (fun hlt => ?_)
  ·have hi' : i < ts.length := by simpa using hlt
   have hib : i < B.1.length := by omega
   have hil := ints_len B.1
   have hk := hmk _ (List.getElem_mem hib)
   have e2 : (ints B.1)[i]'(by omega) = (B.1[i] : Int) := by simp [ints]
   have e4 : sorT ts ts[i] B.1[i] = ⟨ts[i].id, ts[i].hs, ts[i].st, ts[B.1[i]].fo⟩ := by unfold sorT; rw [dif_pos hk]
   have hz : (List.zipWith (sorT ts) ts B.1).take (i + 1) = (List.zipWith (sorT ts) ts B.1).take i ++ [⟨ts[i].id, ts[i].hs, ts[i].st, ts[B.1[i]].fo⟩] := by
    rw [List.take_succ_eq_append_getElem (by rw [List.length_zipWith]; omega), List.getElem_zipWith, e4]
   have s1 := hs _ (List.getElem_mem hi')
   have s2 := hs _ (List.getElem_mem hk)
   have TC := twin_con ts[i] s1.1 s1.2
   refine zS ?_;repeat(refine yA ?_;intro p hp;refine zS ?_)
   (first | (apply wl_call (TC); exact rfl; exact rfl) | (apply wl_callR (TC); exact rfl; exact zM; exact rfl))
   refine zS ?_;repeat(refine yA ?_;intro p hp;refine zS ?_)
   (apply wl_lit iC; exact inferInstance; exact inferInstance; exact inferInstance; exact zE; exact rfl; (first | exact (of_decide_eq_true rfl) | decide | (simp; done) | (simp; omega)); exact rfl)
   intro v0
   refine zS ?_;repeat(refine yA ?_;intro p hp;refine zS ?_)
   rw [e2]
   refine zS ?_;repeat(refine yA ?_;intro p hp;refine zS ?_)
   (first | (apply wl_append; exact rfl; exact rfl; exact zN; exact inferInstance; exact inferInstance; (first | omega | (simp; omega)); exact rfl) | (apply wl_appendN; exact rfl; exact rfl; exact inferInstance; exact inferInstance; (first | omega | (simp; omega)); exact rfl))
   intro v1
   refine zS ?_;repeat(refine yA ?_;intro p hp;refine zS ?_)
   (apply WL_frz 37; exact rfl; exact zN)
   refine zS ?_;repeat(refine yA ?_;intro p hp;refine zS ?_)
   refine WL_as 40 (.agg (tC ⟨ts[i].id, ts[i].hs, ts[i].st, ts[B.1[i]].fo⟩)) rfl ?_
   (apply wl_litF tC; exact inferInstance; exact inferInstance; exact inferInstance; exact zE; exact rfl; (first | exact (of_decide_eq_true rfl) | decide | (simp; done) | (simp; omega)); exact rfl)
   (first | (apply wl_append; exact rfl; exact rfl; exact zN; exact inferInstance; exact inferInstance; (first | omega | (simp; omega)); exact rfl) | (apply wl_appendN; exact rfl; exact rfl; exact inferInstance; exact inferInstance; (first | omega | (simp; omega)); exact rfl))
   intro v2
   refine zS ?_;repeat(refine yA ?_;intro p hp;refine zS ?_)
   refine ⟨(i + 1, v2), fun _ _ st => st_sub2 st zR (by dsimp only; rw [hz]; exact zP), hi', ?_⟩
   dsimp only; omega
  ·have hii : i = ts.length := by simp at hlt; omega
   subst hii
   rw [List.take_of_length_le (by rw [List.length_zipWith]; omega)]
   refine zS ?_;repeat(refine yA ?_;intro p hp;refine zS ?_)
   (apply Res_frz 2; exact rfl; exact zN)
   (apply resK2; exact rfl; exact rfl; exact rfl; exact ⟨rfl, rfl⟩; exact yC)
 ·rw [if_neg he'] at BC ⊢
  refine con_of Tryd.func54 rfl (enters_of Tryd.func54 (by kernel_rfl) rfl) rfl ?_; intro n w0 F0 G0
  refine zS ?_;repeat(refine yA ?_;intro p hp;refine zS ?_)
  (apply wl_callP (BC); exact rfl; exact yC; exact rfl)
  rintro _ _ ⟨sv, rfl, rfl⟩
  refine WL_one At.here (fun hone => ?_)
  refine zS ?_;repeat(refine yA ?_;intro p hp;refine zS ?_)
  simp only [he', decide_false, Bool.not_false]
  refine zS ?_;repeat(refine yA ?_;intro p hp;refine zS ?_)
  refine Res_row0 24 4 tC ?_
  (apply Res_frz 2; exact rfl; exact zN)
  (apply resK2; exact rfl; exact rfl; exact rfl; exact ⟨rfl, rfl⟩; exact yC)
end Go.Proofs.YthddoikmgpgakaaDoor.Sw
namespace Go.Proofs.YthddoikmgpgakaaDoor.Sw
open Go.RowKit Go Go.Shelf Go.Proofs
theorem sameI1_con (xs ys : List Int) (hl : xs.length ≤ 1000000) (hl2 : ys.length ≤ 1000000) : Con Tryd.prog 81 [.sl 1 iC xs, .sl 1 iC ys] [] (Is (.val (.bool (decide (xs = ys)))) []) := by
 refine con_of Tryd.func81 rfl (enters_of Tryd.func81 (by kernel_rfl) rfl) rfl ?_; intro n w0 F0 G0
 refine zS ?_
 refine w_cond rfl (fun hne => ?_) (fun hne => ?_)
 ·have hne' : xs ≠ ys := by intro e; rw [e] at hne; simp at hne
  refine zS ?_
  (apply res1; exact rfl; exact rfl; exact ⟨(congrArg (fun b => AV.val (Value.bool b)) (by simp [hne'])), rfl⟩)
 ·have hlen : xs.length = ys.length := by simp at hne; omega
  refine zS ?_
  refine W_loopJ (fun (k : Nat) => ⟨[(0, .sl 1 iC xs), (1, .sl 1 iC ys), (5, .val (.int .i64 k))], []⟩) (fun k => k ≤ xs.length ∧ xs.take k = ys.take k) (fun k => xs.length - k) 0 (fun _ _ st => st_sub2 st zR zP) ?hj0 ?round
  case hj0 => simp
  case round =>
   rintro k ⟨hk, hall⟩
   refine zS ?_
   refine w_cond rfl (fun hlt => ?_) (fun hlt => ?_)
   ·have hlt' : k < xs.length := by simpa using hlt
    have hlt2 : k < ys.length := by omega
    have hq1 : xs[k]? = some xs[k] := List.getElem?_eq_getElem hlt'
    have hq2 : ys[k]? = some ys[k] := List.getElem?_eq_getElem hlt2
    refine zS ?_
    refine W_run 8 [17, 18, 19, 20, 21, 22, 23, 24] [0, 1, 2, 3, 4, 5, 6, 7] Cut.nil rfl goFlt mixedS (by kernel_rfl) rfl ?_
    refine rpv [] [] ?_
    refine rpv [] [] ?_
    refine rpv [0, 1] [] ?_
    refine rpv [2] [] ?_
    refine rpv [] [] ?_
    refine rpv [] [] ?_
    refine rpv [4, 5] [] ?_
    refine rpv [6] [] ?_
    refine ⟨⟨by kernel_rfl, by kernel_rfl⟩, fun vs => ?_⟩
    apply WL_auto [3, 7]
    ·exact goPk
    ·exact goNrm
    ·kernel_rfl
    ·kernel_rfl
    refine zS ?_
    refine w_cond rfl (fun hg => ?_) (fun hg => ?_)
    ·have hne' : xs ≠ ys := by intro e; subst e; simp at hg
     refine zS ?_
     (apply res1; exact rfl; exact rfl; exact ⟨(congrArg (fun b => AV.val (Value.bool b)) (by simp [hne'])), rfl⟩)
    ·refine zS ?_
     (refine ⟨k + 1, fun _ _ st => st_sub2 st ?_ ?_, ?_, ?_⟩; exact zR; exact zP)
     ·refine ⟨by omega, ?_⟩
      rw [List.take_succ_eq_append_getElem hlt', List.take_succ_eq_append_getElem hlt2, hall]
      simp at hg; rw [hg]
     ·omega
   ·refine zS ?_
    have hkk : k = xs.length := by simp at hlt; omega
    have he : xs = ys := by
     rw [List.take_of_length_le (by omega), List.take_of_length_le (by omega)] at hall; exact hall
    (apply res1; exact rfl; exact rfl; exact ⟨(congrArg (fun b => AV.val (Value.bool b)) (by simp [he])), rfl⟩)
theorem sameI_con (xs ys : List Int) (hl : xs.length ≤ 1000000) (hl2 : ys.length ≤ 1000000) : Con Tryd.prog 39 [.sl 1 iC xs, .sl 1 iC ys] [] (Is (.val (.bool (decide (xs = ys)))) []) := by
 refine con_of Tryd.func39 rfl (enters_of Tryd.func39 (by kernel_rfl) rfl) rfl ?_; intro n w0 F0 G0
 refine zS ?_
 (first | (apply wl_call (sameI1_con xs ys hl hl2); exact rfl; exact rfl) | (apply wl_callR (sameI1_con xs ys hl hl2); exact rfl; exact zM; exact rfl))
 refine zS ?_
 (apply res1; exact rfl; exact rfl; exact ⟨rfl, rfl⟩)
theorem hsP.mem {G : Nat → Option Obj} {w : World} {h : HA} : ∀ {hs : List HA} {F : List Nat}, h ∈ hs → hsP hs G F w → ∃ F1, (∀ b ∈ F1, b ∈ F) ∧ h.P G F1 w
 | x :: hs, F, hm, ⟨A, B, e, h1, h2⟩ => by
  rcases List.mem_cons.1 hm with rfl | hm
  ·exact ⟨A, fun b hb => e.mem_iff.2 (by simp [hb]), h1⟩
  ·obtain ⟨F1, k1, k2⟩ := hsP.mem hm h2
   exact ⟨F1, fun b hb => e.mem_iff.2 (by simp [k1 b hb]), k2⟩
 | [], _, hm, _ => by cases hm
def tsOwn (u : Value) (L : List TO) : HA := .pack [.row u 24 4 toC L, .pack (L.flatMap toR)]
theorem ts_thaw (u : Value) (L : List TO) : Thaw (tsOwn u L) (.val u) (.sl 4 tC (L.map (·.1))) := ⟨fun G F w h hle v hv => by
 have hv' : v = u := hv
 subst hv'
 obtain ⟨A, B, e, h1, C, D, e2, h2, h3⟩ := h
 have hsub : ∀ b ∈ A, b ∈ F := fun b hb => e.mem_iff.2 (by simp [hb])
 have hsub2 : ∀ b ∈ C, b ∈ F := fun b hb => e.mem_iff.2 (by simp [e2.mem_iff.2 (show b ∈ C ++ D by simp [hb])])
 refine row_view h1 hsub (by rw [List.length_map]) fun i i1 i2 j av' ej => ?_
 rw [List.getElem_map] at ej
 have r1 : HA.row L[i].2.1.1 3 1 iC L[i].1.st ∈ L.flatMap toR := List.mem_flatMap.2 ⟨L[i], List.getElem_mem i1, by simp [toR]⟩
 have r2 : HA.row L[i].2.2.1 3 1 iC L[i].1.fo ∈ L.flatMap toR := List.mem_flatMap.2 ⟨L[i], List.getElem_mem i1, by simp [toR]⟩
 obtain ⟨F1, s1, q1⟩ := hsP.mem r1 h2
 obtain ⟨F2, s2, q2⟩ := hsP.mem r2 h2
 have v1 := row_view1 q1 (fun b hb => hsub2 b (s1 b hb)) hle
 have v2 := row_view1 q2 (fun b hb => hsub2 b (s2 b hb)) hle
 match j, ej with
 | 0, ej => cases ej; exact ⟨_, rfl, fun u hu => hu⟩
 | 1, ej => cases ej; exact ⟨_, rfl, fun u hu => hu⟩
 | 2, ej => cases ej; exact ⟨_, rfl, fun u hu => by have hu' : u = L[i].2.1.1 := hu
                                                    subst hu'; exact v1⟩
 | 3, ej => cases ej; exact ⟨_, rfl, fun u hu => by have hu' : u = L[i].2.2.1 := hu
                                                    subst hu'; exact v2⟩
 | j + 4, ej => simp [tC] at ej⟩
end Go.Proofs.YthddoikmgpgakaaDoor.Sw
namespace Go.Proofs.YthddoikmgpgakaaDoor.Sw
open Go.RowKit Go Go.Shelf Go.Proofs
open Go.Proofs.YthddoikmgpgakaaDoor.Ma
theorem matchR_len (ts : List Tl) (hl : ts.length ≤ 12) : (ints (matchR ts).1).length ≤ 12 := by
 rw [ints_len]
 unfold matchR
 split
 ·have := (best_ok ts (matsT_ne ts)).1
  show (bst (matsT ts)).1.length ≤ 12
  omega
 ·exact Nat.zero_le _
theorem sureR_len (ts : List Tl) (hl : ts.length ≤ 12) : (sureR ts).1.length ≤ 12 := by
 unfold sureR
 split
 ·have hm := (bi _ (matsT_nonneg ts)).mem (matsT_ne ts)
  have := accS_len' (B := bst (matsT ts)) (matsT_len ts _ hm) (matsT ts) (matsT_len ts)
  have h2 : (sure (matsT ts)).length = ts.length := this
  show (sure (matsT ts)).length ≤ 12
  omega
 ·exact Nat.zero_le _
theorem sortR_small (ts : List Tl) (hs : ∀ t ∈ ts, t.st.length ≤ 1000 ∧ t.fo.length ≤ 1000) : ∀ t ∈ (sortR ts).1, t.st.length ≤ 1000 ∧ t.fo.length ≤ 1000 := by
 unfold sortR
 split
 ·intro t ht
  obtain ⟨i, hi, rfl⟩ := List.getElem_of_mem ht
  have h0 : i < (List.zipWith (sorT ts) ts (bst (matsT ts)).1).length := hi
  rw [List.length_zipWith] at h0
  show (List.zipWith (sorT ts) ts (bst (matsT ts)).1)[i].st.length ≤ 1000 ∧ _
  rw [List.getElem_zipWith]
  refine ⟨(hs _ (List.getElem_mem (by omega))).1, ?_⟩
  unfold sorT
  dsimp only
  split
  ·exact (hs _ (List.getElem_mem _)).2
  ·exact Nat.zero_le _
 ·intro t ht; cases ht
theorem sortR_len (ts : List Tl) (hl : ts.length ≤ 12) : (sortR ts).1.length ≤ 12 := by
 unfold sortR
 split
 ·show (List.zipWith _ ts _).length ≤ 12
  rw [List.length_zipWith]; omega
 ·exact Nat.zero_le _
theorem tallyMatches_con (ts : List Tl) : Con Tryd.prog 7 [.sl 4 tC ts] [HA.tab] (Is (.val (.bool true)) []) := by
 refine con_of Tryd.func7 rfl (enters_of Tryd.func7 (by kernel_rfl) rfl) rfl ?_; intro n w0 F0 G0
 refine zS ?_;repeat(refine yA ?_;intro p hp;refine zS ?_)
 (first | (apply wl_call (greatAll_con ts); exact rfl; exact rfl) | (apply wl_callR (greatAll_con ts); exact rfl; exact zM; exact rfl))
 refine zS ?_;repeat(refine yA ?_;intro p hp;refine zS ?_)
 refine w_cond rfl (fun h2 => ?_) (fun h2 => ?_)
 ·refine zS ?_;repeat(refine yA ?_;intro p hp;refine zS ?_)
  (apply res1; exact rfl; exact rfl; exact ⟨rfl, rfl⟩)
 ·have hl : ts.length ≤ 12 := by simp at h2; omega
  have hts : small3 ts := fun u hu => by
   simp only [Bool.or_eq_false_iff, List.any_eq_false] at h2
   have := h2.2 u hu
   simp [greatT] at this; omega
  have C2 := twinAll_con ts (by omega) hts
  have C3 := match_con ts (by omega) hts
  have C4 := match8_con ts (by omega) hts
  have C5 := sure_con ts (by omega) hts
  have C6 := sure8_con ts (by omega) hts
  have C7 := sort_con ts (by omega) hts
  have C8 := sort8_con ts (by omega) hts
  have l1 := matchR_len ts hl
  have l2 := sureR_len ts hl
  have l3 := sortR_len ts hl
  have hss := sortR_small ts hts
  have D1 := sameI_con (ints (matchR ts).1) (ints (matchR ts).1) (by omega) (by omega)
  have D2 := sameI_con (sureR ts).1 (sureR ts).1 (by omega) (by omega)
  have D3 := sameAll_con (sortR ts).1 (sortR ts).1 (by omega) (by omega) hss
  have D4 := sameAll_con ts ts (by omega) (by omega) hts
  rw [sameL_self] at D3 D4
  simp only [decide_true] at D1 D2
  refine zS ?_;repeat(refine yA ?_;intro p hp;refine zS ?_)
  (first | (apply wl_call (C2); exact rfl; exact rfl) | (apply wl_callR (C2); exact rfl; exact zM; exact rfl))
  refine zS ?_;repeat(refine yA ?_;intro p hp;refine zS ?_)
  (apply wl_callP (C3); exact rfl; exact yC; exact rfl)
  rintro _ _ ⟨u1, rfl, rfl⟩
  refine WL_one At.here (fun hone1 => ?_)
  refine zS ?_;repeat(refine yA ?_;intro p hp;refine zS ?_)
  (apply WL_frz 4; exact rfl; exact zN)
  refine zS ?_;repeat(refine yA ?_;intro p hp;refine zS ?_)
  (first | (apply wl_call (C4); exact rfl; exact rfl) | (apply wl_callR (C4); exact rfl; exact zM; exact rfl))
  refine zS ?_;repeat(refine yA ?_;intro p hp;refine zS ?_)
  (apply wl_callP (C5); exact rfl; exact yC; exact rfl)
  rintro _ _ ⟨u2, rfl, rfl⟩
  refine WL_one At.here (fun hone2 => ?_)
  refine zS ?_;repeat(refine yA ?_;intro p hp;refine zS ?_)
  (apply WL_frz 10; exact rfl; exact zN)
  refine zS ?_;repeat(refine yA ?_;intro p hp;refine zS ?_)
  (first | (apply wl_call (C6); exact rfl; exact rfl) | (apply wl_callR (C6); exact rfl; exact zM; exact rfl))
  refine zS ?_;repeat(refine yA ?_;intro p hp;refine zS ?_)
  (apply wl_callP (C7); exact rfl; exact yC; exact rfl)
  rintro _ _ ⟨u3, L, hL, rfl, rfl⟩
  refine WL_one At.here (fun hone3 => ?_)
  refine zS ?_;repeat(refine yA ?_;intro p hp;refine zS ?_)
  (first | (apply wl_call (C8); exact rfl; exact rfl) | (apply wl_callR (C8); exact rfl; exact zM; exact rfl))
  refine zS ?_;repeat(refine yA ?_;intro p hp;refine zS ?_)
  have TH := ts_thaw u3 L
  rw [hL] at TH
  refine WL_packN ?_
  refine WL_snoc (h := .row u3 24 4 toC L) zN zN ?_
  refine WL_snoc (h := .pack (L.flatMap toR)) zN zN ?_
  refine zS ?_;repeat(refine yA ?_;intro p hp;refine zS ?_)
  (first | (apply wl_call (D1); exact rfl; exact rfl) | (apply wl_callR (D1); exact rfl; exact zM; exact rfl))
  refine zS ?_;repeat(refine yA ?_;intro p hp;refine zS ?_)
  simp only [eq_self, decide_true]
  refine zS ?_;repeat(refine yA ?_;intro p hp;refine zS ?_)
  simp only [eq_self, decide_true]
  refine zS ?_;repeat(refine yA ?_;intro p hp;refine zS ?_)
  (first | (apply wl_call (D2); exact rfl; exact rfl) | (apply wl_callR (D2); exact rfl; exact zM; exact rfl))
  refine zS ?_;repeat(refine yA ?_;intro p hp;refine zS ?_)
  simp only [eq_self, decide_true]
  refine zS ?_;repeat(refine yA ?_;intro p hp;refine zS ?_)
  (apply wl_borrow 81 TH D3; exact rfl; exact rfl; exact yC; exact Pers.nil; exact rfl)
  refine zS ?_;repeat(refine yA ?_;intro p hp;refine zS ?_)
  simp only [eq_self, decide_true]
  refine zS ?_;repeat(refine yA ?_;intro p hp;refine zS ?_)
  refine WL_unpack (l := [.row u3 24 4 toC L, .pack (L.flatMap toR)]) (h := .row u3 24 4 toC L) (l' := [.pack (L.flatMap toR)]) (.refl _) zN ?_
  refine WL_unpack (l := [.pack (L.flatMap toR)]) (h := .pack (L.flatMap toR)) (l' := []) (.refl _) zN ?_
  have hLl : L.length ≤ 12 := by
   have := congrArg List.length hL
   rw [List.length_map] at this; omega
  have hLs : ∀ q ∈ L, q.1.st.length ≤ 1000 ∧ q.1.fo.length ≤ 1000 := fun q hq => hss q.1 (by rw [← hL]; exact List.mem_map_of_mem hq)
  refine zS ?_;repeat(refine yA ?_;intro p hp;refine zS ?_)
  refine W_loopJ (fun (k : Nat) => ⟨[(0, .sl 4 tC ts), (3, .sl 4 tC ts), (18, .val (.bool true)), (90, .val u3), (91, .val (.int .i64 L.length)), (92, .val (.int .i64 k))], [.row u3 24 4 toC L, .pack ((L.drop k).flatMap toR), HA.tab]⟩) (fun k => k ≤ L.length) (fun k => L.length - k) 0 (fun _ _ st => st_sub2 st zR (by rw [List.drop_zero]; exact zP)) (Nat.zero_le _) ?_
  intro k hk
  refine zS ?_;repeat(refine yA ?_;intro p hp;refine zS ?_)
  refine w_cond rfl (fun hlt => ?_) (fun hlt => ?_)
  ·have hk' : k < L.length := by simpa using hlt
   have hm := hLs _ (List.getElem_mem hk')
   have SP := spoil_con L[k].1.id L[k].1.hs L[k].2.1.1 L[k].2.2.1 L[k].1.st L[k].1.fo (by omega) (by omega)
   rw [List.drop_eq_getElem_cons hk', List.flatMap_cons]
   unfold toR
   rw [List.cons_append, List.cons_append, List.nil_append]
   refine zS ?_;repeat(refine yA ?_;intro p hp;refine zS ?_)
   refine WL_unpack (.refl _) zN ?_
   refine WL_unpack (.refl _) zN ?_
   (apply wl_callP (SP); exact rfl; exact yC; exact rfl)
   rintro _ _ ⟨rfl, a', b', rfl⟩
   refine zS ?_;repeat(refine yA ?_;intro p hp;refine zS ?_)
   (refine ⟨k + 1, fun _ _ st => st_sub2 st ?_ ?_, ?_, ?_⟩; exact zR; exact zP)
   ·exact hk'
   ·omega
  ·refine zS ?_;repeat(refine yA ?_;intro p hp;refine zS ?_)
   (first | (apply wl_call (D4); exact rfl; exact rfl) | (apply wl_callR (D4); exact rfl; exact zM; exact rfl))
   refine zS ?_;repeat(refine yA ?_;intro p hp;refine zS ?_)
   (apply res1; exact rfl; exact rfl; exact ⟨rfl, rfl⟩)
end Go.Proofs.YthddoikmgpgakaaDoor.Sw
