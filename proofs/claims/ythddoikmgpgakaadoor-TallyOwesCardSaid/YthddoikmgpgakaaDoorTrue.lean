/- The plain law of true lists: a true list goes by a best step, and one of its notches. No program. -/
import Derived.Test.YthddoikmgpgakaaDoorTri
import Derived.Test.YthddoikmgpgakaaDoorFst
import Derived.Test.YthddoikmgpgakaaDoorEdL
namespace Go.Proofs.YthddoikmgpgakaaDoor
open Go.RowKit Go.Proofs Go.Shelf

/-- What a true list can have at a step. -/
def notchesL (x : St) : List Int := if x.s = x.f then [x.s] else [x.s, x.f]
/-- A notch before a list; none if it is 0. -/
def preL (n : Int) (l : List Int) : List Int := if 0 < n then n :: l else l

theorem mem_best {st fo : List Int} {i k : Nat} {x : St} : x ∈ bestL st fo i k ↔ x ∈ stepsL st fo i k ∧ x.wr + (dd st fo x.i x.k : Int) = (dd st fo i k : Int) := by
  unfold bestL isBest
  rw [List.mem_filter]
  simp
theorem okN_pos {xs : List Int} (h : okN xs = true) {i : Nat} (hi : i < xs.length) : 0 < xs[i] := by
  unfold okN at h
  rw [List.all_eq_true] at h
  have := h _ (List.getElem_mem hi)
  simp at this
  omega

theorem true_iff {st fo : List Int} (hs : okN st = true) (hf : okN fo = true) {i k : Nat} (hi : i ≤ st.length) (hk : k ≤ fo.length) (hne : ¬ (i = st.length ∧ k = fo.length)) (l : List Int) :
    TrueL (st.drop i) (fo.drop k) l ↔ ∃ x ∈ bestL st fo i k, ∃ n ∈ notchesL x, ∃ r, TrueL (st.drop x.i) (fo.drop x.k) r ∧ l = preL n r := by
  constructor
  · intro h
    rcases h.begins with ⟨h1, h2, _⟩ | ⟨a, s', b, f', c, l', h1, h2, h3, hd, hc, ht⟩ | ⟨a, s', h1, hd, ht⟩ | ⟨b, f', h2, hd, ht⟩
    · exact absurd ⟨by have := congrArg List.length h1; simp at this; omega, by have := congrArg List.length h2; simp at this; omega⟩ hne
    · have li : i < st.length := by have := congrArg List.length h1; simp at this; omega
      have lk : k < fo.length := by have := congrArg List.length h2; simp at this; omega
      rw [List.drop_eq_getElem_cons li] at h1
      rw [List.drop_eq_getElem_cons lk] at h2
      obtain ⟨rfl, rfl⟩ := List.cons.inj h1
      obtain ⟨rfl, rfl⟩ := List.cons.inj h2
      refine ⟨⟨i + 1, k + 1, st[i], fo[k], if st[i] = fo[k] then 0 else 1⟩, mem_best.2 ⟨?_, ?_⟩, c, ?_, l', ht, ?_⟩
      · rw [stepsL, step1_yes li lk]; simp
      · show (if st[i] = fo[k] then 0 else 1 : Int) + (dd st fo (i + 1) (k + 1) : Int) = (dd st fo i k : Int)
        unfold dd
        rw [List.drop_eq_getElem_cons li, List.drop_eq_getElem_cons lk, hd]
        split <;> omega
      · unfold notchesL
        rcases hc with rfl | rfl <;> split <;> simp_all
      · rw [h3]; unfold preL
        have p1 := okN_pos hs li; have p2 := okN_pos hf lk
        rw [if_pos (by rcases hc with rfl | rfl <;> assumption)]
    · have li : i < st.length := by have := congrArg List.length h1; simp at this; omega
      rw [List.drop_eq_getElem_cons li] at h1
      obtain ⟨rfl, rfl⟩ := List.cons.inj h1
      have p1 := okN_pos hs li
      have hb : (⟨i + 1, k, st[i], 0, 1⟩ : St) ∈ bestL st fo i k := mem_best.2 ⟨by rw [stepsL, step2_yes k li]; simp, by
        show (1 : Int) + (dd st fo (i + 1) k : Int) = (dd st fo i k : Int)
        unfold dd; rw [List.drop_eq_getElem_cons li, hd]; omega⟩
      have hn : notchesL ⟨i + 1, k, st[i], 0, 1⟩ = [st[i], 0] := by unfold notchesL; rw [if_neg (show ¬ st[i] = 0 by omega)]
      rcases ht with ht | ⟨l', rfl, ht⟩
      · exact ⟨_, hb, 0, by rw [hn]; simp, l, ht, by unfold preL; simp⟩
      · exact ⟨_, hb, st[i], by rw [hn]; simp, l', ht, by unfold preL; rw [if_pos p1]⟩
    · have lk : k < fo.length := by have := congrArg List.length h2; simp at this; omega
      rw [List.drop_eq_getElem_cons lk] at h2
      obtain ⟨rfl, rfl⟩ := List.cons.inj h2
      have p2 := okN_pos hf lk
      have hb : (⟨i, k + 1, 0, fo[k], 1⟩ : St) ∈ bestL st fo i k := mem_best.2 ⟨by rw [stepsL, step3_yes i lk]; simp, by
        show (1 : Int) + (dd st fo i (k + 1) : Int) = (dd st fo i k : Int)
        unfold dd; rw [List.drop_eq_getElem_cons lk, hd]; omega⟩
      have hn : notchesL ⟨i, k + 1, 0, fo[k], 1⟩ = [0, fo[k]] := by unfold notchesL; rw [if_neg (show ¬ 0 = fo[k] by omega)]
      rcases ht with ht | ⟨l', rfl, ht⟩
      · exact ⟨_, hb, 0, by rw [hn]; simp, l, ht, by unfold preL; simp⟩
      · exact ⟨_, hb, fo[k], by rw [hn]; simp, l', ht, by unfold preL; rw [if_pos p2]⟩
  · rintro ⟨x, hx, n, hn, r, hr, rfl⟩
    obtain ⟨hx, hd⟩ := mem_best.1 hx
    rw [stepsL, List.mem_append, List.mem_append] at hx
    rcases hx with hx | hx | hx
    · by_cases hh : i < st.length ∧ k < fo.length
      · rw [step1_yes hh.1 hh.2, List.mem_singleton] at hx
        subst hx
        have p1 := okN_pos hs hh.1; have p2 := okN_pos hf hh.2
        have hn' : n = st[i]'hh.1 ∨ n = fo[k]'hh.2 := by
          unfold notchesL at hn
          split at hn <;> simp at hn
          · exact .inl hn
          · exact hn
        unfold preL
        rw [if_pos (by rcases hn' with rfl | rfl <;> assumption), List.drop_eq_getElem_cons hh.1, List.drop_eq_getElem_cons hh.2]
        refine hr.both ?_ hn'
        change (if st[i]'hh.1 = fo[k]'hh.2 then 0 else 1 : Int) + (dd st fo (i + 1) (k + 1) : Int) = (dd st fo i k : Int) at hd
        unfold dd at hd
        rw [List.drop_eq_getElem_cons hh.1, List.drop_eq_getElem_cons hh.2] at hd
        show dist (st[i]'hh.1 :: st.drop (i + 1)) (fo[k]'hh.2 :: fo.drop (k + 1)) = dist (st.drop (i + 1)) (fo.drop (k + 1)) + (if st[i]'hh.1 = fo[k]'hh.2 then 0 else 1)
        split at hd <;> rename_i e
        · rw [if_pos e]; omega
        · rw [if_neg e]; omega
      · rw [step1_no hh] at hx; cases hx
    · by_cases hh : i < st.length
      · rw [step2_yes k hh, List.mem_singleton] at hx
        subst hx
        have p1 := okN_pos hs hh
        have hd' : dist (st[i] :: st.drop (i + 1)) (fo.drop k) = dist (st.drop (i + 1)) (fo.drop k) + 1 := by
          change (1 : Int) + (dd st fo (i + 1) k : Int) = (dd st fo i k : Int) at hd
          unfold dd at hd
          rw [List.drop_eq_getElem_cons hh] at hd
          omega
        unfold notchesL at hn
        rw [if_neg (show ¬ st[i] = 0 by omega)] at hn
        simp only [List.mem_cons, List.not_mem_nil, or_false] at hn
        unfold preL
        rw [List.drop_eq_getElem_cons hh]
        rcases hn with rfl | rfl
        · rw [if_pos p1]; exact hr.cut1 hd'
        · rw [if_neg (by omega)]; exact hr.cut0 hd'
      · rw [step2_no k hh] at hx; cases hx
    · by_cases hh : k < fo.length
      · rw [step3_yes i hh, List.mem_singleton] at hx
        subst hx
        have p2 := okN_pos hf hh
        have hd' : dist (st.drop i) (fo[k] :: fo.drop (k + 1)) = dist (st.drop i) (fo.drop (k + 1)) + 1 := by
          change (1 : Int) + (dd st fo i (k + 1) : Int) = (dd st fo i k : Int) at hd
          unfold dd at hd
          rw [List.drop_eq_getElem_cons hh] at hd
          omega
        unfold notchesL at hn
        rw [if_neg (show ¬ 0 = fo[k] by omega)] at hn
        simp only [List.mem_cons, List.not_mem_nil, or_false] at hn
        unfold preL
        rw [List.drop_eq_getElem_cons hh]
        rcases hn with rfl | rfl
        · rw [if_neg (by omega)]; exact hr.add0 hd'
        · rw [if_pos p2]; exact hr.add1 hd'
      · rw [step3_no i hh] at hx; cases hx

theorem true_end {st fo : List Int} (l : List Int) : TrueL (st.drop st.length) (fo.drop fo.length) l ↔ l = [] := by
  rw [List.drop_length, List.drop_length]
  exact ⟨TrueL.nil, fun e => e ▸ TrueL.done⟩

/-- There is a best step unless all is gone. -/
theorem best_ne {st fo : List Int} (hs : okN st = true) (hf : okN fo = true) {i k : Nat} (hi : i ≤ st.length) (hk : k ≤ fo.length) (h : i < st.length ∨ k < fo.length) : bestL st fo i k ≠ [] := by
  obtain ⟨x, t, e, _⟩ := best_head hs hf hi hk h
  rw [e]; simp

/-- What a list comes to. -/
def sumW (W : Int → Int) (l : List Int) : Int := (l.map W).sum
theorem sumW_pre {W : Int → Int} (h0 : W 0 = 0) {n : Int} (hn : 0 ≤ n) (l : List Int) : sumW W (preL n l) = W n + sumW W l := by
  unfold preL sumW
  split
  · simp
  · have : n = 0 := by omega
    subst this; rw [h0]; simp

/-- The least and the greatest of what lists come to. -/
structure IsSpan (W : Int → Int) (P : List Int → Prop) (x y : Int) : Prop where
  lo : ∃ l, P l ∧ sumW W l = x
  hi : ∃ l, P l ∧ sumW W l = y
  all : ∀ l, P l → x ≤ sumW W l ∧ sumW W l ≤ y
theorem IsSpan.unique {W : Int → Int} {P : List Int → Prop} {a b c d : Int} (h : IsSpan W P a b) (k : IsSpan W P c d) : a = c ∧ b = d := by
  obtain ⟨l1, p1, e1⟩ := h.lo
  obtain ⟨l2, p2, e2⟩ := h.hi
  obtain ⟨l3, p3, e3⟩ := k.lo
  obtain ⟨l4, p4, e4⟩ := k.hi
  have := h.all l3 p3; have := h.all l4 p4; have := k.all l1 p1; have := k.all l2 p2
  omega
theorem IsSpan.iff {W : Int → Int} {P Q : List Int → Prop} {a b : Int} (h : IsSpan W P a b) (hq : ∀ x, P x ↔ Q x) : IsSpan W Q a b :=
  ⟨by obtain ⟨l, p, e⟩ := h.lo; exact ⟨l, (hq l).1 p, e⟩, by obtain ⟨l, p, e⟩ := h.hi; exact ⟨l, (hq l).1 p, e⟩, fun l p => h.all l ((hq l).2 p)⟩
theorem IsSpan.nil {W : Int → Int} : IsSpan W (fun l => l = []) 0 0 := ⟨⟨[], rfl, rfl⟩, ⟨[], rfl, rfl⟩, fun l h => by subst h; simp [sumW]⟩
theorem IsSpan.pre {W : Int → Int} (h0 : W 0 = 0) {P : List Int → Prop} {a b n : Int} (hn : 0 ≤ n) (h : IsSpan W P a b) : IsSpan W (fun l => ∃ r, P r ∧ l = preL n r) (W n + a) (W n + b) := by
  obtain ⟨l1, p1, e1⟩ := h.lo
  obtain ⟨l2, p2, e2⟩ := h.hi
  refine ⟨⟨preL n l1, ⟨l1, p1, rfl⟩, by rw [sumW_pre h0 hn, e1]⟩, ⟨preL n l2, ⟨l2, p2, rfl⟩, by rw [sumW_pre h0 hn, e2]⟩, ?_⟩
  rintro l ⟨r, p, rfl⟩
  have := h.all r p
  rw [sumW_pre h0 hn]; omega
theorem IsSpan.or {W : Int → Int} {P Q : List Int → Prop} {a b c d : Int} (h : IsSpan W P a b) (k : IsSpan W Q c d) : IsSpan W (fun l => P l ∨ Q l) (min a c) (max b d) := by
  obtain ⟨l1, p1, e1⟩ := h.lo
  obtain ⟨l2, p2, e2⟩ := h.hi
  obtain ⟨l3, p3, e3⟩ := k.lo
  obtain ⟨l4, p4, e4⟩ := k.hi
  refine ⟨?_, ?_, ?_⟩
  · by_cases e : a ≤ c
    · exact ⟨l1, .inl p1, by omega⟩
    · exact ⟨l3, .inr p3, by omega⟩
  · by_cases e : d ≤ b
    · exact ⟨l2, .inl p2, by omega⟩
    · exact ⟨l4, .inr p4, by omega⟩
  · rintro l (p | p)
    · have := h.all l p; omega
    · have := k.all l p; omega

end Go.Proofs.YthddoikmgpgakaaDoor
