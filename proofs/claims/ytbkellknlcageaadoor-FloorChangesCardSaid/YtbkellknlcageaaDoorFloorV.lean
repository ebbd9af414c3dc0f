/- What floors bear of a bill, and are owed: plain. -/
import Derived.Test.YtbkellknlcageaaDoorFloorR2
namespace Go.Proofs.YtbkellknlcageaaDoor.Sw
open Go.RowKit Go Go.Shelf Go.Proofs
def sumPt : List Stk → Int
  | [] => 0
  | s :: t => s.pt + sumPt t
def addAt (l : List Int) (i : Nat) (d : Int) : List Int := l.set i (l[i]?.getD 0 + d)
def putAll (ids : List Int) (pe all : Int) : List Stk → List Int → List Int
  | [], l => l
  | s :: t, l => putAll ids pe all t (l.set (ids.idxOf s.fl) (pe * s.pt / all))
def incAll (ids : List Int) : List Stk → List Int → List Int
  | [], l => l
  | s :: t, l => incAll ids t (addAt l (ids.idxOf s.fl) 1)
def leftQ (pe all : Int) : List Stk → Int → Int
  | [], n => n
  | s :: t, n => leftQ pe all t (n - pe * s.pt / all)
def sharesR (ids : List Int) (x : Bil) : List Int := incAll ids (x.st.take (leftQ x.pe (sumPt x.st) x.st x.pe).toNat) (putAll ids x.pe (sumPt x.st) x.st (List.replicate ids.length 0))
def subL (l m : List Int) : List Int := List.zipWith (· - ·) l m
def bilFold (ids : List Int) : List Bil → List Int → List Int
  | [], l => l
  | x :: t, l => bilFold ids t (subL (addAt l (ids.idxOf x.py) x.pe) (sharesR ids x))
def payStep (ids : List Int) (x : Pay) (l : List Int) : List Int := addAt (addAt l (ids.idxOf x.a) x.p) (ids.idxOf x.b) (-x.p)
def payFold (ids : List Int) : List Pay → List Int → List Int
  | [], l => l
  | x :: t, l => payFold ids t (payStep ids x l)
def owed8 (f : Flo) : List Int := payFold f.ids f.ps (bilFold f.ids f.bs (List.replicate f.ids.length 0))

/-- What a valid bill gives. -/
theorem stks_all {ids : List Int} : ∀ {t : List Stk} {last : Int}, stksOk ids last t = true → ∀ s ∈ t, s.fl ∈ ids ∧ 1 ≤ s.pt ∧ s.pt ≤ 9
  | [], _, _, s, hs => by cases hs
  | x :: t, last, h, s, hs => by
    simp only [stksOk, Bool.and_eq_true, decide_eq_true_eq] at h
    rcases List.mem_cons.1 hs with rfl | hs
    · exact ⟨h.1.1.2, h.1.2.1, h.1.2.2⟩
    · exact stks_all h.2 s hs
structure BilF (ids : List Int) (x : Bil) : Prop where
  py : x.py ∈ ids
  pe0 : 1 ≤ x.pe
  pe1 : x.pe ≤ 1000000
  ne : x.st ≠ []
  st : ∀ s ∈ x.st, s.fl ∈ ids ∧ 1 ≤ s.pt ∧ s.pt ≤ 9
theorem bil_f {ids : List Int} {x : Bil} (h : bilOk ids x = true) : BilF ids x := by
  simp only [bilOk, Bool.and_eq_true, decide_eq_true_eq] at h
  exact ⟨h.1.1.1, h.1.1.2.1, h.1.1.2.2, h.1.2, stks_all h.2⟩
theorem bils_all {ids : List Int} : ∀ {t : List Bil} {last : Int}, bilsOk ids last t = true → ∀ x ∈ t, BilF ids x
  | [], _, _, s, hs => by cases hs
  | x :: t, last, h, s, hs => by
    simp only [bilsOk, Bool.and_eq_true, decide_eq_true_eq] at h
    rcases List.mem_cons.1 hs with rfl | hs
    · exact bil_f h.1.2
    · exact bils_all h.2 s hs
theorem pay_f {ids : List Int} {x : Pay} (h : payOk ids x = true) : x.a ∈ ids ∧ x.b ∈ ids ∧ x.a ≠ x.b ∧ 1 ≤ x.p ∧ x.p ≤ 1000000 := by
  simp only [payOk, Bool.and_eq_true, decide_eq_true_eq] at h
  exact ⟨h.1.1.1, h.1.1.2, h.1.2, h.2.1, h.2.2⟩
theorem pays_all {ids : List Int} : ∀ {t : List Pay}, paysOk ids t = true → ∀ x ∈ t, x.a ∈ ids ∧ x.b ∈ ids ∧ x.a ≠ x.b ∧ 1 ≤ x.p ∧ x.p ≤ 1000000
  | [], _, s, hs => by cases hs
  | x :: t, h, s, hs => by
    simp only [paysOk, Bool.and_eq_true] at h
    rcases List.mem_cons.1 hs with rfl | hs
    · exact pay_f h.1
    · exact pays_all h.2 s hs
structure FloF (f : Flo) : Prop where
  ids : f.ids.length ≤ 6
  bs : f.bs.length ≤ 10
  ps : f.ps.length ≤ 12
  bil : ∀ x ∈ f.bs, BilF f.ids x
  pay : ∀ x ∈ f.ps, x.a ∈ f.ids ∧ x.b ∈ f.ids ∧ x.a ≠ x.b ∧ 1 ≤ x.p ∧ x.p ≤ 1000000
theorem flo_f {f : Flo} (h : floOk f = true) : FloF f := by
  simp only [floOk, Bool.and_eq_true, decide_eq_true_eq] at h
  exact ⟨h.1.1.1.1.1.1, h.1.1.1.1.1.2, h.1.1.1.1.2, bils_all h.1.2, pays_all h.2⟩

theorem sumPt_bounds {t : List Stk} (h : ∀ s ∈ t, 1 ≤ s.pt ∧ s.pt ≤ 9) : (t.length : Int) ≤ sumPt t ∧ sumPt t ≤ 9 * t.length := by
  induction t with
  | nil => simp [sumPt]
  | cons s t ih =>
    have h1 := h s (by simp)
    have h2 := ih fun u hu => h u (by simp [hu])
    simp only [sumPt, List.length_cons]
    omega
theorem sumPt_append (a b : List Stk) : sumPt (a ++ b) = sumPt a + sumPt b := by
  induction a with
  | nil => simp [sumPt]
  | cons s t ih => simp only [List.cons_append, sumPt, ih]; omega
def quots (pe all : Int) : List Stk → Int
  | [] => 0
  | s :: t => pe * s.pt / all + quots pe all t
theorem leftQ_eq (pe all : Int) : ∀ (t : List Stk) (n : Int), leftQ pe all t n = n - quots pe all t
  | [], n => by simp [leftQ, quots]
  | s :: t, n => by rw [leftQ, leftQ_eq pe all t, quots]; omega
theorem quots_bounds {pe all : Int} (ha : 0 < all) : ∀ (t : List Stk), quots pe all t * all ≤ pe * sumPt t ∧ pe * sumPt t ≤ quots pe all t * all + t.length * (all - 1)
  | [] => by simp [quots, sumPt]
  | s :: t => by
    have ⟨h1, h2⟩ := quots_bounds (pe := pe) ha t
    have e := Int.mul_ediv_add_emod (pe * s.pt) all
    have r0 := Int.emod_nonneg (pe * s.pt) (show all ≠ 0 by omega)
    have r1 := Int.emod_lt_of_pos (pe * s.pt) ha
    simp only [quots, sumPt, List.length_cons]
    have e1 : (pe * s.pt / all + quots pe all t) * all = all * (pe * s.pt / all) + quots pe all t * all := by rw [Int.add_mul, Int.mul_comm (pe * s.pt / all)]
    have e2 : pe * (s.pt + sumPt t) = pe * s.pt + pe * sumPt t := Int.mul_add _ _ _
    have e3 : ((t.length + 1 : Nat) : Int) * (all - 1) = t.length * (all - 1) + (all - 1) := by rw [Int.natCast_add, Int.add_mul]; simp
    rw [e1, e2, e3]
    omega
theorem left_bounds {ids : List Int} {x : Bil} (h : BilF ids x) : 0 ≤ leftQ x.pe (sumPt x.st) x.st x.pe ∧ leftQ x.pe (sumPt x.st) x.st x.pe ≤ x.st.length := by
  have hb := sumPt_bounds fun s hs => (h.st s hs).2
  have hl : 0 < x.st.length := List.length_pos_iff.2 h.ne
  have ha : 0 < sumPt x.st := by omega
  obtain ⟨h1, h2⟩ := quots_bounds (pe := x.pe) ha x.st
  rw [leftQ_eq]
  have k1 : quots x.pe (sumPt x.st) x.st ≤ x.pe := Int.le_of_mul_le_mul_right h1 ha
  have k2 : x.pe ≤ quots x.pe (sumPt x.st) x.st + x.st.length := by
    refine Int.le_of_mul_le_mul_right (a := sumPt x.st) ?_ ha
    rw [Int.add_mul]
    have : (x.st.length : Int) * (sumPt x.st - 1) ≤ x.st.length * sumPt x.st := Int.mul_le_mul_of_nonneg_left (by omega) (by omega)
    omega
  omega
theorem quot_bounds {ids : List Int} {x : Bil} (h : BilF ids x) {s : Stk} (hs : s ∈ x.st) : 0 ≤ x.pe * s.pt ∧ x.pe * s.pt ≤ 9000000 ∧ 0 < sumPt x.st ∧ sumPt x.st ≤ 9 * x.st.length ∧ 0 ≤ x.pe * s.pt / sumPt x.st ∧ x.pe * s.pt / sumPt x.st ≤ 9000000 := by
  have hb := sumPt_bounds fun s hs => (h.st s hs).2
  have hl : 0 < x.st.length := List.length_pos_iff.2 h.ne
  have h1 := h.st s hs
  have h2 := h.pe0
  have h3 := h.pe1
  have a1 : 0 ≤ x.pe * s.pt := Int.mul_nonneg (by omega) (by omega)
  have a2 : x.pe * s.pt ≤ 1000000 * 9 := Int.mul_le_mul h3 h1.2.2 (by omega) (by omega)
  refine ⟨a1, by omega, by omega, hb.2, Int.ediv_nonneg a1 (by omega), ?_⟩
  have := Int.ediv_le_self (sumPt x.st) a1
  omega
/-- All entries lie between these. -/
def Btw (lo hi : Int) (l : List Int) : Prop := ∀ e ∈ l, lo ≤ e ∧ e ≤ hi
theorem Btw.set {lo hi : Int} {l : List Int} (h : Btw lo hi l) (i : Nat) {v : Int} (h1 : lo ≤ v) (h2 : v ≤ hi) : Btw lo hi (l.set i v) := fun e he => by
  rcases List.mem_or_eq_of_mem_set he with he | rfl
  · exact h e he
  · exact ⟨h1, h2⟩
theorem Btw.mono {lo hi lo' hi' : Int} {l : List Int} (h : Btw lo hi l) (h1 : lo' ≤ lo) (h2 : hi ≤ hi') : Btw lo' hi' l := fun e he => by have := h e he; omega
theorem Btw.getD {lo hi : Int} {l : List Int} (h : Btw lo hi l) (h1 : lo ≤ 0) (h2 : 0 ≤ hi) (i : Nat) : lo ≤ l[i]?.getD 0 ∧ l[i]?.getD 0 ≤ hi := by
  cases e : l[i]? with
  | none => exact ⟨h1, h2⟩
  | some v => exact h v (List.mem_of_getElem? e)
theorem Btw.addAt {lo hi : Int} {l : List Int} (h : Btw lo hi l) (i : Nat) {d a b : Int} (h1 : lo ≤ 0) (h2 : 0 ≤ hi) (ha : a ≤ d) (hb : d ≤ b) (ha0 : a ≤ 0) (hb0 : 0 ≤ b) : Btw (lo + a) (hi + b) (addAt l i d) := by
  have := h.getD h1 h2 i
  exact (h.mono (lo' := lo + a) (hi' := hi + b) (by omega) (by omega)).set i (by omega) (by omega)
theorem Btw.rep (n : Nat) {lo hi : Int} (h1 : lo ≤ 0) (h2 : 0 ≤ hi) : Btw lo hi (List.replicate n 0) := fun e he => by rw [List.eq_of_mem_replicate he]; exact ⟨h1, h2⟩
theorem Btw.at {lo hi : Int} {l : List Int} (h : Btw lo hi l) {i : Nat} (hi' : i < l.length) : lo ≤ l[i] ∧ l[i] ≤ hi := h _ (List.getElem_mem hi')
theorem addAt_len (l : List Int) (i : Nat) (d : Int) : (addAt l i d).length = l.length := by unfold addAt; simp
theorem addAt_at {l : List Int} {i : Nat} (h : i < l.length) (d : Int) : addAt l i d = l.set i (l[i] + d) := by unfold addAt; rw [List.getElem?_eq_getElem h]; rfl
theorem putAll_len {ids : List Int} {pe all : Int} : ∀ (t : List Stk) (l : List Int), (putAll ids pe all t l).length = l.length
  | [], l => rfl
  | s :: t, l => by rw [putAll, putAll_len t]; simp
theorem incAll_len {ids : List Int} : ∀ (t : List Stk) (l : List Int), (incAll ids t l).length = l.length
  | [], l => rfl
  | s :: t, l => by rw [incAll, incAll_len t, addAt_len]
theorem shares_len (ids : List Int) (x : Bil) : (sharesR ids x).length = ids.length := by unfold sharesR; rw [incAll_len, putAll_len]; simp
theorem putAll_btw {ids : List Int} {pe all hi : Int} : ∀ (t : List Stk) (l : List Int), (∀ s ∈ t, 0 ≤ pe * s.pt / all ∧ pe * s.pt / all ≤ hi) → Btw 0 hi l → Btw 0 hi (putAll ids pe all t l)
  | [], l, _, h => h
  | s :: t, l, hq, h => putAll_btw t _ (fun u hu => hq u (by simp [hu])) (h.set _ (hq s (by simp)).1 (hq s (by simp)).2)
theorem incAll_btw {ids : List Int} : ∀ (t : List Stk) (l : List Int) {hi : Int}, 0 ≤ hi → Btw 0 hi l → Btw 0 (hi + t.length) (incAll ids t l)
  | [], l, hi, _, h => by simpa [incAll] using h
  | s :: t, l, hi, h0, h => by
    have := incAll_btw (ids := ids) t (addAt l (ids.idxOf s.fl) 1) (hi := hi + 1) (by omega) (by simpa using h.addAt (ids.idxOf s.fl) (d := 1) (a := 0) (b := 1) (by omega) h0 (by omega) (by omega) (by omega) (by omega))
    rw [incAll]
    exact this.mono (by omega) (by simp only [List.length_cons]; omega)
theorem shares_btw {ids : List Int} {x : Bil} (h : BilF ids x) (hl : x.st.length ≤ 1000) : Btw 0 9001000 (sharesR ids x) := by
  have h1 := putAll_btw (ids := ids) (pe := x.pe) (all := sumPt x.st) (hi := 9000000) x.st (List.replicate ids.length 0) (fun s hs => (quot_bounds h hs).2.2.2.2) (Btw.rep _ (by omega) (by omega))
  have h2 := incAll_btw (ids := ids) (x.st.take (leftQ x.pe (sumPt x.st) x.st x.pe).toNat) _ (by omega) h1
  have h3 := List.length_take_le (leftQ x.pe (sumPt x.st) x.st x.pe).toNat x.st
  have h4 : (x.st.take (leftQ x.pe (sumPt x.st) x.st x.pe).toNat).length ≤ x.st.length := by rw [List.length_take]; omega
  exact h2.mono (by omega) (by omega)
end Go.Proofs.YtbkellknlcageaaDoor.Sw
