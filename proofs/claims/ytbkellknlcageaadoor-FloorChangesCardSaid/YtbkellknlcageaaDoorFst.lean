/- The first so many lists of a set of lists, in order: plain laws. No program. -/
import Derived.Test.YtbkellknlcageaaDoorBase
namespace Go.Proofs.YtbkellknlcageaaDoor

/-- A list is before another one. -/
def ltL : List Int → List Int → Bool
  | [], [] => false
  | [], _ :: _ => true
  | _ :: _, [] => false
  | a :: s, b :: t => if a = b then ltL s t else decide (a < b)

theorem ltL_nil_r (a : List Int) : ltL a [] = false := by cases a <;> rfl
theorem ltL_cons (a b : Int) (s t : List Int) : ltL (a :: s) (b :: t) = if a = b then ltL s t else decide (a < b) := rfl
theorem ltL_same (a : Int) (s t : List Int) : ltL (a :: s) (a :: t) = ltL s t := by rw [ltL_cons, if_pos rfl]
theorem ltL_irrefl : ∀ a : List Int, ltL a a = false
  | [] => rfl
  | a :: s => by rw [ltL_same]; exact ltL_irrefl s
theorem ltL_trans : ∀ {a b c : List Int}, ltL a b = true → ltL b c = true → ltL a c = true
  | [], [], _, h, _ => by cases h
  | [], _ :: _, [], _, h => by cases h
  | [], _ :: _, _ :: _, _, _ => rfl
  | _ :: _, [], _, h, _ => by cases h
  | _ :: _, _ :: _, [], _, h => by cases h
  | a :: s, b :: t, c :: u, h, k => by
    rw [ltL_cons] at *
    split at h
    · rename_i e; subst e
      split at k
      · rename_i e; subst e; rw [if_pos rfl]; exact ltL_trans h k
      · rename_i e; rw [if_neg e]; exact k
    · rename_i e
      split at k
      · rename_i e'; subst e'; rw [if_neg e]; exact h
      · simp only [decide_eq_true_eq] at h k
        rw [if_neg (by omega)]; simp; omega
theorem ltL_tri : ∀ (a b : List Int), ltL a b = true ∨ a = b ∨ ltL b a = true
  | [], [] => .inr (.inl rfl)
  | [], _ :: _ => .inl rfl
  | _ :: _, [] => .inr (.inr rfl)
  | a :: s, b :: t => by
    rw [ltL_cons, ltL_cons]
    by_cases e : a = b
    · subst e
      rw [if_pos rfl, if_pos rfl]
      rcases ltL_tri s t with h | h | h
      · exact .inl h
      · exact .inr (.inl (by rw [h]))
      · exact .inr (.inr h)
    · rw [if_neg e, if_neg (fun h => e h.symm)]
      simp only [decide_eq_true_eq]
      omega
theorem ltL_asymm {a b : List Int} (h : ltL a b = true) : ltL b a = false := by
  cases hb : ltL b a with
  | false => rfl
  | true => have := ltL_trans h hb; rw [ltL_irrefl] at this; cases this
theorem ltL_ne {a b : List Int} (h : ltL a b = true) : a ≠ b := fun e => by rw [e, ltL_irrefl] at h; cases h

def SrtL (L : List (List Int)) : Prop := L.Pairwise (fun a b => ltL a b = true)
theorem SrtL.nodup {L : List (List Int)} (h : SrtL L) : L.Nodup := List.Pairwise.imp (fun h => ltL_ne h) h

theorem sub_len {α : Type} {es ks : List α} (hn : es.Nodup) (hs : ∀ x ∈ es, x ∈ ks) : es.length ≤ ks.length := by
  induction es generalizing ks with
  | nil => simp
  | cons x r ih =>
    have hx : x ∈ ks := hs x (by simp)
    obtain ⟨s, t, rfl⟩ := List.append_of_mem hx
    have hn' := List.nodup_cons.1 hn
    have := ih hn'.2 (ks := s ++ t) (fun y hy => by
      have h1 := hs y (by simp [hy])
      rcases List.mem_append.1 h1 with h | h
      · exact List.mem_append.2 (.inl h)
      · rcases List.mem_cons.1 h with rfl | h
        · exact absurd hy hn'.1
        · exact List.mem_append.2 (.inr h))
    simp at this ⊢
    omega

theorem SrtL.ext : ∀ {L M : List (List Int)}, SrtL L → SrtL M → (∀ x, x ∈ L ↔ x ∈ M) → L = M
  | [], [], _, _, _ => rfl
  | [], m :: M, _, _, h => by have := (h m).2 (by simp); cases this
  | l :: L, [], _, _, h => by have := (h l).1 (by simp); cases this
  | l :: L, m :: M, hL, hM, h => by
    have hl := List.pairwise_cons.1 hL
    have hm := List.pairwise_cons.1 hM
    have e : l = m := by
      rcases List.mem_cons.1 ((h l).1 (by simp)) with e | h1
      · exact e
      · rcases List.mem_cons.1 ((h m).2 (by simp)) with e | h2
        · exact e.symm
        · have := ltL_trans (hl.1 m h2) (hm.1 l h1)
          rw [ltL_irrefl] at this; cases this
    subst e
    rw [SrtL.ext hl.2 hm.2 (fun x => ⟨fun hx => by
      rcases List.mem_cons.1 ((h x).1 (by simp [hx])) with e | h1
      · subst e; have := hl.1 _ hx; rw [ltL_irrefl] at this; cases this
      · exact h1, fun hx => by
      rcases List.mem_cons.1 ((h x).2 (by simp [hx])) with e | h1
      · subst e; have := hm.1 _ hx; rw [ltL_irrefl] at this; cases this
      · exact h1⟩)]

/-- The first n of those that meet P, in order. -/
structure Fst (n : Nat) (P : List Int → Prop) (L : List (List Int)) : Prop where
  srt : SrtL L
  sub : ∀ x ∈ L, P x
  len : L.length ≤ n
  all : ∀ x, P x → x ∈ L ∨ (L.length = n ∧ ∀ y ∈ L, ltL y x = true)

theorem Fst.mem {n : Nat} {P : List Int → Prop} {L M : List (List Int)} (h : Fst n P L) (k : Fst n P M) : ∀ x ∈ L, x ∈ M := fun x hx => by
  rcases k.all x (h.sub x hx) with h1 | ⟨h1, h2⟩
  · exact h1
  · exfalso
    have hx' : x ∉ M := fun hm => by have := h2 x hm; rw [ltL_irrefl] at this; cases this
    have hs : ∀ y ∈ x :: M, y ∈ L := fun y hy => by
      rcases List.mem_cons.1 hy with rfl | hy
      · exact hx
      · rcases h.all y (k.sub y hy) with g | ⟨_, g⟩
        · exact g
        · have := ltL_trans (g x hx) (h2 y hy)
          rw [ltL_irrefl] at this; cases this
    have h3 := sub_len (List.nodup_cons.2 ⟨hx', k.srt.nodup⟩) hs
    have := h.len
    simp only [List.length_cons] at h3
    omega
theorem Fst.unique {n : Nat} {P : List Int → Prop} {L M : List (List Int)} (h : Fst n P L) (k : Fst n P M) : L = M :=
  SrtL.ext h.srt k.srt fun x => ⟨h.mem k x, k.mem h x⟩

/-- Fewer will do, if so many of them come first. -/
theorem Fst.comb {n : Nat} {P C : List Int → Prop} {L : List (List Int)} (h : Fst n C L) (hs : ∀ x, C x → P x)
    (ha : ∀ x, P x → C x ∨ ∃ M, SrtL M ∧ M.length = n ∧ ∀ y ∈ M, C y ∧ ltL y x = true) : Fst n P L := by
  refine ⟨h.srt, fun x hx => hs x (h.sub x hx), h.len, fun x hx => ?_⟩
  rcases ha x hx with hc | ⟨M, hM, hl, hy⟩
  · exact h.all x hc
  · right
    have hle := h.len
    have hn : L.length = n := by
      by_cases e : L.length = n
      · exact e
      · exfalso
        have h1 := sub_len hM.nodup (ks := L) (fun y hm => (h.all y (hy y hm).1).resolve_right (fun g => e g.1))
        omega
    refine ⟨hn, fun y hyL => ?_⟩
    rcases ltL_tri y x with g | g | g
    · exact g
    · exfalso
      subst g
      have hnot : y ∉ M := fun hm => by have := (hy y hm).2; rw [ltL_irrefl] at this; cases this
      have h1 := sub_len (es := y :: M) (ks := L) (List.nodup_cons.2 ⟨hnot, hM.nodup⟩) (fun z hz => by
        rcases List.mem_cons.1 hz with rfl | hz
        · exact hyL
        · rcases h.all z (hy z hz).1 with g | ⟨_, g⟩
          · exact g
          · have := ltL_trans (g y hyL) (hy z hz).2
            rw [ltL_irrefl] at this; cases this)
      simp only [List.length_cons] at h1
      omega
    · exfalso
      have hnot : y ∉ M := fun hm => by have := ltL_trans g (hy y hm).2; rw [ltL_irrefl] at this; cases this
      have h1 := sub_len (es := y :: M) (ks := L) (List.nodup_cons.2 ⟨hnot, hM.nodup⟩) (fun z hz => by
        rcases List.mem_cons.1 hz with rfl | hz
        · exact hyL
        · rcases h.all z (hy z hz).1 with g' | ⟨_, g'⟩
          · exact g'
          · have := ltL_trans (ltL_trans (g' y hyL) (hy z hz).2) g
            rw [ltL_irrefl] at this; cases this)
      simp only [List.length_cons] at h1
      omega

theorem Fst.nil (n : Nat) : Fst n (fun _ => False) [] := ⟨List.Pairwise.nil, fun _ h => (by cases h), Nat.zero_le _, fun _ h => h.elim⟩
theorem Fst.one {n : Nat} (hn : 1 ≤ n) (x : List Int) : Fst n (fun y => y = x) [x] := ⟨List.pairwise_singleton _ _, fun y h => by simpa using h, hn, fun y h => .inl (by simp [h])⟩
theorem Fst.iff {n : Nat} {P Q : List Int → Prop} {L : List (List Int)} (h : Fst n P L) (hq : ∀ x, P x ↔ Q x) : Fst n Q L :=
  ⟨h.srt, fun x hx => (hq x).1 (h.sub x hx), h.len, fun x hx => h.all x ((hq x).2 hx)⟩
theorem SrtL.take {L : List (List Int)} (h : SrtL L) (n : Nat) : SrtL (L.take n) := List.Pairwise.sublist (List.take_sublist n L) h

/-- All of them, cut off behind the first n. -/
theorem Fst.take {n : Nat} {P : List Int → Prop} {L : List (List Int)} (hs : SrtL L) (hp : ∀ x, P x ↔ x ∈ L) : Fst n P (L.take n) := by
  refine ⟨hs.take n, fun x hx => (hp x).2 (List.mem_of_mem_take hx), by simp; omega, fun x hx => ?_⟩
  have hx' := (hp x).1 hx
  rw [← List.take_append_drop n L] at hx'
  rcases List.mem_append.1 hx' with h | h
  · exact .inl h
  · right
    have hne : n < L.length := by
      rcases Nat.lt_or_ge n L.length with h' | h'
      · exact h'
      · rw [List.drop_of_length_le h'] at h; cases h
    refine ⟨by simp; omega, fun y hy => ?_⟩
    have h2 := hs
    unfold SrtL at h2
    rw [← List.take_append_drop n L, List.pairwise_append] at h2
    exact h2.2.2 y hy x h

/-- One more is put into its place; what is then behind the first n goes. -/
def putL (n : Nat) (L : List (List Int)) (x : List Int) : List (List Int) :=
  let a := L.takeWhile (fun y => ltL y x)
  if (L.drop a.length).head? = some x ∨ n ≤ a.length then L else (a ++ x :: L.drop a.length).take n

theorem put_parts {L : List (List Int)} (hs : SrtL L) (x : List Int) : ∃ a b, L = a ++ b ∧ L.takeWhile (fun y => ltL y x) = a ∧ L.drop a.length = b ∧ (∀ y ∈ a, ltL y x = true) ∧ ∀ y ∈ b, y = x ∨ ltL x y = true := by
  refine ⟨L.takeWhile (fun y => ltL y x), L.dropWhile (fun y => ltL y x), (List.takeWhile_append_dropWhile).symm, rfl, ?_, ?_, ?_⟩
  · have := congrArg (List.drop (L.takeWhile (fun y => ltL y x)).length) (List.takeWhile_append_dropWhile (p := fun y => ltL y x) (l := L)).symm
    rw [this, List.drop_left]
  · intro y hy; simpa using List.all_eq_true.1 (List.all_takeWhile) y hy
  · intro y hy
    have h2 := hs
    unfold SrtL at h2
    cases hd : L.dropWhile (fun y => ltL y x) with
    | nil => rw [hd] at hy; cases hy
    | cons z t =>
      have hz : ltL z x = false := by
        have := List.head?_dropWhile_not (fun y => ltL y x) L
        rw [hd] at this
        simpa using this
      have hzx : z = x ∨ ltL x z = true := by
        rcases ltL_tri z x with g | g | g
        · rw [hz] at g; cases g
        · exact .inl g
        · exact .inr g
      rw [hd] at hy
      rcases List.mem_cons.1 hy with rfl | hy
      · exact hzx
      · rw [← List.takeWhile_append_dropWhile (p := fun y => ltL y x) (l := L), hd, List.pairwise_append] at h2
        have h3 := (List.pairwise_cons.1 h2.2.1).1 y hy
        rcases hzx with e | g
        · subst e; exact .inr h3
        · exact .inr (ltL_trans g h3)

theorem Fst.put {n : Nat} {P : List Int → Prop} {L : List (List Int)} (h : Fst n P L) (x : List Int) : Fst n (fun y => P y ∨ y = x) (putL n L x) := by
  obtain ⟨a, b, hab, ha, hb, hax, hbx⟩ := put_parts h.srt x
  have hlen : L.length = a.length + b.length := by rw [hab, List.length_append]
  have hle := h.len
  unfold putL
  simp only [ha, hb]
  split
  · rename_i hc
    refine ⟨h.srt, fun y hy => .inl (h.sub y hy), h.len, fun y hy => ?_⟩
    rcases hy with hy | rfl
    · exact h.all y hy
    · rcases hc with hc | hc
      · left
        cases b with
        | nil => cases hc
        | cons z t =>
          have : z = y := by simpa using hc
          subst this
          rw [hab]; simp
      · right
        have : b = [] := List.length_eq_zero_iff.1 (by omega)
        subst this
        rw [List.append_nil] at hab
        exact ⟨by omega, fun z hz => hax z (hab ▸ hz)⟩
  · rename_i hc
    have hc1 : b.head? ≠ some x := fun e => hc (.inl e)
    have hc2 : a.length < n := by
      rcases Nat.lt_or_ge a.length n with g | g
      · exact g
      · exact absurd (.inr g) hc
    have hbx' : ∀ y ∈ b, ltL x y = true := fun y hy => by
      rcases hbx y hy with e | g
      · subst e
        exfalso
        cases b with
        | nil => cases hy
        | cons z t =>
          rcases List.mem_cons.1 hy with e | hy'
          · subst e; exact hc1 rfl
          · have h2 := h.srt
            unfold SrtL at h2
            rw [hab, List.pairwise_append] at h2
            have h3 := (List.pairwise_cons.1 h2.2.1).1 y hy'
            rcases hbx z (by simp) with e | g
            · subst e; exact hc1 rfl
            · have := ltL_trans h3 g
              rw [ltL_irrefl] at this; cases this
      · exact g
    have hs2 : SrtL (a ++ x :: b) := by
      have h2 := h.srt
      unfold SrtL at h2 ⊢
      rw [hab, List.pairwise_append] at h2
      rw [List.pairwise_append]
      exact ⟨h2.1, List.pairwise_cons.2 ⟨hbx', h2.2.1⟩, fun y hy z hz => by
        rcases List.mem_cons.1 hz with rfl | hz
        · exact hax y hy
        · exact h2.2.2 y hy z hz⟩
    refine ⟨hs2.take n, fun y hy => ?_, by simp; omega, fun y hy => ?_⟩
    · have := List.mem_of_mem_take hy
      rcases List.mem_append.1 this with g | g
      · exact .inl (h.sub y (by rw [hab]; simp [g]))
      · rcases List.mem_cons.1 g with e | g
        · exact .inr e
        · exact .inl (h.sub y (by rw [hab]; simp [g]))
    · have hin : y ∈ a ++ x :: b ∨ (L.length = n ∧ ∀ z ∈ L, ltL z y = true) := by
        rcases hy with hy | e
        · rcases h.all y hy with g | g
          · left; rw [hab] at g
            rcases List.mem_append.1 g with g | g <;> simp [g]
          · exact .inr g
        · left; simp [e]
      have hcut : ∀ m : List (List Int), SrtL m → y ∈ m → y ∈ m.take n ∨ ((m.take n).length = n ∧ ∀ z ∈ m.take n, ltL z y = true) := fun m hm hym => (Fst.take (n := n) (P := fun z => z ∈ m) hm (fun _ => Iff.rfl)).all y hym
      rcases hin with hin | ⟨g1, g2⟩
      · exact hcut _ hs2 hin
      · right
        have hbn : b ≠ [] := fun e => by subst e; simp at hlen; omega
        obtain ⟨z, t, rfl⟩ := List.exists_cons_of_ne_nil hbn
        have hxy : ltL x y = true := ltL_trans (hbx' z (by simp)) (g2 z (by rw [hab]; simp))
        refine ⟨by simp only [List.length_take, List.length_append, List.length_cons] at *; omega, fun u hu => ?_⟩
        have := List.mem_of_mem_take hu
        rcases List.mem_append.1 this with g | g
        · exact g2 u (by rw [hab]; simp [g])
        · rcases List.mem_cons.1 g with e | g
          · subst e; exact hxy
          · exact g2 u (by rw [hab]; simp [g])

end Go.Proofs.YtbkellknlcageaaDoor
