/- Plain: the two ways of a change are one. -/
import Derived.Test.YtbkellknlcageaaDoorFloorCg
import Derived.Test.YtbkellknlcageaaDoorFloorCj
namespace Go.Proofs.YtbkellknlcageaaDoor.Sw
open Go.RowKit Go Go.Shelf Go.Proofs
theorem qLt_iff {x y : Qu} : qLt x y = true ↔ (x.a < y.a ∨ (x.a = y.a ∧ x.b < y.b)) := by simp [qLt]
theorem qLt_ff {x y : Qu} : qLt x y = false ↔ ¬ (x.a < y.a ∨ (x.a = y.a ∧ x.b < y.b)) := by rw [← qLt_iff]; simp
theorem qLtC_eq (x y : Qu) : qLtC x y = qLt x y := by
  have h := quCmp_ge x y
  unfold qLtC
  cases hq : qLt x y with
  | true =>
    rw [hq] at h
    have : ¬ 0 ≤ quCmp x y := of_decide_eq_false h
    exact decide_eq_true (by omega)
  | false =>
    rw [hq] at h
    have : 0 ≤ quCmp x y := of_decide_eq_true h
    exact decide_eq_false (by omega)
theorem qus_sorted {ids : List Int} : ∀ {l : List Qu} {prev : Option Qu}, qusOk ids prev l = true → (∀ p, prev = some p → ∀ q ∈ l, qLt p q = true) ∧ l.Pairwise (fun a b => qLt a b = true) ∧ ∀ q ∈ l, q.a ∈ ids ∧ q.b ∈ ids ∧ q.a < q.b
  | [], prev, _ => ⟨fun _ _ _ h => (by cases h), .nil, fun _ h => (by cases h)⟩
  | q :: t, prev, h => by
    rw [qusOk_cons] at h
    simp only [Bool.and_eq_true, decide_eq_true_eq] at h
    obtain ⟨⟨⟨⟨h1, h2⟩, h3⟩, h4⟩, h5⟩ := h
    obtain ⟨i1, i2, i3⟩ := qus_sorted h5
    refine ⟨fun p hp r hr => ?_, .cons (i1 q rfl) i2, fun r hr => ?_⟩
    · subst hp
      have h4' : qLt p q = true := h4
      rcases List.mem_cons.1 hr with rfl | hr
      · exact h4'
      · have h6 := qLt_iff.1 (i1 q rfl r hr)
        have h7 := qLt_iff.1 h4'
        exact qLt_iff.2 (by omega)
    · rcases List.mem_cons.1 hr with rfl | hr
      · exact ⟨h1, h2, h3⟩
      · exact i3 r hr
theorem flo_qs {f : Flo} (h : floOk f = true) : f.qs.Pairwise (fun a b => qLt a b = true) ∧ ∀ q ∈ f.qs, q.a ∈ f.ids ∧ q.b ∈ f.ids ∧ q.a < q.b := by
  simp only [floOk, Bool.and_eq_true, decide_eq_true_eq] at h
  exact (qus_sorted h.1.1.2).2
theorem qs_nodup {l : List Qu} (h : l.Pairwise (fun a b => qLt a b = true)) : l.Nodup := by
  refine h.imp fun {a b} hab e => ?_
  subst e
  have := qLt_iff.1 hab
  omega
theorem flatMap_len {α β : Type} (n : Nat) (g : α → List β) : ∀ l : List α, (∀ x ∈ l, (g x).length ≤ n) → (l.flatMap g).length ≤ l.length * n
  | [], _ => by simp
  | x :: t, h => by
    have h1 := h x (by simp)
    have h2 := flatMap_len n g t fun y hy => h y (by simp [hy])
    rw [List.flatMap_cons, List.length_append, List.length_cons, Nat.succ_mul]
    omega
theorem qs_le {f : Flo} (h : floOk f = true) : f.qs.length ≤ 18 := by
  obtain ⟨h1, h2⟩ := flo_qs h
  have hn := qs_nodup h1
  have hi := (flo_f h).ids
  have hs : (f.qs ++ f.qs.map (fun q => (⟨q.b, q.a⟩ : Qu))).length ≤ (f.ids.flatMap (fun a => f.ids.map (fun b => (⟨a, b⟩ : Qu)))).length := by
    refine sub_len ?_ ?_
    · refine List.nodup_append.2 ⟨hn, ?_, ?_⟩
      · exact List.Pairwise.map _ (fun a b hab e => hab (by cases a; cases b; simp only [Qu.mk.injEq] at e ⊢; exact ⟨e.2, e.1⟩)) hn
      · intro a ha b hb e
        obtain ⟨c, hc, rfl⟩ := List.mem_map.1 hb
        have i1 := (h2 a ha).2.2
        have i2 := (h2 c hc).2.2
        subst e
        dsimp only at i1
        omega
    · intro x hx
      rcases List.mem_append.1 hx with hx | hx
      · have := h2 x hx
        exact List.mem_flatMap.2 ⟨x.a, this.1, List.mem_map.2 ⟨x.b, this.2.1, rfl⟩⟩
      · obtain ⟨c, hc, rfl⟩ := List.mem_map.1 hx
        have := h2 c hc
        exact List.mem_flatMap.2 ⟨c.b, this.2.1, List.mem_map.2 ⟨c.a, this.1, rfl⟩⟩
  have hf := flatMap_len f.ids.length (fun a => f.ids.map (fun b => (⟨a, b⟩ : Qu))) f.ids (fun x _ => by rw [List.length_map]; exact Nat.le_refl _)
  have h6 : f.ids.length * f.ids.length ≤ 6 * 6 := Nat.mul_le_mul hi hi
  rw [List.length_append, List.length_map] at hs
  omega
theorem insE_end {α : Type} {lt : α → α → Bool} (x : α) (l : List α) (h : ∀ a ∈ l, lt x a = false) : insE lt l x = l ++ [x] := by
  rcases List.eq_nil_or_concat l with rfl | ⟨p, z, rfl⟩
  · rfl
  · rw [show p.concat z = p ++ [z] by simp] at *
    exact insE_no (h z (by simp))
theorem insE_over {α : Type} {lt : α → α → Bool} (x : α) (a : List α) : ∀ b : List α, (∀ y ∈ b, lt x y = true) → insE lt (a ++ b) x = insE lt a x ++ b := by
  intro b
  induction hn : b.length generalizing b with
  | zero => intro _; rw [List.length_eq_zero_iff.1 hn]; simp
  | succ n ih =>
    intro hb
    rcases List.eq_nil_or_concat b with rfl | ⟨p, z, rfl⟩
    · simp at hn
    · rw [show p.concat z = p ++ [z] by simp] at *
      rw [← List.append_assoc, insE_yes (hb z (by simp)), ih p (by simpa using hn) (fun y hy => hb y (by simp [hy])), List.append_assoc]
theorem srt_sorted {α : Type} {lt : α → α → Bool} : ∀ l : List α, l.Pairwise (fun a b => lt b a = false) → srt lt l = l := by
  intro l
  induction hn : l.length generalizing l with
  | zero => intro _; rw [List.length_eq_zero_iff.1 hn]; rfl
  | succ n ih =>
    intro hl
    rcases List.eq_nil_or_concat l with rfl | ⟨p, z, rfl⟩
    · rfl
    · rw [show p.concat z = p ++ [z] by simp] at *
      obtain ⟨h1, _, h3⟩ := List.pairwise_append.1 hl
      rw [srt_snoc, ih p (by simpa using hn) h1, insE_end z p fun a ha => h3 a ha z (by simp)]
theorem srt_ins {l : List Qu} (h : l.Pairwise (fun a b => qLt a b = true)) (x : Qu) : srt qLtC (l ++ [x]) = insQ l x := by
  have hs : srt qLtC l = l := srt_sorted l (h.imp fun {a b} hab => by rw [qLtC_eq]; have := qLt_iff.1 hab; exact qLt_ff.2 (by omega))
  rw [srt_snoc, hs]
  unfold insQ atQ
  have hsp := List.takeWhile_append_dropWhile (p := fun y => qLt y x) (l := l)
  have hA : ∀ a ∈ l.takeWhile (fun y => qLt y x), qLt a x = true := fun a ha => List.all_eq_true.1 List.all_takeWhile a ha
  have hB : ∀ z r, l.dropWhile (fun y => qLt y x) = z :: r → qLt z x = false := fun z r e => by
    have := List.head?_dropWhile_not (fun y => qLt y x) l
    rw [e] at this
    simpa using this
  generalize l.takeWhile (fun y => qLt y x) = A at hsp hA ⊢
  generalize l.dropWhile (fun y => qLt y x) = B at hsp hB
  subst hsp
  rw [List.take_left, List.drop_left]
  have hA2 : ∀ a ∈ A, qLtC x a = false := fun a ha => by rw [qLtC_eq]; have := qLt_iff.1 (hA a ha); exact qLt_ff.2 (by omega)
  obtain ⟨_, h2, _⟩ := List.pairwise_append.1 h
  cases B with
  | nil => rw [List.append_nil, insE_end x A hA2, List.append_nil]
  | cons z r =>
    have hz := hB z r rfl
    obtain ⟨h3, _⟩ := List.pairwise_cons.1 h2
    cases hxz : qLt x z with
    | true =>
      rw [insE_over x A (z :: r) (fun y hy => ?_), insE_end x A hA2]
      rw [qLtC_eq]
      rcases List.mem_cons.1 hy with rfl | hy
      · exact hxz
      · have i1 := qLt_iff.1 hxz
        have i2 := qLt_iff.1 (h3 y hy)
        exact qLt_iff.2 (by omega)
    | false =>
      have he : z = x := by
        have i1 := qLt_ff.1 hxz
        have i2 := qLt_ff.1 hz
        cases z; cases x
        simp only at i1 i2
        rw [Qu.mk.injEq]; omega
      subst he
      rw [show A ++ z :: r = (A ++ [z]) ++ r by simp, insE_over z (A ++ [z]) r (fun y hy => by rw [qLtC_eq]; exact h3 y hy), insE_end z (A ++ [z]) (fun a ha => ?_)]
      · simp
      · rcases List.mem_append.1 ha with ha | ha
        · exact hA2 a ha
        · rw [List.mem_singleton.1 ha, qLtC_eq]; exact hz
theorem split_eq (f : Flo) (x : Qu) : splitR f x = split8R f x := by
  unfold splitR split8R
  cases h : floOk f with
  | false => rfl
  | true => rw [srt_ins (flo_qs h).1]
theorem mend_eq (f : Flo) (x : Qu) : mendR f x = mend8R f x := by
  unfold mendR mend8R
  cases h : floOk f with
  | false => rfl
  | true =>
    rw [if_pos rfl, if_pos rfl]
    have hn := qs_nodup (flo_qs h).1
    unfold ixQ
    cases ha : f.qs.any (fun y => decide (x = y)) with
    | false =>
      rw [fiX_none ha, if_pos (by omega), if_pos]
      rw [List.filter_eq_self.2]
      intro y hy
      have := List.any_eq_false.1 ha y hy
      simp at this
      simp; exact fun e => this e.symm
    | true =>
      have hlt : f.qs.findIdx (fun y => decide (x = y)) < f.qs.length := List.findIdx_lt_length_of_exists (List.any_eq_true.1 ha)
      have hget : decide (x = f.qs[f.qs.findIdx (fun y => decide (x = y))]) = true := List.findIdx_getElem (w := hlt)
      have hfx : fiX (fun y => decide (x = y)) f.qs = (f.qs.findIdx (fun y => decide (x = y)) : Nat) := by unfold fiX; rw [if_pos ha]
      rw [hfx]
      generalize f.qs.findIdx (fun y => decide (x = y)) = i at *
      have hx := of_decide_eq_true hget
      have hsp : f.qs = f.qs.take i ++ x :: f.qs.drop (i + 1) := by
        rw [hx, ← List.drop_eq_getElem_cons hlt, List.take_append_drop]
      have hflt : f.qs.filter (fun y => !decide (y = x)) = f.qs.take i ++ f.qs.drop (i + 1) := by
        rw [hsp] at hn
        obtain ⟨_, n2, n3⟩ := List.nodup_append.1 hn
        obtain ⟨n4, _⟩ := List.nodup_cons.1 n2
        conv => lhs; rw [hsp]
        rw [List.filter_append, List.filter_cons, if_neg (by simp), List.filter_eq_self.2 (fun y hy => ?_), List.filter_eq_self.2 (fun y hy => ?_)]
        · simp; exact fun e => n4 (e ▸ hy)
        · simp; exact fun e => n3 y hy x (by simp) e
      rw [if_neg (by omega), if_neg (by rw [hflt]; simp only [List.length_append, List.length_take, List.length_drop]; omega), hflt, Int.toNat_natCast]
end Go.Proofs.YtbkellknlcageaaDoor.Sw
