/- Proofs for the seat's cards: FloorLs, FloorPc, FloorLists, FloorCj, FloorPe, FloorPa, FloorDc, FloorCm, FloorDf, FloorBa, AlB, AlC, OQa, OPa, FloorPays, FloorSure, OTa, OHa, OTb, OTc, OTd, OYa, OGa, TJb, TJc, TopJoined. No condition of its own. -/
import Derived.Test.YtihonljdanjfmaaGreatDoorZk8
set_option linter.unusedVariables false
set_option linter.unusedSimpArgs false
set_option maxRecDepth 40000
set_option maxHeartbeats 32000000
namespace Go.Proofs.YtihonljdanjfmaaGreatDoor.Sw
open Go.RowKit Go Go.Shelf Go.Proofs
open Go.Proofs.YtihonljdanjfmaaGreatDoor.Gr (payLt payLt_iff payLt_no payLt_anti SortedP sorted_uniq payE lf)
structure Lst (p : Int → Prop) (m : Int) : Prop where
 is : p m
 le : ∀ x, p x → m ≤ x
theorem pyCmp_zero {x y : Pay} : pyCmp x y = 0 ↔ x = y := by
 constructor
 ·intro h
  have h1 : payLt x y = false := by rw [← pyCmp_lt, h]; rfl
  refine payLt_anti h1 ?_
  rw [payLt_no] at h1 ⊢
  unfold pyCmp firstNZ firstNZ firstNZ firstNZ cmpR at h
  repeat (split at h)
  all_goals omega
 ·rintro rfl
  unfold pyCmp firstNZ firstNZ firstNZ firstNZ cmpR
  simp
theorem cmpL_lt : ∀ {a b : List Pay}, a.length = b.length → (cmpL a b < 0 ↔ ltL a b = true)
 | [], [], _ => by simp [cmpL_0, ltL_1]
 | [], _ :: _, h => by cases h
 | _ :: _, [], h => by cases h
 | x :: s, y :: t, h => by
  rw [cmpL_2, ltL_2]
  by_cases e : x = y
  ·rw [if_neg (by rw [pyCmp_zero.2 e]; simp), if_neg (by simp [e])]
   exact cmpL_lt (by simpa using h)
  ·rw [if_pos (fun h => e (pyCmp_zero.1 h)), if_pos e, ← pyCmp_lt, decide_eq_true_iff]
theorem befI_lt {a b : List Pay} (h : a.length = b.length) : befI a b < 0 ↔ befR a b = true := by
 unfold befI befR
 rw [firstNZ, firstNZ, firstNZ]
 by_cases e : sumPay a = sumPay b
 ·have c0 : cmpR (sumPay a) (sumPay b) = 0 := by unfold cmpR; simp [e]
  have hR : (if sumPay a ≠ sumPay b then decide (sumPay a < sumPay b) else ltL a b) = ltL a b := if_neg (by simp [e])
  rw [if_pos c0, hR, ← cmpL_lt h]
  split <;> omega
 ·rw [if_pos e]
  by_cases l : sumPay a < sumPay b
  ·have c1 : cmpR (sumPay a) (sumPay b) = -1 := by unfold cmpR; simp [l]
   rw [c1]; simp [l]
  ·have c1 : cmpR (sumPay a) (sumPay b) = 1 := by unfold cmpR; rw [if_neg l, if_pos (by omega)]
   rw [c1]; simp [l]
theorem payLt_tri {x y : Pay} (h : x ≠ y) : payLt x y = true ∨ payLt y x = true := by
 cases h1 : payLt x y with
 | true => exact .inl rfl
 | false =>
  cases h2 : payLt y x with
  | true => exact .inr rfl
  | false => exact absurd (payLt_anti h1 h2) h
theorem payLt_nt {x y z : Pay} (h : payLt x z = true) : payLt x y = true ∨ payLt y z = true := by
 rw [payLt_iff] at h
 rw [payLt_iff, payLt_iff]
 omega
theorem payLt_asym {x y : Pay} (h : payLt x y = true) : payLt y x = false := by
 rw [payLt_iff] at h
 rw [payLt_no]; omega
theorem ltL_asym : ∀ {a b : List Pay}, ltL a b = true → ltL b a = false
 | [], [], _ => rfl
 | [], _ :: _, _ => rfl
 | _ :: _, [], _ => rfl
 | x :: s, y :: t, h => by
  rw [ltL_2] at h ⊢
  by_cases e : x = y
  ·rw [if_neg (by simp [e])] at h
   rw [if_neg (by simp [e])]
   exact ltL_asym h
  ·rw [if_pos e] at h
   rw [if_pos (Ne.symm e)]
   exact payLt_asym h
theorem ltL_nt : ∀ {a b c : List Pay}, a.length = b.length → b.length = c.length → ltL a c = true → ltL a b = true ∨ ltL b c = true
 | [], _, _, _, _, h => by rw [ltL_1] at h; cases h
 | x :: s, [], _, e, _, _ => by cases e
 | x :: s, y :: t, [], _, e, _ => by cases e
 | x :: s, y :: t, z :: u, e1, e2, h => by
  rw [ltL_2] at h
  rw [ltL_2, ltL_2]
  by_cases hxz : x = z
  ·rw [if_neg (by simp [hxz])] at h
   by_cases hxy : x = y
   ·have hyz : y = z := hxy.symm.trans hxz
    rw [if_neg (by simp [hxy]), if_neg (by simp [hyz])]
    exact ltL_nt (by simpa using e1) (by simpa using e2) h
   ·have hyz : y ≠ z := fun e => hxy (hxz.trans e.symm)
    rw [if_pos hxy, if_pos hyz]
    rw [← hxz]
    exact payLt_tri hxy
  ·rw [if_pos hxz] at h
   by_cases hxy : x = y
   ·have hyz : y ≠ z := fun e => hxz (hxy.trans e)
    rw [if_pos hyz]
    exact .inr (by rw [← hxy]; exact h)
   ·rw [if_pos hxy]
    by_cases hyz : y = z
    ·exact .inl (by rw [hyz]; exact h)
    ·rw [if_pos hyz]; exact payLt_nt h
theorem ltL_eq : ∀ {a b : List Pay}, a.length = b.length → ltL a b = false → ltL b a = false → a = b
 | [], [], _, _, _ => rfl
 | [], _ :: _, e, _, _ => by cases e
 | _ :: _, [], e, _, _ => by cases e
 | x :: s, y :: t, e, h, h' => by
  rw [ltL_2] at h h'
  by_cases hxy : x = y
  ·rw [if_neg (by simp [hxy])] at h
   rw [if_neg (by simp [hxy])] at h'
   rw [hxy, ltL_eq (by simpa using e) h h']
  ·rw [if_pos hxy] at h
   rw [if_pos (Ne.symm hxy)] at h'
   exact absurd (payLt_anti h h') hxy
theorem befR_asym {a b : List Pay} (h : befR a b = true) : befR b a = false := by
 unfold befR at h ⊢
 by_cases e : sumPay a = sumPay b
 ·rw [if_neg (by simp [e])] at h
  rw [if_neg (by simp [e])]
  exact ltL_asym h
 ·rw [if_pos e] at h
  rw [if_pos (Ne.symm e)]
  have := of_decide_eq_true h
  exact decide_eq_false (by omega)
theorem befR_nt {a b c : List Pay} (e1 : a.length = b.length) (e2 : b.length = c.length) (h : befR a c = true) : befR a b = true ∨ befR b c = true := by
 unfold befR at h ⊢
 by_cases e : sumPay a = sumPay c
 ·rw [if_neg (by simp [e])] at h
  by_cases e3 : sumPay a = sumPay b
  ·rw [if_neg (by simp [e3]), if_neg (by simp [← e3, e])]
   exact ltL_nt e1 e2 h
  ·rw [if_pos e3, if_pos (fun k => e3 (e.trans k.symm)), decide_eq_true_iff, decide_eq_true_iff]
   omega
 ·rw [if_pos e] at h
  have h1 := of_decide_eq_true h
  by_cases e3 : sumPay a = sumPay b
  ·exact .inr (by rw [if_pos (by omega)]; exact decide_eq_true (by omega))
  ·by_cases e4 : sumPay b = sumPay c
   ·exact .inl (by rw [if_pos e3]; exact decide_eq_true (by omega))
   ·rw [if_pos e3, if_pos e4, decide_eq_true_iff, decide_eq_true_iff]; omega
theorem befR_eq {a b : List Pay} (e : a.length = b.length) (h : befR a b = false) (h' : befR b a = false) : a = b := by
 unfold befR at h h'
 by_cases e3 : sumPay a = sumPay b
 ·rw [if_neg (by simp [e3])] at h
  rw [if_neg (by simp [e3])] at h'
  exact ltL_eq e h h'
 ·rw [if_pos e3] at h
  rw [if_pos (Ne.symm e3)] at h'
  have := of_decide_eq_false h
  have := of_decide_eq_false h'
  omega
structure Bst (p : List Pay → Prop) (y : List Pay) : Prop where
 is : p y
 le : ∀ x, p x → befR x y = false
theorem Bst.uniq {k : Nat} {p : List Pay → Prop} (hp : ∀ x, p x → x.length = k) {y y' : List Pay} (h : Bst p y) (h' : Bst p y') : y = y' :=
 befR_eq ((hp _ h.is).trans (hp _ h'.is).symm) (h'.le _ h.is) (h.le _ h'.is)
theorem befR_irr (a : List Pay) : befR a a = false := by
 cases h : befR a a with
 | false => rfl
 | true => have := befR_asym h; rw [h] at this; cases this
theorem bst_fold {k : Nat} : ∀ (xs : List (List Pay)) (b : List Pay), (∀ x ∈ xs, x.length = k) → b.length = k → Bst (fun x => x = b ∨ x ∈ xs) (xs.foldl (fun b x => if befR x b = true then x else b) b)
 | [], b, _, _ => ⟨.inl rfl, fun x h => by rcases h with rfl | h; exact befR_irr _; cases h⟩
 | x :: t, b, hx, hb => by
  have hxk := hx x (by simp)
  have ht : ∀ x ∈ t, x.length = k := fun y hy => hx y (by simp [hy])
  rw [List.foldl_cons]
  have ih := bst_fold t (if befR x b = true then x else b) ht (by split <;> assumption)
  have hm : ∀ y, (y = (if befR x b = true then x else b) ∨ y ∈ t) → y.length = k := fun y hy => by
   rcases hy with rfl | hy
   ·split <;> assumption
   ·exact ht y hy
  have hyk := hm _ ih.is
  generalize t.foldl (fun b x => if befR x b = true then x else b) (if befR x b = true then x else b) = y at ih hyk ⊢
  have hle := ih.le _ (.inl rfl)
  refine ⟨?_, fun z hz => ?_⟩
  ·rcases ih.is with h | h
   ·split at h
    ·exact .inr (by simp [h])
    ·exact .inl h
   ·exact .inr (by simp [h])
  ·have key : befR b y = false ∧ befR x y = false := by
    split at hle
    ·rename_i hg
     refine ⟨?_, hle⟩
     cases hq : befR b y with
     | false => rfl
     | true =>
      rcases befR_nt (b := x) (hb.trans hxk.symm) (hxk.trans hyk.symm) hq with h | h
      ·rw [befR_asym hg] at h; cases h
      ·rw [hle] at h; cases h
    ·rename_i hg
     refine ⟨hle, ?_⟩
     cases hq : befR x y with
     | false => rfl
     | true =>
      rcases befR_nt (b := b) (hxk.trans hb.symm) (hb.trans hyk.symm) hq with h | h
      ·exact absurd h hg
      ·rw [hle] at h; cases h
   rcases hz with rfl | hz
   ·exact key.1
   ·rcases List.mem_cons.1 hz with rfl | hz
    ·exact key.2
    ·exact ih.le _ (.inr hz)
theorem bstS_fold {k : Nat} : ∀ (xs : List (List Pay)) (b : List Pay), (∀ x ∈ xs, x.length = k) → b.length = k → xs.foldl bstS (some b) = some (xs.foldl (fun b x => if befR x b = true then x else b) b)
 | [], _, _, _ => rfl
 | x :: t, b, hx, hb => by
  have hxk := hx x (by simp)
  rw [List.foldl_cons, List.foldl_cons]
  have e : bstS (some b) x = some (if befR x b = true then x else b) := by
   unfold bstS
   dsimp only
   by_cases h : befR x b = true
   ·rw [if_pos h, if_pos ((befI_lt (hxk.trans hb.symm)).2 h)]
   ·rw [if_neg h, if_neg (fun k => h ((befI_lt (hxk.trans hb.symm)).1 k))]
  rw [e]
  exact bstS_fold t _ (fun y hy => hx y (by simp [hy])) (by split <;> assumption)
theorem stl_eq {f : Flo} (hS : Sml f) : stlN f = stlN8 f := by
 unfold stlN stlN8
 cases h : floOk f with
 | false => rw [(askR_no h).1, (askR_no h).2]; rfl
 | true =>
  rw [← askR_err h]
  split
  ·rename_i he
   obtain ⟨k, _, hb⟩ := both hS h he
   generalize lsF f = A at hb ⊢
   generalize (askR f).1 = B at hb ⊢
   have lA : ∀ x ∈ A, x.length = k := fun x hx => (hb.toA x hx).len
   have lB : ∀ x ∈ B, x.length = k := fun x hx => (hb.to x hx).len
   obtain ⟨x, t, rfl⟩ := List.exists_cons_of_ne_nil hb.neA
   have b1 := bst_fold t x (fun y hy => lA y (by simp [hy])) (lA x (by simp))
   have b2 := bst_fold B (B.headD []) lB (lB _ (head_mem hb.neB))
   rw [List.foldl_cons, show bstS none x = some x from rfl, bstS_fold t x (fun y hy => lA y (by simp [hy])) (lA x (by simp)), Option.getD_some]
   have c1 : Bst (fun z => z ∈ B) (t.foldl (fun b x => if befR x b = true then x else b) x) := ⟨hb.pe.mem_iff.1 (by rcases b1.is with h | h <;> simp [h]), fun z hz => b1.le z (List.mem_cons.1 (hb.pe.mem_iff.2 hz))⟩
   have c2 : Bst (fun z => z ∈ B) (B.foldl (fun b x => if befR x b = true then x else b) (B.headD [])) := ⟨by rcases b2.is with h | h; (rw [h]; exact head_mem hb.neB); exact h, fun z hz => b2.le z (.inr hz)⟩
   unfold bst8
   rw [c1.uniq lB c2]
  ·rfl
end Go.Proofs.YtihonljdanjfmaaGreatDoor.Sw
namespace Go.Proofs.YtihonljdanjfmaaGreatDoor.Sw
open Go.RowKit Go Go.Shelf Go.Proofs
open Go.Proofs.YtihonljdanjfmaaGreatDoor.Gr (headsR hf mergeH hf_merge Lab lab_all Cl)
structure Hd (n : Nat) (h : List Nat) : Prop where
 len : h.length = n
 le : ∀ v, v < n → hf h v ≤ v
 rt : ∀ v, v < n → hf h (hf h v) = hf h v
def rtsG (h : List Nat) (i : Nat) : List Nat := (List.range i).filter fun j => decide (hf h j = j)
def grpG (h : List Nat) (ids : List Int) (i k : Nat) : List Int := ((List.range i).filter fun j => decide (hf h j = k)).map fun j => ids.getD j 0
def allG (h : List Nat) (ids : List Int) (i : Nat) : List (List Int) := (rtsG h i).map (grpG h ids i)
def cnt (b : List Bool) : Nat := (b.filter id).length
theorem cnt_le (b : List Bool) : cnt b ≤ b.length := List.length_filter_le _ _
end Go.Proofs.YtihonljdanjfmaaGreatDoor.Sw
namespace Go.Proofs.YtihonljdanjfmaaGreatDoor.Sw
open Go.RowKit Go Go.Shelf Go.Proofs
theorem lsF_told {f : Flo} (hS : Sml f) (he : errL f = 0) : ∃ k, k ≤ 5 ∧ ∀ l ∈ lsF f, Told f k l := by
 obtain ⟨k, hk, hb⟩ := both hS (errL_ok he) he
 exact ⟨k, by omega, hb.toA⟩
theorem stlN_len {f : Flo} (hS : Sml f) : (stlN f).1.length ≤ 1000 := by
 unfold stlN
 split
 ·rename_i he
  obtain ⟨k, hk, hb⟩ := lsF_told hS he
  cases hq : (lsF f).foldl bstS none with
  | none => simp
  | some y =>
   rcases bstS_mem hq with h | h
   ·rw [Option.getD_some, (hb y h).len]; omega
   ·cases h
 ·simp
theorem nil_sl {α : Type} {G : Nat → Option Obj} {v : Value} (n : Nat) (f : α → List AV) (h : (AV.val (.slice none 0 0)).P G v) : (AV.sl n f ([] : List α)).P G v :=
 ⟨none, 0, h, Nat.le_refl _, fun i hi => (by cases hi)⟩
end Go.Proofs.YtihonljdanjfmaaGreatDoor.Sw
namespace Go.Proofs.YtihonljdanjfmaaGreatDoor.Sw
open Go.RowKit Go Go.Shelf Go.Proofs
open Go.Proofs.YtihonljdanjfmaaGreatDoor.Gr (headsR hf Lab lab_all)
def prsG (f : Flo) (l : List Pay) : List (Nat × Nat) := l.map fun x => (f.ids.idxOf x.a, f.ids.idxOf x.b)
def grG (f : Flo) (l : List Pay) : List (List Int) := allG (headsR f.ids.length (prsG f l)) f.ids f.ids.length
end Go.Proofs.YtihonljdanjfmaaGreatDoor.Sw
namespace Go.Proofs.YtihonljdanjfmaaGreatDoor.Sw
open Go.RowKit Go Go.Shelf Go.Proofs
open Go.Proofs.YtihonljdanjfmaaGreatDoor.Gr (treeR pick Zr lf)
def ownF (l : List Int) (f : Flo) : Flo := ⟨l, f.qs, [], []⟩
def netS (f : Flo) (l : List Int) : List Int := l.map fun id => (owed8 f).getD (f.ids.idxOf id) 0
def aloR (f : Flo) (l : List Int) : Bool × Int := if floOk f = true then (if (rises 0 l && !l.any fun n => !decide (n ∈ f.ids)) = true then (canB (ownF l f) (netS f l), 0) else (false, 6)) else (false, 80)
end Go.Proofs.YtihonljdanjfmaaGreatDoor.Sw
namespace Go.Proofs.YtihonljdanjfmaaGreatDoor.Sw
open Go.RowKit Go Go.Shelf Go.Proofs
def atB (l : List Bil) (x : Bil) : Nat := (l.takeWhile (fun y => decide (y.no < x.no))).length
def insB (l : List Bil) (x : Bil) : List Bil := l.take (atB l x) ++ [x] ++ l.drop (atB l x)
theorem insB_len (l : List Bil) (x : Bil) : (insB l x).length = l.length + 1 := by
 unfold insB; simp only [List.length_append, List.length_take, List.length_drop, List.length_singleton]; omega
theorem insB_mem {l : List Bil} {x b : Bil} (h : b ∈ insB l x) : b ∈ l ∨ b = x := by
 unfold insB at h
 simp only [List.mem_append, List.mem_singleton] at h
 rcases h with (h | h) | h
 ·exact .inl (List.mem_of_mem_take h)
 ·exact .inr h
 ·exact .inl (List.mem_of_mem_drop h)
def add8R (f : Flo) (x : Bil) : Flo × Int :=
 if floOk f = true then (if f.bs.length = 10 then (floE, 9) else if floOk { f with bs := insB f.bs x } = true then ({ f with bs := insB f.bs x }, 0) else (floE, 81)) else (floE, 80)
theorem insE_end {α : Type} {lt : α → α → Bool} (x : α) (l : List α) (h : ∀ a ∈ l, lt x a = false) : insE lt l x = l ++ [x] := by
 rcases List.eq_nil_or_concat l with rfl | ⟨p, z, rfl⟩
 ·rfl
 ·rw [show p.concat z = p ++ [z] by simp] at *
  exact insE_no (h z (by simp))
theorem insE_over {α : Type} {lt : α → α → Bool} (x : α) (a : List α) : ∀ b : List α, (∀ y ∈ b, lt x y = true) → insE lt (a ++ b) x = insE lt a x ++ b := by
 intro b
 induction hn : b.length generalizing b with
 | zero => intro _; rw [List.length_eq_zero_iff.1 hn]; simp
 | succ n ih =>
  intro hb
  rcases List.eq_nil_or_concat b with rfl | ⟨p, z, rfl⟩
  ·simp at hn
  ·rw [show p.concat z = p ++ [z] by simp] at *
   rw [← List.append_assoc, insE_yes (hb z (by simp)), ih p (by simpa using hn) (fun y hy => hb y (by simp [hy])), List.append_assoc]
theorem srt_sorted {α : Type} {lt : α → α → Bool} : ∀ l : List α, l.Pairwise (fun a b => lt b a = false) → srt lt l = l := by
 intro l
 induction hn : l.length generalizing l with
 | zero => intro _; rw [List.length_eq_zero_iff.1 hn]; rfl
 | succ n ih =>
  intro hl
  rcases List.eq_nil_or_concat l with rfl | ⟨p, z, rfl⟩
  ·rfl
  ·rw [show p.concat z = p ++ [z] by simp] at *
   obtain ⟨h1, _, h3⟩ := List.pairwise_append.1 hl
   rw [srt_snoc, ih p (by simpa using hn) h1, insE_end z p fun a ha => h3 a ha z (by simp)]
theorem bils_sorted {ids : List Int} : ∀ {l : List Bil} {last : Int}, bilsOk ids last l = true → (∀ x ∈ l, last < x.no) ∧ l.Pairwise (fun a b => a.no < b.no)
 | [], _, _ => ⟨fun _ h => (by cases h), .nil⟩
 | x :: t, last, h => by
  simp only [bilsOk, Bool.and_eq_true, decide_eq_true_eq] at h
  obtain ⟨⟨⟨h1, h2⟩, h3⟩, h4⟩ := h
  obtain ⟨i1, i2⟩ := bils_sorted h4
  refine ⟨fun y hy => ?_, .cons i1 i2⟩
  rcases List.mem_cons.1 hy with rfl | hy
  ·omega
  ·have := i1 y hy; omega
theorem flo_bs {f : Flo} (h : floOk f = true) : f.bs.Pairwise (fun a b => a.no < b.no) := by
 simp only [floOk, Bool.and_eq_true, decide_eq_true_eq] at h
 exact (bils_sorted h.1.2).2
theorem bLt_iff {x y : Bil} : bLt x y = true ↔ x.no < y.no := by
 unfold bLt bCmp cmpR
 by_cases h1 : x.no < y.no
 ·simp [h1]
 ·by_cases h2 : y.no < x.no
  ·simp [h1, h2]
  ·simp [h1, h2]
theorem bLt_ff {x y : Bil} : bLt x y = false ↔ ¬ x.no < y.no := by rw [← bLt_iff]; simp
theorem add_eq (f : Flo) (x : Bil) : addR f x = add8R f x := by
 unfold addR add8R
 cases h : floOk f with
 | false => rfl
 | true =>
  rw [if_pos rfl, if_pos rfl]
  have hs := flo_bs h
  have key : srt bLt (f.bs ++ [x]) = insB f.bs x ∨ (floOk { f with bs := srt bLt (f.bs ++ [x]) } = false ∧ floOk { f with bs := insB f.bs x } = false) := by
   have hs1 : srt bLt f.bs = f.bs := srt_sorted f.bs (hs.imp fun {a b} hab => bLt_ff.2 (by omega))
   rw [srt_snoc, hs1]
   unfold insB atB
   have hsp := List.takeWhile_append_dropWhile (p := fun y : Bil => decide (y.no < x.no)) (l := f.bs)
   have hA : ∀ a ∈ f.bs.takeWhile (fun y : Bil => decide (y.no < x.no)), a.no < x.no := fun a ha => of_decide_eq_true (List.all_eq_true.1 List.all_takeWhile a ha)
   have hB : ∀ z r, f.bs.dropWhile (fun y : Bil => decide (y.no < x.no)) = z :: r → ¬ z.no < x.no := fun z r e => by
    have := List.head?_dropWhile_not (fun y : Bil => decide (y.no < x.no)) f.bs
    rw [e] at this
    simpa using this
   generalize f.bs.takeWhile (fun y : Bil => decide (y.no < x.no)) = A at hsp hA ⊢
   generalize f.bs.dropWhile (fun y : Bil => decide (y.no < x.no)) = B at hsp hB
   rw [← hsp] at hs ⊢
   rw [List.take_left, List.drop_left]
   have hA2 : ∀ a ∈ A, bLt x a = false := fun a ha => by have := hA a ha; exact bLt_ff.2 (by omega)
   obtain ⟨_, h2, _⟩ := List.pairwise_append.1 hs
   cases B with
   | nil => left; rw [List.append_nil, insE_end x A hA2, List.append_nil]
   | cons z r =>
    have hz := hB z r rfl
    obtain ⟨h3, _⟩ := List.pairwise_cons.1 h2
    by_cases hxz : x.no < z.no
    ·left
     rw [insE_over x A (z :: r) (fun y hy => ?_), insE_end x A hA2]
     rcases List.mem_cons.1 hy with rfl | hy
     ·exact bLt_iff.2 hxz
     ·have := h3 y hy
      exact bLt_iff.2 (by omega)
    ·right
     have he : z.no = x.no := by omega
     have hins : insE bLt (A ++ z :: r) x = A ++ z :: x :: r := by
      rw [show A ++ z :: r = (A ++ [z]) ++ r by simp, insE_over x (A ++ [z]) r (fun y hy => by have := h3 y hy; exact bLt_iff.2 (by omega)), insE_end x (A ++ [z]) (fun a ha => ?_)]
      ·simp
      ·rcases List.mem_append.1 ha with ha | ha
       ·exact hA2 a ha
       ·rw [List.mem_singleton.1 ha]; exact bLt_ff.2 (by omega)
     rw [hins]
     constructor
     ·cases hq : floOk { f with bs := A ++ z :: x :: r } with
      | false => rfl
      | true =>
       have := (List.pairwise_append.1 (flo_bs hq)).2.1
       have := (List.pairwise_cons.1 this).1 x (by simp)
       omega
     ·cases hq : floOk { f with bs := A ++ [x] ++ z :: r } with
      | false => rfl
      | true =>
       have h5 : (A ++ [x] ++ z :: r).Pairwise (fun a b => a.no < b.no) := flo_bs hq
       have := (List.pairwise_append.1 h5).2.2 x (by simp) z (by simp)
       omega
  rcases key with e | ⟨e1, e2⟩
  ·rw [e]
  ·rw [e1, e2]; simp
def FlP2 (r : Flo × Int) : AV → List HA → Prop := fun x y => ∃ vi vq vb vp, (One (.val vi) ∧ One (.val vq) ∧ One (.val vb) ∧ One (.val vp)) ∧ x = .tup [.agg [.val vi, .val vq, .val vb, .val vp], .val (.int .i64 r.2)] ∧ y = [floOwn vi vq vb vp r.1, tab8, HA.tab]
theorem flP2_nil (e : Int) : FlP2 (floE, e) (.tup [.agg [.val (.slice none 0 0), .val (.slice none 0 0), .val (.slice none 0 0), .val (.slice none 0 0)], .val (.int .i64 e)]) [floOwn (.slice none 0 0) (.slice none 0 0) (.slice none 0 0) (.slice none 0 0) floE, tab8, HA.tab] :=
 ⟨_, _, _, _, ⟨inferInstance, inferInstance, inferInstance, inferInstance⟩, rfl, rfl⟩
noncomputable def ofTR (f : Flo) (x : Bil) (t : Tl) (r : Rt) : Flo × Int :=
 if floOk f = true then (if (owedR t r).2 = 0 then (if (owedR t r).1.1 = (owedR t r).1.2 ∧ 1 ≤ (owedR t r).1.1 ∧ (owedR t r).1.1 ≤ 1000000 then addR f { x with pe := (owedR t r).1.1 } else (floE, 8)) else (floE, (owedR t r).2)) else (floE, 80)
theorem ofTally_con (f : Flo) (x : Bil) (t : Tl) (r : Rt) (hS : Sml f) (hx : x.st.length ≤ 1000) (h1 : t.st.length ≤ 1000) (h2 : t.fo.length ≤ 1000) : Con Tryz.prog 38 [.agg (flC f), .agg (biC x), .agg (tC t), .agg (rC r)] [tab8, HA.tab] (FlP2 (ofTR f x t r)) := by
 have C := check_con f hS
 have CO := owed_con t r h1 h2
 unfold seA at CO
 cases hok : floOk f with
 | false =>
  rw [show errF f = 80 by unfold errF; rw [hok]; rfl] at C
  rw [show ofTR f x t r = (floE, 80) by unfold ofTR; rw [hok]; rfl]
  refine con_of Tryz.func38 rfl (enters_of Tryz.func38 (by kernel_rfl) rfl) rfl ?_; intro n w0 F0 G0
  refine zS ?_;repeat(refine yA ?_;intro p hp;refine zS ?_)
  (first | (apply wl_call (C); exact rfl; exact rfl) | (apply wl_callR (C); exact rfl; exact zM; exact rfl))
  refine zS ?_;repeat(refine yA ?_;intro p hp;refine zS ?_)
  (refine Res_add _ floE_own ?_; apply resKN1; exact rfl; exact rfl; exact zM; exact inferInstance; exact rfl; exact rfl; exact flP2_nil _; exact yC)
 | true =>
  rw [show errF f = 0 by unfold errF; rw [hok]; rfl] at C
  unfold ofTR
  rw [if_pos hok]
  generalize owedR t r = s at *
  obtain ⟨⟨lo, hi⟩, er⟩ := s
  dsimp only at CO ⊢
  refine con_of Tryz.func38 rfl (enters_of Tryz.func38 (by kernel_rfl) rfl) rfl ?_; intro n w0 F0 G0
  refine zS ?_;repeat(refine yA ?_;intro p hp;refine zS ?_)
  (first | (apply wl_call (C); exact rfl; exact rfl) | (apply wl_callR (C); exact rfl; exact zM; exact rfl))
  refine zS ?_;repeat(refine yA ?_;intro p hp;refine zS ?_)
  (first | (apply wl_call (CO); exact rfl; exact rfl) | (apply wl_callR (CO); exact rfl; exact zM; exact rfl))
  refine zS ?_;repeat(refine yA ?_;intro p hp;refine zS ?_)
  refine w_cond rfl (fun he => ?_) (fun he => ?_)
  ·rw [if_neg (by simpa using he)]
   refine zS ?_;repeat(refine yA ?_;intro p hp;refine zS ?_)
   (refine Res_add _ floE_own ?_; apply resKN1; exact rfl; exact rfl; exact zM; exact inferInstance; exact rfl; exact rfl; exact flP2_nil _; exact yC)
  ·rw [if_pos (by simpa using he)]
   have CA := add_con f { x with pe := lo } hS hx
   refine zS ?_;repeat(refine yA ?_;intro p hp;refine zS ?_)
   refine wl_part rfl rfl (fun hne => ?_) (fun hne => ?_)
   ·rw [if_neg (by simp at hne; omega)]
    refine zS ?_;repeat(refine yA ?_;intro p hp;refine zS ?_)
    (refine Res_add _ floE_own ?_; apply resKN1; exact rfl; exact rfl; exact zM; exact inferInstance; exact rfl; exact rfl; exact flP2_nil _; exact yC)
   ·have hlo : lo = hi := by simpa using hne
    subst hlo
    refine zS ?_;repeat(refine yA ?_;intro p hp;refine zS ?_)
    (apply wl_litF iC; exact inferInstance; exact inferInstance; exact inferInstance; exact zE; exact rfl; (first | exact (of_decide_eq_true rfl) | decide | (simp; done) | (simp; omega)); exact rfl)
    refine zS ?_;repeat(refine yA ?_;intro p hp;refine zS ?_)
    (first | (apply wl_call (inOne_con 1 1000000 lo); exact rfl; exact rfl) | (apply wl_callR (inOne_con 1 1000000 lo); exact rfl; exact zM; exact rfl))
    refine zS ?_;repeat(refine yA ?_;intro p hp;refine zS ?_)
    refine w_cond rfl (fun hin => ?_) (fun hin => ?_)
    ·rw [if_neg (by simp at hin; omega)]
     refine zS ?_;repeat(refine yA ?_;intro p hp;refine zS ?_)
     (refine Res_add _ floE_own ?_; apply resKN1; exact rfl; exact rfl; exact zM; exact inferInstance; exact rfl; exact rfl; exact flP2_nil _; exact yC)
    ·rw [if_pos (by simp at hin; omega)]
     refine zS ?_;repeat(refine yA ?_;intro p hp;refine zS ?_)
     refine WL_as 48 (.agg (biC { x with pe := lo })) rfl ?_
     generalize addR f { x with pe := lo } = ra at CA ⊢
     obtain ⟨fa, ea⟩ := ra
     (apply wl_callP (CA); exact rfl; exact yC; exact rfl)
     rintro _ _ ⟨vi, vq, vb, vp, ⟨o1, o2, o3, o4⟩, rfl, rfl⟩
     refine zS ?_;repeat(refine yA ?_;intro p hp;refine zS ?_)
     (apply resKN1; exact rfl; exact rfl; exact zM; exact inferInstance; exact rfl; exact rfl; exact ⟨vi, vq, vb, vp, ⟨inferInstance, inferInstance, inferInstance, inferInstance⟩, rfl, rfl⟩; exact yC)
theorem flP2_frz {P : Program} {k : FuncId} {args : List AV} {pre : List HA} {r : Flo × Int} (hc : Con P k args pre (FlP2 r)) : Con P k args pre (Is (.tup [.agg (flC r.1), .val (.int .i64 r.2)]) [tab8, HA.tab]) :=
 hc.frz (a := fun i : Value × Value × Value × Value => .tup [.agg [.val i.1, .val i.2.1, .val i.2.2.1, .val i.2.2.2], .val (.int .i64 r.2)]) (h := fun i => floOwn i.1 i.2.1 i.2.2.1 i.2.2.2 r.1)
  (fun x y ⟨vi, vq, vb, vp, _, e1, e2⟩ => ⟨(vi, vq, vb, vp), e1, e2⟩) fun i => thaw_tup (flo_thaw _ _ _ _ _)
theorem Con.args {P : Program} {k : FuncId} {avs avs' : List AV} {pre : List HA} {post : AV → List HA → Prop} (h : ∀ G vs, Fits G avs vs → Fits G avs' vs) (c : Con P k avs' pre post) : Con P k avs pre post :=
 ⟨c.enters, fun G Fp vs w hf hI => c.calls G Fp vs w (h G vs hf) hI⟩
theorem spanSelf {W : Int → Int} (s : List Int) : spanF W s s = (sumW W s, sumW W s) := by
 have hT : TrueL s s s := by unfold TrueL; rw [dist_self]
 refine spanF_eq ⟨⟨s, hT, rfl⟩, ⟨s, hT, rfl⟩, fun l h => ?_⟩
 have h' : dist s l + dist l s = dist s s := h
 rw [dist_self] at h'
 obtain rfl := dist_zero s l (by omega)
 exact ⟨Int.le_refl _, Int.le_refl _⟩
end Go.Proofs.YtihonljdanjfmaaGreatDoor.Sw
namespace Go.Proofs.YtihonljdanjfmaaGreatDoor.Sw
open Go.RowKit Go Go.Shelf Go.Proofs
open Go.Proofs.YtihonljdanjfmaaGreatDoor.Gr (treeR pick sub_pick pick_sub)
end Go.Proofs.YtihonljdanjfmaaGreatDoor.Sw
namespace Go.Proofs.YtihonljdanjfmaaGreatDoor.Sw
open Go.RowKit Go Go.Shelf Go.Proofs
open Go.Proofs.YtihonljdanjfmaaGreatDoor.Gr (treeR pick sub_pick pick_sub Zr Cl Ok Forest Side Min sumP sumP_upd sumP_congr upd lf amt amt_side amt_swap payE cl_of_erase)
theorem lf_set {l : List Int} {i : Nat} (hi : i < l.length) (d : Int) : lf (addAt l i d) = upd (lf l) i (lf l i + d) := by
 funext v
 unfold addAt lf upd
 simp only [List.getD_eq_getElem?_getD, List.getElem?_set]
 by_cases h : i = v
 ·subst h; simp [hi]
 ·rw [if_neg h, if_neg fun e => h e.symm]
end Go.Proofs.YtihonljdanjfmaaGreatDoor.Sw
namespace Go.Proofs.YtihonljdanjfmaaGreatDoor.Sw
open Go.RowKit Go Go.Shelf Go.Proofs
theorem lsB2 {f : Flo} (hS : Sml f) : errL f = 0 → ∀ x ∈ lsF f, PayB x := fun he x hx => by
 obtain ⟨k, hk, hb⟩ := lsF_told hS he
 exact (hb x hx).payB (by omega)
end Go.Proofs.YtihonljdanjfmaaGreatDoor.Sw
namespace Go.Proofs.YtihonljdanjfmaaGreatDoor.Sw
open Go.RowKit Go Go.Shelf Go.Proofs
open Go.Proofs.YtihonljdanjfmaaGreatDoor.Gr (SortedP payLt payLt_no)
def onlyB (f : Flo) (x : Pay) (id : Int) : Bool := decide (id = x.a) || (decide (id = x.b) || !speakR f.qs id x.a)
structure SureF (f : Flo) (xs : List (List Pay)) (s l : List Pay) : Prop where
 sl : ∀ x ∈ s, x ∈ l
 od : ∀ i (h : i < s.length) (h1 : i - 1 < s.length), 0 < i → ¬ s[i].a < s[i - 1].a ∧ (s[i - 1].a = s[i].a → s[i - 1].b < s[i].b)
 on : ∀ x ∈ l, f.ids.all (onlyB f x) = true → x ∈ s
 ne : 1 ≤ xs.length
 one : xs.length = 1 → s = l
 none : l.length = 0 → xs.length = 1
 sn : s.length ≤ 1000
 ln : l.length ≤ 1000
end Go.Proofs.YtihonljdanjfmaaGreatDoor.Sw
namespace Go.Proofs.YtihonljdanjfmaaGreatDoor.Sw
open Go.RowKit Go Go.Shelf Go.Proofs
open Go.Proofs.YtihonljdanjfmaaGreatDoor.Gr (treeR pick Zr Cl Ok Forest Side Min sumP lf amt payE headsR hf Lab lab_all even_iff)
def dP (ids : List Int) (x : Pay) (v : Nat) : Int := (if ids.idxOf x.a = v then x.p else 0) - (if ids.idxOf x.b = v then x.p else 0)
theorem lf_step {ids : List Int} {x : Pay} {cu : List Int} (h1 : ids.idxOf x.a < cu.length) (h2 : ids.idxOf x.b < cu.length) (v : Nat) : lf (payStep ids x cu) v = lf cu v + dP ids x v := by
 unfold payStep dP
 rw [lf_set (by rw [addAt_len]; exact h2), lf_set h1]
 clear h1 h2
 generalize ids.idxOf x.a = i
 generalize ids.idxOf x.b = o
 simp only [Gr.upd]
 by_cases a : o = v
 ·subst a
  by_cases b : i = o
  ·subst b; simp <;> omega
  ·have b' : ¬ o = i := fun e => b e.symm
   simp [b, b'] <;> omega
 ·have a' : ¬ v = o := fun e => a e.symm
  by_cases b : i = v
  ·subst b; simp [a, a']
  ·have b' : ¬ v = i := fun e => b e.symm
   simp [a, a', b, b']
def sumD (ids : List Int) (v : Nat) : List Pay → Int
 | [] => 0
 | x :: t => dP ids x v + sumD ids v t
theorem lf_fold {ids : List Int} (v : Nat) : ∀ (l : List Pay) (cu : List Int), cu.length = ids.length → (∀ x ∈ l, x.a ∈ ids ∧ x.b ∈ ids) → lf (payFold ids l cu) v = lf cu v + sumD ids v l
 | [], cu, _, _ => by simp [payFold, sumD]
 | x :: t, cu, hl, h => by
  have hx := h x (by simp)
  rw [payFold, lf_fold v t _ (by unfold payStep; rw [addAt_len, addAt_len]; exact hl) (fun y hy => h y (by simp [hy])), lf_step (by rw [hl]; exact List.idxOf_lt_length_of_mem hx.1) (by rw [hl]; exact List.idxOf_lt_length_of_mem hx.2), sumD]
  omega
end Go.Proofs.YtihonljdanjfmaaGreatDoor.Sw
namespace Go.Proofs.YtihonljdanjfmaaGreatDoor.Sw
open Go.RowKit Go Go.Shelf Go.Proofs
theorem putAll_lenH {ids : List Int} {pe all : Int} : ∀ (st : List Stk) (l : List Int), (putAll ids pe all st l).length = l.length
 | [], _ => rfl
 | s :: t, l => by rw [putAll, putAll_lenH t, List.length_set]
theorem stks_nodup {ids : List Int} : ∀ {t : List Stk} {last : Int}, stksOk ids last t = true → (t.map (·.fl)).Nodup ∧ ∀ s ∈ t, last < s.fl
 | [], _, _ => ⟨by simp, fun _ h => (by cases h)⟩
 | x :: t, last, h => by
  simp only [stksOk, Bool.and_eq_true, decide_eq_true_eq] at h
  obtain ⟨k1, k2⟩ := stks_nodup h.2
  refine ⟨?_, fun s hs => ?_⟩
  ·rw [List.map_cons]
   refine List.nodup_cons.2 ⟨fun hm => ?_, k1⟩
   obtain ⟨u, hu, e⟩ := List.mem_map.1 hm
   have := k2 u hu
   omega
  ·rcases List.mem_cons.1 hs with rfl | hs
   ·exact h.1.1.1
   ·have := k2 s hs; omega
theorem sum_set : ∀ (l : List Int) (i : Nat) (v : Int), i < l.length → (l.set i v).sum = l.sum - l.getD i 0 + v
 | x :: t, 0, v, _ => by simp; omega
 | x :: t, i + 1, v, h => by
  rw [List.set_cons_succ, List.sum_cons, sum_set t i v (by simpa using h), List.sum_cons, List.getD_cons_succ]; omega
 | [], _, _, h => by simp at h
theorem sum_addAt {l : List Int} {i : Nat} (hi : i < l.length) (d : Int) : (addAt l i d).sum = l.sum + d := by
 unfold addAt
 rw [sum_set l i _ hi, List.getD_eq_getElem?_getD]; omega
theorem sum_inc {ids : List Int} : ∀ (st : List Stk) (l : List Int), (∀ s ∈ st, s.fl ∈ ids) → l.length = ids.length → (incAll ids st l).sum = l.sum + st.length
 | [], l, _, _ => by simp [incAll]
 | s :: t, l, h, hl => by
  rw [incAll, sum_inc t _ (fun u hu => h u (by simp [hu])) (by rw [addAt_len]; exact hl), sum_addAt (by rw [hl]; exact List.idxOf_lt_length_of_mem (h s (by simp))), List.length_cons]
  omega
theorem sum_put {ids : List Int} {pe all : Int} (hr : rises 0 ids = true) : ∀ (st : List Stk) (l : List Int), (∀ s ∈ st, s.fl ∈ ids) → (st.map (·.fl)).Nodup → l.length = ids.length → (∀ s ∈ st, l.getD (ids.idxOf s.fl) 0 = 0) → (putAll ids pe all st l).sum = l.sum + quots pe all st
 | [], l, _, _, _, _ => by simp [putAll, quots]
 | s :: t, l, h, hn, hl, hz => by
  obtain ⟨n1, n2⟩ := List.nodup_cons.1 (by simpa using hn : (s.fl :: t.map (·.fl)).Nodup)
  have hsi : ids.idxOf s.fl < l.length := by rw [hl]; exact List.idxOf_lt_length_of_mem (h s (by simp))
  rw [putAll, sum_put hr t _ (fun u hu => h u (by simp [hu])) n2 (by rw [List.length_set]; exact hl) (fun u hu => ?_), sum_set _ _ _ hsi, hz s (by simp), quots]
  ·omega
  ·have hne : ids.idxOf s.fl ≠ ids.idxOf u.fl := fun e => by
    have hu1 := h u (by simp [hu])
    have h1 := List.getElem_idxOf (List.idxOf_lt_length_of_mem (h s (by simp)))
    have h2 := List.getElem_idxOf (List.idxOf_lt_length_of_mem hu1)
    have : s.fl = u.fl := by rw [← h1, ← h2]; simp only [e]
    exact n1 (by rw [this]; exact List.mem_map_of_mem hu)
   rw [List.getD_eq_getElem?_getD, List.getElem?_set, if_neg hne, ← List.getD_eq_getElem?_getD]
   exact hz u (by simp [hu])
theorem share_sum {ids : List Int} (hr : rises 0 ids = true) {x : Bil} (hx : bilOk ids x = true) : (sharesR ids x).sum = x.pe := by
 have hB := bil_f hx
 have hst : stksOk ids 0 x.st = true := by simp only [bilOk, Bool.and_eq_true] at hx; exact hx.2
 obtain ⟨hnd, _⟩ := stks_nodup hst
 have hmem : ∀ s ∈ x.st, s.fl ∈ ids := fun s h => (hB.st s h).1
 have hlb := left_bounds hB
 have hz : ∀ n i, (List.replicate n (0 : Int)).getD i 0 = 0 := fun n i => by
  rw [List.getD_eq_getElem?_getD, List.getElem?_replicate]; split <;> rfl
 unfold sharesR
 rw [sum_inc _ _ (fun s h => hmem s (List.mem_of_mem_take h)) (by rw [putAll_lenH]; simp), sum_put hr _ _ hmem hnd (by simp) (fun s _ => hz _ _), List.length_take]
 rw [leftQ_eq] at hlb ⊢
 have h0 : (List.replicate ids.length (0 : Int)).sum = 0 := by simp
 rw [h0]
 omega
end Go.Proofs.YtihonljdanjfmaaGreatDoor.Sw
namespace Go.Proofs.YtihonljdanjfmaaGreatDoor.Sw
open Go.RowKit Go Go.Shelf Go.Proofs
open Go.Proofs.YtihonljdanjfmaaGreatDoor.Gr (Zr Cl Forest sumP lf amt payE headsR hf Lab lab_all even_iff)
def zerG (f : Flo) (cu : List Int) (l : List Pay) : Bool := (grG f l).all fun g => decide ((g.map fun id => cu.getD (f.ids.idxOf id) 0).sum = 0)
end Go.Proofs.YtihonljdanjfmaaGreatDoor.Sw
namespace Go.Proofs.YtihonljdanjfmaaGreatDoor.Sw
open Go.RowKit Go Go.Shelf Go.Proofs
section
variable {P : Program} {rs : List (Nat × AV)} {d : Option Nat} {ty : TypeId} {pos : String} {af : Array Edge} {g : Option (Nat × Bool)}
end
end Go.Proofs.YtihonljdanjfmaaGreatDoor.Sw
namespace Go.Proofs.YtihonljdanjfmaaGreatDoor.Sw
open Go.RowKit Go Go.Shelf Go.Proofs
open Go.Proofs.YtihonljdanjfmaaGreatDoor.Gr (Zr lf payLt payLt_no)
def PP (f : Flo) (x : Pay) : Prop := ∃ i j, i < j ∧ j < f.ids.length ∧ spk f i j = true ∧ x.a = f.ids.getD i 0 ∧ x.b = f.ids.getD j 0
theorem PP.mem {f : Flo} {x : Pay} (h : PP f x) : x.a ∈ f.ids ∧ x.b ∈ f.ids := by
 obtain ⟨i, j, h1, h2, _, h4, h5⟩ := h
 rw [h4, h5, List.getD_eq_getElem?_getD, List.getD_eq_getElem?_getD, List.getElem?_eq_getElem (by omega), List.getElem?_eq_getElem h2]
 exact ⟨List.getElem_mem _, List.getElem_mem _⟩
structure StF (f : Flo) (l : List Pay) : Prop where
 len : l.length ≤ 5
 few : fewN8 f = ((l.length : Int), 0)
 sp : ∀ x ∈ l, speakR f.qs x.a x.b = true ∧ x.a ∈ f.ids ∧ x.b ∈ f.ids
 pe : ∀ x ∈ l, 1 ≤ x.p ∧ x.p ≤ 22000000
 od : ∀ i (h : i < l.length) (h1 : i - 1 < l.length), 0 < i → ¬ l[i].a < l[i - 1].a ∧ (l[i - 1].a = l[i].a → l[i - 1].b < l[i].b)
 ze : ∀ v, v < f.ids.length → lf (payFold f.ids l (owed8 f)) v = 0
 no : ∀ so : List Pay, (∀ x ∈ so, PP f x) → so.length < l.length → zerG f (owed8 f) so = false
end Go.Proofs.YtihonljdanjfmaaGreatDoor.Sw
namespace Go.Proofs.YtihonljdanjfmaaGreatDoor.Sw
open Go.RowKit Go Go.Shelf Go.Proofs
open Go.Proofs.YtihonljdanjfmaaGreatDoor.Gr (lf)
def numF : List Bil → Int → Int
 | [], n => n
 | y :: t, n => numF t (if y.no = n then n + 1 else n)
theorem numF_gt : ∀ {t : List Bil} {n : Int}, (∀ y ∈ t, n < y.no) → numF t n = n
 | [], _, _ => rfl
 | y :: t, n, h => by
  have := h y (by simp)
  rw [numF, if_neg (by omega), numF_gt fun z hz => h z (by simp [hz])]
theorem bils_no {ids : List Int} : ∀ {t : List Bil} {last : Int}, bilsOk ids last t = true → ∀ y ∈ t, last + 1 ≤ y.no ∧ y.no ≤ 9999 ∧ bilOk ids y = true
 | x :: t, last, h, y, hy => by
  simp only [bilsOk, Bool.and_eq_true, decide_eq_true_eq] at h
  rcases List.mem_cons.1 hy with rfl | hy
  ·exact ⟨h.1.1.1, h.1.1.2, h.1.2⟩
  ·have := bils_no h.2 y hy
   exact ⟨by omega, this.2⟩
 | [], _, _, _, hy => absurd hy List.not_mem_nil
theorem bils_mk {ids : List Int} : ∀ {t : List Bil} {last : Int}, (t.Pairwise fun a b => a.no < b.no) → (∀ y ∈ t, last + 1 ≤ y.no ∧ y.no ≤ 9999 ∧ bilOk ids y = true) → bilsOk ids last t = true
 | [], _, _, _ => rfl
 | x :: t, last, hs, h => by
  obtain ⟨h1, h2⟩ := List.pairwise_cons.1 hs
  obtain ⟨a, b, c⟩ := h x (by simp)
  rw [bilsOk, decide_eq_true a, decide_eq_true b, c, bils_mk h2 fun y hy => ⟨by have := h1 y hy; omega, (h y (by simp [hy])).2⟩]
  rfl
theorem insB_parts {l : List Bil} (hs : l.Pairwise fun a b => a.no < b.no) (x : Bil) (hx : ∀ y ∈ l, y.no ≠ x.no) : ∃ A B, l = A ++ B ∧ insB l x = A ++ [x] ++ B ∧ (∀ a ∈ A, a.no < x.no) ∧ ∀ b ∈ B, x.no < b.no := by
 have hsp := List.takeWhile_append_dropWhile (p := fun y : Bil => decide (y.no < x.no)) (l := l)
 have hA : ∀ a ∈ l.takeWhile (fun y : Bil => decide (y.no < x.no)), a.no < x.no := fun a ha => of_decide_eq_true (List.all_eq_true.1 List.all_takeWhile a ha)
 have e1 : l.take (atB l x) = l.takeWhile (fun y : Bil => decide (y.no < x.no)) := (congrArg (List.take (atB l x)) hsp.symm).trans List.take_left
 have e2 : l.drop (atB l x) = l.dropWhile (fun y : Bil => decide (y.no < x.no)) := (congrArg (List.drop (atB l x)) hsp.symm).trans List.drop_left
 refine ⟨_, _, hsp.symm, by unfold insB; rw [e1, e2], hA, fun b hb => ?_⟩
 have hm : b ∈ l := by rw [← hsp]; exact List.mem_append.2 (.inr hb)
 have hbx := hx b hm
 have hge : ¬ b.no < x.no := fun hlt => by
  have hne : l.dropWhile (fun y : Bil => decide (y.no < x.no)) ≠ [] := List.ne_nil_of_mem hb
  obtain ⟨c, t, ec⟩ := List.exists_cons_of_ne_nil hne
  have hc : ¬ c.no < x.no := fun h => by
   have := List.head_dropWhile_not (fun y : Bil => decide (y.no < x.no)) (l := l) hne
   simp only [ec, List.head_cons] at this
   simp [h] at this
  rw [ec] at hb
  have hso : (c :: t).Pairwise fun a b => a.no < b.no := by rw [← ec]; exact hs.sublist (List.dropWhile_sublist _)
  rcases List.mem_cons.1 hb with rfl | hb
  ·exact hc hlt
  ·have := (List.pairwise_cons.1 hso).1 b hb; omega
 omega
def dB (ids : List Int) (x : Bil) (v : Nat) : Int := (if ids.idxOf x.py = v then x.pe else 0) - (sharesR ids x).getD v 0
theorem bil_lf {ids : List Int} {x : Bil} {l : List Int} (hl : l.length = ids.length) (hp : x.py ∈ ids) (v : Nat) : lf (subL (addAt l (ids.idxOf x.py) x.pe) (sharesR ids x)) v = lf l v + dB ids x v := by
 have hi : ids.idxOf x.py < l.length := by rw [hl]; exact List.idxOf_lt_length_of_mem hp
 have hsl := shares_len ids x
 have hal : (addAt l (ids.idxOf x.py) x.pe).length = l.length := addAt_len _ _ _
 have e : lf (subL (addAt l (ids.idxOf x.py) x.pe) (sharesR ids x)) v = lf (addAt l (ids.idxOf x.py) x.pe) v - lf (sharesR ids x) v := by
  unfold lf subL
  simp only [List.getD_eq_getElem?_getD]
  by_cases hn : v < l.length
  ·rw [List.getElem?_eq_getElem (by simp; omega), List.getElem?_eq_getElem (by omega), List.getElem?_eq_getElem (by omega), List.getElem_zipWith]; rfl
  ·rw [List.getElem?_eq_none (by simp; omega), List.getElem?_eq_none (by omega), List.getElem?_eq_none (by omega)]; rfl
 rw [e, lf_set hi]
 unfold dB Gr.upd
 show _ - (sharesR ids x).getD v 0 = _
 by_cases h : v = ids.idxOf x.py
 ·subst h; rw [if_pos rfl, if_pos rfl]; omega
 ·rw [if_neg h, if_neg fun q => h q.symm]; omega
def sumB (ids : List Int) (v : Nat) : List Bil → Int
 | [] => 0
 | x :: t => dB ids x v + sumB ids v t
theorem sumB_app (ids : List Int) (v : Nat) (B : List Bil) : ∀ A, sumB ids v (A ++ B) = sumB ids v A + sumB ids v B
 | [] => by simp [sumB]
 | x :: t => by rw [List.cons_append, sumB, sumB, sumB_app ids v B t]; omega
theorem bils_lf {ids : List Int} (v : Nat) : ∀ (t : List Bil) (l : List Int), l.length = ids.length → (∀ x ∈ t, x.py ∈ ids) → lf (bilFold ids t l) v = lf l v + sumB ids v t
 | [], l, _, _ => by simp [bilFold, sumB]
 | x :: t, l, hl, h => by
  rw [bilFold, bils_lf v t _ (by rw [subL_len (by rw [addAt_len, hl, shares_len]), addAt_len]; exact hl) (fun y hy => h y (by simp [hy])), bil_lf hl (h x (by simp)), sumB]
  omega
theorem owed_lf {f : Flo} (hb : ∀ x ∈ f.bs, x.py ∈ f.ids) (hp : ∀ x ∈ f.ps, x.a ∈ f.ids ∧ x.b ∈ f.ids) (v : Nat) : lf (owed8 f) v = lf (List.replicate f.ids.length 0) v + sumB f.ids v f.bs + sumD f.ids v f.ps := by
 unfold owed8
 rw [lf_fold v _ _ (by rw [bilFold_len _ _ (by simp)]) hp, bils_lf v _ _ (by simp) hb]
theorem find_mid {p : Bil → Bool} {x : Bil} {B : List Bil} (hx : p x = true) : ∀ {A : List Bil}, (∀ a ∈ A, p a = false) → (A ++ [x] ++ B).find? p = some x
 | [], _ => by simp [hx]
 | a :: t, h => by
  have := find_mid (B := B) hx (A := t) fun b hb => h b (by simp [hb])
  rw [List.cons_append, List.cons_append, List.find?_cons_of_neg (by rw [h a (by simp)]; simp), this]
structure NewB (f : Flo) (x : Bil) (y : Flo) : Prop where
 add : addR f x = (y, 0)
 sml : Sml y
 ids : y.ids = f.ids
 net : netR y = (owed8 y, 0)
 sha : shaR y x.no = (sharesR f.ids x, 0)
 str : strikeR y x.no = (f, 0)
 is : ∀ v, lf (owed8 y) v = lf (owed8 f) v + dB f.ids x v
 sum : (sharesR f.ids x).sum = x.pe
 ok : floOk y = true
theorem new_bill {f : Flo} (hS : Sml f) (hf : floOk f = true) (hb : f.bs.length < 10) {x : Bil} (hx : bilOk f.ids x = true) (hxs : x.st.length ≤ 1000) (h1 : 1 ≤ x.no) (h2 : x.no ≤ 9999) (hno : ∀ y ∈ f.bs, y.no ≠ x.no) : ∃ y, NewB f x y := by
 have hr := rises_of_ok hf
 have hF := flo_f hf
 have hs := flo_bs hf
 obtain ⟨A, B, eA, eI, hA, hB⟩ := insB_parts hs x hno
 have hok : floOk { f with bs := insB f.bs x } = true := by
  have hf' := hf
  simp only [floOk, Bool.and_eq_true, decide_eq_true_eq] at hf' ⊢
  refine ⟨⟨⟨⟨⟨⟨hf'.1.1.1.1.1.1, by rw [insB_len]; omega⟩, hf'.1.1.1.1.2⟩, hf'.1.1.1.2⟩, hf'.1.1.2⟩, bils_mk ?_ fun y hy => ?_⟩, hf'.2⟩
  ·rw [eI]
   rw [eA] at hs
   obtain ⟨sA, sB, sAB⟩ := List.pairwise_append.1 hs
   refine List.pairwise_append.2 ⟨List.pairwise_append.2 ⟨sA, List.pairwise_singleton _ _, fun a ha b hb => ?_⟩, sB, fun a ha b hb => ?_⟩
   ·rw [List.mem_singleton] at hb; rw [hb]; exact hA a ha
   ·rcases List.mem_append.1 ha with h | h
    ·exact sAB a h b hb
    ·rw [List.mem_singleton] at h; rw [h]; exact hB b hb
  ·rcases insB_mem hy with h | h
   ·exact bils_no hf'.1.2 y h
   ·rw [h]; exact ⟨by omega, h2, hx⟩
 have hadd : addR f x = ({ f with bs := insB f.bs x }, 0) := by
  rw [add_eq]
  unfold add8R
  rw [if_pos hf, if_neg (by omega), if_pos hok]
 have hB' := bil_f hx
 refine ⟨{ f with bs := insB f.bs x }, hadd, ⟨hS.ids, hS.qs, by show (insB f.bs x).length ≤ 1000; rw [insB_len]; omega, hS.ps, fun b hb => ?_⟩, rfl, ?_, ?_, ?_, fun v => ?_, share_sum hr hx, hok⟩
 ·rcases insB_mem hb with h | h
  ·exact hS.st b h
  ·rw [h]; exact hxs
 ·unfold netR
  rw [if_pos hok]
 ·unfold shaR
  rw [if_pos hok]
  dsimp only
  rw [eI, find_mid (by simp) fun a ha => decide_eq_false (by have := hA a ha; omega)]
 ·unfold strikeR
  rw [if_pos hok]
  dsimp only
  have e : (insB f.bs x).filter (fun y => !decide (y.no = x.no)) = f.bs := by
   rw [eI, List.filter_append, List.filter_append]
   have a1 : A.filter (fun y => !decide (y.no = x.no)) = A := List.filter_eq_self.2 fun a ha => by have := hA a ha; simp; omega
   have b1 : B.filter (fun y => !decide (y.no = x.no)) = B := List.filter_eq_self.2 fun a ha => by have := hB a ha; simp; omega
   rw [a1, b1, List.filter_cons_of_neg (by simp), List.filter_nil, List.append_nil, ← eA]
  rw [e, if_neg (by rw [insB_len]; omega)]
 ·have hp : ∀ z ∈ f.ps, z.a ∈ f.ids ∧ z.b ∈ f.ids := fun z hz => ⟨(hF.pay z hz).1, (hF.pay z hz).2.1⟩
  rw [owed_lf (f := { f with bs := insB f.bs x }) (fun z hz => by
   rcases insB_mem hz with h | h
   ·exact (hF.bil z h).py
   ·rw [h]; exact hB'.py) hp v, owed_lf (fun z hz => (hF.bil z hz).py) hp v]
  dsimp only
  rw [eI, sumB_app, sumB_app]
  have e : sumB f.ids v f.bs = sumB f.ids v A + sumB f.ids v B := by rw [← sumB_app, ← eA]
  rw [e]
  simp only [sumB]
  omega
end Go.Proofs.YtihonljdanjfmaaGreatDoor.Sw
namespace Go.Proofs.YtihonljdanjfmaaGreatDoor.Sw
open Go.RowKit Go Go.Shelf Go.Proofs
open Go.Proofs.YtihonljdanjfmaaGreatDoor.Gr (Zr Cl Ok Forest sumP lf headsR headsR_snoc hf_merge mergeH Lab lab_all payE)
def OwnZ (f : Flo) (js : List Nat) : Prop := ∀ P : Nat → Bool, (∀ a b, a < b → b < js.length → spk f (js.getD a 0) (js.getD b 0) = true → P a = P b) → sumP js.length (fun i => lf (owed8 f) (js.getD i 0)) P = 0
structure GrF (f : Flo) (gs : List (List Int)) : Prop where
 fit : ∀ g ∈ gs, g.length ≤ f.ids.length ∧ ∀ id ∈ g, id ∈ f.ids
 al : ∀ g ∈ gs, aloR f g = (true, 0)
 ne : ∀ g ∈ gs, 0 < g.length
 od : ∀ i (h : i < gs.length) (h1 : i - 1 < gs.length), 0 < i → gs[i - 1].getD 0 0 < gs[i].getD 0 0
 pe : gs.flatten.Perm f.ids
 few : fewN8 f = ((f.ids.length : Int) - (gs.length : Int), 0)
 cnt : gs.length ≤ f.ids.length
 pt : ∀ (c : Nat → Nat) (m : Nat), (∀ v, v < f.ids.length → c v < m) → (∀ i, OwnZ f ((List.range f.ids.length).filter fun v => decide (c v = i))) → ∀ vals : List Nat, vals.Nodup → (∀ k ∈ vals, ∃ v, v < f.ids.length ∧ c v = k) → vals.length ≤ gs.length
end Go.Proofs.YtihonljdanjfmaaGreatDoor.Sw
namespace Go.Proofs.YtihonljdanjfmaaGreatDoor.Sw
open Go.RowKit Go Go.Shelf Go.Proofs
open Go.Proofs.YtihonljdanjfmaaGreatDoor.Gr (lf)
def agr (t : Tl) : Tl := ⟨t.id, t.hs, t.st, t.st⟩
theorem okT_f {id hs : Int} {st fo : List Int} (h : okT id hs st fo = true) : ((1 ≤ id ∧ id ≤ 9999) ∧ (1 ≤ hs ∧ hs ≤ 9999)) ∧ st.length ≤ 12 ∧ fo.length ≤ 12 ∧ okN st = true ∧ okN fo = true := by
 unfold okT at h
 simp only [Bool.and_eq_true, decide_eq_true_eq] at h
 exact ⟨⟨h.1.1.1.1.1, h.1.1.1.1.2⟩, h.1.1.1.2, h.1.1.2, h.1.2, h.2⟩
theorem okT_mk {id hs : Int} {st fo : List Int} (h : ((1 ≤ id ∧ id ≤ 9999) ∧ (1 ≤ hs ∧ hs ≤ 9999)) ∧ st.length ≤ 12 ∧ fo.length ≤ 12 ∧ okN st = true ∧ okN fo = true) : okT id hs st fo = true := by
 unfold okT
 simp only [Bool.and_eq_true, decide_eq_true_eq]
 exact ⟨⟨⟨⟨h.1, h.2.1⟩, h.2.2.1⟩, h.2.2.2.1⟩, h.2.2.2.2⟩
theorem okN_app {a b : List Int} (h1 : okN a = true) (h2 : okN b = true) : okN (a ++ b) = true := by
 unfold okN at *
 rw [List.all_append, h1, h2]; rfl
theorem agr_ok {t : Tl} (h : okT t.id t.hs t.st t.fo = true) : (agr t).ok = true := by
 obtain ⟨h0, h1, _, h3, _⟩ := okT_f h
 exact okT_mk ⟨h0, h1, h1, h3, h3⟩
theorem joined_cases {a b : Tl} (ha : okT a.id a.hs a.st a.fo = true) (hb : okT b.id b.hs b.st b.fo = true) : (joinF (agr a) (agr b) = (agr (a.cat b), 0) ∧ (agr (a.cat b)).ok = true) ∨ (joinF (agr a) (agr b) = (zeroT, 9) ∧ 12 < a.st.length + b.st.length) := by
 have hA := agr_ok ha
 have hB := agr_ok hb
 obtain ⟨a0, a1, _, a3, _⟩ := okT_f ha
 obtain ⟨_, b1, _, b3, _⟩ := okT_f hb
 have hc : (agr a).cat (agr b) = agr (a.cat b) := rfl
 unfold joinF
 rw [hA, hB, hc]
 by_cases h : a.st.length + b.st.length ≤ 12
 ·have hk : (agr (a.cat b)).ok = true := by
   have hl : (a.st ++ b.st).length ≤ 12 := by rw [List.length_append]; exact h
   exact okT_mk ⟨a0, hl, hl, okN_app a3 b3, okN_app a3 b3⟩
  left
  rw [hk]
  exact ⟨rfl, rfl⟩
 ·have hk : (agr (a.cat b)).ok = false := by
   cases hq : (agr (a.cat b)).ok with
   | false => rfl
   | true =>
    have := (okT_f hq).2.1
    have e : (a.st ++ b.st).length ≤ 12 := this
    rw [List.length_append] at e
    exact absurd e h
  right
  rw [hk]
  exact ⟨rfl, by omega⟩
theorem owed_agr {t : Tl} {r : Rt} (h : (agr t).ok = true) (hr : r.ok = true) : owedR (agr t) r = ((sumW (rateW r) t.st, sumW (rateW r) t.st), 0) := by
 have h' : okT (agr t).id (agr t).hs (agr t).st (agr t).fo = true := h
 rw [owedR_eq, if_pos h', if_pos hr]
 have := span_same (rateW r) t.st
 show (spanF (rateW r) t.st t.st, (0 : Int)) = _
 rw [this]
theorem false_agr {t : Tl} (h : (agr t).ok = true) : falseR (agr t) = (0, 0) := by
 have h' : okT (agr t).id (agr t).hs (agr t).st (agr t).fo = true := h
 unfold falseR
 rw [if_pos h']
 show ((dist t.st t.st : Int), (0 : Int)) = _
 rw [dist_self]; rfl
theorem numF_free2 : ∀ {t : List Bil} {n : Int}, (t.Pairwise fun a b => a.no < b.no) → (∀ y ∈ t, y.no ≠ numF t n) ∧ n ≤ numF t n ∧ numF t n ≤ n + t.length
 | [], n, _ => ⟨fun _ h => absurd h List.not_mem_nil, Int.le_refl _, by simp [numF]⟩
 | y :: t, n, hs => by
  obtain ⟨h1, h2⟩ := List.pairwise_cons.1 hs
  rw [List.length_cons]
  by_cases e : y.no = n
  ·obtain ⟨a, b, c⟩ := numF_free2 (t := t) (n := n + 1) h2
   rw [numF, if_pos e]
   refine ⟨fun z hz => ?_, by omega, by omega⟩
   rcases List.mem_cons.1 hz with rfl | hz
   ·omega
   ·exact a z hz
  ·obtain ⟨a, b, c⟩ := numF_free2 (t := t) (n := n) h2
   by_cases hlt : y.no < n
   ·rw [numF, if_neg e]
    refine ⟨fun z hz => ?_, by omega, by omega⟩
    rcases List.mem_cons.1 hz with rfl | hz
    ·omega
    ·exact a z hz
   ·have hg : numF (y :: t) n = n := numF_gt fun z hz => by
     rcases List.mem_cons.1 hz with rfl | hz
     ·omega
     ·have := h1 z hz; omega
    rw [hg]
    refine ⟨fun z hz => ?_, by omega, by omega⟩
    rcases List.mem_cons.1 hz with rfl | hz
    ·exact e
    ·have := h1 z hz; omega
theorem add_is {f : Flo} {x : Bil} {y : Flo} (h : addR f x = (y, 0)) : y = { f with bs := insB f.bs x } := by
 rw [add_eq] at h
 unfold add8R at h
 split at h
 ·split at h
  ·simp at h
  ·split at h
   ·exact (Prod.mk.inj h).1.symm
   ·simp at h
 ·simp at h
theorem one_share {ids : List Int} {no py pe q : Int} (hq : q ∈ ids) (v : Nat) : (sharesR ids ⟨no, py, pe, [⟨q, 1⟩]⟩).getD v 0 = if ids.idxOf q = v then pe else 0 := by
 have hi := List.idxOf_lt_length_of_mem hq
 have e : sharesR ids ⟨no, py, pe, [⟨q, 1⟩]⟩ = (List.replicate ids.length 0).set (ids.idxOf q) pe := by
  unfold sharesR
  simp [sumPt, leftQ, putAll, incAll]
 rw [e, List.getD_eq_getElem?_getD]
 by_cases h : ids.idxOf q = v
 ·subst h; rw [if_pos rfl]; simp [hi]
 ·rw [if_neg h, List.getElem?_set_ne h]
  by_cases hv : v < ids.length
  ·simp [hv]
  ·simp [hv]
theorem same_list {f g : Flo} (Sf : Sml f) (Sg : Sml g) (hf : floOk f = true) (hg : floOk g = true) (hi : f.ids = g.ids) (hq : f.qs = g.qs) (ho : owed8 f = owed8 g) : stlN f = stlN g := by
 have hs : spk f = spk g := by funext a b; unfold spk; rw [hi, hq]
 have ha : allR f = allR g := by funext k; unfold allR; rw [hi, hs, ho]
 have hk : askR f = askR g := by unfold askR; rw [if_pos hf, if_pos hg, ha]
 rw [stl_eq Sf, stl_eq Sg]
 unfold stlN8
 rw [hk]
structure TwoB (f y1 yu y2 : Flo) (n0 py s u nx t q : Int) : Prop where
 first : NewB f ⟨n0, py, s, [⟨q, 1⟩]⟩ y1
 both : NewB f ⟨n0, py, u, [⟨q, 1⟩]⟩ yu
 two : NewB y1 ⟨nx, py, t, [⟨q, 1⟩]⟩ y2
 owed : owed8 yu = owed8 y2
 list : stlN yu = stlN y2
theorem two_bills {f : Flo} (hS : Sml f) (hf : floOk f = true) (hb : f.bs.length + 2 ≤ 10) {n0 py s t nx q : Int} (hp : py ∈ f.ids) (hq : q ∈ f.ids) (h1 : 1 ≤ n0) (h2 : n0 ≤ 9999) (h3 : n0 < nx) (h4 : nx ≤ 9999) (hn0 : ∀ y ∈ f.bs, y.no ≠ n0) (hnx : ∀ y ∈ f.bs, y.no ≠ nx)
  (hs : 1 ≤ s) (ht : 1 ≤ t) (hu : s + t ≤ 1000000) : ∃ y1 yu y2, TwoB f y1 yu y2 n0 py s (s + t) nx t q := by
 have hr := rises_of_ok hf
 have hq0 : 0 < q := by have := rises_all hr q hq; omega
 have bo : ∀ (ids : List Int) (no pe : Int), ids = f.ids → 1 ≤ pe → pe ≤ 1000000 → bilOk ids ⟨no, py, pe, [⟨q, 1⟩]⟩ = true := fun ids no pe e a b => by
  subst e
  unfold bilOk
  simp [hp, a, b, stksOk, hq0, hq]
 obtain ⟨y1, N1⟩ := new_bill hS hf (by omega) (bo _ n0 s rfl hs (by omega)) (by simp) (by dsimp only; omega) (by dsimp only; omega) hn0
 obtain ⟨yu, Nu⟩ := new_bill hS hf (by omega) (bo _ n0 (s + t) rfl (by omega) hu) (by simp) (by dsimp only; omega) (by dsimp only; omega) hn0
 have e1 := add_is N1.add
 have eu := add_is Nu.add
 obtain ⟨y2, N2⟩ := new_bill (f := y1) (x := ⟨nx, py, t, [⟨q, 1⟩]⟩) N1.sml N1.ok (by rw [e1]; show (insB f.bs _).length < 10; rw [insB_len]; omega) (bo _ nx t N1.ids ht (by omega)) (by simp) (by dsimp only; omega) (by dsimp only; omega) fun z hz => by
  rw [e1] at hz
  rcases insB_mem hz with h | h
  ·exact hnx z h
  ·rw [h]; dsimp only; omega
 have e2 := add_is N2.add
 have ho : owed8 yu = owed8 y2 := by
  have l1 := owed8_len yu
  have l2 := owed8_len y2
  rw [Nu.ids] at l1
  rw [N2.ids, N1.ids] at l2
  refine List.ext_getElem (by omega) fun v a b => ?_
  have k1 := Nu.is v
  have k2 := N2.is v
  have k3 := N1.is v
  rw [N1.ids] at k2
  have g1 : lf (owed8 yu) v = (owed8 yu)[v] := by unfold lf; rw [List.getD_eq_getElem?_getD, List.getElem?_eq_getElem a]; rfl
  have g2 : lf (owed8 y2) v = (owed8 y2)[v] := by unfold lf; rw [List.getD_eq_getElem?_getD, List.getElem?_eq_getElem b]; rfl
  unfold dB at k1 k2 k3
  rw [one_share hq] at k1 k2 k3
  dsimp only at k1 k2 k3
  rw [← g1, ← g2]
  split at k1 <;> split at k1 <;> simp_all <;> omega
 refine ⟨y1, yu, y2, N1, Nu, N2, ho, same_list Nu.sml N2.sml Nu.ok N2.ok (by rw [Nu.ids, N2.ids, N1.ids]) ?_ ho⟩
 rw [eu, e2, e1]
end Go.Proofs.YtihonljdanjfmaaGreatDoor.Sw
namespace Go.Proofs.YtihonljdanjfmaaGreatDoor.Sw
open Go.RowKit Go Go.Shelf Go.Proofs
def jF0 : Flo := ⟨[1, 2], [], [], []⟩
def jF1 : Flo := ⟨[1, 2], [], [⟨1, 1, 15, [⟨2, 1⟩]⟩], []⟩
theorem j_add : ofTR jF0 ⟨1, 1, 0, [⟨2, 1⟩]⟩ ⟨1, 1, [1, 1, 2], [1, 1, 2]⟩ ⟨6, 3, 0, 0⟩ = (jF1, 0) := by
 have ho : owedR ⟨1, 1, [1, 1, 2], [1, 1, 2]⟩ ⟨6, 3, 0, 0⟩ = ((15, 15), 0) := by
  rw [owedR_eq, if_pos (by decide), if_pos (by decide), spanSelf]; rfl
 have hk : floOk jF0 = true := by decide +kernel
 unfold ofTR
 rw [if_pos hk, ho]
 decide +kernel
theorem j_owe : owedR ⟨1, 1, [1, 1, 2], [1, 1, 2]⟩ ⟨6, 3, 0, 0⟩ = ((15, 15), 0) := by
 rw [owedR_eq, if_pos (by decide), if_pos (by decide), spanSelf]; rfl
theorem j_net : netR jF1 = ([15, -15], 0) := by decide +kernel
theorem j_join : joinF ⟨1, 1, [1], [1]⟩ ⟨2, 1, [1, 2], [1, 2]⟩ = (⟨1, 1, [1, 1, 2], [1, 1, 2]⟩, 0) := by rfl
theorem joined_con : Con Tryz.prog 52 [] [tab8, HA.tab] (Is (.val (.bool true)) [tab8, HA.tab]) := by
 have S0 : Sml jF0 := ⟨by decide, by decide, by decide, by decide, fun b hb => (by cases hb)⟩
 have S1 : Sml jF1 := ⟨by decide, by decide, by decide, by decide, fun b hb => (by
  have : b = _ := List.mem_singleton.1 hb
  rw [this]; simp)⟩
 have JC := join_con ⟨1, 1, [1], [1]⟩ ⟨2, 1, [1, 2], [1, 2]⟩ (by constructor <;> simp) (by constructor <;> simp)
 rw [j_join] at JC
 have OC := owed_con ⟨1, 1, [1, 1, 2], [1, 1, 2]⟩ ⟨6, 3, 0, 0⟩ (by simp) (by simp)
 rw [j_owe] at OC
 unfold seA at OC
 have TC := flP2_frz (ofTally_con jF0 ⟨1, 1, 0, [⟨2, 1⟩]⟩ ⟨1, 1, [1, 1, 2], [1, 1, 2]⟩ ⟨6, 3, 0, 0⟩ S0 (by simp) (by simp) (by simp))
 rw [j_add] at TC
 have TC' : Con Tryz.prog 38 [.agg [.sl 1 iC [1, 2], .val (.slice none 0 0), .val (.slice none 0 0), .val (.slice none 0 0)], .agg (biC ⟨1, 1, 0, [⟨2, 1⟩]⟩), .agg (tC ⟨1, 1, [1, 1, 2], [1, 1, 2]⟩), .agg (rC ⟨6, 3, 0, 0⟩)] [tab8, HA.tab] _ := Con.args (fun G vs h => by
  match vs, h with
  | [v, b, c, d], ⟨⟨us, e, hu⟩, hb, hc, hd, _⟩ =>
   match us, hu with
   | [x0, x1, x2, x3], ⟨h0, h1, h2, h3, _⟩ => exact ⟨⟨_, e, h0, nil_sl _ _ h1, nil_sl _ _ h2, nil_sl _ _ h3, trivial⟩, hb, hc, hd, trivial⟩) TC
 have NC := Net_con jF1 S1
 rw [j_net] at NC
 have SC := sameInts8_con [15, -15] [15, -15] (by simp) (by simp)
 rw [show decide (([15, -15] : List Int) = [15, -15]) = true from by decide] at SC
 dsimp only at JC OC TC' NC
 clear TC
 refine con_of Tryz.func52 rfl (enters_of Tryz.func52 (by kernel_rfl) rfl) rfl ?_; intro n w0 F0 G0
 refine zS ?_;repeat(refine yA ?_;intro p hp;refine zS ?_)
 (apply wl_litF iC (xs := [1]); exact inferInstance; exact inferInstance; exact inferInstance; exact zE; exact rfl; (first | exact (of_decide_eq_true rfl) | decide | (simp; done) | (simp; omega)); exact rfl)
 refine zS ?_;repeat(refine yA ?_;intro p hp;refine zS ?_)
 (apply wl_litF iC (xs := [1]); exact inferInstance; exact inferInstance; exact inferInstance; exact zE; exact rfl; (first | exact (of_decide_eq_true rfl) | decide | (simp; done) | (simp; omega)); exact rfl)
 refine zS ?_;repeat(refine yA ?_;intro p hp;refine zS ?_)
 (apply wl_litF iC (xs := [1, 2]); exact inferInstance; exact inferInstance; exact inferInstance; exact zE; exact rfl; (first | exact (of_decide_eq_true rfl) | decide | (simp; done) | (simp; omega)); exact rfl)
 refine zS ?_;repeat(refine yA ?_;intro p hp;refine zS ?_)
 (apply wl_litF iC (xs := [1, 2]); exact inferInstance; exact inferInstance; exact inferInstance; exact zE; exact rfl; (first | exact (of_decide_eq_true rfl) | decide | (simp; done) | (simp; omega)); exact rfl)
 refine zS ?_;repeat(refine yA ?_;intro p hp;refine zS ?_)
 (first | (apply wl_call (JC); exact rfl; exact rfl) | (apply wl_callR (JC); exact rfl; exact zM; exact rfl))
 refine zS ?_;repeat(refine yA ?_;intro p hp;refine zS ?_)
 (first | (apply wl_call (OC); exact rfl; exact rfl) | (apply wl_callR (OC); exact rfl; exact zM; exact rfl))
 refine zS ?_;repeat(refine yA ?_;intro p hp;refine zS ?_)
 (apply wl_litF iC (xs := [1, 2]); exact inferInstance; exact inferInstance; exact inferInstance; exact zE; exact rfl; (first | exact (of_decide_eq_true rfl) | decide | (simp; done) | (simp; omega)); exact rfl)
 refine zS ?_;repeat(refine yA ?_;intro p hp;refine zS ?_)
 (apply wl_litF stC (xs := [⟨2, 1⟩]); exact inferInstance; exact inferInstance; exact inferInstance; exact zE; exact rfl; (first | exact (of_decide_eq_true rfl) | decide | (simp; done) | (simp; omega)); exact rfl)
 refine zS ?_;repeat(refine yA ?_;intro p hp;refine zS ?_)
 (apply wl_callP (TC'); exact rfl; exact yC; exact rfl)
 rintro _ _ ⟨rfl, rfl⟩
 refine zS ?_;repeat(refine yA ?_;intro p hp;refine zS ?_)
 (first | (apply wl_call (NC); exact rfl; exact rfl) | (apply wl_callR (NC); exact rfl; exact zM; exact rfl))
 refine zS ?_;repeat(refine yA ?_;intro p hp;refine zS ?_)
 (apply wl_litF iC (xs := [15, -15]); exact inferInstance; exact inferInstance; exact inferInstance; exact zE; exact rfl; (first | exact (of_decide_eq_true rfl) | decide | (simp; done) | (simp; omega)); exact rfl)
 refine zS ?_;repeat(refine yA ?_;intro p hp;refine zS ?_)
 (first | (apply wl_call (SC); exact rfl; exact rfl) | (apply wl_callR (SC); exact rfl; exact zM; exact rfl))
 refine zS ?_;repeat(refine yA ?_;intro p hp;refine zS ?_)
 (apply resK1; exact rfl; exact rfl; exact ⟨rfl, rfl⟩; exact yC)
theorem agreed_con (t : Tl) (h1 : t.st.length ≤ 1000) : Con Tryz.prog 54 [.agg (tC t)] [] (Is (.agg (tC (agr t))) []) := by
 refine con_of Tryz.func54 rfl (enters_of Tryz.func54 (by kernel_rfl) rfl) rfl ?_; intro n w0 F0 G0
 refine zS ?_;repeat(refine yA ?_;intro p hp;refine zS ?_)
 refine W_run 12 [3, 4, 5, 6, 7, 8, 9, 10, 11, 12, 13, 14] [0, 1, 2, 3, 5, 6, 7, 9, 10, 11] Cut.nil rfl goFlt mixedS (by kernel_rfl) rfl ?_
 refine rpv [] [] ?_
 refine rpv [0] [] ?_
 refine rpv [] [] ?_
 refine rpv [2] [] ?_
 refine Run.tok [] [] rfl (fun vs => by apply ltr_pk; exact goPk; (refine ltr ?_; apply lt_lit (f := iC); exact zE; exact rfl; (first | exact (of_decide_eq_true rfl) | decide | (simp; done) | (simp; omega)))) goApp ?_
 refine rpv [] [] ?_
 refine rpv [5] [] ?_
 refine Run.tok [4, 6] [4] rfl (fun vs => by apply ltr_pk; exact goPk; (refine ltr ?_; apply lt_append; exact rfl; exact rfl; (first | omega | (simp; omega)))) goApp ?_
 refine Run.tok [] [] rfl (fun vs => by apply ltr_pk; exact goPk; (refine ltr ?_; apply lt_lit (f := iC); exact zE; exact rfl; (first | exact (of_decide_eq_true rfl) | decide | (simp; done) | (simp; omega)))) goApp ?_
 refine rpv [] [] ?_
 refine rpv [9] [] ?_
 refine Run.tok [8, 10] [8] rfl (fun vs => by apply ltr_pk; exact goPk; (refine ltr ?_; apply lt_append; exact rfl; exact rfl; (first | omega | (simp; omega)))) goApp ?_
 refine ⟨⟨by kernel_rfl, by kernel_rfl⟩, fun vs => ?_⟩
 apply WL_auto [1, 3, 7, 11]
 ·exact goPk
 ·exact goNrm
 ·kernel_rfl
 ·kernel_rfl
 (apply WL_frz 10; exact rfl; exact zN)
 (apply WL_frz 14; exact rfl; exact zN)
 refine zS ?_
 (apply resN; exact rfl; exact rfl; exact zM; exact inferInstance; exact rfl; exact ⟨rfl, rfl⟩)
theorem sumW_btw {r : Rt} (hr : r.ok = true) : ∀ l : List Int, -(1000 * (l.length : Int)) ≤ sumW (rateW r) l ∧ sumW (rateW r) l ≤ 1000 * (l.length : Int)
 | [] => by simp [sumW]
 | x :: t => by
  have ih := sumW_btw hr t
  have hx := rateW_b hr x
  have e : sumW (rateW r) (x :: t) = rateW r x + sumW (rateW r) t := by unfold sumW; rw [List.map_cons, List.sum_cons]
  rw [e, List.length_cons]
  omega
theorem of_either {f : Flo} (hS : Sml f) (hf : floOk f = true) (hb : f.bs.length < 10) {n0 py q : Int} (hp : py ∈ f.ids) (hq : q ∈ f.ids) (h1 : 1 ≤ n0) (h2 : n0 ≤ 9999) (hn0 : ∀ y ∈ f.bs, y.no ≠ n0) {t : Tl} {r : Rt} (ht : (agr t).ok = true) (hr : r.ok = true) :
  (∃ y, ofTR f ⟨n0, py, 0, [⟨q, 1⟩]⟩ (agr t) r = (y, 0) ∧ 1 ≤ sumW (rateW r) t.st ∧ sumW (rateW r) t.st ≤ 1000000) ∨ (ofTR f ⟨n0, py, 0, [⟨q, 1⟩]⟩ (agr t) r = (floE, 8) ∧ ¬ (1 ≤ sumW (rateW r) t.st ∧ sumW (rateW r) t.st ≤ 1000000)) := by
 unfold ofTR
 rw [if_pos hf, owed_agr ht hr]
 dsimp only
 rw [if_pos rfl]
 generalize sumW (rateW r) t.st = s
 have hq0 : 0 < q := by have := rises_all (rises_of_ok hf) q hq; omega
 by_cases h : 1 ≤ s ∧ s ≤ 1000000
 ·left
  have hbo : bilOk f.ids ⟨n0, py, s, [⟨q, 1⟩]⟩ = true := by
   unfold bilOk
   simp [hp, h.1, h.2, stksOk, hq0, hq]
  obtain ⟨y, N⟩ := new_bill hS hf hb hbo (by simp) (by dsimp only; omega) (by dsimp only; omega) hn0
  refine ⟨y, ?_, h⟩
  rw [if_pos ⟨rfl, h⟩]
  exact N.add
 ·right
  rw [if_neg fun q => h q.2]
  exact ⟨rfl, h⟩
theorem of_good {f y : Flo} (hf : floOk f = true) {n0 py q : Int} {t : Tl} {r : Rt} (ht : (agr t).ok = true) (hr : r.ok = true) (h1 : 1 ≤ sumW (rateW r) t.st) (h2 : sumW (rateW r) t.st ≤ 1000000) (hN : addR f ⟨n0, py, sumW (rateW r) t.st, [⟨q, 1⟩]⟩ = (y, 0)) : ofTR f ⟨n0, py, 0, [⟨q, 1⟩]⟩ (agr t) r = (y, 0) := by
 unfold ofTR
 rw [if_pos hf, owed_agr ht hr]
 dsimp only
 rw [if_pos rfl, if_pos ⟨rfl, h1, h2⟩]
 exact hN
theorem topJoined_con (f : Flo) (a b : Tl) (r : Rt) (payer bearer : Int) (hpy : 0 ≤ payer ∧ payer ≤ 255) (hbe : 0 ≤ bearer ∧ bearer ≤ 255) : Con Tryz.prog 13 [.agg (flC f), .agg (tC a), .agg (tC b), .agg (rC r), .val (.int .u8 payer), .val (.int .u8 bearer)] [tab8, HA.tab] (Is (.val (.bool true)) []) := by
 have c1 := fun w => run_conv8 (P := Tryz.prog) Tryz.underlying5 Tryz.underlying3 hpy w
 have c2 := fun w => run_conv8 (P := Tryz.prog) Tryz.underlying5 Tryz.underlying3 hbe w
 refine con_of Tryz.func13 rfl (enters_of Tryz.func13 (by kernel_rfl) rfl) rfl ?_; intro n w0 F0 G0
 refine zS ?_;repeat(refine yA ?_;intro p hp;refine zS ?_)
 (apply wl_callP (joined_con); exact rfl; exact yC; exact rfl)
 rintro _ _ ⟨rfl, rfl⟩
 refine zS ?_;repeat(refine yA ?_;intro p hp;refine zS ?_)
 (first | (apply wl_call (great8_con f); exact rfl; exact rfl) | (apply wl_callR (great8_con f); exact rfl; exact zM; exact rfl))
 refine zS ?_;repeat(refine yA ?_;intro p hp;refine zS ?_)
 cases hgf : greatF f with
 | true =>
  refine zS ?_;repeat(refine yA ?_;intro p hp;refine zS ?_)
  (apply res1; exact rfl; exact rfl; exact ⟨rfl, rfl⟩)
 | false =>
  have hS := sml_small hgf
  refine zS ?_;repeat(refine yA ?_;intro p hp;refine zS ?_)
  (first | (apply wl_call (floors_con f hS); exact rfl; exact rfl) | (apply wl_callR (floors_con f hS); exact rfl; exact zM; exact rfl))
  refine zS ?_;repeat(refine yA ?_;intro p hp;refine zS ?_)
  cases hok : floOk f with
  | false =>
   refine zS ?_;repeat(refine yA ?_;intro p hp;refine zS ?_)
   (apply res1; exact rfl; exact rfl; exact ⟨rfl, rfl⟩)
  | true =>
   have hF := flo_f hok
   have hr := rises_of_ok hok
   have hidl := hF.ids
   have hbl := hF.bs
   refine zS ?_;repeat(refine yA ?_;intro p hp;refine zS ?_)
   refine wl_part rfl rfl (fun hn0 => ?_) (fun hn0 => ?_)
   ·refine zS ?_;repeat(refine yA ?_;intro p hp;refine zS ?_)
    (apply res1; exact rfl; exact rfl; exact ⟨rfl, rfl⟩)
   ·have hn0' : f.ids.length ≠ 0 := by simpa using hn0
    refine zS ?_;repeat(refine yA ?_;intro p hp;refine zS ?_)
    refine wl_part rfl rfl (fun hb10 => ?_) (fun hb10 => ?_)
    ·refine zS ?_;repeat(refine yA ?_;intro p hp;refine zS ?_)
     (apply res1; exact rfl; exact rfl; exact ⟨rfl, rfl⟩)
    ·have hb10' : f.bs.length + 2 ≤ 10 := by have := of_decide_eq_false hb10; omega
     refine zS ?_;repeat(refine yA ?_;intro p hp;refine zS ?_)
     (first | (apply wl_call (great_con a); exact rfl; exact rfl) | (apply wl_callR (great_con a); exact rfl; exact zM; exact rfl))
     refine zS ?_;repeat(refine yA ?_;intro p hp;refine zS ?_)
     refine wl_part rfl rfl (fun hga => ?_) (fun hga => ?_)
     ·refine zS ?_;repeat(refine yA ?_;intro p hp;refine zS ?_)
      (apply res1; exact rfl; exact rfl; exact ⟨rfl, rfl⟩)
     ·have ha1 : a.st.length ≤ 1000 := by simp at hga; omega
      have ha2 : a.fo.length ≤ 1000 := by simp at hga; omega
      refine zS ?_;repeat(refine yA ?_;intro p hp;refine zS ?_)
      (first | (apply wl_call (tally_con a ha1 ha2); exact rfl; exact rfl) | (apply wl_callR (tally_con a ha1 ha2); exact rfl; exact zM; exact rfl))
      refine zS ?_;repeat(refine yA ?_;intro p hp;refine zS ?_)
      cases hta : okT a.id a.hs a.st a.fo with
      | false =>
       refine zS ?_;repeat(refine yA ?_;intro p hp;refine zS ?_)
       (apply res1; exact rfl; exact rfl; exact ⟨rfl, rfl⟩)
      | true =>
       refine zS ?_;repeat(refine yA ?_;intro p hp;refine zS ?_)
       (first | (apply wl_call (great_con b); exact rfl; exact rfl) | (apply wl_callR (great_con b); exact rfl; exact zM; exact rfl))
       refine zS ?_;repeat(refine yA ?_;intro p hp;refine zS ?_)
       refine wl_part rfl rfl (fun hgb => ?_) (fun hgb => ?_)
       ·refine zS ?_;repeat(refine yA ?_;intro p hp;refine zS ?_)
        (apply res1; exact rfl; exact rfl; exact ⟨rfl, rfl⟩)
       ·have hb1 : b.st.length ≤ 1000 := by simp at hgb; omega
        have hb2 : b.fo.length ≤ 1000 := by simp at hgb; omega
        refine zS ?_;repeat(refine yA ?_;intro p hp;refine zS ?_)
        (first | (apply wl_call (tally_con b hb1 hb2); exact rfl; exact rfl) | (apply wl_callR (tally_con b hb1 hb2); exact rfl; exact zM; exact rfl))
        refine zS ?_;repeat(refine yA ?_;intro p hp;refine zS ?_)
        cases htb : okT b.id b.hs b.st b.fo with
        | false =>
         refine zS ?_;repeat(refine yA ?_;intro p hp;refine zS ?_)
         (apply res1; exact rfl; exact rfl; exact ⟨rfl, rfl⟩)
        | true =>
         refine zS ?_;repeat(refine yA ?_;intro p hp;refine zS ?_)
         (first | (apply wl_call (refRates_con r); exact rfl; exact rfl) | (apply wl_callR (refRates_con r); exact rfl; exact zM; exact rfl))
         refine zS ?_;repeat(refine yA ?_;intro p hp;refine zS ?_)
         cases hrr : r.ok with
         | false =>
          refine zS ?_;repeat(refine yA ?_;intro p hp;refine zS ?_)
          (apply res1; exact rfl; exact rfl; exact ⟨rfl, rfl⟩)
         | true =>
          have JC := join_con (agr a) (agr b) ⟨by show a.st.length ≤ 4000; omega, by show a.st.length ≤ 4000; omega⟩ ⟨by show b.st.length ≤ 4000; omega, by show b.st.length ≤ 4000; omega⟩
          have hla := (okT_f hta).2.1
          have hlb := (okT_f htb).2.1
          have hoa := agr_ok hta
          have hob := agr_ok htb
          refine zS ?_;repeat(refine yA ?_;intro p hp;refine zS ?_)
          refine W_run 6 [96, 97, 98, 99, 14, 15] [0, 1, 2, 3, 4, 5] Cut.nil rfl goFlt mixedS (by kernel_rfl) rfl ?_
          refine rpv [] [] ?_
          refine Run.pv [0] [] rfl (fun vs => by apply ltr_pk; exact goPk; (refine ltr ?_; refine lt_call ?_ ((agreed_con a ha1)); exact rfl)) goApp ?_
          refine rpv [] [] ?_
          refine Run.pv [2] [] rfl (fun vs => by apply ltr_pk; exact goPk; (refine ltr ?_; refine lt_call ?_ ((agreed_con b hb1)); exact rfl)) goApp ?_
          refine Run.tok [] [] rfl (fun vs => by apply ltr_pk; exact goPk; exact goLtr) goApp ?_
          refine Run.tok [] [] rfl (fun vs => by apply ltr_pk; exact goPk; exact goLtr) goApp ?_
          refine ⟨⟨by kernel_rfl, by kernel_rfl⟩, fun vs => ?_⟩
          apply WL_auto [1, 3, 4, 5]
          ·exact goPk
          ·exact goNrm
          ·kernel_rfl
          ·kernel_rfl
          refine zS ?_;repeat(refine yA ?_;intro p hp;refine zS ?_)
          generalize vs 4 = pa
          generalize vs 5 = pb
          rcases joined_cases hta htb with ⟨hj, hjo⟩ | ⟨hj, hjl⟩
          ·rw [hj] at JC
           dsimp only at JC
           have OX := owed_con (agr a) r (by show a.st.length ≤ 1000; omega) (by show a.st.length ≤ 1000; omega)
           have OY := owed_con (agr b) r (by show b.st.length ≤ 1000; omega) (by show b.st.length ≤ 1000; omega)
           have hlj := (okT_f hjo).2.1
           have OJ := owed_con (agr (a.cat b)) r (by omega) (by have := (okT_f hjo).2.2.1; omega)
           have FC := false_con (agr (a.cat b)) (by omega) (by have := (okT_f hjo).2.2.1; omega)
           rw [owed_agr hoa hrr] at OX
           rw [owed_agr hob hrr] at OY
           rw [owed_agr hjo hrr] at OJ
           rw [false_agr hjo] at FC
           have hcat : sumW (rateW r) (a.cat b).st = sumW (rateW r) a.st + sumW (rateW r) b.st := sumW_app _ _ _
           have bs1 := sumW_btw hrr a.st
           have bt1 := sumW_btw hrr b.st
           have hfr := numF_free2 (flo_bs hok) (n := 1)
           have hfr2 := numF_free2 (flo_bs hok) (n := numF f.bs 1 + 1)
           obtain ⟨i, hi, hin⟩ : ∃ i : Nat, payer % (f.ids.length : Int) = i ∧ i < f.ids.length := by
            have a := Int.emod_nonneg payer (show (f.ids.length : Int) ≠ 0 by omega)
            have b := Int.emod_lt_of_pos payer (show 0 < (f.ids.length : Int) by omega)
            exact ⟨(payer % (f.ids.length : Int)).toNat, by omega, by omega⟩
           obtain ⟨j, hj2, hjn⟩ : ∃ j : Nat, bearer % (f.ids.length : Int) = j ∧ j < f.ids.length := by
            have a := Int.emod_nonneg bearer (show (f.ids.length : Int) ≠ 0 by omega)
            have b := Int.emod_lt_of_pos bearer (show 0 < (f.ids.length : Int) by omega)
            exact ⟨(bearer % (f.ids.length : Int)).toNat, by omega, by omega⟩
           have hpm : f.ids[i] ∈ f.ids := List.getElem_mem hin
           have hqm : f.ids[j] ∈ f.ids := List.getElem_mem hjn
           have qi : f.ids[i]? = some f.ids[i] := List.getElem?_eq_getElem hin
           have qj : f.ids[j]? = some f.ids[j] := List.getElem?_eq_getElem hjn
           have E1 := of_either hS hok (n0 := numF f.bs 1) (by omega) hpm hqm (by omega) (by omega) hfr.1 hjo hrr
           have E2 := of_either hS hok (n0 := numF f.bs 1) (by omega) hpm hqm (by omega) (by omega) hfr.1 hoa hrr
           have TB := fun h1 h2 h3 => two_bills hS hok hb10' hpm hqm (by omega : 1 ≤ numF f.bs 1) (by omega) (by omega : numF f.bs 1 < numF f.bs (numF f.bs 1 + 1)) (by omega) hfr.1 hfr2.1 (s := sumW (rateW r) a.st) (t := sumW (rateW r) b.st) h1 h2 h3
           have GU := fun y => of_good (f := f) (y := y) hok (n0 := numF f.bs 1) (py := f.ids[i]) (q := f.ids[j]) hjo hrr
           have GS := fun y => of_good (f := f) (y := y) hok (n0 := numF f.bs 1) (py := f.ids[i]) (q := f.ids[j]) hoa hrr
           have GT := fun (y1 y : Flo) (h1 : floOk y1 = true) => of_good (f := y1) (y := y) h1 (n0 := numF f.bs (numF f.bs 1 + 1)) (py := f.ids[i]) (q := f.ids[j]) hob hrr
           rw [hcat] at OJ E1 GU
           unfold seA at OX OY OJ
           have CU := flP2_frz (ofTally_con f ⟨numF f.bs 1, f.ids[i], 0, [⟨f.ids[j], 1⟩]⟩ (agr (a.cat b)) r hS (by simp) (by omega) (by have := (okT_f hjo).2.2.1; omega))
           have CS := flP2_frz (ofTally_con f ⟨numF f.bs 1, f.ids[i], 0, [⟨f.ids[j], 1⟩]⟩ (agr a) r hS (by simp) (by show a.st.length ≤ 1000; omega) (by show a.st.length ≤ 1000; omega))
           have CT := fun (y1 : Flo) (h1 : Sml y1) => flP2_frz (ofTally_con y1 ⟨numF f.bs (numF f.bs 1 + 1), f.ids[i], 0, [⟨f.ids[j], 1⟩]⟩ (agr b) r h1 (by simp) (by show b.st.length ≤ 1000; omega) (by show b.st.length ≤ 1000; omega))
           generalize hs : sumW (rateW r) a.st = s at OX OJ E1 E2 TB GU GS bs1
           generalize ht : sumW (rateW r) b.st = t at OY OJ E1 TB GU GT bt1
           dsimp only at OX OY OJ FC
           have z1 : (!decide (s = s)) = false := by simp
           have z2 : (!decide (t = t)) = false := by simp
           have z3 : (!decide (([s + t, s + t] : List Int) = [s + t, s + t])) = false := by simp
           (first | (apply wl_call (JC); exact rfl; exact rfl) | (apply wl_callR (JC); exact rfl; exact zM; exact rfl))
           refine zS ?_;repeat(refine yA ?_;intro p hp;refine zS ?_)
           (first | (apply wl_call (OX); exact rfl; exact rfl) | (apply wl_callR (OX); exact rfl; exact zM; exact rfl))
           refine zS ?_;repeat(refine yA ?_;intro p hp;refine zS ?_)
           (first | (apply wl_call (OY); exact rfl; exact rfl) | (apply wl_callR (OY); exact rfl; exact zM; exact rfl))
           refine zS ?_;repeat(refine yA ?_;intro p hp;refine zS ?_)
           (first | (apply wl_call (OJ); exact rfl; exact rfl) | (apply wl_callR (OJ); exact rfl; exact zM; exact rfl))
           refine zS ?_;repeat(refine yA ?_;intro p hp;refine zS ?_)
           (first | (apply wl_call (FC); exact rfl; exact rfl) | (apply wl_callR (FC); exact rfl; exact zM; exact rfl))
           refine zS ?_;repeat(refine yA ?_;intro p hp;refine zS ?_)
           rw [z1]
           refine zS ?_;repeat(refine yA ?_;intro p hp;refine zS ?_)
           rw [z2]
           refine zS ?_;repeat(refine yA ?_;intro p hp;refine zS ?_)
           rw [z3]
           refine zS ?_;repeat(refine yA ?_;intro p hp;refine zS ?_)
           rename_i pf hpf pa0 hpa0 pb0 hpb0 p9 hp9 pj hpj ps hps pt hpt
           refine W_loopJ (fun (z : Nat × Int) => ⟨[(4, .val (.int .u8 payer)), (5, .val (.int .u8 bearer)), (6, .val pf), (9, .val p9), (13, .val (.bool true)), (14, .val pa), (15, .val pb), (16, .val pj), (18, .val ps), (20, .val pt), (22, .val p), (26, .val (.int .i64 z.2)), (194, .sl 4 biC f.bs), (195, .val (.int .i64 f.bs.length)), (196, .val (.int .i64 z.1))], [.box p (pC (s + t, s + t)) 73, .box pt (pC (t, t)) 73, .box ps (pC (s, s)) 73, .box pj (tC (agr (a.cat b))) 67, .box pa (tC (agr a)) 67, .box pb (tC (agr b)) 67, .box p9 (rC r) 69, .box pf (flC f) 27, tab8, HA.tab]⟩) (fun z => z.1 ≤ f.bs.length ∧ numF (f.bs.drop z.1) z.2 = numF f.bs 1 ∧ 1 ≤ z.2 ∧ z.2 ≤ 1 + (z.1 : Int)) (fun z => f.bs.length - z.1) (0, 1) (fun _ _ st => st_sub2 st zR zP) ⟨Nat.zero_le _, rfl, Int.le_refl _, by simp⟩ ?_
           rintro ⟨k, m⟩ ⟨hk, hfold, hm1, hm2⟩
           dsimp only at hk hfold hm1 hm2 ⊢
           refine zS ?_;repeat(refine yA ?_;intro p hp;refine zS ?_)
           refine w_cond rfl (fun hlt => ?_) (fun hlt => ?_)
           ·have hk' : k < f.bs.length := by simpa using hlt
            have hq : f.bs[k]? = some f.bs[k] := List.getElem?_eq_getElem hk'
            rw [drop_step hk', numF] at hfold
            refine zS ?_;repeat(refine yA ?_;intro p hp;refine zS ?_)
            generalize f.bs[k] = y at hq hfold ⊢
            refine w_cond rfl (fun hy => ?_) (fun hy => ?_)
            ·have hy' : y.no = m := by simpa using hy
             rw [if_pos hy'] at hfold
             refine zS ?_;repeat(refine yA ?_;intro p hp;refine zS ?_)
             (refine ⟨(k + 1, m + 1), fun _ _ st => st_sub2 st ?_ ?_, ?_, ?_⟩; exact zR; exact zP)
             ·exact ⟨hk', hfold, by dsimp only; omega, by dsimp only; omega⟩
             ·dsimp only; omega
            ·have hy' : ¬ y.no = m := by simpa using hy
             rw [if_neg hy'] at hfold
             refine zS ?_;repeat(refine yA ?_;intro p hp;refine zS ?_)
             (refine ⟨(k + 1, m), fun _ _ st => st_sub2 st ?_ ?_, ?_, ?_⟩; exact zR; exact zP)
             ·exact ⟨hk', hfold, by dsimp only; omega, by dsimp only; omega⟩
             ·dsimp only; omega
           ·have hkk : k = f.bs.length := by simp at hlt; omega
            subst hkk
            rw [List.drop_length, numF] at hfold
            subst hfold
            clear hk hlt hm1 hm2
            generalize hno : numF f.bs 1 = no at hfr hfr2 E1 E2 TB GU GS GT CU CS CT ⊢
            refine zS ?_;repeat(refine yA ?_;intro p hp;refine zS ?_)
            refine W_loopJ (fun (z : Nat × Int) => ⟨[(4, .val (.int .u8 payer)), (5, .val (.int .u8 bearer)), (6, .val pf), (9, .val p9), (13, .val (.bool true)), (14, .val pa), (15, .val pb), (16, .val pj), (18, .val ps), (20, .val pt), (22, .val p), (26, .val (.int .i64 no)), (29, .val (.int .i64 z.2)), (210, .sl 4 biC f.bs), (211, .val (.int .i64 f.bs.length)), (212, .val (.int .i64 z.1))], [.box p (pC (s + t, s + t)) 73, .box pt (pC (t, t)) 73, .box ps (pC (s, s)) 73, .box pj (tC (agr (a.cat b))) 67, .box pa (tC (agr a)) 67, .box pb (tC (agr b)) 67, .box p9 (rC r) 69, .box pf (flC f) 27, tab8, HA.tab]⟩) (fun z => z.1 ≤ f.bs.length ∧ numF (f.bs.drop z.1) z.2 = numF f.bs (no + 1) ∧ (no + 1) ≤ z.2 ∧ z.2 ≤ (no + 1) + (z.1 : Int)) (fun z => f.bs.length - z.1) (0, (no + 1)) (fun _ _ st => st_sub2 st zR zP) ⟨Nat.zero_le _, rfl, Int.le_refl _, by simp⟩ ?_
            rintro ⟨k, m⟩ ⟨hk, hfold, hm1, hm2⟩
            dsimp only at hk hfold hm1 hm2 ⊢
            refine zS ?_;repeat(refine yA ?_;intro p hp;refine zS ?_)
            refine w_cond rfl (fun hlt => ?_) (fun hlt => ?_)
            ·have hk' : k < f.bs.length := by simpa using hlt
             have hq : f.bs[k]? = some f.bs[k] := List.getElem?_eq_getElem hk'
             rw [drop_step hk', numF] at hfold
             refine zS ?_;repeat(refine yA ?_;intro p hp;refine zS ?_)
             generalize f.bs[k] = y at hq hfold ⊢
             refine w_cond rfl (fun hy => ?_) (fun hy => ?_)
             ·have hy' : y.no = m := by simpa using hy
              rw [if_pos hy'] at hfold
              refine zS ?_;repeat(refine yA ?_;intro p hp;refine zS ?_)
              (refine ⟨(k + 1, m + 1), fun _ _ st => st_sub2 st ?_ ?_, ?_, ?_⟩; exact zR; exact zP)
              ·exact ⟨hk', hfold, by dsimp only; omega, by dsimp only; omega⟩
              ·dsimp only; omega
             ·have hy' : ¬ y.no = m := by simpa using hy
              rw [if_neg hy'] at hfold
              refine zS ?_;repeat(refine yA ?_;intro p hp;refine zS ?_)
              (refine ⟨(k + 1, m), fun _ _ st => st_sub2 st ?_ ?_, ?_, ?_⟩; exact zR; exact zP)
              ·exact ⟨hk', hfold, by dsimp only; omega, by dsimp only; omega⟩
              ·dsimp only; omega
            ·have hkk : k = f.bs.length := by simp at hlt; omega
             subst hkk
             rw [List.drop_length, numF] at hfold
             subst hfold
             clear hk hlt hm1 hm2
             generalize hnx : numF f.bs (no + 1) = nx at hfr2 TB GT CT ⊢
             generalize f.ids[i] = py at *
             generalize f.ids[j] = q at *
             refine zS ?_;repeat(refine yA ?_;intro p hp;refine zS ?_)
             refine W_run 25 [223, 224, 225, 226, 227, 228, 229, 230, 231, 232, 233, 234, 235, 236, 237, 238, 239, 240, 241, 242, 243, 244, 245, 246, 32] [0, 1, 2, 3, 4, 5, 6, 7, 8, 9, 10, 11, 12, 13, 14, 15, 16, 17, 18, 19, 20, 21, 22, 23, 24] Cut.nil rfl goFlt mixedS (by kernel_rfl) rfl ?_
             refine rpv [] [] ?_
             refine rpv [] [] ?_
             refine rpv [1] [] ?_
             refine rpv [] [] ?_
             refine Run.pv [3] [] rfl (fun vs => by apply ltr_pk; exact goPk; (refine ltr ?_; apply lt_convC (v := .int .i64 payer); exact rfl; exact c1)) goApp ?_
             refine rpv [] [] ?_
             refine rpv [5] [] ?_
             refine rpv [6] [] ?_
             refine Run.pv [4, 7] [] rfl (fun vs => by apply ltr_pk; exact goPk; (refine ltr ?_; apply LT_int (i : Int); apply lt_rem; exact rfl; exact rfl; omega; omega; omega; exact hi)) goApp ?_
             refine rpv [2, 8] [] ?_
             refine rpv [9] [] ?_
             refine rpv [] [] ?_
             refine rpv [11] [] ?_
             refine rpv [] [] ?_
             refine Run.pv [13] [] rfl (fun vs => by apply ltr_pk; exact goPk; (refine ltr ?_; apply lt_convC (v := .int .i64 bearer); exact rfl; exact c2)) goApp ?_
             refine rpv [] [] ?_
             refine rpv [15] [] ?_
             refine rpv [16] [] ?_
             refine Run.pv [14, 17] [] rfl (fun vs => by apply ltr_pk; exact goPk; (refine ltr ?_; apply LT_int (j : Int); apply lt_rem; exact rfl; exact rfl; omega; omega; omega; exact hj2)) goApp ?_
             refine rpv [12, 18] [] ?_
             refine rpv [19] [] ?_
             refine rpv [20] [] ?_
             refine Run.pv [21] [] rfl (fun vs => by apply ltr_pk; exact goPk; (refine ltr ?_; apply LT_frz; apply lt_lit (f := stC) (xs := [⟨q, 1⟩]); exact zE; exact rfl; (first | exact (of_decide_eq_true rfl) | decide | (simp; done) | (simp; omega)))) goApp ?_
             refine rpv [0, 10, 22] [] ?_
             refine Run.tok [] [] rfl (fun vs => by apply ltr_pk; exact goPk; exact goLtr) goApp ?_
             refine ⟨⟨by kernel_rfl, by kernel_rfl⟩, fun vs => ?_⟩
             apply WL_auto [23, 24]
             ·exact goPk
             ·exact goNrm
             ·kernel_rfl
             ·kernel_rfl
             refine zS ?_;repeat(refine yA ?_;intro p hp;refine zS ?_)
             generalize vs 24 = pbl
             refine zS ?_;repeat(refine yA ?_;intro p hp;refine zS ?_)
             refine WL_as 249 (.agg (biC ⟨no, py, 0, [⟨q, 1⟩]⟩)) rfl ?_
             by_cases hbig : 1 ≤ s ∧ 1 ≤ t ∧ s + t ≤ 1000000
             ·obtain ⟨g1, g2, g3⟩ := hbig
              obtain ⟨y1, yu, y2, hT⟩ := TB g1 g2 g3
              rw [GU yu (by omega) g3 hT.both.add] at CU
              rw [GS y1 g1 (by omega) hT.first.add] at CS
              have CT := CT y1 hT.first.sml
              rw [GT y1 y2 hT.first.ok g2 (by omega) hT.two.add] at CT
              have NU := Net_con yu hT.both.sml
              rw [hT.both.net, hT.owed] at NU
              have N2 := Net_con y2 hT.two.sml
              rw [hT.two.net] at N2
              have SU := Settle_con yu hT.both.sml (lsB2 hT.both.sml)
              rw [hT.list] at SU
              have S2 := Settle_con y2 hT.two.sml (lsB2 hT.two.sml)
              have l2 := owed8_len y2
              have l3 := hT.two.sml.ids
              have l4 := stlN_len hT.two.sml
              dsimp only at CU CS CT NU N2
              generalize owed8 y2 = ow at NU N2 l2
              generalize stlN y2 = sl at SU S2 l4
              obtain ⟨sl, se⟩ := sl
              dsimp only at SU S2 l4
              clear TB GU GS GT E1 E2
              (apply wl_callP (CU); exact rfl; exact yC; exact rfl)
              rintro _ _ ⟨rfl, rfl⟩
              refine zS ?_;repeat(refine yA ?_;intro p hp;refine zS ?_)
              refine WL_as 257 (.agg (biC ⟨no, py, 0, [⟨q, 1⟩]⟩)) rfl ?_
              (apply wl_callP (CS); exact rfl; exact yC; exact rfl)
              rintro _ _ ⟨rfl, rfl⟩
              refine zS ?_;repeat(refine yA ?_;intro p hp;refine zS ?_)
              rw [show decide (s < 1) = false from decide_eq_false (by omega)]
              refine zS ?_;repeat(refine yA ?_;intro p hp;refine zS ?_)
              rw [show decide (t < 1) = false from decide_eq_false (by omega)]
              refine zS ?_;repeat(refine yA ?_;intro p hp;refine zS ?_)
              rw [show decide (1000000 < s + t) = false from decide_eq_false (by omega)]
              refine zS ?_;repeat(refine yA ?_;intro p hp;refine zS ?_)
              refine WL_as 302 (.agg (biC ⟨nx, py, 0, [⟨q, 1⟩]⟩)) rfl ?_
              (apply wl_callP (CT); exact rfl; exact yC; exact rfl)
              rintro _ _ ⟨rfl, rfl⟩
              refine zS ?_;repeat(refine yA ?_;intro p hp;refine zS ?_)
              (first | (apply wl_call (NU); exact rfl; exact rfl) | (apply wl_callR (NU); exact rfl; exact zM; exact rfl))
              refine zS ?_;repeat(refine yA ?_;intro p hp;refine zS ?_)
              (first | (apply wl_call (N2); exact rfl; exact rfl) | (apply wl_callR (N2); exact rfl; exact zM; exact rfl))
              refine zS ?_;repeat(refine yA ?_;intro p hp;refine zS ?_)
              (first | (apply wl_call (SU); exact rfl; exact rfl) | (apply wl_callR (SU); exact rfl; exact zM; exact rfl))
              refine zS ?_;repeat(refine yA ?_;intro p hp;refine zS ?_)
              (first | (apply wl_call (S2); exact rfl; exact rfl) | (apply wl_callR (S2); exact rfl; exact zM; exact rfl))
              refine zS ?_;repeat(refine yA ?_;intro p hp;refine zS ?_)
              (first | (apply wl_call (sameInts8_con ow ow (by omega) (by omega)); exact rfl; exact rfl) | (apply wl_callR (sameInts8_con ow ow (by omega) (by omega)); exact rfl; exact zM; exact rfl))
              rw [show decide (ow = ow) = true by simp]
              refine zS ?_;repeat(refine yA ?_;intro p hp;refine zS ?_)
              rw [show decide (se = se) = true by simp]
              refine zS ?_;repeat(refine yA ?_;intro p hp;refine zS ?_)
              (first | (apply wl_call (samePays_con sl sl (by omega) (by omega)); exact rfl; exact rfl) | (apply wl_callR (samePays_con sl sl (by omega) (by omega)); exact rfl; exact zM; exact rfl))
              rw [show decide (sl = sl) = true by simp]
              refine zS ?_;repeat(refine yA ?_;intro p hp;refine zS ?_)
              (apply res1; exact rfl; exact rfl; exact ⟨rfl, rfl⟩)
             ·clear TB GU GS GT CT
              rcases E1 with ⟨yu0, e1, _, _⟩ | ⟨e1, _⟩ <;> rcases E2 with ⟨ys0, e2, k1, k2⟩ | ⟨e2, k1⟩ <;> rw [e1] at CU <;> rw [e2] at CS <;> dsimp only at CU CS
              ·(apply wl_callP (CU); exact rfl; exact yC; exact rfl)
               rintro _ _ ⟨rfl, rfl⟩
               refine zS ?_;repeat(refine yA ?_;intro p hp;refine zS ?_)
               refine WL_as 257 (.agg (biC ⟨no, py, 0, [⟨q, 1⟩]⟩)) rfl ?_
               (apply wl_callP (CS); exact rfl; exact yC; exact rfl)
               rintro _ _ ⟨rfl, rfl⟩
               refine zS ?_;repeat(refine yA ?_;intro p hp;refine zS ?_)
               refine wl_part rfl rfl (fun h1 => ?_) (fun h1 => ?_)
               ·((refine zS ?_; (repeat (refine yA ?_; intro p hp; refine zS ?_))); rw [show decide (1 ≤ s) = true from decide_eq_true (by omega)]; (refine zS ?_; (repeat (refine yA ?_; intro p hp; refine zS ?_))); rw [show decide (s ≤ 1000000) = true from decide_eq_true (by omega)]; (try (apply wl_yes; exact rfl; exact rfl; exact rfl)); refine wl_ex (lt_eqlB Tryz.underlying4 rfl rfl) rfl ?_; (refine zS ?_; (repeat (refine yA ?_; intro p hp; refine zS ?_))); (apply res1; exact rfl; exact rfl; exact ⟨rfl, rfl⟩))
               ·have h1' : ¬ s < 1 := of_decide_eq_false h1
                refine zS ?_;repeat(refine yA ?_;intro p hp;refine zS ?_)
                refine wl_part rfl rfl (fun h2 => ?_) (fun h2 => ?_)
                ·((refine zS ?_; (repeat (refine yA ?_; intro p hp; refine zS ?_))); rw [show decide (1 ≤ s) = true from decide_eq_true (by omega)]; (refine zS ?_; (repeat (refine yA ?_; intro p hp; refine zS ?_))); rw [show decide (s ≤ 1000000) = true from decide_eq_true (by omega)]; (try (apply wl_yes; exact rfl; exact rfl; exact rfl)); refine wl_ex (lt_eqlB Tryz.underlying4 rfl rfl) rfl ?_; (refine zS ?_; (repeat (refine yA ?_; intro p hp; refine zS ?_))); (apply res1; exact rfl; exact rfl; exact ⟨rfl, rfl⟩))
                ·have h2' : ¬ t < 1 := of_decide_eq_false h2
                 refine zS ?_;repeat(refine yA ?_;intro p hp;refine zS ?_)
                 refine w_cond rfl (fun h3 => ?_) (fun h3 => ?_)
                 ·((refine zS ?_; (repeat (refine yA ?_; intro p hp; refine zS ?_))); rw [show decide (1 ≤ s) = true from decide_eq_true (by omega)]; (refine zS ?_; (repeat (refine yA ?_; intro p hp; refine zS ?_))); rw [show decide (s ≤ 1000000) = true from decide_eq_true (by omega)]; (try (apply wl_yes; exact rfl; exact rfl; exact rfl)); refine wl_ex (lt_eqlB Tryz.underlying4 rfl rfl) rfl ?_; (refine zS ?_; (repeat (refine yA ?_; intro p hp; refine zS ?_))); (apply res1; exact rfl; exact rfl; exact ⟨rfl, rfl⟩))
                 ·exact absurd ⟨by omega, by omega, by have := of_decide_eq_false h3; omega⟩ hbig
              ·(apply wl_callP (CU); exact rfl; exact yC; exact rfl)
               rintro _ _ ⟨rfl, rfl⟩
               refine zS ?_;repeat(refine yA ?_;intro p hp;refine zS ?_)
               refine WL_as 257 (.agg (biC ⟨no, py, 0, [⟨q, 1⟩]⟩)) rfl ?_
               (apply wl_callP (CS); exact rfl; exact yC; exact rfl)
               rintro _ _ ⟨rfl, rfl⟩
               refine zS ?_;repeat(refine yA ?_;intro p hp;refine zS ?_)
               refine wl_part rfl rfl (fun h1 => ?_) (fun h1 => ?_)
               ·((refine zS ?_; (repeat (refine yA ?_; intro p hp; refine zS ?_))); rcases Int.lt_or_le s 1 with q1 | q1; (rw [show decide (1 ≤ s) = false from decide_eq_false (by omega)]; (refine zS ?_; (repeat (refine yA ?_; intro p hp; refine zS ?_))); (try (apply wl_yes; exact rfl; exact rfl; exact rfl)); refine wl_ex (lt_eqlB Tryz.underlying4 rfl rfl) rfl ?_; (refine zS ?_; (repeat (refine yA ?_; intro p hp; refine zS ?_))); (apply res1; exact rfl; exact rfl; exact ⟨rfl, rfl⟩)); (rw [show decide (1 ≤ s) = true from decide_eq_true (by omega)]; (refine zS ?_; (repeat (refine yA ?_; intro p hp; refine zS ?_))); rw [show decide (s ≤ 1000000) = false from decide_eq_false (by omega)]; (try (apply wl_yes; exact rfl; exact rfl; exact rfl)); refine wl_ex (lt_eqlB Tryz.underlying4 rfl rfl) rfl ?_; (refine zS ?_; (repeat (refine yA ?_; intro p hp; refine zS ?_))); (apply res1; exact rfl; exact rfl; exact ⟨rfl, rfl⟩)))
               ·have h1' : ¬ s < 1 := of_decide_eq_false h1
                refine zS ?_;repeat(refine yA ?_;intro p hp;refine zS ?_)
                refine wl_part rfl rfl (fun h2 => ?_) (fun h2 => ?_)
                ·((refine zS ?_; (repeat (refine yA ?_; intro p hp; refine zS ?_))); rcases Int.lt_or_le s 1 with q1 | q1; (rw [show decide (1 ≤ s) = false from decide_eq_false (by omega)]; (refine zS ?_; (repeat (refine yA ?_; intro p hp; refine zS ?_))); (try (apply wl_yes; exact rfl; exact rfl; exact rfl)); refine wl_ex (lt_eqlB Tryz.underlying4 rfl rfl) rfl ?_; (refine zS ?_; (repeat (refine yA ?_; intro p hp; refine zS ?_))); (apply res1; exact rfl; exact rfl; exact ⟨rfl, rfl⟩)); (rw [show decide (1 ≤ s) = true from decide_eq_true (by omega)]; (refine zS ?_; (repeat (refine yA ?_; intro p hp; refine zS ?_))); rw [show decide (s ≤ 1000000) = false from decide_eq_false (by omega)]; (try (apply wl_yes; exact rfl; exact rfl; exact rfl)); refine wl_ex (lt_eqlB Tryz.underlying4 rfl rfl) rfl ?_; (refine zS ?_; (repeat (refine yA ?_; intro p hp; refine zS ?_))); (apply res1; exact rfl; exact rfl; exact ⟨rfl, rfl⟩)))
                ·have h2' : ¬ t < 1 := of_decide_eq_false h2
                 refine zS ?_;repeat(refine yA ?_;intro p hp;refine zS ?_)
                 refine w_cond rfl (fun h3 => ?_) (fun h3 => ?_)
                 ·((refine zS ?_; (repeat (refine yA ?_; intro p hp; refine zS ?_))); rcases Int.lt_or_le s 1 with q1 | q1; (rw [show decide (1 ≤ s) = false from decide_eq_false (by omega)]; (refine zS ?_; (repeat (refine yA ?_; intro p hp; refine zS ?_))); (try (apply wl_yes; exact rfl; exact rfl; exact rfl)); refine wl_ex (lt_eqlB Tryz.underlying4 rfl rfl) rfl ?_; (refine zS ?_; (repeat (refine yA ?_; intro p hp; refine zS ?_))); (apply res1; exact rfl; exact rfl; exact ⟨rfl, rfl⟩)); (rw [show decide (1 ≤ s) = true from decide_eq_true (by omega)]; (refine zS ?_; (repeat (refine yA ?_; intro p hp; refine zS ?_))); rw [show decide (s ≤ 1000000) = false from decide_eq_false (by omega)]; (try (apply wl_yes; exact rfl; exact rfl; exact rfl)); refine wl_ex (lt_eqlB Tryz.underlying4 rfl rfl) rfl ?_; (refine zS ?_; (repeat (refine yA ?_; intro p hp; refine zS ?_))); (apply res1; exact rfl; exact rfl; exact ⟨rfl, rfl⟩)))
                 ·exact absurd ⟨by omega, by omega, by have := of_decide_eq_false h3; omega⟩ hbig
              ·(apply wl_callP (CU); exact rfl; exact yC; exact rfl)
               rintro _ _ ⟨rfl, rfl⟩
               refine zS ?_;repeat(refine yA ?_;intro p hp;refine zS ?_)
               refine WL_as 257 (.agg (biC ⟨no, py, 0, [⟨q, 1⟩]⟩)) rfl ?_
               (apply wl_callP (CS); exact rfl; exact yC; exact rfl)
               rintro _ _ ⟨rfl, rfl⟩
               refine zS ?_;repeat(refine yA ?_;intro p hp;refine zS ?_)
               refine wl_part rfl rfl (fun h1 => ?_) (fun h1 => ?_)
               ·((refine zS ?_; (repeat (refine yA ?_; intro p hp; refine zS ?_))); rw [show decide (1 ≤ s) = true from decide_eq_true (by omega)]; (refine zS ?_; (repeat (refine yA ?_; intro p hp; refine zS ?_))); rw [show decide (s ≤ 1000000) = true from decide_eq_true (by omega)]; (try (apply wl_yes; exact rfl; exact rfl; exact rfl)); refine wl_ex (lt_eqlB Tryz.underlying4 rfl rfl) rfl ?_; (refine zS ?_; (repeat (refine yA ?_; intro p hp; refine zS ?_))); (apply res1; exact rfl; exact rfl; exact ⟨rfl, rfl⟩))
               ·have h1' : ¬ s < 1 := of_decide_eq_false h1
                refine zS ?_;repeat(refine yA ?_;intro p hp;refine zS ?_)
                refine wl_part rfl rfl (fun h2 => ?_) (fun h2 => ?_)
                ·((refine zS ?_; (repeat (refine yA ?_; intro p hp; refine zS ?_))); rw [show decide (1 ≤ s) = true from decide_eq_true (by omega)]; (refine zS ?_; (repeat (refine yA ?_; intro p hp; refine zS ?_))); rw [show decide (s ≤ 1000000) = true from decide_eq_true (by omega)]; (try (apply wl_yes; exact rfl; exact rfl; exact rfl)); refine wl_ex (lt_eqlB Tryz.underlying4 rfl rfl) rfl ?_; (refine zS ?_; (repeat (refine yA ?_; intro p hp; refine zS ?_))); (apply res1; exact rfl; exact rfl; exact ⟨rfl, rfl⟩))
                ·have h2' : ¬ t < 1 := of_decide_eq_false h2
                 refine zS ?_;repeat(refine yA ?_;intro p hp;refine zS ?_)
                 refine w_cond rfl (fun h3 => ?_) (fun h3 => ?_)
                 ·((refine zS ?_; (repeat (refine yA ?_; intro p hp; refine zS ?_))); rw [show decide (1 ≤ s) = true from decide_eq_true (by omega)]; (refine zS ?_; (repeat (refine yA ?_; intro p hp; refine zS ?_))); rw [show decide (s ≤ 1000000) = true from decide_eq_true (by omega)]; (try (apply wl_yes; exact rfl; exact rfl; exact rfl)); refine wl_ex (lt_eqlB Tryz.underlying4 rfl rfl) rfl ?_; (refine zS ?_; (repeat (refine yA ?_; intro p hp; refine zS ?_))); (apply res1; exact rfl; exact rfl; exact ⟨rfl, rfl⟩))
                 ·exact absurd ⟨by omega, by omega, by have := of_decide_eq_false h3; omega⟩ hbig
              ·(apply wl_callP (CU); exact rfl; exact yC; exact rfl)
               rintro _ _ ⟨rfl, rfl⟩
               refine zS ?_;repeat(refine yA ?_;intro p hp;refine zS ?_)
               refine WL_as 257 (.agg (biC ⟨no, py, 0, [⟨q, 1⟩]⟩)) rfl ?_
               (apply wl_callP (CS); exact rfl; exact yC; exact rfl)
               rintro _ _ ⟨rfl, rfl⟩
               refine zS ?_;repeat(refine yA ?_;intro p hp;refine zS ?_)
               refine wl_part rfl rfl (fun h1 => ?_) (fun h1 => ?_)
               ·((refine zS ?_; (repeat (refine yA ?_; intro p hp; refine zS ?_))); rcases Int.lt_or_le s 1 with q1 | q1; (rw [show decide (1 ≤ s) = false from decide_eq_false (by omega)]; (refine zS ?_; (repeat (refine yA ?_; intro p hp; refine zS ?_))); (try (apply wl_yes; exact rfl; exact rfl; exact rfl)); refine wl_ex (lt_eqlB Tryz.underlying4 rfl rfl) rfl ?_; (refine zS ?_; (repeat (refine yA ?_; intro p hp; refine zS ?_))); (apply res1; exact rfl; exact rfl; exact ⟨rfl, rfl⟩)); (rw [show decide (1 ≤ s) = true from decide_eq_true (by omega)]; (refine zS ?_; (repeat (refine yA ?_; intro p hp; refine zS ?_))); rw [show decide (s ≤ 1000000) = false from decide_eq_false (by omega)]; (try (apply wl_yes; exact rfl; exact rfl; exact rfl)); refine wl_ex (lt_eqlB Tryz.underlying4 rfl rfl) rfl ?_; (refine zS ?_; (repeat (refine yA ?_; intro p hp; refine zS ?_))); (apply res1; exact rfl; exact rfl; exact ⟨rfl, rfl⟩)))
               ·have h1' : ¬ s < 1 := of_decide_eq_false h1
                refine zS ?_;repeat(refine yA ?_;intro p hp;refine zS ?_)
                refine wl_part rfl rfl (fun h2 => ?_) (fun h2 => ?_)
                ·((refine zS ?_; (repeat (refine yA ?_; intro p hp; refine zS ?_))); rcases Int.lt_or_le s 1 with q1 | q1; (rw [show decide (1 ≤ s) = false from decide_eq_false (by omega)]; (refine zS ?_; (repeat (refine yA ?_; intro p hp; refine zS ?_))); (try (apply wl_yes; exact rfl; exact rfl; exact rfl)); refine wl_ex (lt_eqlB Tryz.underlying4 rfl rfl) rfl ?_; (refine zS ?_; (repeat (refine yA ?_; intro p hp; refine zS ?_))); (apply res1; exact rfl; exact rfl; exact ⟨rfl, rfl⟩)); (rw [show decide (1 ≤ s) = true from decide_eq_true (by omega)]; (refine zS ?_; (repeat (refine yA ?_; intro p hp; refine zS ?_))); rw [show decide (s ≤ 1000000) = false from decide_eq_false (by omega)]; (try (apply wl_yes; exact rfl; exact rfl; exact rfl)); refine wl_ex (lt_eqlB Tryz.underlying4 rfl rfl) rfl ?_; (refine zS ?_; (repeat (refine yA ?_; intro p hp; refine zS ?_))); (apply res1; exact rfl; exact rfl; exact ⟨rfl, rfl⟩)))
                ·have h2' : ¬ t < 1 := of_decide_eq_false h2
                 refine zS ?_;repeat(refine yA ?_;intro p hp;refine zS ?_)
                 refine w_cond rfl (fun h3 => ?_) (fun h3 => ?_)
                 ·((refine zS ?_; (repeat (refine yA ?_; intro p hp; refine zS ?_))); rcases Int.lt_or_le s 1 with q1 | q1; (rw [show decide (1 ≤ s) = false from decide_eq_false (by omega)]; (refine zS ?_; (repeat (refine yA ?_; intro p hp; refine zS ?_))); (try (apply wl_yes; exact rfl; exact rfl; exact rfl)); refine wl_ex (lt_eqlB Tryz.underlying4 rfl rfl) rfl ?_; (refine zS ?_; (repeat (refine yA ?_; intro p hp; refine zS ?_))); (apply res1; exact rfl; exact rfl; exact ⟨rfl, rfl⟩)); (rw [show decide (1 ≤ s) = true from decide_eq_true (by omega)]; (refine zS ?_; (repeat (refine yA ?_; intro p hp; refine zS ?_))); rw [show decide (s ≤ 1000000) = false from decide_eq_false (by omega)]; (try (apply wl_yes; exact rfl; exact rfl; exact rfl)); refine wl_ex (lt_eqlB Tryz.underlying4 rfl rfl) rfl ?_; (refine zS ?_; (repeat (refine yA ?_; intro p hp; refine zS ?_))); (apply res1; exact rfl; exact rfl; exact ⟨rfl, rfl⟩)))
                 ·exact absurd ⟨by omega, by omega, by have := of_decide_eq_false h3; omega⟩ hbig
          ·rw [hj] at JC
           dsimp only at JC
           have l1 : (agr a).st.length ≤ 12 := hla
           have l2 : (agr b).st.length ≤ 12 := hlb
           have z1 : decide ((12 : Int) < (a.st.length : Int) + (b.st.length : Int)) = true := decide_eq_true (by omega)
           (first | (apply wl_call (JC); exact rfl; exact rfl) | (apply wl_callR (JC); exact rfl; exact zM; exact rfl))
           refine zS ?_;repeat(refine yA ?_;intro p hp;refine zS ?_)
           rw [show decide ((12 : Int) < ((agr a).st.length : Int) + ((agr b).st.length : Int)) = true from z1]
           refine zS ?_;repeat(refine yA ?_;intro p hp;refine zS ?_)
           (apply res1; exact rfl; exact rfl; exact ⟨rfl, rfl⟩)
end Go.Proofs.YtihonljdanjfmaaGreatDoor.Sw
