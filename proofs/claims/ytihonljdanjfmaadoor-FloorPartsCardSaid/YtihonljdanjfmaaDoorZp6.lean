/- Proofs for one card: SwM, SwN, SwP, FloorOc, FloorTb, FloorTc, FloorTe, FloorTf, SwB, FloorTg, FloorTh. No condition of its own. -/
import Derived.DeepKeys4
import Derived.Maps.OwnIn
import Derived.Maps.Views
import Derived.WideKeyEntry
import Derived.Test.YtihonljdanjfmaaDoorZp5
namespace Go.Proofs.YtihonljdanjfmaaDoor.Sw
open Go.RowKit Go
open Go.WideElems (Fit)
open Go.ChangeMaps (setBlock heap_setBlock_same heap_setBlock_other)
abbrev anyM : Value → Option (DataW Nat × List MemPlace) := fun _ => some (.nil, [])
/-- Keys of a type: by which values they stand. -/
structure KeyT (P : Program) (t : TypeId) {κ : Type} (kv : κ → Value) (ok : κ → Prop) : Prop where
  keyed : Go.Maps.Keyed P t
  key : ∀ k, ok k → ∃ l, keyOf P t (kv k) = some l
  inj : ∀ k k', kv k = kv k' → k = k'
def getM {κ α : Type} [DecidableEq κ] : List (κ × α) → κ → Option α
  | [], _ => none
  | p :: t, k => if p.1 = k then some p.2 else getM t k
def delM {κ α : Type} [DecidableEq κ] (l : List (κ × α)) (k : κ) : List (κ × α) := l.filter fun p => !decide (p.1 = k)
def putM {κ α : Type} [DecidableEq κ] (l : List (κ × α)) (k : κ) (a : α) : List (κ × α) := (k, a) :: delM l k
section
variable {κ α : Type} [DecidableEq κ]
theorem getM_iff {k : κ} {a : α} : ∀ {l : List (κ × α)}, l.Pairwise (fun p q => p.1 ≠ q.1) → (getM l k = some a ↔ (k, a) ∈ l)
  | [], _ => by simp [getM]
  | p :: t, h => by
    obtain ⟨h1, h2⟩ := List.pairwise_cons.1 h
    have ih := getM_iff (k := k) (a := a) h2
    unfold getM
    split
    · rename_i e
      subst e
      constructor
      · intro e; cases e; simp
      · intro e
        rcases List.mem_cons.1 e with e | e
        · rw [← e]
        · exact absurd rfl (h1 (p.1, a) e)
    · rename_i e
      rw [ih]
      constructor
      · intro e; exact List.mem_cons_of_mem _ e
      · intro e'
        rcases List.mem_cons.1 e' with e' | e'
        · exact absurd (by rw [← e']) e
        · exact e'
theorem getM_none {k : κ} : ∀ {l : List (κ × α)}, getM l k = none ↔ ∀ p ∈ l, p.1 ≠ k
  | [] => by simp [getM]
  | p :: t => by
    unfold getM
    split
    · rename_i e; simp [e]
    · rename_i e; rw [getM_none]; simp [e]
theorem getM_del {l : List (κ × α)} {k k' : κ} : getM (delM l k) k' = if k' = k then none else getM l k' := by
  unfold delM
  induction l with
  | nil => simp [getM]
  | cons p t ih =>
    by_cases h : p.1 = k
    · rw [List.filter_cons_of_neg (by simp [h]), ih]
      subst h
      split
      · rfl
      · rename_i h2; rw [getM, if_neg (fun e => h2 e.symm)]
    · rw [List.filter_cons_of_pos (by simp [h])]
      by_cases h2 : p.1 = k'
      · subst h2; rw [if_neg h]; simp [getM]
      · rw [getM, if_neg h2, ih]
        split
        · rfl
        · rw [getM, if_neg h2]
theorem getM_put {l : List (κ × α)} {k k' : κ} {a : α} : getM (putM l k a) k' = if k' = k then some a else getM l k' := by
  unfold putM
  rw [getM]
  by_cases h : k' = k
  · subst h; simp
  · rw [if_neg (fun e => h e.symm), if_neg h, getM_del, if_neg h]
theorem delM_len (l : List (κ × α)) (k : κ) : (delM l k).length ≤ l.length := List.length_filter_le _ _
theorem putM_len (l : List (κ × α)) (k : κ) (a : α) : (putM l k a).length ≤ l.length + 1 := by
  have := delM_len l k
  simp only [putM, List.length_cons]; omega
end
section
variable {κ α : Type} (kv : κ → Value) (g : α → AV)
def MpL (G : Nat → Option Obj) : List (κ × α) → List MapEntry → Prop
  | [], [] => True
  | p :: l, x :: xs => (x.key = kv p.1 ∧ (g p.2).P G x.val) ∧ MpL G l xs
  | _, _ => False
variable {kv g}
theorem MpL.mono {G G' : Nat → Option Obj} (h : Gle G G') : ∀ {l : List (κ × α)} {xs : List MapEntry}, MpL kv g G l xs → MpL kv g G' l xs
  | [], [], _ => trivial
  | _ :: _, _ :: _, k => ⟨⟨k.1.1, (g _).mono h k.1.2⟩, MpL.mono h k.2⟩
  | [], _ :: _, k => k.elim
  | _ :: _, [], k => k.elim
theorem MpL.perm {G : Nat → Option Obj} {xs ys : List MapEntry} (hp : xs.Perm ys) : ∀ {l : List (κ × α)}, MpL kv g G l xs → ∃ l', l.Perm l' ∧ MpL kv g G l' ys := by
  induction hp with
  | nil => exact fun {l} h => ⟨l, .refl _, h⟩
  | cons x hp ih =>
    intro l h
    match l, h with
    | p :: l, ⟨h1, h2⟩ =>
      obtain ⟨l', e, h3⟩ := ih h2
      exact ⟨p :: l', e.cons p, h1, h3⟩
    | [], h => exact h.elim
  | swap x y t =>
    intro l h
    match l, h with
    | p :: q :: l, ⟨h1, h2, h3⟩ => exact ⟨q :: p :: l, List.Perm.swap _ _ _, h2, h1, h3⟩
    | [_], h => exact h.2.elim
    | [], h => exact h.elim
  | trans _ _ ih1 ih2 =>
    intro l h
    obtain ⟨l1, e1, h1⟩ := ih1 h
    obtain ⟨l2, e2, h2⟩ := ih2 h1
    exact ⟨l2, e1.trans e2, h2⟩
theorem MpL.keys {G : Nat → Option Obj} : ∀ {l : List (κ × α)} {xs : List MapEntry}, MpL kv g G l xs → xs.map (·.key) = l.map fun p => kv p.1
  | [], [], _ => rfl
  | _ :: _, _ :: _, k => by simp only [List.map_cons]; rw [k.1.1, MpL.keys k.2]
  | [], _ :: _, k => k.elim
  | _ :: _, [], k => k.elim
variable (kv g)
def MpP (G : Nat → Option Obj) (l : List (κ × α)) (xs : List MapEntry) : Prop := ∃ l', l.Perm l' ∧ MpL kv g G l' xs
variable {kv g}
theorem MpP.perm {G : Nat → Option Obj} {l : List (κ × α)} {xs ys : List MapEntry} (h : MpP kv g G l xs) (hp : xs.Perm ys) : MpP kv g G l ys := by
  obtain ⟨l1, e1, h1⟩ := h
  obtain ⟨l2, e2, h2⟩ := h1.perm hp
  exact ⟨l2, e1.trans e2, h2⟩
theorem MpP.permL {G : Nat → Option Obj} {l k : List (κ × α)} {xs : List MapEntry} (h : MpP kv g G l xs) (hp : k.Perm l) : MpP kv g G k xs := by
  obtain ⟨l1, e1, h1⟩ := h
  exact ⟨l1, hp.trans e1, h1⟩
theorem MpP.cons {G : Nat → Option Obj} {l : List (κ × α)} {xs : List MapEntry} (h : MpP kv g G l xs) {p : κ × α} {x : MapEntry} (h1 : x.key = kv p.1) (h2 : (g p.2).P G x.val) : MpP kv g G (p :: l) (x :: xs) := by
  obtain ⟨l1, e1, h3⟩ := h
  exact ⟨p :: l1, e1.cons p, ⟨h1, h2⟩, h3⟩
theorem MpP.uncons {G : Nat → Option Obj} {l : List (κ × α)} {x : MapEntry} {xs : List MapEntry} (h : MpP kv g G l (x :: xs)) : ∃ p l3, l.Perm (p :: l3) ∧ x.key = kv p.1 ∧ (g p.2).P G x.val ∧ MpP kv g G l3 xs := by
  obtain ⟨l1, e1, h1⟩ := h
  match l1, h1 with
  | p :: l3, ⟨⟨h2, h3⟩, h4⟩ => exact ⟨p, l3, e1, h2, h3, l3, .refl _, h4⟩
  | [], h1 => exact h1.elim
theorem MpP.len {G : Nat → Option Obj} {l : List (κ × α)} {xs : List MapEntry} (h : MpP kv g G l xs) : l.length = xs.length := by
  obtain ⟨l1, e1, h1⟩ := h
  have := congrArg List.length h1.keys
  simp only [List.length_map] at this
  rw [e1.length_eq, this]
theorem MpP.nodup {G : Nat → Option Obj} {l : List (κ × α)} {xs : List MapEntry} (h : MpP kv g G l xs) (hn : (xs.map (·.key)).Nodup) : l.Pairwise (fun p q => p.1 ≠ q.1) := by
  obtain ⟨l1, e1, h1⟩ := h
  rw [h1.keys] at hn
  have hn2 : (l.map fun p => kv p.1).Nodup := (e1.map _).nodup_iff.2 hn
  have := List.pairwise_map.1 hn2
  exact this.imp fun h e => h (by rw [e])
end
/-- A map of these entries. -/
def HA.mp {κ α : Type} (P : Program) (v : Value) (t : TypeId) (kv : κ → Value) (g : α → AV) (l : List (κ × α)) : HA :=
  ⟨fun G F w => ∃ b es clock, v = .map (some b) ∧ F = [b] ∧ w.heap[b]? = some (.map es clock) ∧ Fit P t anyM es clock ∧ MpP kv g G l es.toList,
   fun h ⟨b, es, clock, e1, e2, e3, e4, l', e5, e6⟩ => ⟨b, es, clock, e1, e2, e3, e4, l', e5, e6.mono h⟩,
   fun h ⟨b, es, clock, e1, e2, e3, e4⟩ => ⟨b, es, clock, e1, e2, (h b (by rw [e2]; simp)).trans e3, e4⟩⟩
section
variable {P : Program} {κ α : Type} [DecidableEq κ] {t : TypeId} {kv : κ → Value} {ok : κ → Prop} {g : α → AV} {l : List (κ × α)} {G : Nat → Option Obj} {F : List Nat} {w : World} {v : Value}
def lkA (g : α → AV) (z : Value) : Option α → AV
  | some a => g a
  | none => .val z
theorem mp_look (K : KeyT P t kv ok) {tm e : TypeId} (ht : P.underlying tm = some (.map t e)) {z : Value} (hz : ∀ w, (zeroValue e).run P w = .ok z w) (c : Bool) {k : κ} (hk : ok k) (h : (HA.mp P v t kv g l).P G F w) :
    ∃ u, (lkA g z (getM l k)).P G u ∧ (Instr.lookup tm v (kv k) c).run P w = .ok (if c then .tuple #[u, .bool (getM l k).isSome] else u) w := by
  obtain ⟨b, es, clock, rfl, _, hb, hF, hm⟩ := h
  obtain ⟨kl, hkey⟩ := K.key k hk
  have hn := hm.nodup hF.stamped.2.2
  rcases Go.Maps.fit_look c K.keyed ht (hz w) hb hF hkey with ⟨hr, hno, _⟩ | ⟨e0, y, hm0, hk0, hr, _⟩
  · have : getM l k = none := getM_none.2 fun p hp e => by
      obtain ⟨l', e1, h1⟩ := hm
      have h2 : kv p.1 ∈ es.toList.map (·.key) := by rw [h1.keys]; exact List.mem_map.2 ⟨p, e1.mem_iff.1 hp, rfl⟩
      obtain ⟨x, hx, ex⟩ := List.mem_map.1 h2
      exact hno x hx (by rw [ex, e])
    rw [this]
    exact ⟨z, rfl, hr⟩
  · obtain ⟨s, r, es2⟩ := List.append_of_mem hm0
    obtain ⟨p, l3, h1, h2, h3, _⟩ := (hm.perm (by rw [es2]; exact List.perm_middle)).uncons
    have : p.1 = k := K.inj _ _ (h2.symm.trans hk0)
    have hg : getM l k = some p.2 := (getM_iff hn).2 (h1.mem_iff.2 (by rw [← this]; simp))
    rw [hg]
    exact ⟨e0.val, h3, hr⟩
theorem MpP.del {xs r : List MapEntry} {e0 : MapEntry} (hinj : ∀ k k' : κ, kv k = kv k' → k = k') (h : MpP kv g G l xs) (hn : l.Pairwise (fun p q => p.1 ≠ q.1)) (hp : xs.Perm (e0 :: r)) {k : κ} (hk : e0.key = kv k) : MpP kv g G (delM l k) r := by
  obtain ⟨p, l3, h1, h2, h3, h4⟩ := (h.perm hp).uncons
  have hpk : p.1 = k := hinj _ _ (h2.symm.trans hk)
  have hn2 : (p :: l3).Pairwise (fun p q => p.1 ≠ q.1) := h1.pairwise hn (fun h e => h e.symm)
  refine h4.permL ?_
  have h5 := h1.filter (fun q : κ × α => !decide (q.1 = k))
  rw [List.filter_cons_of_neg (by simp [hpk])] at h5
  refine h5.trans (.of_eq (List.filter_eq_self.2 fun q hq => ?_))
  have := (List.pairwise_cons.1 hn2).1 q hq
  rw [hpk] at this
  simpa using fun e : q.1 = k => this e.symm
theorem MpP.del0 {xs : List MapEntry} (h : MpP kv g G l xs) {k : κ} (hno : ∀ x ∈ xs, x.key ≠ kv k) : delM l k = l := List.filter_eq_self.2 fun q hq => by
  obtain ⟨l', e1, h1⟩ := h
  have h2 : kv q.1 ∈ xs.map (·.key) := by rw [h1.keys]; exact List.mem_map.2 ⟨q, e1.mem_iff.1 hq, rfl⟩
  obtain ⟨x, hx, ex⟩ := List.mem_map.1 h2
  simpa using fun e : q.1 = k => hno x hx (by rw [ex, e])
theorem set_permM {x : MapEntry} : ∀ {xs : List MapEntry} {j : Nat} {e0 : MapEntry}, xs[j]? = some e0 → ∃ r, xs.Perm (e0 :: r) ∧ (xs.set j x).Perm (x :: r) ∧ xs.eraseIdx j = r
  | y :: ys, 0, e0, h => by simp at h; subst h; exact ⟨ys, .refl _, .refl _, rfl⟩
  | y :: ys, j + 1, e0, h => by
    obtain ⟨r, h1, h2, h3⟩ := set_permM (x := x) (xs := ys) (j := j) (by simpa using h)
    exact ⟨y :: r, (h1.cons y).trans (List.Perm.swap _ _ _), (h2.cons y).trans (List.Perm.swap _ _ _), by simp [h3]⟩
  | [], _, _, h => by simp at h
theorem mp_store (K : KeyT P t kv ok) {tm e : TypeId} (ht : P.underlying tm = some (.map t e)) {k : κ} (hk : ok k) (hl : l.length ≤ 1000000) {a : α} {u : Value} (hu : (g a).P G u) (h : (HA.mp P v t kv g l).P G F w) :
    ∃ b o o0, v = .map (some b) ∧ F = [b] ∧ w.heap[b]? = some o0 ∧ (∃ es cl, o0 = .map es cl) ∧ (Instr.mapUpdate tm v (kv k) u).run P w = .ok () (setBlock w b o) ∧ (HA.mp P v t kv g (putM l k a)).P G F (setBlock w b o) := by
  obtain ⟨b, es, clock, rfl, rfl, hb, hF, hm⟩ := h
  obtain ⟨kl, hkey⟩ := K.key k hk
  have hn := hm.nodup hF.stamped.2.2
  have hlen := hm.len
  have hmax : maxLen = 9223372036854775807 := rfl
  have hsz : es.size < maxLen := by rw [hmax]; simp at hlen; omega
  obtain ⟨es', clock', hr, hF', _⟩ := Go.Maps.fit_store (R' := anyM) (val := u) K.keyed ht hb hF hsz (fun _ _ _ z hz => hz) hkey (yv := (.nil, [])) rfl
  refine ⟨b, .map es' clock', _, rfl, rfl, hb, ⟨_, _, rfl⟩, hr, b, es', clock', rfl, rfl, heap_setBlock_same hb _, hF', ?_⟩
  have same : ∀ {o o' : Obj}, (Result.ok () (setBlock w b o) : Result Unit) = .ok () (setBlock w b o') → o = o' := fun {o o'} e => by
    injection e with _ e
    have h1 := heap_setBlock_same hb o
    rw [e, heap_setBlock_same hb o'] at h1
    exact (Option.some.inj h1).symm
  rcases K.keyed.find w hkey es.toList hF.keys with ⟨h1, h2⟩ | ⟨j, e0, h1, h2, h3⟩
  · have hr2 : (Instr.mapUpdate tm (.map (some b)) (kv k) u).run P w = .ok () (setBlock w b (.map (es.push ⟨kv k, u, clock⟩) (clock + 1))) := by
      simp [Instr.mapUpdate, run_underlying ht, MapKept.run_getObj_map hb, K.keyed.check w false hkey, h1, MapKept.run_setObj_map _ hb, Result.andThen, setBlock]
    have e1 := same (hr.symm.trans hr2)
    injection e1 with e1 e2
    subst e1
    unfold putM
    rw [hm.del0 h2, Array.toList_push]
    exact (hm.cons (p := (k, a)) (x := ⟨kv k, u, clock⟩) rfl hu).perm (List.perm_append_singleton _ _).symm
  · have hj : es[j]? = some e0 := by simpa using h2
    have hr2 : (Instr.mapUpdate tm (.map (some b)) (kv k) u).run P w = .ok () (setBlock w b (.map (es.modify j (fun e' => { e' with key := kv k, val := u })) clock)) := by
      simp [Instr.mapUpdate, run_underlying ht, MapKept.run_getObj_map hb, K.keyed.check w false hkey, h1, hj, h3, K.keyed.stays w hkey, MapKept.run_setObj_map _ hb, Result.andThen, setBlock]
    have e1 := same (hr.symm.trans hr2)
    injection e1 with e1 e2
    subst e1
    rw [Array.toList_modify, Go.ChangeMaps.modify_eq_set _ _ _ _ h2]
    obtain ⟨r, p1, p2, _⟩ := set_permM (x := { e0 with key := kv k, val := u }) h2
    exact ((hm.del K.inj hn p1 h3).cons (p := (k, a)) (x := { e0 with key := kv k, val := u }) rfl hu).perm p2.symm
theorem mp_drop (K : KeyT P t kv ok) {tm e ty : TypeId} (ht : P.underlying tm = some (.map t e)) {k : κ} (hk : ok k) (h : (HA.mp P v t kv g l).P G F w) :
    ∃ b o o0, v = .map (some b) ∧ F = [b] ∧ w.heap[b]? = some o0 ∧ (∃ es cl, o0 = .map es cl) ∧ (Builtin.delete_ #[tm, t] ty #[v, kv k]).run P w = .ok (.tuple #[]) (setBlock w b o) ∧ (HA.mp P v t kv g (delM l k)).P G F (setBlock w b o) := by
  obtain ⟨b, es, clock, rfl, rfl, hb, hF, hm⟩ := h
  obtain ⟨kl, hkey⟩ := K.key k hk
  have hn := hm.nodup hF.stamped.2.2
  obtain ⟨es', hr, hF', _⟩ := Go.Maps.fit_drop (ty := ty) K.keyed ht hb hF hkey
  refine ⟨b, .map es' clock, _, rfl, rfl, hb, ⟨_, _, rfl⟩, hr, b, es', clock, rfl, rfl, heap_setBlock_same hb _, hF', ?_⟩
  have same : ∀ {o o' : Obj}, (Result.ok (Value.tuple #[]) (setBlock w b o) : Result Value) = .ok (.tuple #[]) (setBlock w b o') → o = o' := fun {o o'} e => by
    injection e with _ e
    have h1 := heap_setBlock_same hb o
    rw [e, heap_setBlock_same hb o'] at h1
    exact (Option.some.inj h1).symm
  rcases K.keyed.find w hkey es.toList hF.keys with ⟨h1, h2⟩ | ⟨j, e0, h1, h2, h3⟩
  · have hr2 : (Builtin.delete_ #[tm, t] ty #[.map (some b), kv k]).run P w = .ok (.tuple #[]) (setBlock w b (.map es clock)) := by
      simp [Builtin.delete_, run_underlying ht, MapKept.run_getObj_map hb, K.keyed.check w _ hkey, h1, MapKept.run_setObj_map _ hb, Result.andThen, setBlock]
    have e1 := same (hr.symm.trans hr2)
    injection e1 with e1 e2
    subst e1
    rw [hm.del0 h2]
    exact hm
  · have hjs : j < es.size := by have := (List.getElem?_eq_some_iff.1 h2).1; simpa using this
    have hr2 : (Builtin.delete_ #[tm, t] ty #[.map (some b), kv k]).run P w = .ok (.tuple #[]) (setBlock w b (.map (es.eraseIdxIfInBounds j) clock)) := by
      simp [Builtin.delete_, run_underlying ht, MapKept.run_getObj_map hb, K.keyed.check w _ hkey, h1, MapKept.run_setObj_map _ hb, Result.andThen, setBlock]
    have e1 := same (hr.symm.trans hr2)
    injection e1 with e1 e2
    subst e1
    have hsub : (es.eraseIdxIfInBounds j).toList = es.toList.eraseIdx j := by
      unfold Array.eraseIdxIfInBounds
      rw [dif_pos hjs]
      simp
    rw [hsub]
    obtain ⟨r, p1, _, p3⟩ := set_permM (x := e0) h2
    rw [p3]
    exact hm.del K.inj hn p1 h3
theorem inv_setB {b : Nat} {o o0 : Obj} {h : HA} (hI : Inv G [b] [h] w) (hb : w.heap[b]? = some o0) (ho : ∃ es cl, o0 = .map es cl) {h' : HA} (hh : h'.P G [b] (setBlock w b o)) : Fr w (setBlock w b o) [b] [b] G G ∧ Inv G [b] [h'] (setBlock w b o) := by
  have hg := (hI.own b (by simp)).2
  obtain ⟨es, cl, rfl⟩ := ho
  refine ⟨⟨rfl, rfl, rfl, by simp [setBlock], fun j _ hj => heap_setBlock_other hb _ (fun e => hj (by rw [e]; simp)), fun _ h => .inl h, Gle.refl _, fun _ _ h => .inl h⟩, ⟨fun b' o' e => ?_, by simp, fun b' hb' => ?_, [b], [], by simp, hh, rfl⟩⟩
  · have hne : b' ≠ b := fun e' => by subst e'; rw [hg] at e; cases e
    exact (heap_setBlock_other hb _ hne).trans (hI.gin b' o' e)
  · have := hI.own b' hb'
    exact ⟨by simpa [setBlock] using this.1, this.2⟩
variable {rs : List (Nat × AV)} {d : Option Nat} {ty : TypeId} {pos : String} {af : Array Edge} {gd : Option (Nat × Bool)}
/-- This value, and no other one. -/
structure KeyV (av : AV) (u : Value) : Prop where
  out : ∀ G v, av.P G v → v = u
omit [DecidableEq κ] in
theorem KeyV.val {u : Value} : KeyV (.val u) u := ⟨fun _ _ h => h⟩
theorem lt_look1 (K : KeyT P t kv ok) {tm e : TypeId} (ht : P.underlying tm = some (.map t e)) {z : Value} (hz : ∀ w, (zeroValue e).run P w = .ok z w) {x y : Operand} {av : AV} (k : κ) (hx : opv rs x = some (.val v)) (hy : opv rs y = some av) (hv : KeyV av (kv k)) (hk : ok k) :
    LT P ⟨d, .lookup tm x y false, ty, pos, af, gd⟩ rs [.mp P v t kv g l] (Is (lkA g z (getM l k)) [.mp P v t kv g l]) :=
  LT_read (fun _ e => by cases e) fun a w G F hR _ hh => by
    have e1 : a.eval x = v := opv_ok hR hx
    have e2 := hv.out G _ (opv_ok hR hy)
    obtain ⟨u, h1, h2⟩ := mp_look K ht hz false hk hh
    rw [if_neg (by simp)] at h2
    exact ⟨u, h1, by simp [execOp, e1, e2, h2, Result.andThen]⟩
theorem lt_mput (K : KeyT P t kv ok) {tm e : TypeId} (ht : P.underlying tm = some (.map t e)) {x y z : Operand} {av : AV} (k : κ) (a : α) (hx : opv rs x = some (.val v)) (hy : opv rs y = some av) (hv : KeyV av (kv k)) (hk : ok k) (hz : opv rs z = some (g a)) (hl : l.length ≤ 1000000) :
    LT P ⟨d, .mapUpdate tm x y z, ty, pos, af, gd⟩ rs [.mp P v t kv g l] (Is (.val undef) [.mp P v t kv g (putM l k a)]) :=
  LT_eff (fun _ e => by cases e) fun ac w G F hR hI => by
    obtain ⟨F1, F2, e, hm, h2⟩ := hI.hs
    have h2' : F2 = [] := h2
    subst h2'
    have e1 : ac.eval x = v := opv_ok hR hx
    have e2 := hv.out G _ (opv_ok hR hy)
    obtain ⟨b, o, o0, hvb, hF1, hb, ho, hr, hm'⟩ := mp_store K ht hk hl (opv_ok hR hz) hm
    subst hF1
    have hF : F = [b] := List.perm_singleton.1 (by simpa using e)
    subst hF
    obtain ⟨f1, f2⟩ := inv_setB hI hb ho hm'
    exact ⟨_, setBlock w b o, undef, _, _, G, [b], by simp [execOp, e1, e2, hr, Result.andThen], .inr ⟨rfl, rfl⟩, ⟨rfl, rfl⟩, f1, f2, rfl⟩
theorem lt_mdel (K : KeyT P t kv ok) {tm e : TypeId} (ht : P.underlying tm = some (.map t e)) {x y : Operand} {av : AV} (k : κ) (hx : opv rs x = some (.val v)) (hy : opv rs y = some av) (hv : KeyV av (kv k)) (hk : ok k) :
    LT P ⟨d, .call { callee := .builtin .delete, args := #[x, y], argTypes := #[tm, t] }, ty, pos, af, gd⟩ rs [.mp P v t kv g l] (Is (.tup []) [.mp P v t kv g (delM l k)]) :=
  LT_eff (fun _ e => by cases e) fun ac w G F hR hI => by
    obtain ⟨F1, F2, e, hm, h2⟩ := hI.hs
    have h2' : F2 = [] := h2
    subst h2'
    have e1 : ac.eval x = v := opv_ok hR hx
    have e2 := hv.out G _ (opv_ok hR hy)
    obtain ⟨b, o, o0, hvb, hF1, hb, ho, hr, hm'⟩ := mp_drop (ty := ty) K ht hk hm
    subst hF1
    have hF : F = [b] := List.perm_singleton.1 (by simpa using e)
    subst hF
    obtain ⟨f1, f2⟩ := inv_setB hI hb ho hm'
    exact ⟨_, setBlock w b o, .tuple #[], _, _, G, [b], by simp [execOp, resolve, invoke, builtin, e1, e2, hr, Result.andThen], .inl rfl, ⟨rfl, rfl⟩, f1, f2, [], rfl, trivial⟩
omit [DecidableEq κ] in
theorem lt_mlen {tm e : TypeId} (ht : P.underlying tm = some (.map t e)) {x : Operand} (hx : opv rs x = some (.val v)) :
    LT P ⟨d, .call { callee := .builtin .len, args := #[x], argTypes := #[tm] }, ty, pos, af, gd⟩ rs [.mp P v t kv g l] (Is (.val (.int .i64 l.length)) [.mp P v t kv g l]) :=
  LT_read (fun _ e => by cases e) fun a w G F hR _ ⟨b, es, clock, e1, _, hb, _, hm⟩ => by
    have e2 : a.eval x = v := opv_ok hR hx
    have e3 : a.eval x = .map (some b) := e2.trans e1
    have hl := hm.len
    refine ⟨_, rfl, ?_⟩
    simp [execOp, resolve, e3, invoke, builtin, Builtin.len_, run_underlying ht, MapKept.run_getObj_map hb, goInt, Result.andThen, hl]
omit [DecidableEq κ] in
theorem lt_mmake (K : KeyT P t kv ok) {tm : TypeId} : LT P ⟨d, .makeMap tm none, ty, pos, af, gd⟩ rs [] (fun x y => ∃ u, One (.val u) ∧ x = .val u ∧ y = [.mp P u t kv g []]) :=
  LT_eff (fun _ e => by cases e) fun a w G F hR hI => by
    obtain rfl := inv_nil hI
    obtain ⟨es, clock, h1, h2, h3, _⟩ := World.ownsMap_made w P t anyM
    have hes : es.toList = [] := by cases es with | mk l => simp at h3; simpa using h3
    refine ⟨_, w.alloc (.map #[] 0), .map (some w.heap.size), _, _, G, [w.heap.size], ?_, .inl rfl, ⟨_, ⟨fun _ _ h => by subst h; rfl⟩, rfl, rfl⟩, fr_alloc _ _ _, ⟨gin_alloc hI.gin _, by simp, fun b hb => ?_, [w.heap.size], [], by simp, ⟨_, es, clock, rfl, rfl, h1, h2, [], .refl _, by rw [hes]; trivial⟩, rfl⟩, rfl⟩
    · simp [execOp, Instr.makeMap, newObj, Result.andThen]; rfl
    · rw [List.mem_singleton] at hb
      subst hb
      refine ⟨by simp, ?_⟩
      cases hg : G w.heap.size with
      | none => rfl
      | some o => exact absurd (hI.gin.lt hg) (Nat.lt_irrefl _)
end
section
variable {c : Cx} {rs : List (Nat × AV)} {hs : List HA} {Q : Exit → S → Prop} {ops : Array Oper} {tl : List Oper} {d : Nat} {ty : TypeId} {pos : String} {af : Array Edge} {κ α : Type} [DecidableEq κ] {t : TypeId} {kv : κ → Value} {ok : κ → Prop} {g : α → AV} {l : List (κ × α)} {v : Value}
theorem wl_look1 {tm e : TypeId} {z : Value} {x y : Operand} {av : AV} {h : HA → List HA} (K : KeyT c.P t kv ok) (k : κ) (ht : c.P.underlying tm = some (.map t e)) (hz : ∀ w, (zeroValue e).run c.P w = .ok z w) (hx : opv rs x = some (.val v)) (hat : At hs (.mp c.P v t kv g l) h) (hy : opv rs y = some av) (hv : KeyV av (kv k)) (hk : ok k) (hd : Nat.blt d c.nt = true)
    (kk : WL c ops tl ⟨(d, lkA g z (getM l k)) :: rs, hs⟩ Q) : WL c ops (⟨some d, .lookup tm x y false, ty, pos, af, none⟩ :: tl) ⟨rs, hs⟩ Q := wl_rd (lt_look1 K ht hz k hx hy hv hk) hat hd kk
omit [DecidableEq κ] in
theorem wl_mlen {tm e : TypeId} {x : Operand} {h : HA → List HA} (ht : c.P.underlying tm = some (.map t e)) (hx : opv rs x = some (.val v)) (hat : At hs (.mp c.P v t kv g l) h) (hd : Nat.blt d c.nt = true)
    (kk : WL c ops tl ⟨(d, .val (.int .i64 l.length)) :: rs, hs⟩ Q) : WL c ops (⟨some d, .call { callee := .builtin .len, args := #[x], argTypes := #[tm] }, ty, pos, af, none⟩ :: tl) ⟨rs, hs⟩ Q := wl_rd (lt_mlen ht hx) hat hd kk
theorem wl_mput {tm e : TypeId} {x y z : Operand} {av : AV} {h : HA → List HA} (K : KeyT c.P t kv ok) (k : κ) (a : α) (ht : c.P.underlying tm = some (.map t e)) (hx : opv rs x = some (.val v)) (hat : At hs (.mp c.P v t kv g l) h) (hy : opv rs y = some av) (hv : KeyV av (kv k)) (hk : ok k) (hz : opv rs z = some (g a)) (hl : l.length ≤ 1000000)
    (kk : WL c ops tl ⟨rs, h (.mp c.P v t kv g (putM l k a))⟩ Q) : WL c ops (⟨none, .mapUpdate tm x y z, ty, pos, af, none⟩ :: tl) ⟨rs, hs⟩ Q := WL_at rfl rfl hat (lt_mput K ht k a hx hy hv hk hz hl) kk
theorem wl_mdel {tm e : TypeId} {x y : Operand} {av : AV} {h : HA → List HA} {dd : Option Nat} (K : KeyT c.P t kv ok) (k : κ) (ht : c.P.underlying tm = some (.map t e)) (hx : opv rs x = some (.val v)) (hat : At hs (.mp c.P v t kv g l) h) (hy : opv rs y = some av) (hv : KeyV av (kv k)) (hk : ok k) (hd : okD dd c.nt = true)
    (kk : WL c ops tl ⟨putR dd (.tup []) rs, h (.mp c.P v t kv g (delM l k))⟩ Q) : WL c ops (⟨dd, .call { callee := .builtin .delete, args := #[x, y], argTypes := #[tm, t] }, ty, pos, af, none⟩ :: tl) ⟨rs, hs⟩ Q := WL_at hd rfl hat (lt_mdel K ht k hx hy hv hk) kk
omit [DecidableEq κ] in
theorem wl_mmake {tm : TypeId} (K : KeyT c.P t kv ok) (g : α → AV) (hd : Nat.blt d c.nt = true) (kk : ∀ v, One (.val v) → WL c ops tl ⟨(d, .val v) :: rs, .mp c.P v t kv g [] :: hs⟩ Q) : WL c ops (⟨some d, .makeMap tm none, ty, pos, af, none⟩ :: tl) ⟨rs, hs⟩ Q :=
  WL_new hd rfl (lt_mmake (g := g) K) fun av pr ⟨u, h1, e1, e2⟩ => by subst e1; subst e2; exact kk u h1
end
/-- Keys that are numbers. -/
theorem keyT_int {P : Program} {t : TypeId} (h : P.underlying t = some (.int .i64)) : KeyT P t (fun n : Int => Value.int .i64 n) (fun n => -9223372036854775808 ≤ n ∧ n ≤ 9223372036854775807) :=
  ⟨Go.Maps.int_keyed h, fun n hn => ⟨_, Go.Maps.keyOf_int_mk h (by simp only [Lit.wf, IntKind.min, IntKind.max, IntKind.signed, IntKind.bits, Bool.and_eq_true, decide_eq_true_eq, if_true]; omega)⟩, fun a b e => by injection e⟩
end Go.Proofs.YtihonljdanjfmaaDoor.Sw
namespace Go.Proofs.YtihonljdanjfmaaDoor.Sw
open Go.RowKit Go
open Go.WideElems (Fit)
open Go.ChangeMaps (setBlock heap_setBlock_same heap_setBlock_other)
/-- A drawn region, from a state with these operations done. -/
structure WA (c : Cx) (ops : Array Oper) (j : Nat) (D : Array Bool) (s : S) (Q : Exit → S → Prop) : Prop where
  out : ∀ a w, St c s a w → wpAnyIn c.F c.n c.P .any ops (Post c Q) j D a w
def Each (p : Nat → Prop) : List Nat → Prop
  | [] => True
  | i :: t => p i ∧ Each p t
theorem Each.mem {p : Nat → Prop} : ∀ {l : List Nat}, Each p l → ∀ i ∈ l, p i
  | _ :: _, h, i, hi => by
    rcases List.mem_cons.1 hi with rfl | hi
    · exact h.1
    · exact Each.mem h.2 i hi
section
variable {P : Program} {κ α : Type} [DecidableEq κ] {t : TypeId} {kv : κ → Value} {ok : κ → Prop} {g : α → AV} {l : List (κ × α)} {G : Nat → Option Obj} {F : List Nat} {w : World} {v : Value}
variable {rs : List (Nat × AV)} {d : Option Nat} {ty : TypeId} {pos : String} {af : Array Edge} {gd : Option (Nat × Bool)}
end
section
variable {c : Cx} {rs : List (Nat × AV)} {hs : List HA} {Q : Exit → S → Prop} {ops : Array Oper} {tl : List Oper} {d : Nat} {ty : TypeId} {pos : String} {af : Array Edge} {κ α : Type} [DecidableEq κ] {t : TypeId} {kv : κ → Value} {ok : κ → Prop} {g : α → AV} {l : List (κ × α)} {v : Value}
end
/-- Keys of three numbers. -/
def k3 (x : Int × Int × Int) : Value := .agg #[.int .i64 x.1, .int .i64 x.2.1, .int .i64 x.2.2]
end Go.Proofs.YtihonljdanjfmaaDoor.Sw
namespace Go.Proofs.YtihonljdanjfmaaDoor.Sw
open Go.RowKit Go
/-- A value of one cell, as an element. -/
abbrev OV : Type := { v : Value // v.oneCell' = true }
def vlC (v : OV) : List AV := [.val v.1]
instance {v : OV} : One (.val v.1) := ⟨fun _ u h => by have h' : u = v.1 := h; rw [h']; exact v.2⟩
instance {v : OV} : OneL (vlC v) := inferInstanceAs (OneL [_])
instance : OneF vlC := ⟨fun _ => inferInstance⟩
instance : LenF vlC 1 := ⟨fun _ => rfl⟩
def nilOV : OV := ⟨.slice none 0 0, rfl⟩
/-- These values are own slices of these. -/
def rowsZ {α : Type} (e : TypeId) (n : Nat) (f : α → List AV) : List OV → List (List α) → List HA
  | v :: vs, g :: gs => .row v.1 e n f g :: rowsZ e n f vs gs
  | _, _ => []
theorem rowsZ_perm {α : Type} {e : TypeId} {n : Nat} {f : α → List AV} : ∀ (vs : List OV) (gs : List (List α)) (k : Nat) (h : k < vs.length) (h2 : k < gs.length), (rowsZ e n f vs gs).Perm (.row vs[k].1 e n f gs[k] :: rowsZ e n f (vs.eraseIdx k) (gs.eraseIdx k))
  | v :: vs, g :: gs, 0, _, _ => by simp [rowsZ]
  | v :: vs, g :: gs, k + 1, h, h2 => by
    simp only [rowsZ, List.eraseIdx_cons_succ, List.getElem_cons_succ]
    exact ((rowsZ_perm vs gs k (by simpa using h) (by simpa using h2)).cons _).trans (List.Perm.swap _ _ _)
theorem rowsZ_put {α : Type} {e : TypeId} {n : Nat} {f : α → List AV} (vs : List OV) (gs : List (List α)) (k : Nat) (h : k < vs.length) (h2 : k < gs.length) (v : OV) (g : List α) : (rowsZ e n f (vs.set k v) (gs.set k g)).Perm (.row v.1 e n f g :: rowsZ e n f (vs.eraseIdx k) (gs.eraseIdx k)) := by
  have hp := rowsZ_perm (e := e) (n := n) (f := f) (vs.set k v) (gs.set k g) k (by simpa using h) (by simpa using h2)
  rwa [List.getElem_set_self, List.getElem_set_self, List.eraseIdx_set_eq, List.eraseIdx_set_eq] at hp
theorem rowsZ_snoc {α : Type} {e : TypeId} {n : Nat} {f : α → List AV} {v : OV} {g : List α} : ∀ {vs : List OV} {gs : List (List α)}, vs.length = gs.length → (rowsZ e n f (vs ++ [v]) (gs ++ [g])).Perm (.row v.1 e n f g :: rowsZ e n f vs gs)
  | [], [], _ => by simp [rowsZ]
  | u :: vs, x :: gs, h => by
    simp only [List.cons_append, rowsZ]
    exact ((rowsZ_snoc (by simpa using h)).cons _).trans (List.Perm.swap _ _ _)
  | [], _ :: _, h => by simp at h
  | _ :: _, [], h => by simp at h
def slC {α : Type} (n : Nat) (f : α → List AV) (g : List α) : List AV := [.sl n f g]
theorem rowsZ_frz {α : Type} {e : TypeId} {n : Nat} {f : α → List AV} {rest : List HA} {w : World} : ∀ {vs : List OV} {gs : List (List α)} {G : Nat → Option Obj} {F : List Nat}, vs.length = gs.length → Inv G F (rowsZ e n f vs gs ++ rest) w →
    ∃ G' F', Inv G' F' rest w ∧ Fr w w F F' G G' ∧ Fits G' (gs.flatMap (slC n f)) (vs.map (·.1))
  | [], [], G, F, _, h => ⟨G, F, h, Fr.refl _ _ _, trivial⟩
  | v :: vs, g :: gs, G, F, hl, h => by
    obtain ⟨G1, F1, h1, h2, h3⟩ := row_freeze (rest := rowsZ e n f vs gs ++ rest) h
    obtain ⟨G2, F2, k1, k2, k3⟩ := rowsZ_frz (by simpa using hl) h1
    exact ⟨G2, F2, k1, h2.trans k2, (AV.sl n f g).mono k2.gle h3, k3⟩
  | [], _ :: _, _, _, h, _ => by simp at h
  | _ :: _, [], _, _, h, _ => by simp at h
theorem fits_vl {G : Nat → Option Obj} : ∀ {vs : List OV} {us : List Value}, Fits G (vs.flatMap vlC) us → us = vs.map (·.1)
  | [], [], _ => rfl
  | v :: vs, u :: us, h => by
    have h1 : u = v.1 := h.1
    rw [h1, fits_vl h.2]; rfl
  | [], _ :: _, h => h.elim
  | _ :: _, [], h => h.elim
theorem st_frzRows {α : Type} {c : Cx} {rs : List (Nat × AV)} {hs r r' : List HA} {e e' : TypeId} {n : Nat} {f : α → List AV} {vs : List OV} {gs : List (List α)} {v : Value} {a : Act} {w : World} (hl : vs.length = gs.length) (hr : Rm hs (.pack (rowsZ e n f vs gs)) r) (hr2 : Rm r (.row v e' 1 vlC vs) r')
    (st : St c ⟨rs, hs⟩ a w) : St c ⟨rs, .row v e' 1 (slC n f) gs :: r'⟩ a w := by
  obtain ⟨G, F, hI, hF, hR, rr⟩ := st
  obtain ⟨G', F', h1, h2, h3⟩ := rowsZ_frz hl ⟨hI.gin, hI.nd, hI.own, hsP.pack.1 (hr.sel hI.hs)⟩
  obtain ⟨A, B, ep, ⟨us, e1, e2, e3, e4, e5⟩, hB⟩ := hr2.sel h1.hs
  have := fits_vl e3
  subst this
  refine ⟨G', F', ⟨h1.gin, h1.nd, h1.own, A, B, ep, ⟨_, e1, fun _ _ => rfl, h3, e4, ?_⟩, hB⟩, hF.trans h2, hR.mono h2.gle, rr.1, rr.2.step h2⟩
  rw [← hl]; exact e5
theorem W_frzRows {α : Type} {c : Cx} {rs : List (Nat × AV)} {hs r r' : List HA} {Q : Exit → S → Prop} {x : Code} {e e' : TypeId} {n : Nat} {f : α → List AV} {vs : List OV} {gs : List (List α)} {v : Value} (hl : vs.length = gs.length) (hr : Rm hs (.pack (rowsZ e n f vs gs)) r) (hr2 : Rm r (.row v e' 1 vlC vs) r')
    (k : W c x ⟨rs, .row v e' 1 (slC n f) gs :: r'⟩ Q) : W c x ⟨rs, hs⟩ Q := ⟨fun a w st => k.out a w (st_frzRows hl hr hr2 st)⟩
/-- Two ways meet again, in some state of these. -/
theorem W_meetE {β : Type} {c : Cx} {s : S} {x y : Code} {Q Q' : Exit → S → Prop} (I : β → S) (J : β → Prop) (h : W c x s (fun e s' => e = .normal ∧ ∃ b, (∀ a w, St c s' a w → St c (I b) a w) ∧ J b)) (k : ∀ b, J b → W c y (I b) Q') : W c x s (thenQ (fun s' => W c y s' Q') Q) :=
  W_mono h fun e s' ⟨he, b, hs, hJ⟩ => by subst he; exact W_weak (I b) hs (k b hJ)
/-- What is owned, put in other words. -/
theorem st_imp {c : Cx} {rs : List (Nat × AV)} {hs : List HA} {h h' : HA} {g : HA → List HA} {a : Act} {w : World} (hat : At hs h g) (k : ∀ G F w, h.P G F w → h'.P G F w) (st : St c ⟨rs, hs⟩ a w) : St c ⟨rs, g h'⟩ a w := by
  obtain ⟨G, F, hI, rr⟩ := st
  obtain ⟨rest, hsel⟩ := hat.sel
  obtain ⟨F1, F2, ep, h1, h2⟩ := (hsel _ _ _ _).1 (by rw [hat.self]; exact hI.hs)
  exact ⟨G, F, ⟨hI.gin, hI.nd, hI.own, (hsel _ _ _ _).2 ⟨F1, F2, ep, k _ _ _ h1, h2⟩⟩, rr⟩
theorem W_imp {c : Cx} {rs : List (Nat × AV)} {hs : List HA} {h h' : HA} {g : HA → List HA} {Q : Exit → S → Prop} {x : Code} (hat : At hs h g) (k : ∀ G F w, h.P G F w → h'.P G F w) (kk : W c x ⟨rs, g h'⟩ Q) : W c x ⟨rs, hs⟩ Q := ⟨fun a w st => kk.out a w (st_imp hat k st)⟩
theorem W_rows0 {α : Type} {c : Cx} {rs : List (Nat × AV)} {hs : List HA} {Q : Exit → S → Prop} {x : Code} (e : TypeId) (n : Nat) (f : α → List AV) (kk : W c x ⟨rs, .pack (rowsZ e n f [] []) :: hs⟩ Q) : W c x ⟨rs, hs⟩ Q := ⟨fun a w st => kk.out a w (by
  obtain ⟨G, F, hI, rr⟩ := st
  exact ⟨G, F, ⟨hI.gin, hI.nd, hI.own, [], F, .refl _, rfl, hI.hs⟩, rr⟩)⟩
end Go.Proofs.YtihonljdanjfmaaDoor.Sw
namespace Go.Proofs.YtihonljdanjfmaaDoor.Sw
open Go.RowKit Go Go.Shelf Go.Proofs
theorem rises_of_ok {f : Flo} (h : floOk f = true) : rises 0 f.ids = true := by
  simp only [floOk, Bool.and_eq_true] at h
  exact h.1.1.1.2
end Go.Proofs.YtihonljdanjfmaaDoor.Sw
namespace Go.Proofs.YtihonljdanjfmaaDoor.Sw
open Go.RowKit Go Go.Shelf Go.Proofs
open Go.Proofs.YtihonljdanjfmaaDoor.Gr (headsR hf sumP Zr lf Lab)
/-- What groups come to, label by label: none that comes to nothing. -/
def evS (x : Nat → Int) (h : Nat → Nat) (m : List (Nat × Int)) (i : Nat) : List (Nat × Int) :=
  if (getM m (h i)).getD 0 + x i = 0 then delM (putM m (h i) ((getM m (h i)).getD 0 + x i)) (h i) else putM m (h i) ((getM m (h i)).getD 0 + x i)
def evM (x : Nat → Int) (h : Nat → Nat) : Nat → List (Nat × Int)
  | 0 => []
  | k + 1 => evS x h (evM x h k) k
theorem evM_get {x : Nat → Int} {h : Nat → Nat} : ∀ {k j : Nat}, getM (evM x h k) j = if sumP k x (fun v => decide (h v = j)) = 0 then none else some (sumP k x fun v => decide (h v = j))
  | 0, j => rfl
  | k + 1, j => by
    have hs : sumP (k + 1) x (fun v => decide (h v = j)) = sumP k x (fun v => decide (h v = j)) + (if decide (h k = j) = true then x k else 0) := rfl
    have hd : ∀ j, (getM (evM x h k) j).getD 0 = sumP k x (fun v => decide (h v = j)) := fun j => by
      rw [evM_get]; split
      · rename_i e; rw [e]; rfl
      · rfl
    show getM (evS x h (evM x h k) k) j = _
    unfold evS
    rw [hd, hs]
    by_cases hj : h k = j
    · subst hj
      simp only [decide_true, if_true]
      split
      · rw [getM_del, if_pos rfl]
      · rw [getM_put, if_pos rfl]
    · rw [decide_eq_false hj]
      simp only [Bool.false_eq_true, if_false, Int.add_zero]
      rw [← evM_get]
      split
      · rw [getM_del, if_neg (fun e => hj e.symm), getM_put, if_neg (fun e => hj e.symm)]
      · rw [getM_put, if_neg (fun e => hj e.symm)]
theorem evM_len {x : Nat → Int} {h : Nat → Nat} : ∀ k, (evM x h k).length ≤ k
  | 0 => Nat.le_refl _
  | k + 1 => by
    show (evS x h (evM x h k) k).length ≤ k + 1
    unfold evS
    have h1 := putM_len (evM x h k) (h k) ((getM (evM x h k) (h k)).getD 0 + x k)
    have h2 := evM_len (x := x) (h := h) k
    split
    · exact Nat.le_trans (delM_len _ _) (by omega)
    · omega
theorem evM_nil {x : Nat → Int} {h : Nat → Nat} {k : Nat} : evM x h k = [] ↔ ∀ j, sumP k x (fun v => decide (h v = j)) = 0 := by
  constructor
  · intro e j
    have := evM_get (x := x) (h := h) (k := k) (j := j)
    rw [e] at this
    split at this
    · assumption
    · cases this
  · intro h0
    cases hm : evM x h k with
    | nil => rfl
    | cons p t =>
      have := evM_get (x := x) (h := h) (k := k) (j := p.1)
      rw [hm, if_pos (h0 _), getM, if_pos rfl] at this
      cases this
def evB (n : Nat) (L : List (Nat × Nat)) (cu : List Int) : Bool := decide (evM (lf cu) (hf (headsR n L)) n = [])
theorem evB_iff {n : Nat} {L : List (Nat × Nat)} {cu : List Int} (h : ∀ p ∈ L, p.1 < n ∧ p.2 < n) : evB n L cu = true ↔ Zr n L (lf cu) := by
  unfold evB
  rw [decide_eq_true_iff, evM_nil]
  exact Gr.even_iff (Gr.lab_all h)
theorem sumP_bound {x : Nat → Int} {c : Int} (hc : 0 ≤ c) : ∀ {k : Nat}, (∀ v, v < k → -c ≤ x v ∧ x v ≤ c) → ∀ P, -(k * c) ≤ sumP k x P ∧ sumP k x P ≤ k * c
  | 0, _, P => by simp [sumP]
  | k + 1, h, P => by
    have ih := sumP_bound hc (k := k) (fun v hv => h v (by omega)) P
    have h1 := h k (by omega)
    have hk : ((k + 1 : Nat) : Int) * c = k * c + c := by rw [Int.natCast_add, Int.add_mul]; simp
    rw [hk]
    unfold sumP
    split <;> omega
def nk (n : Nat) : Value := .int .i64 (n : Int)
def iG (n : Int) : AV := .val (.int .i64 n)
theorem keyN : KeyT Tryd.prog 3 nk (fun n => n ≤ 1000000) :=
  ⟨(keyT_int Tryd.underlying3).keyed, fun n hn => (keyT_int Tryd.underlying3).key n (by omega), fun a b e => by unfold nk at e; injection e with _ e; omega⟩
theorem lkA_int (o : Option Int) : lkA iG (.int .i64 0) o = .val (.int .i64 (o.getD 0)) := by cases o <;> rfl
theorem LT_av {P : Program} {o : Oper} {rs : List (Nat × AV)} {cons prod : List HA} {av av' : AV} (k : LT P o rs cons (Is av prod)) (h : av = av') : LT P o rs cons (Is av' prod) := h ▸ k
abbrev mpI (v : Value) (l : List (Nat × Int)) : HA := .mp Tryd.prog v 3 nk iG l
theorem lf_at {cu : List Int} {i : Nat} (h : i < cu.length) : lf cu i = cu[i] := by simp [lf, List.getD_eq_getElem?_getD, List.getElem?_eq_getElem h]
theorem hf_at {h : List Nat} {i : Nat} (hi : i < h.length) : hf h i = h[i] := by simp [hf, List.getD_eq_getElem?_getD, List.getElem?_eq_getElem hi]
set_option maxRecDepth 20000 in
set_option maxHeartbeats 4000000 in
theorem even_con (ph ow : Value) (f : Flo) (cu : List Int) (L : List (Nat × Nat)) (hn : f.ids.length ≤ 1000) (hl : L.length ≤ 1000) (hL : ∀ p ∈ L, p.1 < f.ids.length ∧ p.2 < f.ids.length) (hcl : cu.length = f.ids.length) (hbt : Btw (-1000000000) 1000000000 cu) : Con Tryd.prog 113 [.val ph, .sl 2 pnC L] [hsB ph f ow, .row ow 3 1 iC cu] (Is (.val (.bool (evB f.ids.length L cu))) [hsB ph f ow, .row ow 3 1 iC cu]) := by
  have hhl := headsR_len f.ids.length L
  have hlab := (Gr.lab_all hL).lt
  refine con_of Tryd.func113 rfl (enters_of Tryd.func113 (by kernel_rfl) rfl) rfl ?_; intro n w0 F0 G0
  (refine goSt ?_; (repeat (refine goAl ?_; intro p hp; refine goSt ?_)))
  (apply wl_mmake keyN iG; exact rfl; intro v hv)
  (refine goSt ?_; (repeat (refine goAl ?_; intro p hp; refine goSt ?_)))
  (apply wl_callP (groups_con ph ow f L hn hl hL); exact rfl; exact goCutl; exact rfl)
  rintro _ _ ⟨u, rfl, rfl⟩
  unfold evB
  generalize headsR f.ids.length L = h at hhl hlab ⊢
  (refine goSt ?_; (repeat (refine goAl ?_; intro p hp; refine goSt ?_)))
  refine W_loopJ (fun (i : Nat) => ⟨[(0, .val ph), (5, .val v), (11, .val u), (12, .val (.int .i64 h.length)), (13, .val (.int .i64 i))], [mpI v (evM (lf cu) (hf h) i), .row u 3 1 nC h, hsB ph f ow, .row ow 3 1 iC cu]⟩) (fun i => i ≤ h.length) (fun i => h.length - i) 0 (fun _ _ st => st_sub2 st goSubr goSubp) (Nat.zero_le _) ?_
  rintro i hi
  (refine goSt ?_; (repeat (refine goAl ?_; intro p hp; refine goSt ?_)))
  refine w_cond rfl (fun hlt => ?_) (fun hlt => ?_)
  · have hi' : i < h.length := by simpa using hlt
    have hic : i < cu.length := by omega
    have hq1 : cu[i]? = some cu[i] := List.getElem?_eq_getElem hic
    have hb := hbt.at hic
    have hhi : h[i] ≤ 1000000 := by have := hlab i (by omega); rw [hf_at hi'] at this; omega
    have hml := evM_len (x := lf cu) (h := hf h) i
    have hg := evM_get (x := lf cu) (h := hf h) (k := i) (j := h[i])
    have hbb : ∀ q, q < i → -1000000000 ≤ lf cu q ∧ lf cu q ≤ 1000000000 := fun q hq => by
      have hqc : q < cu.length := by omega
      rw [lf_at hqc]; exact hbt.at hqc
    have hsb := sumP_bound (x := lf cu) (c := 1000000000) (by omega) (k := i) hbb (fun v => decide (hf h v = h[i]))
    have hgb : -1000000000000 ≤ (getM (evM (lf cu) (hf h) i) h[i]).getD 0 ∧ (getM (evM (lf cu) (hf h) i) h[i]).getD 0 ≤ 1000000000000 := by
      rw [hg]; split <;> simp <;> omega
    have hstep : evM (lf cu) (hf h) (i + 1) = evS (lf cu) (hf h) (evM (lf cu) (hf h) i) i := rfl
    unfold evS at hstep
    rw [hf_at hi', lf_at hic] at hstep
    generalize evM (lf cu) (hf h) i = m at hml hgb hstep ⊢
    clear hg hsb hbb
    (refine goSt ?_; (repeat (refine goAl ?_; intro p hp; refine goSt ?_)))
    refine W_run 10 [18, 19, 20, 21, 22, 23, 24, 25, 26, 27] [0, 1, 2, 3, 4, 5, 6, 7, 8, 9] Cut.nil rfl goFlt mixedS (by kernel_rfl) rfl ?_
    refine rpv [] [] ?_
    refine rpv [] [] ?_
    refine Run.pv [0, 1] [] rfl (fun vs => by apply ltr_pk; exact goPk; exact ltr_rd (h := mpI v m) (LT_av (lt_look1 keyN Tryd.underlying143 (fun w => by kernel_rfl) h[i] rfl rfl KeyV.val hhi) (lkA_int _)) goAtm) goApp ?_
    refine rpv [] [] ?_
    refine rpv [3] [] ?_
    refine rpv [4] [] ?_
    refine rpv [5] [] ?_
    refine rpv [] [] ?_
    refine rpv [6, 7] [] ?_
    refine rpv [8] [] ?_
    refine ⟨⟨by kernel_rfl, by kernel_rfl⟩, fun vs => ?_⟩
    apply WL_auto [0, 1, 2, 9]
    · exact goPk
    · exact goNrm
    · kernel_rfl
    · kernel_rfl
    (refine goSt ?_; (repeat (refine goAl ?_; intro p hp; refine goSt ?_)))
    (apply wl_mput keyN h[i] ((getM m h[i]).getD 0 + cu[i]) Tryd.underlying143; exact rfl; exact goAtm; exact rfl; exact KeyV.val; exact hhi; exact rfl; omega)
    (refine goSt ?_; (repeat (refine goAl ?_; intro p hp; refine goSt ?_)))
    (apply wl_look1 keyN h[i] Tryd.underlying143 (fun w => by kernel_rfl); exact rfl; exact goAtm; exact rfl; exact KeyV.val; exact hhi; exact rfl)
    rw [lkA_int, getM_put, if_pos rfl, Option.getD_some]
    (refine goSt ?_; (repeat (refine goAl ?_; intro p hp; refine goSt ?_)))
    refine w_cond rfl (fun he => ?_) (fun he => ?_)
    · rw [if_pos (of_decide_eq_true he)] at hstep
      (refine goSt ?_; (repeat (refine goAl ?_; intro p hp; refine goSt ?_)))
      (apply wl_mdel keyN h[i] Tryd.underlying143; exact rfl; exact goAtm; exact rfl; exact KeyV.val; exact hhi; exact rfl)
      rw [← hstep]
      (refine goSt ?_; (repeat (refine goAl ?_; intro p hp; refine goSt ?_)))
      (refine ⟨i + 1, fun _ _ st => st_sub2 st ?_ ?_, ?_, ?_⟩; exact goSubr; exact goSubp)
      · omega
      · omega
    · rw [if_neg (of_decide_eq_false he)] at hstep
      rw [← hstep]
      (refine goSt ?_; (repeat (refine goAl ?_; intro p hp; refine goSt ?_)))
      (refine ⟨i + 1, fun _ _ st => st_sub2 st ?_ ?_, ?_, ?_⟩; exact goSubr; exact goSubp)
      · omega
      · omega
  · have hii : i = h.length := by simp at hlt; omega
    subst hii
    rw [hhl]
    (refine goSt ?_; (repeat (refine goAl ?_; intro p hp; refine goSt ?_)))
    (apply wl_mlen; exact Tryd.underlying143; exact rfl; exact goAtm; exact rfl)
    (refine goSt ?_; (repeat (refine goAl ?_; intro p hp; refine goSt ?_)))
    have he : decide (((evM (lf cu) (hf h) f.ids.length).length : Int) = 0) = decide (evM (lf cu) (hf h) f.ids.length = []) := by
      refine decide_eq_decide.2 ?_
      rw [← List.length_eq_zero_iff]; omega
    rw [he]
    (apply resK1; exact rfl; exact rfl; exact ⟨rfl, rfl⟩; exact goCutl)
end Go.Proofs.YtihonljdanjfmaaDoor.Sw
namespace Go.Proofs.YtihonljdanjfmaaDoor.Sw
open Go.RowKit Go Go.Shelf Go.Proofs
open Go.Proofs.YtihonljdanjfmaaDoor.Gr (headsR hf sumP Zr lf Lab)
/-- Pairs that speak, the greater index first. -/
def prI (sp : Nat → Nat → Bool) (i k : Nat) : List (Nat × Nat) := ((List.range k).filter fun k => sp k i).map fun k => (k, i)
def prP (sp : Nat → Nat → Bool) (n : Nat) : List (Nat × Nat) := (List.range n).flatMap fun i => prI sp i i
theorem prI_succ (sp : Nat → Nat → Bool) (i k : Nat) : prI sp i (k + 1) = if sp k i = true then prI sp i k ++ [(k, i)] else prI sp i k := by
  unfold prI
  rw [List.range_succ, List.filter_append]
  split
  · rename_i h; simp [h]
  · rename_i h; simp [h]
theorem prP_succ (sp : Nat → Nat → Bool) (n : Nat) : prP sp (n + 1) = prP sp n ++ prI sp n n := by
  unfold prP
  rw [List.range_succ, List.flatMap_append]; simp
theorem prI_mem {sp : Nat → Nat → Bool} {i k : Nat} {p : Nat × Nat} : p ∈ prI sp i k ↔ p.1 < k ∧ p.2 = i ∧ sp p.1 i = true := by
  unfold prI
  rw [List.mem_map]
  constructor
  · rintro ⟨a, ha, rfl⟩
    have := List.mem_filter.1 ha
    exact ⟨List.mem_range.1 this.1, rfl, this.2⟩
  · rintro ⟨h1, h2, h3⟩
    exact ⟨p.1, List.mem_filter.2 ⟨List.mem_range.2 h1, h3⟩, by rw [← h2]⟩
theorem prP_mem {sp : Nat → Nat → Bool} {n : Nat} {p : Nat × Nat} : p ∈ prP sp n ↔ p.1 < p.2 ∧ p.2 < n ∧ sp p.1 p.2 = true := by
  unfold prP
  rw [List.mem_flatMap]
  constructor
  · rintro ⟨i, hi, hp⟩
    obtain ⟨h1, h2, h3⟩ := prI_mem.1 hp
    have := List.mem_range.1 hi
    exact ⟨by omega, by omega, by rw [h2]; exact h3⟩
  · rintro ⟨h1, h2, h3⟩
    exact ⟨p.2, List.mem_range.2 h2, prI_mem.2 ⟨h1, rfl, h3⟩⟩
theorem prI_len (sp : Nat → Nat → Bool) (i k : Nat) : (prI sp i k).length ≤ k := by
  unfold prI
  rw [List.length_map]
  exact Nat.le_trans (List.length_filter_le _ _) (by simp)
theorem prP_len (sp : Nat → Nat → Bool) : ∀ n, (prP sp n).length ≤ n * n
  | 0 => by simp [prP]
  | n + 1 => by
    rw [prP_succ, List.length_append]
    have h1 := prP_len sp n
    have h2 := prI_len sp n n
    rw [Nat.succ_mul, Nat.mul_succ]; omega
/-- Whether two floors speak, by their indices. -/
def spk (f : Flo) (a b : Nat) : Bool := speakR f.qs (f.ids.getD a 0) (f.ids.getD b 0)
def canB (f : Flo) (cu : List Int) : Bool := evB f.ids.length (prP (spk f) f.ids.length) cu
set_option maxRecDepth 20000 in
set_option maxHeartbeats 4000000 in
theorem can_con (ph ow : Value) (f : Flo) (cu : List Int) (hn : f.ids.length ≤ 10) (hql : f.qs.length ≤ 1000) (hr : rises 0 f.ids = true) (hcl : cu.length = f.ids.length) (hbt : Btw (-1000000000) 1000000000 cu) : Con Tryd.prog 70 [.val ph] [hsB ph f ow, .row ow 3 1 iC cu] (Is (.val (.bool (canB f cu))) [hsB ph f ow, .row ow 3 1 iC cu]) := by
  have hll : ∀ n, n ≤ 10 → (prP (spk f) n).length ≤ 100 := fun n hn => Nat.le_trans (prP_len _ n) (Nat.mul_le_mul hn hn)
  refine con_of Tryd.func70 rfl (enters_of Tryd.func70 (by kernel_rfl) rfl) rfl ?_; intro n w0 F0 G0
  (refine goSt ?_; (repeat (refine goAl ?_; intro p hp; refine goSt ?_)))
  refine W_loopJ (fun (b : Nat × Value) => ⟨[(0, .val ph), (3, .val b.2), (12, .val (.int .i64 f.ids.length)), (13, .val (.int .i64 b.1))], [.row b.2 105 2 pnC (prP (spk f) b.1), hsB ph f ow, .row ow 3 1 iC cu]⟩) (fun b => b.1 ≤ f.ids.length) (fun b => f.ids.length - b.1) (0, .slice none 0 0) (fun _ _ st => st_sub2 (st_nil 105 2 pnC st) goSubr goSubp) (Nat.zero_le _) ?_
  rintro ⟨i, v⟩ hi
  dsimp only at hi ⊢
  (refine goSt ?_; (repeat (refine goAl ?_; intro p hp; refine goSt ?_)))
  refine w_cond rfl (fun hlt => ?_) (fun hlt => ?_)
  · have hi' : i < f.ids.length := by simpa using hlt
    have hl1 := hll i (by omega)
    (refine goSt ?_; (repeat (refine goAl ?_; intro p hp; refine goSt ?_)))
    refine W_loopJ (fun (b : Nat × Value) => ⟨[(0, .val ph), (3, .val b.2), (12, .val (.int .i64 f.ids.length)), (13, .val (.int .i64 i)), (4, .val (.int .i64 i)), (16, .val (.int .i64 i)), (17, .val (.int .i64 b.1))], [.row b.2 105 2 pnC (prP (spk f) i ++ prI (spk f) i b.1), hsB ph f ow, .row ow 3 1 iC cu]⟩) (fun b => b.1 ≤ i) (fun b => i - b.1) (0, v) (fun _ _ st => st_sub2 st goSubr (by rw [show prI (spk f) i 0 = [] from rfl, List.append_nil]; exact goSubp)) (Nat.zero_le _) ?_
    rintro ⟨k, u⟩ hk
    dsimp only at hk ⊢
    (refine goSt ?_; (repeat (refine goAl ?_; intro p hp; refine goSt ?_)))
    refine w_cond rfl (fun hlt2 => ?_) (fun hlt2 => ?_)
    · have hk' : k < i := by simpa using hlt2
      have hl2 := prI_len (spk f) i k
      have hks : k < f.ids.length := by omega
      have S := speak_con ph ow f k i hks hi' hr (by omega) hql
      rw [show speakR f.qs f.ids[k] f.ids[i] = spk f k i from by simp [spk, List.getD_eq_getElem?_getD, hks, hi']] at S
      have hsu := prI_succ (spk f) i k
      (refine goSt ?_; (repeat (refine goAl ?_; intro p hp; refine goSt ?_)))
      (first | (apply wl_call (S); exact rfl; exact rfl) | (apply wl_callR (S); exact rfl; exact goAtm; exact rfl))
      (refine goSt ?_; (repeat (refine goAl ?_; intro p hp; refine goSt ?_)))
      refine w_cond rfl (fun hs => ?_) (fun hs => ?_)
      · rw [if_pos hs] at hsu
        (refine goSt ?_; (repeat (refine goAl ?_; intro p hp; refine goSt ?_)))
        refine WL_as 27 (.agg (pnC (k, i))) rfl ?_
        (apply wl_litF pnC; exact inferInstance; exact inferInstance; exact inferInstance; (repeat (first | exact Elems.nil | (apply Elems.cons; exact rfl; exact inferInstance; exact rfl))); exact rfl; (first | exact (of_decide_eq_true rfl) | decide | (simp; done) | (simp; omega)); exact rfl)
        (first | (apply wl_append; exact rfl; exact rfl; exact goRm; exact inferInstance; exact inferInstance; (first | omega | (simp; omega)); exact rfl) | (apply wl_appendN; exact rfl; exact rfl; exact inferInstance; exact inferInstance; (first | omega | (simp; omega)); exact rfl))
        intro v2
        rw [List.append_assoc, ← hsu]
        (refine goSt ?_; (repeat (refine goAl ?_; intro p hp; refine goSt ?_)))
        (refine ⟨(k + 1, v2), fun _ _ st => st_sub2 st ?_ ?_, ?_, ?_⟩; exact goSubr; exact goSubp)
        · dsimp only; omega
        · dsimp only; omega
      · rw [if_neg (by rw [hs]; simp)] at hsu
        rw [← hsu]
        (refine goSt ?_; (repeat (refine goAl ?_; intro p hp; refine goSt ?_)))
        (refine ⟨(k + 1, u), fun _ _ st => st_sub2 st ?_ ?_, ?_, ?_⟩; exact goSubr; exact goSubp)
        · dsimp only; omega
        · dsimp only; omega
    · have hkk : k = i := by simp at hlt2; omega
      subst hkk
      rw [← prP_succ]
      (refine goSt ?_; (repeat (refine goAl ?_; intro p hp; refine goSt ?_)))
      (refine ⟨(k + 1, u), fun _ _ st => st_sub2 st ?_ ?_, ?_, ?_⟩; exact goSubr; exact goSubp)
      · dsimp only; omega
      · dsimp only; omega
  · have hii : i = f.ids.length := by simp at hlt; omega
    subst hii
    have hl3 := hll _ hn
    (refine goSt ?_; (repeat (refine goAl ?_; intro p hp; refine goSt ?_)))
    (apply WL_frz 33; exact rfl; exact goRm)
    (apply wl_callP (even_con ph ow f cu (prP (spk f) f.ids.length) (by omega) (by omega) (fun p hp => ⟨Nat.lt_trans (prP_mem.1 hp).1 (prP_mem.1 hp).2.1, (prP_mem.1 hp).2.1⟩) hcl hbt); exact rfl; exact goCutl; exact rfl)
    rintro _ _ ⟨rfl, rfl⟩
    (refine goSt ?_; (repeat (refine goAl ?_; intro p hp; refine goSt ?_)))
    (apply resK1; exact rfl; exact rfl; exact ⟨rfl, rfl⟩; exact goCutl)
end Go.Proofs.YtihonljdanjfmaaDoor.Sw
namespace Go.Proofs.YtihonljdanjfmaaDoor.Sw
open Go.RowKit Go Go.Shelf Go.Proofs
open Go.Proofs.YtihonljdanjfmaaDoor.Gr (payLt atP addP)
/-- Pairs that speak, the lesser index first. -/
def prJ (sp : Nat → Nat → Bool) (i k m : Nat) : List (Nat × Nat) := ((List.range' k m).filter fun k => sp i k).map fun k => (i, k)
def prR (sp : Nat → Nat → Bool) (n : Nat) : Nat → List (Nat × Nat)
  | 0 => []
  | i + 1 => prR sp n i ++ prJ sp i (i + 1) (n - (i + 1))
theorem prJ_succ (sp : Nat → Nat → Bool) (i k m : Nat) : prJ sp i k (m + 1) = if sp i (k + m) = true then prJ sp i k m ++ [(i, k + m)] else prJ sp i k m := by
  unfold prJ
  rw [List.range'_concat, Nat.one_mul, List.filter_append]
  split
  · rename_i h; simp [h]
  · rename_i h; simp [h]
theorem prJ_mem {sp : Nat → Nat → Bool} {i k m : Nat} {p : Nat × Nat} : p ∈ prJ sp i k m ↔ p.1 = i ∧ k ≤ p.2 ∧ p.2 < k + m ∧ sp i p.2 = true := by
  unfold prJ
  rw [List.mem_map]
  constructor
  · rintro ⟨a, ha, rfl⟩
    have := List.mem_filter.1 ha
    have h2 := List.mem_range'_1.1 this.1
    exact ⟨rfl, h2.1, h2.2, this.2⟩
  · rintro ⟨h1, h2, h3, h4⟩
    exact ⟨p.2, List.mem_filter.2 ⟨List.mem_range'_1.2 ⟨h2, h3⟩, h4⟩, by rw [← h1]⟩
theorem prR_mem {sp : Nat → Nat → Bool} {n : Nat} {p : Nat × Nat} : ∀ {i}, i ≤ n → (p ∈ prR sp n i ↔ p.1 < i ∧ p.1 < p.2 ∧ p.2 < n ∧ sp p.1 p.2 = true)
  | 0, _ => by simp [prR]
  | i + 1, hi => by
    rw [prR, List.mem_append, prR_mem (by omega), prJ_mem]
    constructor
    · rintro (⟨h1, h2⟩ | ⟨h1, h2, h3, h4⟩)
      · exact ⟨by omega, h2⟩
      · exact ⟨by omega, by omega, by omega, by rw [h1]; exact h4⟩
    · rintro ⟨h1, h2, h3, h4⟩
      by_cases he : p.1 = i
      · exact .inr ⟨he, by omega, by omega, by rw [← he]; exact h4⟩
      · exact .inl ⟨by omega, h2, h3, h4⟩
theorem prJ_len (sp : Nat → Nat → Bool) (i k m : Nat) : (prJ sp i k m).length ≤ m := by
  unfold prJ
  rw [List.length_map]
  exact Nat.le_trans (List.length_filter_le _ _) (by simp)
theorem prR_len (sp : Nat → Nat → Bool) (n : Nat) : ∀ i, (prR sp n i).length ≤ i * n
  | 0 => by simp [prR]
  | i + 1 => by
    rw [prR, List.length_append]
    have h1 := prR_len sp n i
    have h2 := prJ_len sp i (i + 1) (n - (i + 1))
    rw [Nat.succ_mul]; omega
set_option maxRecDepth 20000 in
set_option maxHeartbeats 4000000 in
theorem pairs8_con (f : Flo) (hn : f.ids.length ≤ 10) (hql : f.qs.length ≤ 1000) : Con Tryd.prog 92 [.agg (flC f)] [] (Tok 149 2 pnC (prR (spk f) f.ids.length f.ids.length)) := by
  have hll : ∀ i, i ≤ 10 → (prR (spk f) f.ids.length i).length ≤ 100 := fun i hi => Nat.le_trans (prR_len _ _ i) (Nat.mul_le_mul hi hn)
  refine con_of Tryd.func92 rfl (enters_of Tryd.func92 (by kernel_rfl) rfl) rfl ?_; intro n w0 F0 G0
  (refine goSt ?_; (repeat (refine goAl ?_; intro p hp; refine goSt ?_)))
  refine W_loopJ (fun (b : Nat × Value) => ⟨[(1, .val p), (3, .val b.2), (4, .val (.int .i64 b.1))], [.row b.2 149 2 pnC (prR (spk f) f.ids.length b.1), .box p (flC f) 27]⟩) (fun b => b.1 ≤ f.ids.length) (fun b => f.ids.length - b.1) (0, .slice none 0 0) (fun _ _ st => st_sub2 (st_nil 149 2 pnC st) goSubr goSubp) (Nat.zero_le _) ?_
  rintro ⟨i, v⟩ hi
  dsimp only at hi ⊢
  (refine goSt ?_; (repeat (refine goAl ?_; intro p hp; refine goSt ?_)))
  refine w_cond rfl (fun hlt => ?_) (fun hlt => ?_)
  · have hi' : i < f.ids.length := by simpa using hlt
    have hl1 := hll i (by omega)
    have hq1 : f.ids[i]? = some f.ids[i] := List.getElem?_eq_getElem hi'
    (refine goSt ?_; (repeat (refine goAl ?_; intro p hp; refine goSt ?_)))
    refine W_loopJ (fun (b : Nat × Value) => ⟨[(1, .val p), (3, .val b.2), (4, .val (.int .i64 i)), (5, .val (.int .i64 ((i + 1 + b.1 : Nat) : Int)))], [.row b.2 149 2 pnC (prR (spk f) f.ids.length i ++ prJ (spk f) i (i + 1) b.1), .box p (flC f) 27]⟩) (fun b => i + 1 + b.1 ≤ f.ids.length) (fun b => f.ids.length - b.1) (0, v) (fun _ _ st => st_sub2 st goSubr (by rw [show prJ (spk f) i (i + 1) 0 = [] from rfl, List.append_nil]; exact goSubp)) hi' ?_
    rintro ⟨m, u⟩ hm
    dsimp only at hm ⊢
    (refine goSt ?_; (repeat (refine goAl ?_; intro p hp; refine goSt ?_)))
    refine w_cond rfl (fun hlt2 => ?_) (fun hlt2 => ?_)
    · have hk' : i + 1 + m < f.ids.length := by simp at hlt2; omega
      have hq2 : f.ids[i + 1 + m]? = some f.ids[i + 1 + m] := List.getElem?_eq_getElem hk'
      have hl2 := prJ_len (spk f) i (i + 1) m
      have S := speak8_con f f.ids[i] f.ids[i + 1 + m] hql
      rw [show speakR f.qs f.ids[i] f.ids[i + 1 + m] = spk f i (i + 1 + m) from by simp [spk, List.getD_eq_getElem?_getD, hk', hi']] at S
      have hsu := prJ_succ (spk f) i (i + 1) m
      (refine goSt ?_; (repeat (refine goAl ?_; intro p hp; refine goSt ?_)))
      refine W_run 11 [22, 23, 24, 25, 26, 27, 28, 29, 30, 31, 32] [0, 1, 2, 3, 4, 5, 6, 7, 8, 9, 10] Cut.nil rfl goFlt mixedS (by kernel_rfl) rfl ?_
      refine rpv [] [] ?_
      refine rpv [] [] ?_
      refine rpv [1] [] ?_
      refine rpv [] [] ?_
      refine rpv [2, 3] [] ?_
      refine rpv [4] [] ?_
      refine rpv [] [] ?_
      refine rpv [6] [] ?_
      refine rpv [] [] ?_
      refine rpv [7, 8] [] ?_
      refine rpv [9] [] ?_
      refine ⟨⟨by kernel_rfl, by kernel_rfl⟩, fun vs => ?_⟩
      apply WL_auto [0, 5, 10]
      · exact goPk
      · exact goNrm
      · kernel_rfl
      · kernel_rfl
      (refine goSt ?_; (repeat (refine goAl ?_; intro p hp; refine goSt ?_)))
      (first | (apply wl_call (S); exact rfl; exact rfl) | (apply wl_callR (S); exact rfl; exact goAtm; exact rfl))
      (refine goSt ?_; (repeat (refine goAl ?_; intro p hp; refine goSt ?_)))
      refine w_cond rfl (fun hs => ?_) (fun hs => ?_)
      · rw [if_pos hs] at hsu
        (refine goSt ?_; (repeat (refine goAl ?_; intro p hp; refine goSt ?_)))
        refine WL_as 37 (.agg (pnC (i, i + 1 + m))) rfl ?_
        (apply wl_litF pnC; exact inferInstance; exact inferInstance; exact inferInstance; (repeat (first | exact Elems.nil | (apply Elems.cons; exact rfl; exact inferInstance; exact rfl))); exact rfl; (first | exact (of_decide_eq_true rfl) | decide | (simp; done) | (simp; omega)); exact rfl)
        (first | (apply wl_append; exact rfl; exact rfl; exact goRm; exact inferInstance; exact inferInstance; (first | omega | (simp; omega)); exact rfl) | (apply wl_appendN; exact rfl; exact rfl; exact inferInstance; exact inferInstance; (first | omega | (simp; omega)); exact rfl))
        intro v2
        rw [List.append_assoc, ← hsu]
        (refine goSt ?_; (repeat (refine goAl ?_; intro p hp; refine goSt ?_)))
        (refine ⟨(m + 1, v2), fun _ _ st => st_sub2 st ?_ ?_, ?_, ?_⟩; exact goSubr; exact goSubp)
        · dsimp only; omega
        · dsimp only; omega
      · rw [if_neg (by rw [hs]; simp)] at hsu
        rw [← hsu]
        (refine goSt ?_; (repeat (refine goAl ?_; intro p hp; refine goSt ?_)))
        (refine ⟨(m + 1, u), fun _ _ st => st_sub2 st ?_ ?_, ?_, ?_⟩; exact goSubr; exact goSubp)
        · dsimp only; omega
        · dsimp only; omega
    · have hkk : m = f.ids.length - (i + 1) := by simp at hlt2; omega
      have e1 : prR (spk f) f.ids.length i ++ prJ (spk f) i (i + 1) m = prR (spk f) f.ids.length (i + 1) := by rw [hkk]; rfl
      rw [e1]
      (refine goSt ?_; (repeat (refine goAl ?_; intro p hp; refine goSt ?_)))
      (refine ⟨(i + 1, u), fun _ _ st => st_sub2 st ?_ ?_, ?_, ?_⟩; exact goSubr; exact goSubp)
      · dsimp only; omega
      · dsimp only; omega
  · have hii : i = f.ids.length := by simp at hlt; omega
    subst hii
    (refine goSt ?_; (repeat (refine goAl ?_; intro p hp; refine goSt ?_)))
    (apply resK; exact rfl; exact rfl; (apply Cut.cons; exact goRm; exact Cut.nil); exact ⟨_, rfl, rfl⟩)
set_option maxRecDepth 20000 in
theorem less8_con (a b : Pay) : Con Tryd.prog 137 [.agg (payC a), .agg (payC b)] [] (Is (.val (.bool (payLt a b))) []) := by
  unfold payLt
  refine con_of Tryd.func137 rfl (enters_of Tryd.func137 (by kernel_rfl) rfl) rfl ?_; intro n w0 F0 G0
  (refine goSt ?_; (repeat (refine goAl ?_; intro p hp; refine goSt ?_)))
  refine w_cond rfl (fun h1 => ?_) (fun h1 => ?_)
  · rw [if_pos (by simpa using h1)]
    (refine goSt ?_; (repeat (refine goAl ?_; intro p hp; refine goSt ?_)))
    (apply res1; exact rfl; exact rfl; exact ⟨rfl, rfl⟩)
  · rw [if_neg (by simpa using h1)]
    (refine goSt ?_; (repeat (refine goAl ?_; intro p hp; refine goSt ?_)))
    refine w_cond rfl (fun h2 => ?_) (fun h2 => ?_)
    · rw [if_pos (by simpa using h2)]
      (refine goSt ?_; (repeat (refine goAl ?_; intro p hp; refine goSt ?_)))
      (apply res1; exact rfl; exact rfl; exact ⟨rfl, rfl⟩)
    · rw [if_neg (by simpa using h2)]
      (refine goSt ?_; (repeat (refine goAl ?_; intro p hp; refine goSt ?_)))
      (apply res1; exact rfl; exact rfl; exact ⟨rfl, rfl⟩)
def sumPay (l : List Pay) : Int := (l.map Pay.p).sum
theorem sumPay_cons (x : Pay) (l : List Pay) : sumPay (x :: l) = x.p + sumPay l := by simp [sumPay]
theorem sumPay_snoc (l : List Pay) (x : Pay) : sumPay (l ++ [x]) = sumPay l + x.p := by simp [sumPay]
theorem sumPay_bound {c : Int} (hc : 0 ≤ c) : ∀ {l : List Pay}, (∀ x ∈ l, -c ≤ x.p ∧ x.p ≤ c) → -(l.length * c) ≤ sumPay l ∧ sumPay l ≤ l.length * c
  | [], _ => by simp [sumPay]
  | x :: t, h => by
    have h1 := h x (by simp)
    have h2 := sumPay_bound hc (l := t) fun y hy => h y (by simp [hy])
    rw [sumPay_cons, List.length_cons]
    have hk : ((t.length + 1 : Nat) : Int) * c = t.length * c + c := by rw [Int.natCast_add, Int.add_mul]; simp
    rw [hk]; omega
set_option maxRecDepth 20000 in
set_option maxHeartbeats 4000000 in
theorem Sum8_con (l : List Pay) (hl : l.length ≤ 1000) (hb : ∀ x ∈ l, -1000000000000 ≤ x.p ∧ x.p ≤ 1000000000000) : Con Tryd.prog 115 [.sl 3 payC l] [] (Is (.val (.int .i64 (sumPay l))) []) := by
  refine con_of Tryd.func115 rfl (enters_of Tryd.func115 (by kernel_rfl) rfl) rfl ?_; intro n w0 F0 G0
  (refine goSt ?_; (repeat (refine goAl ?_; intro p hp; refine goSt ?_)))
  refine W_loopJ (fun (k : Nat) => ⟨[(6, .sl 3 payC l), (7, .val (.int .i64 l.length)), (8, .val (.int .i64 k)), (3, .val (.int .i64 (sumPay (l.take k))))], []⟩) (fun k => k ≤ l.length) (fun k => l.length - k) 0 (fun _ _ st => st_sub2 st goSubr goSubp) (Nat.zero_le _) ?_
  rintro k hk
  (refine goSt ?_; (repeat (refine goAl ?_; intro p hp; refine goSt ?_)))
  refine w_cond rfl (fun hlt => ?_) (fun hlt => ?_)
  · have hlt' : k < l.length := by simpa using hlt
    have h1 := hb _ (List.getElem_mem hlt')
    have h2 := sumPay_bound (c := 1000000000000) (by omega) (l := l.take k) fun y hy => hb y (List.mem_of_mem_take hy)
    have h3 : (l.take k).length = k := by rw [List.length_take]; omega
    rw [h3] at h2
    have h4 : sumPay (l.take (k + 1)) = sumPay (l.take k) + l[k].p := by rw [List.take_succ_eq_append_getElem hlt', sumPay_snoc]
    (refine goSt ?_; (repeat (refine goAl ?_; intro p hp; refine goSt ?_)))
    rw [← h4]
    (refine ⟨k + 1, fun _ _ st => st_sub2 st ?_ ?_, ?_, ?_⟩; exact goSubr; exact goSubp)
    · omega
    · omega
  · have hkk : k = l.length := by simp at hlt; omega
    subst hkk
    rw [List.take_length]
    (refine goSt ?_; (repeat (refine goAl ?_; intro p hp; refine goSt ?_)))
    (apply res1; exact rfl; exact rfl; exact ⟨rfl, rfl⟩)
set_option maxRecDepth 20000 in
set_option maxHeartbeats 4000000 in
theorem add8P_con (l : List Pay) (x : Pay) (hl : l.length ≤ 1000) : Con Tryd.prog 132 [.sl 3 payC l, .agg (payC x)] [] (Is (.sl 3 payC (addP l x)) []) := by
  refine con_of Tryd.func132 rfl (enters_of Tryd.func132 (by kernel_rfl) rfl) rfl ?_; intro n w0 F0 G0
  (refine goSt ?_; (repeat (refine goAl ?_; intro p hp; refine goSt ?_)))
  refine W_loopJ (fun (k : Nat) => ⟨[(0, .sl 3 payC l), (3, .val p), (5, .val (.int .i64 k))], [.box p (payC x) 53]⟩) (fun k => k ≤ l.length ∧ k + atP (l.drop k) x = atP l x) (fun k => l.length - k) 0 (fun _ _ st => st_sub2 st goSubr goSubp) ⟨Nat.zero_le _, by simp⟩ ?_
  rintro k ⟨hk, hno⟩
  (refine goSt ?_; (repeat (refine goAl ?_; intro p hp; refine goSt ?_)))
  by_cases hlt : k < l.length
  · have hq1 : l[k]? = some l[k] := List.getElem?_eq_getElem hlt
    rw [drop_step hlt] at hno
    refine W_run 10 [6, 7, 8, 9, 10, 11, 12, 13, 14, 15] [0, 1, 2, 3, 4, 5, 6, 7, 8, 9] Cut.nil rfl goFlt mixedS (by kernel_rfl) rfl ?_
    refine rpv [] [] ?_
    refine rpv [] [] ?_
    refine rpv [1] [] ?_
    refine Run.pv [0, 2] [] rfl (fun vs => by apply ltr_pk; exact goPk; (refine ltr ?_; apply LT_bool true; apply lt_lss; exact rfl; exact rfl; (simp; omega))) goApp ?_
    refine rpv [3] [] ?_
    refine Run.yes [4] [] rfl rfl (fun vs => by apply look_pk; exact goPk; exact rfl) (fun vs => by apply ltr_pk; exact goPk; exact goLtr) goApp ?_
    refine Run.yes [4] [] rfl rfl (fun vs => by apply look_pk; exact goPk; exact rfl) (fun vs => by apply ltr_pk; exact goPk; exact goLtr) goApp ?_
    refine Run.yes [4, 5, 6] [] rfl rfl (fun vs => by apply look_pk; exact goPk; exact rfl) (fun vs => by apply ltr_pk; exact goPk; exact goLtr) goApp ?_
    refine Run.yes [4, 7] [] rfl rfl (fun vs => by apply look_pk; exact goPk; exact rfl) (fun vs => by apply ltr_pk; exact goPk; exact goLtr) goApp ?_
    refine Run.yes [4] [] rfl rfl (fun vs => by apply look_pk; exact goPk; exact rfl) (fun vs => by apply ltr_pk; exact goPk; exact goLtr) goApp ?_
    refine ⟨⟨by kernel_rfl, by kernel_rfl⟩, fun vs => ?_⟩
    apply WL_auto [4, 8, 9]
    · exact goPk
    · exact goNrm
    · kernel_rfl
    · kernel_rfl
    (refine goSt ?_; (repeat (refine goAl ?_; intro p hp; refine goSt ?_)))
    (first | (apply wl_call (less8_con l[k] x); exact rfl; exact rfl) | (apply wl_callR (less8_con l[k] x); exact rfl; exact goAtm; exact rfl))
    (refine goSt ?_; (repeat (refine goAl ?_; intro p hp; refine goSt ?_)))
    refine w_cond rfl (fun hs => ?_) (fun hs => ?_)
    · have hno2 : atP (l[k] :: l.drop (k + 1)) x = atP (l.drop (k + 1)) x + 1 := by
        unfold atP; rw [List.takeWhile_cons_of_pos (p := fun y => payLt y x) hs, List.length_cons]
      (refine goSt ?_; (repeat (refine goAl ?_; intro p hp; refine goSt ?_)))
      (refine ⟨k + 1, fun _ _ st => st_sub2 st ?_ ?_, ?_, ?_⟩; exact goSubr; exact goSubp)
      · exact ⟨hlt, by omega⟩
      · omega
    · have hno2 : atP (l[k] :: l.drop (k + 1)) x = 0 := by
        unfold atP; rw [List.takeWhile_cons_of_neg (p := fun y => payLt y x) (by rw [hs]; simp)]; rfl
      have hkk : k = atP l x := by omega
      unfold addP
      rw [← hkk]
      (refine goSt ?_; (repeat (refine goAl ?_; intro p hp; refine goSt ?_)))
      refine W_run 11 [20, 21, 22, 23, 24, 25, 26, 27, 28, 29, 30] [1, 2, 3, 5, 6, 7, 8, 9, 10] Cut.nil rfl goFlt mixedS (by kernel_rfl) rfl ?_
      refine Run.tok [] [] rfl (fun vs => by apply ltr_pk; exact goPk; (refine ltr ?_; apply lt_lit (f := payC); (repeat (first | exact Elems.nil | (apply Elems.cons; exact rfl; exact inferInstance; exact rfl))); exact rfl; (first | exact (of_decide_eq_true rfl) | decide | (simp; done) | (simp; omega)))) goApp ?_
      refine rpv [] [] ?_
      refine rpv [] [] ?_
      refine Run.pv [1, 2] [] rfl (fun vs => by apply ltr_pk; exact goPk; (refine ltr ?_; refine lt_slice (l := 0) (h := k) (li := 0) rfl (.inr ⟨rfl, rfl⟩) rfl (.inl rfl) rfl (Nat.zero_le _) (by omega))) goApp ?_
      refine Run.tok [0, 3] [0] rfl (fun vs => by apply ltr_pk; exact goPk; (refine ltr ?_; apply lt_append; exact rfl; exact rfl; (first | omega | (simp; omega)))) goApp ?_
      refine rpv [] [] ?_
      refine Run.pv [5] [] rfl (fun vs => by apply ltr_pk; exact goPk; (refine ltr ?_; apply LT_frz; apply lt_lit (f := payC); (repeat (first | exact Elems.nil | (apply Elems.cons; exact rfl; exact inferInstance; exact rfl))); exact rfl; (first | exact (of_decide_eq_true rfl) | decide | (simp; done) | (simp; omega)))) goApp ?_
      refine Run.tok [4, 6] [4] rfl (fun vs => by apply ltr_pk; exact goPk; (refine ltr ?_; apply lt_append; exact rfl; exact rfl; (first | omega | (simp; omega)))) goApp ?_
      refine rpv [] [] ?_
      refine rpv [] [] ?_
      refine Run.pv [8, 9] [] rfl (fun vs => by apply ltr_pk; exact goPk; (refine ltr ?_; refine lt_slice (l := k) (h := l.length) (hi' := (l.length : Int)) rfl (.inl rfl) rfl (.inr ⟨rfl, rfl⟩) rfl (by omega) (Nat.le_refl _))) goApp ?_
      refine ⟨⟨by kernel_rfl, by kernel_rfl⟩, fun vs => ?_⟩
      apply WL_auto [7, 10]
      · exact goPk
      · exact goNrm
      · kernel_rfl
      · kernel_rfl
      (refine goSt ?_; (repeat (refine goAl ?_; intro p hp; refine goSt ?_)))
      (first | (apply wl_append; exact rfl; exact rfl; exact goRm; exact inferInstance; exact inferInstance; (first | omega | (simp; omega)); exact rfl) | (apply wl_appendN; exact rfl; exact rfl; exact inferInstance; exact inferInstance; (first | omega | (simp; omega)); exact rfl))
      intro v1
      rw [List.take_length]
      (apply WL_frz 31; exact rfl; exact goRm)
      (refine goSt ?_; (repeat (refine goAl ?_; intro p hp; refine goSt ?_)))
      (apply res1; exact rfl; exact rfl; exact ⟨rfl, rfl⟩)
  · have hkk : k = l.length := by omega
    subst hkk
    rw [List.drop_length] at hno
    have hkk : l.length = atP l x := by simpa [atP] using hno
    unfold addP
    rw [← hkk]
    refine W_run 10 [6, 7, 8, 9, 10, 11, 12, 13, 14, 15] [0, 1, 2, 3, 4, 5, 6, 7, 8, 9] Cut.nil rfl goFlt mixedS (by kernel_rfl) rfl ?_
    refine rpv [] [] ?_
    refine rpv [] [] ?_
    refine rpv [1] [] ?_
    refine Run.pv [0, 2] [] rfl (fun vs => by apply ltr_pk; exact goPk; (refine ltr ?_; apply LT_bool false; apply lt_lss; exact rfl; exact rfl; simp)) goApp ?_
    refine rpv [3] [] ?_
    refine Run.no [4] [] rfl rfl (fun vs => by apply look_pk; exact goPk; exact rfl) (by exact rfl) goApp ?_
    refine Run.no [4] [] rfl rfl (fun vs => by apply look_pk; exact goPk; exact rfl) (by exact rfl) goApp ?_
    refine Run.no [4, 5, 6] [] rfl rfl (fun vs => by apply look_pk; exact goPk; exact rfl) (by exact rfl) goApp ?_
    refine Run.no [4, 7] [] rfl rfl (fun vs => by apply look_pk; exact goPk; exact rfl) (by exact rfl) goApp ?_
    refine Run.no [4] [] rfl rfl (fun vs => by apply look_pk; exact goPk; exact rfl) (by exact rfl) goApp ?_
    refine ⟨⟨by kernel_rfl, by kernel_rfl⟩, fun vs => ?_⟩
    apply WL_auto [4, 8, 9]
    · exact goPk
    · exact goNrm
    · kernel_rfl
    · kernel_rfl
    (refine goSt ?_; (repeat (refine goAl ?_; intro p hp; refine goSt ?_)))
    refine W_run 11 [20, 21, 22, 23, 24, 25, 26, 27, 28, 29, 30] [1, 2, 3, 5, 6, 7, 8, 9, 10] Cut.nil rfl goFlt mixedS (by kernel_rfl) rfl ?_
    refine Run.tok [] [] rfl (fun vs => by apply ltr_pk; exact goPk; (refine ltr ?_; apply lt_lit (f := payC); (repeat (first | exact Elems.nil | (apply Elems.cons; exact rfl; exact inferInstance; exact rfl))); exact rfl; (first | exact (of_decide_eq_true rfl) | decide | (simp; done) | (simp; omega)))) goApp ?_
    refine rpv [] [] ?_
    refine rpv [] [] ?_
    refine Run.pv [1, 2] [] rfl (fun vs => by apply ltr_pk; exact goPk; (refine ltr ?_; refine lt_slice (l := 0) (h := l.length) (li := 0) rfl (.inr ⟨rfl, rfl⟩) rfl (.inl rfl) rfl (Nat.zero_le _) (by omega))) goApp ?_
    refine Run.tok [0, 3] [0] rfl (fun vs => by apply ltr_pk; exact goPk; (refine ltr ?_; apply lt_append; exact rfl; exact rfl; (first | omega | (simp; omega)))) goApp ?_
    refine rpv [] [] ?_
    refine Run.pv [5] [] rfl (fun vs => by apply ltr_pk; exact goPk; (refine ltr ?_; apply LT_frz; apply lt_lit (f := payC); (repeat (first | exact Elems.nil | (apply Elems.cons; exact rfl; exact inferInstance; exact rfl))); exact rfl; (first | exact (of_decide_eq_true rfl) | decide | (simp; done) | (simp; omega)))) goApp ?_
    refine Run.tok [4, 6] [4] rfl (fun vs => by apply ltr_pk; exact goPk; (refine ltr ?_; apply lt_append; exact rfl; exact rfl; (first | omega | (simp; omega)))) goApp ?_
    refine rpv [] [] ?_
    refine rpv [] [] ?_
    refine Run.pv [8, 9] [] rfl (fun vs => by apply ltr_pk; exact goPk; (refine ltr ?_; refine lt_slice (l := l.length) (h := l.length) (hi' := (l.length : Int)) rfl (.inl rfl) rfl (.inr ⟨rfl, rfl⟩) rfl (by omega) (Nat.le_refl _))) goApp ?_
    refine ⟨⟨by kernel_rfl, by kernel_rfl⟩, fun vs => ?_⟩
    apply WL_auto [7, 10]
    · exact goPk
    · exact goNrm
    · kernel_rfl
    · kernel_rfl
    (refine goSt ?_; (repeat (refine goAl ?_; intro p hp; refine goSt ?_)))
    (first | (apply wl_append; exact rfl; exact rfl; exact goRm; exact inferInstance; exact inferInstance; (first | omega | (simp; omega)); exact rfl) | (apply wl_appendN; exact rfl; exact rfl; exact inferInstance; exact inferInstance; (first | omega | (simp; omega)); exact rfl))
    intro v1
    rw [List.take_length]
    (apply WL_frz 31; exact rfl; exact goRm)
    (refine goSt ?_; (repeat (refine goAl ?_; intro p hp; refine goSt ?_)))
    (apply res1; exact rfl; exact rfl; exact ⟨rfl, rfl⟩)
end Go.Proofs.YtihonljdanjfmaaDoor.Sw
namespace Go.Proofs.YtihonljdanjfmaaDoor.Sw
open Go.RowKit Go Go.Shelf Go.Proofs
open Go.Proofs.YtihonljdanjfmaaDoor.Gr (payLt atP addP treeR treeGo leafAt findLeaf inc oth mvL payX)
def bC (b : Bool) : List AV := [.val (.bool b)]
instance {b : Bool} : OneL (bC b) := inferInstanceAs (OneL [_])
instance : OneF bC := ⟨fun _ => inferInstance⟩
instance : LenF bC 1 := ⟨fun _ => rfl⟩
instance zeroB : ZeroF Tryd.prog 4 bC false := zeroF (z := .bool false) (n := 1) (b := 1) (zs := [.bool false]) (by kernel_rfl) rfl (fun _ => ⟨rfl, trivial⟩)
/-- Edges that are not done. -/
def nd : List (Nat × Nat) → List Bool → List (Nat × Nat)
  | p :: L, d :: ds => if d = true then nd L ds else p :: nd L ds
  | _, _ => []
theorem nd_mem {p : Nat × Nat} : ∀ {L : List (Nat × Nat)} {ds : List Bool}, p ∈ nd L ds → p ∈ L
  | [], _, h => by simp [nd] at h
  | _ :: _, [], h => by simp [nd] at h
  | q :: L, d :: ds, h => by
    unfold nd at h
    split at h
    · exact List.mem_cons_of_mem _ (nd_mem h)
    · rcases List.mem_cons.1 h with h | h
      · rw [h]; simp
      · exact List.mem_cons_of_mem _ (nd_mem h)
theorem nd_rep : ∀ L : List (Nat × Nat), nd L (List.replicate L.length false) = L
  | [] => rfl
  | p :: L => by rw [List.length_cons, List.replicate_succ, nd, if_neg (by simp), nd_rep L]
theorem nd_take : ∀ {L : List (Nat × Nat)} {ds : List Bool} {k : Nat} (hk : k < L.length) (hd : k < ds.length), nd (L.take (k + 1)) (ds.take (k + 1)) = nd (L.take k) (ds.take k) ++ if ds[k] = true then [] else [L[k]]
  | p :: L, d :: ds, 0, _, _ => by
    simp only [List.take_succ_cons, List.take_zero, nd, List.getElem_cons_zero, List.nil_append]
  | p :: L, d :: ds, k + 1, hk, hd => by
    rw [List.take_succ_cons, List.take_succ_cons, List.take_succ_cons, List.take_succ_cons, nd, nd, nd_take (L := L) (ds := ds) (k := k) (by simpa using hk) (by simpa using hd)]
    simp only [List.getElem_cons_succ]
    split <;> simp
theorem nd_set : ∀ {L : List (Nat × Nat)} {ds : List Bool} {k : Nat} (hn : L.Nodup) (hk : k < L.length) (hd : k < ds.length), ds[k] = false → nd L (ds.set k true) = (nd L ds).erase L[k]
  | p :: L, d :: ds, 0, _, _, _, h => by
    simp only [List.getElem_cons_zero] at h
    subst h
    simp [nd]
  | p :: L, d :: ds, k + 1, hn, hk, hd, h => by
    obtain ⟨h1, h2⟩ := List.nodup_cons.1 hn
    have hk' : k < L.length := by simpa using hk
    have ih := nd_set (L := L) (ds := ds) (k := k) h2 hk' (by simpa using hd) (by simpa using h)
    rw [List.set_cons_succ, nd, nd, List.getElem_cons_succ]
    split
    · exact ih
    · have hne : p ≠ L[k] := fun e => h1 (e ▸ List.getElem_mem hk')
      rw [ih, List.erase_cons_tail (by simpa using hne)]
/-- What is left to do, counted at one floor. -/
def cntAt (L : List (Nat × Nat)) (ds : List Bool) (i k : Nat) : List (Nat × Nat) := (nd (L.take k) (ds.take k)).filter (inc i)
theorem cntAt_succ {L : List (Nat × Nat)} {ds : List Bool} {i k : Nat} (hk : k < L.length) (hd : k < ds.length) : cntAt L ds i (k + 1) = cntAt L ds i k ++ if ds[k] = false ∧ inc i L[k] = true then [L[k]] else [] := by
  unfold cntAt
  rw [nd_take hk hd, List.filter_append]
  congr 1
  cases ds[k] with
  | true => simp
  | false => by_cases h : inc i L[k] = true <;> simp [h]
theorem leafAt_cnt {L : List (Nat × Nat)} {ds : List Bool} {i : Nat} (hd : ds.length = L.length) : leafAt (nd L ds) i = match cntAt L ds i L.length with | [e] => some (i, e) | _ => none := by
  unfold leafAt cntAt
  rw [List.take_length, ← hd, List.take_length]
  generalize List.filter (inc i) (nd L ds) = l
  rcases l with _ | ⟨a, _ | ⟨b, t⟩⟩ <;> rfl
theorem findLeaf_at {n i : Nat} {L : List (Nat × Nat)} {r : Nat × (Nat × Nat)} (hi : i < n) (h : leafAt L i = some r) (hno : ∀ j, j < i → leafAt L j = none) : findLeaf n L = some r := by
  unfold findLeaf
  have e : List.range n = List.range i ++ i :: (List.range' (i + 1) (n - (i + 1))) := by
    have h1 : n = i + (1 + (n - (i + 1))) := by omega
    rw [List.range_eq_range', List.range_eq_range']
    conv => lhs; rw [h1]
    rw [← List.range'_append, Nat.add_comm 1, List.range'_succ]; simp
  rw [e, List.findSome?_append, List.findSome?_eq_none_iff.2 (fun j hj => hno j (List.mem_range.1 hj))]
  simp [h]
theorem findLeaf_none {n : Nat} {L : List (Nat × Nat)} (hno : ∀ j, j < n → leafAt L j = none) : findLeaf n L = none := List.findSome?_eq_none_iff.2 fun j hj => hno j (List.mem_range.1 hj)
/-- How large a sum may be after so many rounds. -/
def bnd (r : Nat) : Int := 1000000000 * ((2 ^ r : Nat) : Int)
theorem bnd_succ (r : Nat) : bnd (r + 1) = 2 * bnd r := by unfold bnd; rw [Nat.pow_succ]; omega
theorem bnd_pos (r : Nat) : 0 ≤ bnd r := by
  unfold bnd
  have h2 : 0 ≤ ((2 ^ r : Nat) : Int) := Int.natCast_nonneg _
  generalize ((2 ^ r : Nat) : Int) = x at h2 ⊢
  omega
theorem bnd_le {r : Nat} (h : r ≤ 10) : bnd r ≤ 1024000000000 := by
  unfold bnd
  have h1 : 2 ^ r ≤ 1024 := Nat.pow_le_pow_right (n := 2) (by omega) h
  have h2 : ((2 ^ r : Nat) : Int) ≤ ((1024 : Nat) : Int) := Int.ofNat_le.2 h1
  generalize ((2 ^ r : Nat) : Int) = x at h2 ⊢
  omega
def treeA (o : Option (List Pay)) : AV := match o with | some l => .tup [.sl 3 payC l, .val (.bool true)] | none => .tup [.sl 3 payC [], .val (.bool false)]
theorem st_nilR {α : Type} {c : Cx} {rs : List (Nat × AV)} {hs : List HA} {a : Act} {w : World} (i n : Nat) (f : α → List AV) (h : look rs i = some (.val (.slice none 0 0))) (st : St c ⟨rs, hs⟩ a w) : St c ⟨(i, .sl n f ([] : List α)) :: rs, hs⟩ a w := by
  obtain ⟨G, F, hI, hF, hR, r⟩ := st
  refine ⟨G, F, hI, hF, fun j u e => ?_, r⟩
  simp only [look] at e
  cases hb : Nat.beq i j with
  | true =>
    rw [hb] at e
    obtain rfl := Nat.eq_of_beq_eq_true hb
    simp only [cond_true, Option.some.injEq] at e
    subst e
    exact ⟨none, 0, hR _ _ h, Nat.le_refl _, fun i hi => by cases hi⟩
  | false => rw [hb] at e; exact hR j u (by simpa using e)
theorem mvL_btw {l : List Int} {i o : Nat} {b : Int} (hb : 0 ≤ b) (h : Btw (-b) b l) : Btw (-(2 * b)) (2 * b) (mvL l i o) := by
  have hg : ∀ j, -b ≤ l.getD j 0 ∧ l.getD j 0 ≤ b := fun j => by
    rw [List.getD_eq_getElem?_getD]
    by_cases hj : j < l.length
    · rw [List.getElem?_eq_getElem hj]; exact h.at hj
    · rw [List.getElem?_eq_none (by omega)]; simp; omega
  have h1 := hg i
  have h2 := hg o
  intro e he
  unfold mvL at he
  rcases List.mem_or_eq_of_mem_set he with he | he
  · rcases List.mem_or_eq_of_mem_set he with he | he
    · have := h e he; omega
    · omega
  · omega
/-- Two ways meet in one state. -/
theorem W_meet {c : Cx} {s : S} {x y : Code} {Q Q' : Exit → S → Prop} (s1 : S) (h : W c x s (fun e s' => e = .normal ∧ ∀ a w, St c s' a w → St c s1 a w)) (k : W c y s1 Q') : W c x s (thenQ (fun s' => W c y s' Q') Q) :=
  W_mono h fun e s' ⟨he, hs⟩ => by subst he; exact W_weak s1 hs k
theorem treeR_none {ids : List Int} {L : List (Nat × Nat)} {owed : List Int} (h : treeGo ids L.length L owed [] = none) : treeR ids L owed = none := by unfold treeR; rw [h]
theorem nz_ne {l : List (Nat × Nat)} (h : (l.length : Int) ≠ 1) {i : Nat} : (match l with | [e] => some (i, e) | _ => (none : Option (Nat × (Nat × Nat)))) = none := by
  rcases l with _ | ⟨a, _ | ⟨b, t⟩⟩
  · rfl
  · simp at h
  · rfl
set_option maxRecDepth 20000 in
set_option maxHeartbeats 8000000 in
theorem tree8_con (f : Flo) (L : List (Nat × Nat)) (owed : List Int) (hn : f.ids.length ≤ 10) (hl : L.length ≤ 10) (hok : Gr.Ok f.ids.length L) (hol : owed.length = f.ids.length) (hob : Btw (-1000000000) 1000000000 owed) : Con Tryd.prog 93 [.agg (flC f), .sl 2 pnC L, .sl 1 iC owed] [] (Is (treeA (treeR f.ids L owed)) []) := by
  refine con_of Tryd.func93 rfl (enters_of Tryd.func93 (by kernel_rfl) rfl) rfl ?_; intro n w0 F0 G0
  (refine goSt ?_; (repeat (refine goAl ?_; intro p hp; refine goSt ?_)))
  (apply wl_lit iC; exact inferInstance; exact inferInstance; exact inferInstance; (repeat (first | exact Elems.nil | (apply Elems.cons; exact rfl; exact inferInstance; exact rfl))); exact rfl; (first | exact (of_decide_eq_true rfl) | decide | (simp; done) | (simp; omega)); exact rfl)
  intro v
  (refine goSt ?_; (repeat (refine goAl ?_; intro p hp; refine goSt ?_)))
  (first | (apply wl_append; exact rfl; exact rfl; exact goRm; exact inferInstance; exact inferInstance; (first | omega | (simp; omega)); exact rfl) | (apply wl_appendN; exact rfl; exact rfl; exact inferInstance; exact inferInstance; (first | omega | (simp; omega)); exact rfl))
  intro v
  (refine goSt ?_; (repeat (refine goAl ?_; intro p hp; refine goSt ?_)))
  (apply wl_make bC; exact inferInstance; exact inferInstance; exact inferInstance; exact inferInstance; exact rfl; exact rfl; exact rfl; (first | omega | (simp; omega)); exact rfl)
  intro u
  (refine goSt ?_; (repeat (refine goAl ?_; intro p hp; refine goSt ?_)))
  have hlr : (List.replicate L.length false).length = L.length := List.length_replicate
  refine W_loopJ (fun (b : Nat × List Int × List Bool × List Pay) => ⟨[(1, .sl 2 pnC L), (3, .val p), (8, .val v), (9, .val u), (10, .sl 3 payC b.2.2.2), (28, .val (.int .i64 L.length)), (29, .val (.int .i64 b.1))], [.row u 4 1 bC b.2.2.1, .row v 3 1 iC b.2.1, .box p (flC f) 27]⟩)
    (fun b => b.1 ≤ L.length ∧ b.2.1.length = f.ids.length ∧ b.2.2.1.length = L.length ∧ Btw (-(bnd b.1)) (bnd b.1) b.2.1 ∧ b.2.2.2.length ≤ b.1 ∧ treeGo f.ids (L.length - b.1) (nd L b.2.2.1) b.2.1 b.2.2.2 = treeGo f.ids L.length L owed []) (fun b => L.length - b.1) (0, owed, List.replicate L.length false, [])
    (fun _ _ st => st_sub2 (st_nilR 10 3 payC rfl st) goSubr goSubp) ⟨Nat.zero_le _, hol, hlr, hob.mono (by simp [bnd]) (by simp [bnd]), Nat.zero_le _, by rw [nd_rep]; rfl⟩ ?_
  rintro ⟨r, lft, dn, out⟩ ⟨hr, hll, hdl, hbt, hol2, hgo⟩
  dsimp only at hr hll hdl hbt hol2 hgo ⊢
  (refine goSt ?_; (repeat (refine goAl ?_; intro p hp; refine goSt ?_)))
  refine w_cond rfl (fun hlt => ?_) (fun hlt => ?_)
  · have hr' : r < L.length := by simpa using hlt
    rw [show L.length - r = (L.length - (r + 1)) + 1 by omega] at hgo
    (refine goSt ?_; (repeat (refine goAl ?_; intro p hp; refine goSt ?_)))
    refine W_loopJ (fun (b : Nat × Bool × List Int × List Bool × List Pay) => ⟨[(1, .sl 2 pnC L), (3, .val p), (8, .val v), (9, .val u), (28, .val (.int .i64 L.length)), (29, .val (.int .i64 r)), (10, .sl 3 payC b.2.2.2.2), (11, .val (.bool b.2.1)), (12, .val (.int .i64 b.1))], [.row u 4 1 bC b.2.2.2.1, .row v 3 1 iC b.2.2.1, .box p (flC f) 27]⟩)
      (fun b => b.1 ≤ f.ids.length ∧ b.2.2.1.length = f.ids.length ∧ b.2.2.2.1.length = L.length ∧ (b.2.1 = false → b.2.2 = (lft, dn, out) ∧ ∀ j, j < b.1 → leafAt (nd L dn) j = none) ∧ (b.2.1 = true → Btw (-(bnd (r + 1))) (bnd (r + 1)) b.2.2.1 ∧ b.2.2.2.2.length ≤ r + 1 ∧ treeGo f.ids (L.length - (r + 1)) (nd L b.2.2.2.1) b.2.2.1 b.2.2.2.2 = treeGo f.ids L.length L owed [])) (fun b => f.ids.length - b.1) (0, false, lft, dn, out)
      (fun _ _ st => st_sub2 st goSubr goSubp) ⟨Nat.zero_le _, hll, hdl, fun _ => ⟨rfl, fun j hj => absurd hj (Nat.not_lt_zero _)⟩, fun h => by cases h⟩ ?_
    rintro ⟨i, fd, lf', dn', out'⟩ ⟨hi, hl', hd', hF, hT⟩
    dsimp only at hi hl' hd' hF hT ⊢
    cases fd with
    | true =>
      obtain ⟨hb1, ho1, hg1⟩ := hT rfl
      clear hF hT
      (refine goSt ?_; (repeat (refine goAl ?_; intro p hp; refine goSt ?_)))
      refine wl_part rfl rfl (fun g => ?_) (fun g => ?_)
      · (refine goSt ?_; (repeat (refine goAl ?_; intro p hp; refine goSt ?_)))
        (refine ⟨(r + 1, lf', dn', out'), fun _ _ st => st_sub2 st ?_ ?_, ?_, ?_⟩; exact goSubr; exact goSubp)
        · exact ⟨hr', hl', hd', hb1, ho1, hg1⟩
        · dsimp only; omega
      · (refine goSt ?_; (repeat (refine goAl ?_; intro p hp; refine goSt ?_)))
        (refine ⟨(r + 1, lf', dn', out'), fun _ _ st => st_sub2 st ?_ ?_, ?_, ?_⟩; exact goSubr; exact goSubp)
        · exact ⟨hr', hl', hd', hb1, ho1, hg1⟩
        · dsimp only; omega
    | false =>
      obtain ⟨he, hno⟩ := hF rfl
      injection he with e1 e2
      injection e2 with e2 e3
      have q1 := e1.symm
      have q2 := e2.symm
      have q3 := e3.symm
      clear e1 e2 e3
      subst q1 q2 q3
      clear hF hT
      (refine goSt ?_; (repeat (refine goAl ?_; intro p hp; refine goSt ?_)))
      refine wl_part rfl rfl (fun g => ?_) (fun g => ?_)
      · have hi' : i < f.ids.length := by simpa using g
        (refine goSt ?_; (repeat (refine goAl ?_; intro p hp; refine goSt ?_)))
        refine W_loopJ (fun (b : Nat × Int × Int) => ⟨[(1, .sl 2 pnC L), (3, .val p), (8, .val v), (9, .val u), (28, .val (.int .i64 L.length)), (29, .val (.int .i64 r)), (10, .sl 3 payC out), (11, .val (.bool false)), (12, .val (.int .i64 i)), (42, .sl 2 pnC L), (43, .val (.int .i64 L.length)), (44, .val (.int .i64 b.1)), (13, .val (.int .i64 b.2.1)), (14, .val (.int .i64 b.2.2))], [.row u 4 1 bC dn, .row v 3 1 iC lft, .box p (flC f) 27]⟩)
          (fun b => b.1 ≤ L.length ∧ b.2.1 = (cntAt L dn i b.1).length ∧ b.2.1 ≤ b.1 ∧ (cntAt L dn i b.1 ≠ [] → ∃ k0 : Nat, k0 < b.1 ∧ b.2.2 = k0 ∧ dn[k0]? = some false ∧ (cntAt L dn i b.1).getLast? = L[k0]?)) (fun b => L.length - b.1) (0, 0, -1)
          (fun _ _ st => st_sub2 st goSubr goSubp) ⟨Nat.zero_le _, by simp [cntAt, nd], Int.le_refl _, fun h => absurd (by simp [cntAt, nd]) h⟩ ?_
        rintro ⟨k, mn, at_⟩ ⟨hk, hmn, hmk, hat⟩
        dsimp only at hk hmn hmk hat ⊢
        (refine goSt ?_; (repeat (refine goAl ?_; intro p hp; refine goSt ?_)))
        refine w_cond rfl (fun hlt2 => ?_) (fun hlt2 => ?_)
        · have hk' : k < L.length := by simpa using hlt2
          have hkd : k < dn.length := by omega
          have hsu := cntAt_succ (i := i) hk' hkd
          have no : ¬ (dn[k] = false ∧ inc i L[k] = true) → k + 1 ≤ L.length ∧ mn = (cntAt L dn i (k + 1)).length ∧ mn ≤ ((k + 1 : Nat) : Int) ∧ (cntAt L dn i (k + 1) ≠ [] → ∃ k0 : Nat, k0 < k + 1 ∧ at_ = k0 ∧ dn[k0]? = some false ∧ (cntAt L dn i (k + 1)).getLast? = L[k0]?) := fun h => by
            rw [if_neg h, List.append_nil] at hsu
            rw [hsu]
            refine ⟨hk', hmn, by omega, fun hne => ?_⟩
            obtain ⟨k0, h1, h2⟩ := hat hne
            exact ⟨k0, by omega, h2⟩
          have yes : dn[k] = false → inc i L[k] = true → k + 1 ≤ L.length ∧ mn + 1 = (cntAt L dn i (k + 1)).length ∧ mn + 1 ≤ ((k + 1 : Nat) : Int) ∧ (cntAt L dn i (k + 1) ≠ [] → ∃ k0 : Nat, k0 < k + 1 ∧ ((k : Nat) : Int) = k0 ∧ dn[k0]? = some false ∧ (cntAt L dn i (k + 1)).getLast? = L[k0]?) := fun h1 h2 => by
            rw [if_pos ⟨h1, h2⟩] at hsu
            rw [hsu]
            exact ⟨hk', by rw [List.length_append, List.length_singleton]; omega, by omega, fun _ => ⟨k, by omega, rfl, by rw [List.getElem?_eq_getElem hkd, h1], by rw [List.getLast?_concat, List.getElem?_eq_getElem hk']⟩⟩
          (refine goSt ?_; (repeat (refine goAl ?_; intro p hp; refine goSt ?_)))
          refine wl_part rfl rfl (fun g1 => ?_) (fun g1 => ?_)
          · have g1' : dn[k] = false := by simpa using g1
            (refine goSt ?_; (repeat (refine goAl ?_; intro p hp; refine goSt ?_)))
            refine wl_part rfl rfl (fun g2 => ?_) (fun g2 => ?_)
            · have hin : inc i L[k] = true := by simp [inc]; left; simp at g2; omega
              (refine goSt ?_; (repeat (refine goAl ?_; intro p hp; refine goSt ?_)))
              (refine ⟨(k + 1, mn + 1, k), fun _ _ st => st_sub2 st ?_ ?_, ?_, ?_⟩; exact goSubr; exact goSubp)
              · exact yes g1' hin
              · dsimp only; omega
            · (refine goSt ?_; (repeat (refine goAl ?_; intro p hp; refine goSt ?_)))
              refine w_cond rfl (fun g3 => ?_) (fun g3 => ?_)
              · have hin : inc i L[k] = true := by simp [inc]; right; simp at g3; omega
                (refine goSt ?_; (repeat (refine goAl ?_; intro p hp; refine goSt ?_)))
                (refine ⟨(k + 1, mn + 1, k), fun _ _ st => st_sub2 st ?_ ?_, ?_, ?_⟩; exact goSubr; exact goSubp)
                · exact yes g1' hin
                · dsimp only; omega
              · (refine goSt ?_; (repeat (refine goAl ?_; intro p hp; refine goSt ?_)))
                (refine ⟨(k + 1, mn, at_), fun _ _ st => st_sub2 st ?_ ?_, ?_, ?_⟩; exact goSubr; exact goSubp)
                · refine no fun h => ?_
                  have := h.2
                  simp [inc] at this
                  simp at g2 g3
                  omega
                · dsimp only; omega
          · have g1' : dn[k] = true := by simpa using g1
            (refine goSt ?_; (repeat (refine goAl ?_; intro p hp; refine goSt ?_)))
            (refine ⟨(k + 1, mn, at_), fun _ _ st => st_sub2 st ?_ ?_, ?_, ?_⟩; exact goSubr; exact goSubp)
            · exact no fun h => by rw [g1'] at h; cases h.1
            · dsimp only; omega
        · have hkk : k = L.length := by simp at hlt2; omega
          subst hkk
          have hlf := leafAt_cnt (i := i) hdl
          (refine goSt ?_; (repeat (refine goAl ?_; intro p hp; refine goSt ?_)))
          refine w_cond rfl (fun hm1 => ?_) (fun hm1 => ?_)
          · have hne : ((cntAt L dn i L.length).length : Int) ≠ 1 := by rw [← hmn]; simpa using hm1
            rw [nz_ne hne] at hlf
            (refine goSt ?_; (repeat (refine goAl ?_; intro p hp; refine goSt ?_)))
            (refine ⟨(i + 1, false, lft, dn, out), fun _ _ st => st_sub2 st ?_ ?_, ?_, ?_⟩; exact goSubr; exact goSubp)
            · refine ⟨hi', hl', hd', fun _ => ⟨rfl, fun j hj => ?_⟩, fun h => by cases h⟩
              by_cases hji : j = i
              · rw [hji]; exact hlf
              · exact hno j (by dsimp only at hj; omega)
            · dsimp only; omega
          · have hm2 : mn = 1 := by simpa using hm1
            obtain ⟨e, he⟩ := List.length_eq_one_iff.1 (show (cntAt L dn i L.length).length = 1 by omega)
            rw [he] at hlf
            obtain ⟨k0, hk0, hatk, hdk, hlast⟩ := hat (by rw [he]; simp)
            rw [he] at hlast
            have hqe : L[k0]? = some e := hlast.symm
            have hle : L[k0] = e := by rw [List.getElem?_eq_getElem hk0] at hqe; exact Option.some.inj hqe
            have hkd : k0 < dn.length := by omega
            have hdk' : dn[k0] = false := by rw [List.getElem?_eq_getElem hkd] at hdk; exact Option.some.inj hdk
            have hfl := findLeaf_at hi' hlf hno
            obtain ⟨_, hleaf⟩ := Gr.leafAt_some hlf
            have hme : e ∈ L := nd_mem hleaf.1
            obtain ⟨hon, hne, _, _⟩ := Gr.oth_spec hok hme hleaf.2.1
            obtain ⟨hea, heb, _⟩ := hok.lt e hme
            have hoe : ((e.1 : Nat) : Int) + (e.2 : Nat) - (i : Nat) = ((oth e i : Nat) : Int) := by
              unfold oth
              rcases Gr.inc_iff.1 hleaf.2.1 with h | h <;> omega
            rw [treeGo, hfl] at hgo
            dsimp only at hgo
            have hil : i < lft.length := by omega
            have hqi : lft[i]? = some lft[i] := List.getElem?_eq_getElem hil
            have hgd : lft.getD i 0 = lft[i] := by simp [List.getD_eq_getElem?_getD, hqi]
            have hbi := hbt.at hil
            have hbl := bnd_le (r := r) (by omega)
            have hbp := bnd_pos r
            rw [hgd] at hgo
            have her : (nd L dn).erase e = nd L (dn.set k0 true) := by rw [nd_set hok.nd hk0 hkd hdk', hle]
            rw [her] at hgo
            subst hatk hm2
            clear hmn hmk hat hlf hfl hlast he hm1 hdk hleaf
            generalize oth e i = o at *
            have hol : o < lft.length := by omega
            have hqo : lft[o]? = some lft[o] := List.getElem?_eq_getElem hol
            have hgo2 : lft.getD o 0 = lft[o] := by simp [List.getD_eq_getElem?_getD, hqo]
            have hbo := hbt.at hol
            have hii : f.ids[i]? = some f.ids[i] := List.getElem?_eq_getElem hi'
            have hio : f.ids[o]? = some f.ids[o] := List.getElem?_eq_getElem hon
            have hg1 : f.ids.getD i 0 = f.ids[i] := by simp [List.getD_eq_getElem?_getD, hii]
            have hg2 : f.ids.getD o 0 = f.ids[o] := by simp [List.getD_eq_getElem?_getD, hio]
            (refine goSt ?_; (repeat (refine goAl ?_; intro p hp; refine goSt ?_)))
            refine W_run 12 [72, 73, 74, 75, 76, 77, 78, 79, 80, 81, 82, 83] [0, 1, 2, 3, 4, 5, 6, 7, 8, 9, 10, 11] Cut.nil rfl goFlt mixedS (by kernel_rfl) rfl ?_
            refine rpv [] [] ?_
            refine rpv [] [] ?_
            refine rpv [0, 1] [] ?_
            refine rpv [2] [] ?_
            refine rpv [3] [] ?_
            refine rpv [] [] ?_
            refine rpv [] [] ?_
            refine rpv [5, 6] [] ?_
            refine rpv [7] [] ?_
            refine rpv [8] [] ?_
            refine rpv [4, 9] [] ?_
            refine rpv [] [] ?_
            refine ⟨⟨by kernel_rfl, by kernel_rfl⟩, fun vs => ?_⟩
            apply WL_auto [10, 11]
            · exact goPk
            · exact goNrm
            · kernel_rfl
            · kernel_rfl
            (refine goSt ?_; (repeat (refine goAl ?_; intro p hp; refine goSt ?_)))
            rw [hoe]
            refine w_cond rfl (fun hz => ?_) (fun hz => ?_)
            · rw [if_pos (by simpa using hz)] at hgo
              rw [treeR_none hgo.symm]
              (refine goSt ?_; (repeat (refine goAl ?_; intro p hp; refine goSt ?_)))
              refine Res_nil 6 3 payC rfl ?_
              (apply res2; exact rfl; exact rfl; exact rfl; exact ⟨rfl, rfl⟩)
            · rw [if_neg (by simpa using hz)] at hgo
              (refine goSt ?_; (repeat (refine goAl ?_; intro p hp; refine goSt ?_)))
              refine W_run 17 [90, 91, 92, 93, 94, 95, 96, 97, 98, 99, 100, 101, 102, 103, 104, 105, 18] [0, 1, 2, 3, 4, 5, 6, 7, 8, 9, 10, 11, 12, 13, 14, 15, 16] Cut.nil rfl goFlt mixedS (by kernel_rfl) rfl ?_
              refine rpv [] [] ?_
              refine rpv [0] [] ?_
              refine rpv [] [] ?_
              refine rpv [1, 2] [] ?_
              refine rpv [3] [] ?_
              refine rpv [] [] ?_
              refine rpv [5] [] ?_
              refine rpv [] [] ?_
              refine rpv [6, 7] [] ?_
              refine rpv [8] [] ?_
              refine rpv [] [] ?_
              refine rpv [] [] ?_
              refine rpv [10, 11] [] ?_
              refine rpv [12] [] ?_
              refine rpv [13] [] ?_
              refine rpv [4, 9, 14] [] ?_
              refine Run.tok [] [] rfl (fun vs => by apply ltr_pk; exact goPk; exact goLtr) goApp ?_
              refine ⟨⟨by kernel_rfl, by kernel_rfl⟩, fun vs => ?_⟩
              apply WL_auto [15, 16]
              · exact goPk
              · exact goNrm
              · kernel_rfl
              · kernel_rfl
              (refine goSt ?_; (repeat (refine goAl ?_; intro p hp; refine goSt ?_)))
              rename_i vs
              have hst1 : i < (lft.set o (lft[o] + lft[i])).length := by rw [List.length_set]; exact hil
              have hmv : (lft.set o (lft[o] + lft[i])).set i 0 = mvL lft i o := by unfold mvL; rw [hgo2, hgd]
              refine W_meet ⟨[(1, .sl 2 pnC L), (3, .val p), (8, .val v), (9, .val u), (28, .val (.int .i64 L.length)), (29, .val (.int .i64 r)), (10, .sl 3 payC out), (12, .val (.int .i64 i)), (14, .val (.int .i64 k0)), (17, .val (.int .i64 o)), (18, .val (vs 16))], [.box (vs 16) (payC (payX f.ids i o lft[i])) 53, .row u 4 1 bC dn, .row v 3 1 iC lft, .box p (flC f) 27]⟩ ?_ ?_
              · refine w_cond rfl (fun hpos => ?_) (fun hpos => ?_)
                · have hpx : payX f.ids i o lft[i] = ⟨f.ids[o], f.ids[i], lft[i]⟩ := by unfold payX; rw [if_pos (by simpa using hpos), hg1, hg2]
                  rw [hpx]
                  (refine goSt ?_; (repeat (refine goAl ?_; intro p hp; refine goSt ?_)))
                  refine W_run 14 [111, 112, 113, 114, 115, 116, 117, 118, 119, 120, 121, 122, 123, 124] [0, 1, 2, 3, 4, 5, 6, 7, 8, 9, 10, 11, 12, 13] Cut.nil rfl goFlt mixedS (by kernel_rfl) rfl ?_
                  refine rpv [] [] ?_
                  refine rpv [0] [] ?_
                  refine rpv [] [] ?_
                  refine rpv [1, 2] [] ?_
                  refine rpv [3] [] ?_
                  refine rpv [] [] ?_
                  refine rpv [5] [] ?_
                  refine rpv [] [] ?_
                  refine rpv [6, 7] [] ?_
                  refine rpv [8] [] ?_
                  refine rpv [] [] ?_
                  refine rpv [] [] ?_
                  refine rpv [10, 11] [] ?_
                  refine rpv [12] [] ?_
                  refine ⟨⟨by kernel_rfl, by kernel_rfl⟩, fun vs => ?_⟩
                  apply WL_auto [4, 9, 13]
                  · exact goPk
                  · exact goNrm
                  · kernel_rfl
                  · kernel_rfl
                  (refine goSt ?_; (repeat (refine goAl ?_; intro p hp; refine goSt ?_)))
                  exact ⟨rfl, fun _ _ st => st_sub2 st goSubr goSubp⟩
                · have hpx : payX f.ids i o lft[i] = ⟨f.ids[i], f.ids[o], -lft[i]⟩ := by unfold payX; rw [if_neg (by simp at hpos; omega), hg1, hg2]
                  rw [hpx]
                  (refine goSt ?_; (repeat (refine goAl ?_; intro p hp; refine goSt ?_)))
                  exact ⟨rfl, fun _ _ st => st_sub2 st goSubr goSubp⟩
              · generalize payX f.ids i o lft[i] = px at hgo ⊢
                (refine goSt ?_; (repeat (refine goAl ?_; intro p hp; refine goSt ?_)))
                refine W_run 8 [126, 127, 128, 129, 130, 131, 132, 133] [0, 1, 2, 3, 4, 5, 6, 7] Cut.nil rfl goFlt mixedS (by kernel_rfl) rfl ?_
                refine rpv [] [] ?_
                refine rpv [] [] ?_
                refine rpv [0, 1] [] ?_
                refine rpv [2] [] ?_
                refine rpv [] [] ?_
                refine rpv [] [] ?_
                refine rpv [4, 5] [] ?_
                refine rpv [6] [] ?_
                refine ⟨⟨by kernel_rfl, by kernel_rfl⟩, fun vs => ?_⟩
                apply WL_auto [0, 1, 3, 7]
                · exact goPk
                · exact goNrm
                · kernel_rfl
                · kernel_rfl
                (refine goSt ?_; (repeat (refine goAl ?_; intro p hp; refine goSt ?_)))
                rw [hmv]
                (first | (apply wl_call (add8P_con out px (by omega)); exact rfl; exact rfl) | (apply wl_callR (add8P_con out px (by omega)); exact rfl; exact goAtm; exact rfl))
                (refine goSt ?_; (repeat (refine goAl ?_; intro p hp; refine goSt ?_)))
                (refine ⟨(i + 1, true, mvL lft i o, dn.set k0 true, addP out px), fun _ _ st => st_sub2 st ?_ ?_, ?_, ?_⟩; exact goSubr; exact goSubp)
                · refine ⟨hi', by rw [Gr.mvL_len]; exact hl', by rw [List.length_set]; exact hd', (fun h => by cases h), fun _ => ⟨by rw [bnd_succ]; exact mvL_btw hbp hbt, ?_, hgo⟩⟩
                  have := (Gr.addP_perm out px).length_eq
                  rw [this, List.length_cons]; omega
                · dsimp only; omega
      · have hii : i = f.ids.length := by simp at g; omega
        subst hii
        have hnone : treeR f.ids L owed = none := treeR_none (by rw [← hgo, treeGo, findLeaf_none hno])
        rw [hnone]
        (refine goSt ?_; (repeat (refine goAl ?_; intro p hp; refine goSt ?_)))
        refine Res_nil 6 3 payC rfl ?_
        (apply res2; exact rfl; exact rfl; exact rfl; exact ⟨rfl, rfl⟩)
  · have hrr : r = L.length := by simp at hlt; omega
    subst hrr
    rw [Nat.sub_self, treeGo] at hgo
    have hR : treeR f.ids L owed = if lft.all (fun n => decide (n = 0)) = true then some out else none := by unfold treeR; rw [← hgo]
    rw [hR]
    (refine goSt ?_; (repeat (refine goAl ?_; intro p hp; refine goSt ?_)))
    refine W_loopJ (fun (k : Nat) => ⟨[(10, .sl 3 payC out), (148, .val v), (149, .val (.int .i64 lft.length)), (150, .val (.int .i64 k))], [.row v 3 1 iC lft]⟩)
      (fun k => k ≤ lft.length ∧ (lft.take k).all (fun n => decide (n = 0)) = true) (fun k => lft.length - k) 0 (fun _ _ st => st_sub2 st goSubr goSubp) ⟨Nat.zero_le _, rfl⟩ ?_
    rintro k ⟨hk, hal⟩
    (refine goSt ?_; (repeat (refine goAl ?_; intro p hp; refine goSt ?_)))
    refine w_cond rfl (fun hlt2 => ?_) (fun hlt2 => ?_)
    · have hk' : k < lft.length := by simpa using hlt2
      (refine goSt ?_; (repeat (refine goAl ?_; intro p hp; refine goSt ?_)))
      refine w_cond rfl (fun hz => ?_) (fun hz => ?_)
      · rw [if_neg (fun h => by have := List.all_eq_true.1 h _ (List.getElem_mem hk'); simp at this hz; exact hz this)]
        (refine goSt ?_; (repeat (refine goAl ?_; intro p hp; refine goSt ?_)))
        refine Res_nil 6 3 payC rfl ?_
        (apply res2; exact rfl; exact rfl; exact rfl; exact ⟨rfl, rfl⟩)
      · (refine goSt ?_; (repeat (refine goAl ?_; intro p hp; refine goSt ?_)))
        (refine ⟨k + 1, fun _ _ st => st_sub2 st ?_ ?_, ?_, ?_⟩; exact goSubr; exact goSubp)
        · refine ⟨hk', ?_⟩
          rw [List.take_succ_eq_append_getElem hk', List.all_append, hal]
          simpa using hz
        · omega
    · have hkk : k = lft.length := by simp at hlt2; omega
      subst hkk
      rw [List.take_length] at hal
      rw [if_pos hal]
      (refine goSt ?_; (repeat (refine goAl ?_; intro p hp; refine goSt ?_)))
      (apply res2; exact rfl; exact rfl; exact rfl; exact ⟨rfl, rfl⟩)
end Go.Proofs.YtihonljdanjfmaaDoor.Sw
namespace Go.Proofs.YtihonljdanjfmaaDoor.Sw
open Go.RowKit Go
section
variable {P : Program} {rs : List (Nat × AV)} {d : Option Nat} {ty : TypeId} {pos : String} {af : Array Edge} {g : Option (Nat × Bool)}
theorem pow60 {k : Nat} (hk : k ≤ 60) : 2 ^ k ≤ 1152921504606846976 := Nat.pow_le_pow_right (n := 2) (by omega) hk
theorem wrap_pow {k : Nat} (hk : k ≤ 60) : IntKind.i64.wrap ((2 : Int) ^ k) = (2 : Int) ^ k := by
  have h2 : ((2 ^ k : Nat) : Int) ≤ ((1152921504606846976 : Nat) : Int) := Int.ofNat_le.2 (pow60 hk)
  have h3 : 0 ≤ ((2 ^ k : Nat) : Int) := Int.natCast_nonneg _
  rw [show (2 : Int) ^ k = ((2 ^ k : Nat) : Int) from by rw [Int.natCast_pow]; rfl]
  exact IntWalk.i64_in _ ⟨by generalize ((2 ^ k : Nat) : Int) = q at h2 h3 ⊢; omega, by generalize ((2 ^ k : Nat) : Int) = q at h2 h3 ⊢; omega⟩
theorem shl_run {k : Nat} (hk : k ≤ 60) : Op.shift .shl .i64 1 .i64 (k : Int) = pure (.int .i64 ((2 ^ k : Nat) : Int)) := by
  have h2 : ((2 ^ k : Nat) : Int) ≤ ((1152921504606846976 : Nat) : Int) := Int.ofNat_le.2 (pow60 hk)
  have h3 : 0 ≤ ((2 ^ k : Nat) : Int) := Int.natCast_nonneg _
  have h4 : (1 : Int) * 2 ^ k = ((2 ^ k : Nat) : Int) := by rw [Int.one_mul, Int.natCast_pow]; rfl
  have h5 : IntKind.i64.wrap ((2 ^ k : Nat) : Int) = ((2 ^ k : Nat) : Int) := IntWalk.i64_in _ ⟨by generalize ((2 ^ k : Nat) : Int) = q at h2 h3 ⊢; omega, by generalize ((2 ^ k : Nat) : Int) = q at h2 h3 ⊢; omega⟩
  rw [shift_shl .i64 .i64 1 (k : Int) (by omega) (by show (k : Int) ≤ 64; omega), Int.toNat_natCast, h4, h5]
theorem shr_run {s k : Nat} (hk : k ≤ 60) : Op.shift .shr .i64 (s : Int) .i64 (k : Int) = pure (.int .i64 ((s / 2 ^ k : Nat) : Int)) := by
  rw [shift_shr .i64 .i64 (s : Int) (k : Int) (by omega) (by show (k : Int) ≤ 64; omega), Int.toNat_natCast, Int.natCast_ediv, Int.natCast_pow]
  rfl
theorem and1_run {s : Nat} (hs : s ≤ 1152921504606846976) : bits .and .i64 (s : Int) 1 = ((s % 2 : Nat) : Int) := by
  have h1 : (BitVec.ofInt 64 (s : Int) &&& BitVec.ofInt 64 1).toNat = s % 2 := by
    rw [BitVec.toNat_and]
    have e1 : (BitVec.ofInt 64 (s : Int)).toNat = s := by simp [BitVec.toNat_ofInt]; omega
    have e2 : (BitVec.ofInt 64 1).toNat = 1 := rfl
    rw [e1, e2, Nat.and_one_is_mod]
  show IntKind.i64.wrap (((BitVec.ofInt 64 (s : Int) &&& BitVec.ofInt 64 1).toNat : Nat) : Int) = _
  rw [h1]
  exact IntWalk.i64_in _ ⟨by omega, by omega⟩
theorem lt_shl {x y : Operand} {k : Nat} {t t' : TypeId} (hx : opv rs x = some (.val (.int .i64 1))) (hy : opv rs y = some (.val (.int .i64 (k : Int)))) (hk : k ≤ 60) :
    LT P ⟨d, .binOp .shl t x y t', ty, pos, af, g⟩ rs [] (Is (.val (.int .i64 ((2 ^ k : Nat) : Int))) []) :=
  LT_val (fun _ e => by cases e) fun a w G hR _ => ⟨_, rfl, by
    have e1 : a.eval x = _ := opv_ok hR hx
    have e2 : a.eval y = _ := opv_ok hR hy
    simp only [execOp, e1, e2]
    simp [go_sem, eqGuard, Go.binOp]
    have h := shl_run hk
    simp [go_sem] at h
    first | exact h | exact wrap_pow hk⟩
theorem lt_shr {x y : Operand} {s k : Nat} {t t' : TypeId} (hx : opv rs x = some (.val (.int .i64 (s : Int)))) (hy : opv rs y = some (.val (.int .i64 (k : Int)))) (hk : k ≤ 60) :
    LT P ⟨d, .binOp .shr t x y t', ty, pos, af, g⟩ rs [] (Is (.val (.int .i64 ((s / 2 ^ k : Nat) : Int))) []) :=
  LT_val (fun _ e => by cases e) fun a w G hR _ => ⟨_, rfl, by
    have e1 : a.eval x = _ := opv_ok hR hx
    have e2 : a.eval y = _ := opv_ok hR hy
    have h := shr_run (s := s) hk
    simp only [execOp, e1, e2]
    simp [go_sem, eqGuard, Go.binOp, h]⟩
theorem lt_and1 {x y : Operand} {s : Nat} {t t' : TypeId} (hx : opv rs x = some (.val (.int .i64 (s : Int)))) (hy : opv rs y = some (.val (.int .i64 1))) (hs : s ≤ 1152921504606846976) :
    LT P ⟨d, .binOp .and t x y t', ty, pos, af, g⟩ rs [] (Is (.val (.int .i64 ((s % 2 : Nat) : Int))) []) :=
  LT_val (fun _ e => by cases e) fun a w G hR _ => ⟨_, rfl, by
    have e1 : a.eval x = _ := opv_ok hR hx
    have e2 : a.eval y = _ := opv_ok hR hy
    have h := and1_run hs
    simp only [execOp, e1, e2]
    simp [go_sem, eqGuard, Go.binOp, h]⟩
end
section
variable {c : Cx} {rs : List (Nat × AV)} {hs : List HA} {Q : Exit → S → Prop} {ops : Array Oper} {tl : List Oper} {d : Nat} {ty : TypeId} {pos : String} {af : Array Edge}
theorem wl_shl {x y : Operand} {k : Nat} {t t' : TypeId} (hx : opv rs x = some (.val (.int .i64 1))) (hy : opv rs y = some (.val (.int .i64 (k : Int)))) (hk : k ≤ 60) (hd : Nat.blt d c.nt = true) (kk : WL c ops tl ⟨(d, .val (.int .i64 ((2 ^ k : Nat) : Int))) :: rs, hs⟩ Q) : WL c ops (⟨some d, .binOp .shl t x y t', ty, pos, af, none⟩ :: tl) ⟨rs, hs⟩ Q := wl_ex (lt_shl hx hy hk) hd kk
theorem wl_shr {x y : Operand} {s k : Nat} {t t' : TypeId} (hx : opv rs x = some (.val (.int .i64 (s : Int)))) (hy : opv rs y = some (.val (.int .i64 (k : Int)))) (hk : k ≤ 60) (hd : Nat.blt d c.nt = true) (kk : WL c ops tl ⟨(d, .val (.int .i64 ((s / 2 ^ k : Nat) : Int))) :: rs, hs⟩ Q) : WL c ops (⟨some d, .binOp .shr t x y t', ty, pos, af, none⟩ :: tl) ⟨rs, hs⟩ Q := wl_ex (lt_shr hx hy hk) hd kk
theorem wl_and1 {x y : Operand} {s : Nat} {t t' : TypeId} (hx : opv rs x = some (.val (.int .i64 (s : Int)))) (hy : opv rs y = some (.val (.int .i64 1))) (hs' : s ≤ 1152921504606846976) (hd : Nat.blt d c.nt = true) (kk : WL c ops tl ⟨(d, .val (.int .i64 ((s % 2 : Nat) : Int))) :: rs, hs⟩ Q) : WL c ops (⟨some d, .binOp .and t x y t', ty, pos, af, none⟩ :: tl) ⟨rs, hs⟩ Q := wl_ex (lt_and1 hx hy hs') hd kk
end
/-- An own slice whose value lies in a cell of an own box is frozen. -/
theorem st_frzX {α : Type} {c : Cx} {rs : List (Nat × AV)} {hs r : List HA} {e t : TypeId} {n j : Nat} {f : α → List AV} {xs : List α} {p v : Value} {cs : List AV} {g : HA → List HA} {a : Act} {w : World} (hr : Rm hs (.row v e n f xs) r) (hat : At r (.box p cs t) g) (hj : cs[j]? = some (.val v)) (st : St c ⟨rs, hs⟩ a w) : St c ⟨rs, g (.box p (cs.set j (.sl n f xs)) t)⟩ a w := by
  obtain ⟨G, F, hI, hF, hR, rr⟩ := st
  obtain ⟨G', F', h1, h2, h3⟩ := row_freeze (rest := r) ⟨hI.gin, hI.nd, hI.own, hr.sel hI.hs⟩
  obtain ⟨rest, hsel⟩ := hat.sel
  obtain ⟨F1, F2, ep, ⟨b, vs, e1, e2, e3, e4⟩, k2⟩ := (hsel _ _ _ _).1 (by rw [hat.self]; exact h1.hs)
  refine ⟨G', F', ⟨h1.gin, h1.nd, h1.own, (hsel _ _ _ _).2 ⟨F1, F2, ep, ⟨b, vs, e1, e2, ?_, e4⟩, k2⟩⟩, hF.trans h2, hR.mono h2.gle, rr.1, rr.2.step h2⟩
  obtain ⟨u, hu, hu2⟩ := e3.get hj
  have hu3 : u = v := hu2
  subst hu3
  have := e3.set j h3
  rwa [show vs.set j u = vs from by
    obtain ⟨hlt, rfl⟩ := List.getElem?_eq_some_iff.1 hu
    exact List.set_getElem_self hlt] at this
theorem W_frzX {α : Type} {c : Cx} {rs : List (Nat × AV)} {hs r : List HA} {Q : Exit → S → Prop} {x : Code} {e t : TypeId} {n : Nat} {f : α → List AV} {xs : List α} {p v : Value} {cs : List AV} {g : HA → List HA} (p0 : Value) (j : Nat) (hr : Rm hs (.row v e n f xs) r) (hp : p = p0) (hat : At r (.box p cs t) g) (hj : cs[j]? = some (.val v)) (k : W c x ⟨rs, g (.box p (cs.set j (.sl n f xs)) t)⟩ Q) : W c x ⟨rs, hs⟩ Q := ⟨fun a w st => k.out a w (st_frzX hr hat hj st)⟩
end Go.Proofs.YtihonljdanjfmaaDoor.Sw
namespace Go.Proofs.YtihonljdanjfmaaDoor.Sw
open Go.RowKit Go Go.Shelf Go.Proofs
open Go.Proofs.YtihonljdanjfmaaDoor.Gr (treeR pick pick_snoc Ok)
def plC (l : List Pay) : List AV := [.sl 3 payC l]
instance {l : List Pay} : OneL (plC l) := inferInstanceAs (OneL [_])
instance : OneF plC := ⟨fun _ => inferInstance⟩
instance : LenF plC 1 := ⟨fun _ => rfl⟩
theorem prJ_nodup (sp : Nat → Nat → Bool) (i k m : Nat) : (prJ sp i k m).Nodup := by
  unfold prJ
  rw [List.Nodup, List.pairwise_map]
  exact ((List.nodup_range' (s := k) (n := m)).filter _).imp fun h e => h (by injection e)
theorem prR_nodup (sp : Nat → Nat → Bool) (n : Nat) : ∀ i, i ≤ n → (prR sp n i).Nodup
  | 0, _ => List.nodup_nil
  | i + 1, hi => by
    rw [prR]
    refine List.nodup_append.2 ⟨prR_nodup sp n i (by omega), prJ_nodup sp _ _ _, fun a ha b hb e => ?_⟩
    subst e
    have h1 := (prR_mem (by omega)).1 ha
    have h2 := prJ_mem.1 hb
    omega
theorem prR_ok (sp : Nat → Nat → Bool) (n : Nat) : Ok n (prR sp n n) := ⟨prR_nodup sp n n (Nat.le_refl _), fun p hp => by
  have := (prR_mem (Nat.le_refl _)).1 hp
  exact ⟨by omega, by omega, by omega⟩⟩
def triN (n : Nat) : Nat → Nat
  | 0 => 0
  | i + 1 => triN n i + (n - (i + 1))
theorem prR_tri (sp : Nat → Nat → Bool) (n : Nat) : ∀ i, (prR sp n i).length ≤ triN n i
  | 0 => Nat.le_refl _
  | i + 1 => by
    have h1 := prR_tri sp n i
    have h2 := prJ_len sp i (i + 1) (n - (i + 1))
    rw [prR, List.length_append, triN]; omega
theorem prR_15 (sp : Nat → Nat → Bool) {n : Nat} (h : n ≤ 6) : (prR sp n n).length ≤ 15 := by
  refine Nat.le_trans (prR_tri sp n n) ?_
  have : n = 0 ∨ n = 1 ∨ n = 2 ∨ n = 3 ∨ n = 4 ∨ n = 5 ∨ n = 6 := by omega
  rcases this with rfl | rfl | rfl | rfl | rfl | rfl | rfl <;> decide
theorem pow15 {k : Nat} (hk : k ≤ 15) : 2 ^ k ≤ 32768 := Nat.pow_le_pow_right (n := 2) (by omega) hk
/-- All trees of so many edges among the first so many choices. -/
def allTo (ids : List Int) (l : List (Nat × Nat)) (owed : List Int) (S k : Nat) : List (List Pay) := (List.range S).filterMap fun s => if (pick l s).length = k then treeR ids (pick l s) owed else none
theorem allTo_succ (ids : List Int) (l : List (Nat × Nat)) (owed : List Int) (S k : Nat) : allTo ids l owed (S + 1) k = allTo ids l owed S k ++ (if (pick l S).length = k then treeR ids (pick l S) owed else none).toList := by
  unfold allTo
  rw [List.range_succ, List.filterMap_append]
  cases h : (if (pick l S).length = k then treeR ids (pick l S) owed else none) <;> simp [h]
def allR (f : Flo) (k : Nat) : List (List Pay) := allTo f.ids (prR (spk f) f.ids.length f.ids.length) (owed8 f) (2 ^ (prR (spk f) f.ids.length f.ids.length).length) k
def allV (f : Flo) : AV := .agg [.sl 1 plC (allR f 0), .sl 1 plC (allR f 1), .sl 1 plC (allR f 2), .sl 1 plC (allR f 3), .sl 1 plC (allR f 4), .sl 1 plC (allR f 5)]
theorem pick_take {l : List (Nat × Nat)} {i s : Nat} (hi : i < l.length) : pick (l.take (i + 1)) s = pick (l.take i) s ++ if s / 2 ^ i % 2 = 1 then [l[i]] else [] := by
  rw [List.take_succ_eq_append_getElem hi, pick_snoc, List.length_take, Nat.min_eq_left (by omega)]
theorem pick_len (l : List (Nat × Nat)) (s : Nat) : (pick l s).length ≤ l.length := (Gr.pick_sub l s).length_le
set_option maxRecDepth 20000 in
set_option maxHeartbeats 8000000 in
theorem All8_con (f : Flo) (hF : FloF f) (hS : Sml f) : Con Tryd.prog 114 [.agg (flC f)] [] (Is (allV f) []) := by
  have hn := hF.ids
  have hok := prR_ok (spk f) f.ids.length
  have hll := prR_15 (spk f) hn
  have hol := owed8_len f
  have hob := (owed8_btw hF hS).mono (lo' := -1000000000) (hi' := 1000000000) (by omega) (by omega)
  refine con_of Tryd.func114 rfl (enters_of Tryd.func114 (by kernel_rfl) rfl) rfl ?_; intro n w0 F0 G0
  (refine goSt ?_; (repeat (refine goAl ?_; intro p hp; refine goSt ?_)))
  rename_i p1 hp1 p2 hp2
  (apply wl_callP (owed8_con f hF hS); exact rfl; exact goCutl; exact rfl)
  rintro _ _ ⟨u, rfl, rfl⟩
  (apply WL_frz 13; exact rfl; exact goRm)
  (refine goSt ?_; (repeat (refine goAl ?_; intro p hp; refine goSt ?_)))
  (apply wl_callP (pairs8_con f (by omega) hS.qs); exact rfl; exact goCutl; exact rfl)
  rintro _ _ ⟨u, rfl, rfl⟩
  (apply WL_frz 15; exact rfl; exact goRm)
  unfold allV allR
  generalize owed8 f = ow at hol hob ⊢
  generalize prR (spk f) f.ids.length f.ids.length = l at hok hll ⊢
  (refine goSt ?_; (repeat (refine goAl ?_; intro p hp; refine goSt ?_)))
  have hp36 := pow15 hll
  refine W_loopJ (fun (b : Nat × (Nat → Value) × (Nat → List (List Pay))) => ⟨[(1, .val p1), (2, .val p2), (3, .val p), (4, .sl 1 iC ow), (5, .sl 2 pnC l), (6, .val (.int .i64 b.1))], [.row (b.2.1 0) 25 1 plC (b.2.2 0), .row (b.2.1 1) 25 1 plC (b.2.2 1), .row (b.2.1 2) 25 1 plC (b.2.2 2), .row (b.2.1 3) 25 1 plC (b.2.2 3), .row (b.2.1 4) 25 1 plC (b.2.2 4), .row (b.2.1 5) 25 1 plC (b.2.2 5), .box p [.val (b.2.1 0), .val (b.2.1 1), .val (b.2.1 2), .val (b.2.1 3), .val (b.2.1 4), .val (b.2.1 5)] 178, .box p2 [.val (.slice none 0 0), .val (.slice none 0 0), .val (.slice none 0 0), .val (.slice none 0 0), .val (.slice none 0 0), .val (.slice none 0 0)] 178, .box p1 (flC f) 27]⟩)
    (fun b => b.1 ≤ 2 ^ l.length ∧ ∀ j, j < 6 → b.2.2 j = allTo f.ids l ow b.1 j) (fun b => 2 ^ l.length - b.1) (0, (fun _ => .slice none 0 0), fun _ => [])
    (fun _ _ st => st_sub2 (st_nil 25 1 plC (st_nil 25 1 plC (st_nil 25 1 plC (st_nil 25 1 plC (st_nil 25 1 plC (st_nil 25 1 plC st)))))) goSubr goSubp) ⟨Nat.zero_le _, fun j _ => rfl⟩ ?_
  rintro ⟨S, v, ls⟩ ⟨hS1, hls⟩
  dsimp only at hS1 hls ⊢
  (refine goSt ?_; (repeat (refine goAl ?_; intro p hp; refine goSt ?_)))
  (apply wl_shl (k := l.length); exact rfl; exact rfl; omega; exact rfl)
  (refine goSt ?_; (repeat (refine goAl ?_; intro p hp; refine goSt ?_)))
  refine w_cond rfl (fun hlt => ?_) (fun hlt => ?_)
  · have hS2 : S < 2 ^ l.length := by simp only [decide_eq_true_eq] at hlt; exact Int.ofNat_lt.1 hlt
    (refine goSt ?_; (repeat (refine goAl ?_; intro p hp; refine goSt ?_)))
    refine W_loopJ (fun (b : Nat × Value) => ⟨[(1, .val p1), (2, .val p2), (3, .val p), (4, .sl 1 iC ow), (5, .sl 2 pnC l), (6, .val (.int .i64 S)), (7, .val b.2), (23, .sl 2 pnC l), (24, .val (.int .i64 l.length)), (25, .val (.int .i64 b.1))], [.row b.2 149 2 pnC (pick (l.take b.1) S), .row (v 0) 25 1 plC (ls 0), .row (v 1) 25 1 plC (ls 1), .row (v 2) 25 1 plC (ls 2), .row (v 3) 25 1 plC (ls 3), .row (v 4) 25 1 plC (ls 4), .row (v 5) 25 1 plC (ls 5), .box p [.val (v 0), .val (v 1), .val (v 2), .val (v 3), .val (v 4), .val (v 5)] 178, .box p2 [.val (.slice none 0 0), .val (.slice none 0 0), .val (.slice none 0 0), .val (.slice none 0 0), .val (.slice none 0 0), .val (.slice none 0 0)] 178, .box p1 (flC f) 27]⟩)
      (fun b => b.1 ≤ l.length) (fun b => l.length - b.1) (0, .slice none 0 0) (fun _ _ st => st_sub2 (st_nil 149 2 pnC st) goSubr goSubp) (Nat.zero_le _) ?_
    rintro ⟨i, w⟩ hi
    dsimp only at hi ⊢
    (refine goSt ?_; (repeat (refine goAl ?_; intro p hp; refine goSt ?_)))
    refine w_cond rfl (fun hlt2 => ?_) (fun hlt2 => ?_)
    · have hi' : i < l.length := by simpa using hlt2
      have hpt := pick_take (s := S) hi'
      have hpl := pick_len (l.take i) S
      have htl : (l.take i).length = i := by rw [List.length_take]; omega
      (refine goSt ?_; (repeat (refine goAl ?_; intro p hp; refine goSt ?_)))
      rename_i px hpx
      (apply wl_shr (s := S) (k := i); exact rfl; exact rfl; omega; exact rfl)
      (refine goSt ?_; (repeat (refine goAl ?_; intro p hp; refine goSt ?_)))
      (apply wl_and1 (s := S / 2 ^ i); exact rfl; exact rfl; exact Nat.le_trans (Nat.div_le_self _ _) (by omega); exact rfl)
      (refine goSt ?_; (repeat (refine goAl ?_; intro p hp; refine goSt ?_)))
      refine w_cond rfl (fun hb => ?_) (fun hb => ?_)
      · have hb' : S / 2 ^ i % 2 = 1 := by simp only [decide_eq_true_eq] at hb; exact Int.ofNat_inj.1 hb
        rw [if_pos hb'] at hpt
        (refine goSt ?_; (repeat (refine goAl ?_; intro p hp; refine goSt ?_)))
        refine WL_as 36 (.agg (pnC l[i])) rfl ?_
        (apply wl_litF pnC; exact inferInstance; exact inferInstance; exact inferInstance; (repeat (first | exact Elems.nil | (apply Elems.cons; exact rfl; exact inferInstance; exact rfl))); exact rfl; (first | exact (of_decide_eq_true rfl) | decide | (simp; done) | (simp; omega)); exact rfl)
        (first | (apply wl_append; exact rfl; exact rfl; exact goRm; exact inferInstance; exact inferInstance; (first | omega | (simp; omega)); exact rfl) | (apply wl_appendN; exact rfl; exact rfl; exact inferInstance; exact inferInstance; (first | omega | (simp; omega)); exact rfl))
        intro w2
        rw [← hpt]
        (refine goSt ?_; (repeat (refine goAl ?_; intro p hp; refine goSt ?_)))
        (refine ⟨(i + 1, w2), fun _ _ st => st_sub2 st ?_ ?_, ?_, ?_⟩; exact goSubr; exact goSubp)
        · dsimp only; omega
        · dsimp only; omega
      · have hb' : ¬ S / 2 ^ i % 2 = 1 := fun h => by rw [h] at hb; simp at hb
        rw [if_neg hb', List.append_nil] at hpt
        rw [← hpt]
        (refine goSt ?_; (repeat (refine goAl ?_; intro p hp; refine goSt ?_)))
        (refine ⟨(i + 1, w), fun _ _ st => st_sub2 st ?_ ?_, ?_, ?_⟩; exact goSubr; exact goSubp)
        · dsimp only; omega
        · dsimp only; omega
    · have hii : i = l.length := by simp at hlt2; omega
      subst hii
      rw [List.take_length]
      have hsub := Gr.pick_sub l S
      have hsu := allTo_succ f.ids l ow S
      have hokS := hok.sub hsub
      generalize pick l S = T at hsu hokS ⊢
      (apply W_frz 7; exact rfl; exact goRm)
      have stay : (∀ j, j < 6 → (if T.length = j then treeR f.ids T ow else none) = none) → S + 1 ≤ 2 ^ l.length ∧ ∀ j, j < 6 → ls j = allTo f.ids l ow (S + 1) j := fun h => ⟨hS2, fun j hj => by rw [hsu, h j hj, hls j hj]; simp⟩
      (refine goSt ?_; (repeat (refine goAl ?_; intro p hp; refine goSt ?_)))
      refine w_cond rfl (fun hge => ?_) (fun hge => ?_)
      · have hge' : 6 ≤ T.length := by simp at hge; omega
        (refine goSt ?_; (repeat (refine goAl ?_; intro p hp; refine goSt ?_)))
        (refine ⟨(S + 1, v, ls), fun _ _ st => st_sub2 st ?_ ?_, ?_, ?_⟩; exact goSubr; exact goSubp)
        · exact stay fun j hj => if_neg (by omega)
        · dsimp only; omega
      · have hlt6 : T.length < 6 := by simp at hge; omega
        have C := tree8_con f T ow (by omega) (by omega) hokS hol hob
        cases hT : treeR f.ids T ow with
        | none =>
          rw [hT] at C
          unfold treeA at C
          (refine goSt ?_; (repeat (refine goAl ?_; intro p hp; refine goSt ?_)))
          (first | (apply wl_call (C); exact rfl; exact rfl) | (apply wl_callR (C); exact rfl; exact goAtm; exact rfl))
          (refine goSt ?_; (repeat (refine goAl ?_; intro p hp; refine goSt ?_)))
          (refine ⟨(S + 1, v, ls), fun _ _ st => st_sub2 st ?_ ?_, ?_, ?_⟩; exact goSubr; exact goSubp)
          · exact stay fun j hj => by rw [hT]; split <;> rfl
          · dsimp only; omega
        | some out =>
          rw [hT] at C
          unfold treeA at C
          have hlm : ∀ j, j < 6 → (ls j).length ≤ 40000 := fun j hj => by
            rw [hls j hj]
            exact Nat.le_trans (List.length_filterMap_le _ _) (by simp; omega)
          have go : ∀ k, T.length = k → S + 1 ≤ 2 ^ l.length ∧ ∀ j, j < 6 → (fun j => if j = k then ls k ++ [out] else ls j) j = allTo f.ids l ow (S + 1) j := fun k hk => ⟨hS2, fun j hj => by
            rw [hsu, hls j hj |>.symm, hT]
            dsimp only
            by_cases h : j = k
            · rw [if_pos h, if_pos (by omega), h]; rfl
            · rw [if_neg h, if_neg (by omega)]; simp⟩
          (refine goSt ?_; (repeat (refine goAl ?_; intro p hp; refine goSt ?_)))
          (first | (apply wl_call (C); exact rfl; exact rfl) | (apply wl_callR (C); exact rfl; exact goAtm; exact rfl))
          (refine goSt ?_; (repeat (refine goAl ?_; intro p hp; refine goSt ?_)))
          have h6 : T.length = 0 ∨ T.length = 1 ∨ T.length = 2 ∨ T.length = 3 ∨ T.length = 4 ∨ T.length = 5 := by omega
          rcases h6 with h6 | h6 | h6 | h6 | h6 | h6
          · have hl6 := hlm 0 (by omega)
            rw [h6]
            (refine goSt ?_; (repeat (refine goAl ?_; intro p hp; refine goSt ?_)))
            (apply wl_litF plC; exact inferInstance; exact inferInstance; exact inferInstance; (repeat (first | exact Elems.nil | (apply Elems.cons; exact rfl; exact inferInstance; exact rfl))); exact rfl; (first | exact (of_decide_eq_true rfl) | decide | (simp; done) | (simp; omega)); exact rfl)
            (first | (apply wl_append; exact rfl; exact rfl; exact goRm; exact inferInstance; exact inferInstance; (first | omega | (simp; omega)); exact rfl) | (apply wl_appendN; exact rfl; exact rfl; exact inferInstance; exact inferInstance; (first | omega | (simp; omega)); exact rfl))
            intro w2
            refine WL_one At.here (fun hone => ?_)
            (refine goSt ?_; (repeat (refine goAl ?_; intro p hp; refine goSt ?_)))
            (refine ⟨(S + 1, (fun j => if j = 0 then w2 else v j), (fun j => if j = 0 then ls 0 ++ [out] else ls j)), fun _ _ st => st_sub2 st ?_ ?_, ?_, ?_⟩; exact goSubr; exact goSubp)
            · exact go 0 h6
            · dsimp only; omega
          · have hl6 := hlm 1 (by omega)
            rw [h6]
            (refine goSt ?_; (repeat (refine goAl ?_; intro p hp; refine goSt ?_)))
            (apply wl_litF plC; exact inferInstance; exact inferInstance; exact inferInstance; (repeat (first | exact Elems.nil | (apply Elems.cons; exact rfl; exact inferInstance; exact rfl))); exact rfl; (first | exact (of_decide_eq_true rfl) | decide | (simp; done) | (simp; omega)); exact rfl)
            (first | (apply wl_append; exact rfl; exact rfl; exact goRm; exact inferInstance; exact inferInstance; (first | omega | (simp; omega)); exact rfl) | (apply wl_appendN; exact rfl; exact rfl; exact inferInstance; exact inferInstance; (first | omega | (simp; omega)); exact rfl))
            intro w2
            refine WL_one At.here (fun hone => ?_)
            (refine goSt ?_; (repeat (refine goAl ?_; intro p hp; refine goSt ?_)))
            (refine ⟨(S + 1, (fun j => if j = 1 then w2 else v j), (fun j => if j = 1 then ls 1 ++ [out] else ls j)), fun _ _ st => st_sub2 st ?_ ?_, ?_, ?_⟩; exact goSubr; exact goSubp)
            · exact go 1 h6
            · dsimp only; omega
          · have hl6 := hlm 2 (by omega)
            rw [h6]
            (refine goSt ?_; (repeat (refine goAl ?_; intro p hp; refine goSt ?_)))
            (apply wl_litF plC; exact inferInstance; exact inferInstance; exact inferInstance; (repeat (first | exact Elems.nil | (apply Elems.cons; exact rfl; exact inferInstance; exact rfl))); exact rfl; (first | exact (of_decide_eq_true rfl) | decide | (simp; done) | (simp; omega)); exact rfl)
            (first | (apply wl_append; exact rfl; exact rfl; exact goRm; exact inferInstance; exact inferInstance; (first | omega | (simp; omega)); exact rfl) | (apply wl_appendN; exact rfl; exact rfl; exact inferInstance; exact inferInstance; (first | omega | (simp; omega)); exact rfl))
            intro w2
            refine WL_one At.here (fun hone => ?_)
            (refine goSt ?_; (repeat (refine goAl ?_; intro p hp; refine goSt ?_)))
            (refine ⟨(S + 1, (fun j => if j = 2 then w2 else v j), (fun j => if j = 2 then ls 2 ++ [out] else ls j)), fun _ _ st => st_sub2 st ?_ ?_, ?_, ?_⟩; exact goSubr; exact goSubp)
            · exact go 2 h6
            · dsimp only; omega
          · have hl6 := hlm 3 (by omega)
            rw [h6]
            (refine goSt ?_; (repeat (refine goAl ?_; intro p hp; refine goSt ?_)))
            (apply wl_litF plC; exact inferInstance; exact inferInstance; exact inferInstance; (repeat (first | exact Elems.nil | (apply Elems.cons; exact rfl; exact inferInstance; exact rfl))); exact rfl; (first | exact (of_decide_eq_true rfl) | decide | (simp; done) | (simp; omega)); exact rfl)
            (first | (apply wl_append; exact rfl; exact rfl; exact goRm; exact inferInstance; exact inferInstance; (first | omega | (simp; omega)); exact rfl) | (apply wl_appendN; exact rfl; exact rfl; exact inferInstance; exact inferInstance; (first | omega | (simp; omega)); exact rfl))
            intro w2
            refine WL_one At.here (fun hone => ?_)
            (refine goSt ?_; (repeat (refine goAl ?_; intro p hp; refine goSt ?_)))
            (refine ⟨(S + 1, (fun j => if j = 3 then w2 else v j), (fun j => if j = 3 then ls 3 ++ [out] else ls j)), fun _ _ st => st_sub2 st ?_ ?_, ?_, ?_⟩; exact goSubr; exact goSubp)
            · exact go 3 h6
            · dsimp only; omega
          · have hl6 := hlm 4 (by omega)
            rw [h6]
            (refine goSt ?_; (repeat (refine goAl ?_; intro p hp; refine goSt ?_)))
            (apply wl_litF plC; exact inferInstance; exact inferInstance; exact inferInstance; (repeat (first | exact Elems.nil | (apply Elems.cons; exact rfl; exact inferInstance; exact rfl))); exact rfl; (first | exact (of_decide_eq_true rfl) | decide | (simp; done) | (simp; omega)); exact rfl)
            (first | (apply wl_append; exact rfl; exact rfl; exact goRm; exact inferInstance; exact inferInstance; (first | omega | (simp; omega)); exact rfl) | (apply wl_appendN; exact rfl; exact rfl; exact inferInstance; exact inferInstance; (first | omega | (simp; omega)); exact rfl))
            intro w2
            refine WL_one At.here (fun hone => ?_)
            (refine goSt ?_; (repeat (refine goAl ?_; intro p hp; refine goSt ?_)))
            (refine ⟨(S + 1, (fun j => if j = 4 then w2 else v j), (fun j => if j = 4 then ls 4 ++ [out] else ls j)), fun _ _ st => st_sub2 st ?_ ?_, ?_, ?_⟩; exact goSubr; exact goSubp)
            · exact go 4 h6
            · dsimp only; omega
          · have hl6 := hlm 5 (by omega)
            rw [h6]
            (refine goSt ?_; (repeat (refine goAl ?_; intro p hp; refine goSt ?_)))
            (apply wl_litF plC; exact inferInstance; exact inferInstance; exact inferInstance; (repeat (first | exact Elems.nil | (apply Elems.cons; exact rfl; exact inferInstance; exact rfl))); exact rfl; (first | exact (of_decide_eq_true rfl) | decide | (simp; done) | (simp; omega)); exact rfl)
            (first | (apply wl_append; exact rfl; exact rfl; exact goRm; exact inferInstance; exact inferInstance; (first | omega | (simp; omega)); exact rfl) | (apply wl_appendN; exact rfl; exact rfl; exact inferInstance; exact inferInstance; (first | omega | (simp; omega)); exact rfl))
            intro w2
            refine WL_one At.here (fun hone => ?_)
            (refine goSt ?_; (repeat (refine goAl ?_; intro p hp; refine goSt ?_)))
            (refine ⟨(S + 1, (fun j => if j = 5 then w2 else v j), (fun j => if j = 5 then ls 5 ++ [out] else ls j)), fun _ _ st => st_sub2 st ?_ ?_, ?_, ?_⟩; exact goSubr; exact goSubp)
            · exact go 5 h6
            · dsimp only; omega
  · have hSS : S = 2 ^ l.length := by
      have : ¬ ((S : Int) < ((2 ^ l.length : Nat) : Int)) := by simpa only [decide_eq_false_iff_not] using hlt
      have := fun h => this (Int.ofNat_lt.2 h)
      omega
    subst hSS
    (apply W_frzX (v := v 0) p 0; exact goRm; exact rfl; exact goAtm; exact rfl)
    (apply W_frzX (v := v 1) p 1; exact goRm; exact rfl; exact goAtm; exact rfl)
    (apply W_frzX (v := v 2) p 2; exact goRm; exact rfl; exact goAtm; exact rfl)
    (apply W_frzX (v := v 3) p 3; exact goRm; exact rfl; exact goAtm; exact rfl)
    (apply W_frzX (v := v 4) p 4; exact goRm; exact rfl; exact goAtm; exact rfl)
    (apply W_frzX (v := v 5) p 5; exact goRm; exact rfl; exact goAtm; exact rfl)
    rw [hls 0 (by omega), hls 1 (by omega), hls 2 (by omega), hls 3 (by omega), hls 4 (by omega), hls 5 (by omega)]
    simp only [List.set_cons_zero, List.set_cons_succ]
    (refine goSt ?_; (repeat (refine goAl ?_; intro p hp; refine goSt ?_)))
    (apply resN; exact rfl; exact rfl; exact goAtm; exact inferInstance; exact rfl; exact ⟨rfl, rfl⟩)
end Go.Proofs.YtihonljdanjfmaaDoor.Sw
namespace Go.Proofs.YtihonljdanjfmaaDoor.Sw
open Go.RowKit Go Go.Shelf Go.Proofs
open Go.Proofs.YtihonljdanjfmaaDoor.Gr (treeR pick Ok treeR_iff payE amt lf Zr)
theorem lt_eqlNilV {P : Program} {rs : List (Nat × AV)} {d : Option Nat} {ty : TypeId} {pos : String} {af : Array Edge} {g : Option (Nat × Bool)} {x : Operand} {t t' e : TypeId} {m : Nat} (hT : TyS P t e m) (hx : opv rs x = some (.val (.slice none 0 0))) : LT P ⟨d, .binOp .eql t x (.const (.slice none 0 0)) t', ty, pos, af, g⟩ rs [] (Is (.val (.bool true)) []) :=
  LT_val (fun _ e => by cases e) fun a w G hR _ => ⟨_, rfl, by
    have e1 : a.eval x = _ := opv_ok hR hx
    simp only [execOp, e1]
    have h1 : (eqGuard .eql t x (.const (.slice none 0 0)) (.slice none 0 0) (a.eval (.const (.slice none 0 0)))).run P w = .ok () w := by simp [eqGuard, Act.eval, go_sem]
    have h2 : (binOp .eql t (.slice none 0 0) (a.eval (.const (.slice none 0 0)))).run P w = .ok (.bool true) w := run_eql_slice_nil w t e none _ _ hT.und
    simp only [Sem.run_bind, h1, h2, Result.andThen_ok]
    rfl⟩
theorem wl_eqlNilV {c : Cx} {rs : List (Nat × AV)} {hs : List HA} {Q : Exit → S → Prop} {ops : Array Oper} {tl : List Oper} {d : Nat} {ty : TypeId} {pos : String} {af : Array Edge} {x : Operand} {t t' e : TypeId} {m : Nat} (hx : opv rs x = some (.val (.slice none 0 0))) (hT : TyS c.P t e m) (hd : Nat.blt d c.nt = true) (k : WL c ops tl ⟨(d, .val (.bool true)) :: rs, hs⟩ Q) : WL c ops (⟨some d, .binOp .eql t x (.const (.slice none 0 0)) t', ty, pos, af, none⟩ :: tl) ⟨rs, hs⟩ Q := wl_ex (lt_eqlNilV hT hx) hd k
/-- Payments of a tree: each of a penny or more. -/
theorem tree_pays {ids : List Int} {L : List (Nat × Nat)} {owed : List Int} {out : List Pay} {c : Int} (hok : Ok ids.length L) (hlen : owed.length = ids.length) (hc : 0 ≤ c) (hb : Btw (-c) c owed) (h : treeR ids L owed = some out) : out.length = L.length ∧ ∀ x ∈ out, 1 ≤ x.p ∧ x.p ≤ ids.length * c := by
  obtain ⟨hf, hz, hm, _, hp⟩ := (treeR_iff hok hlen).1 h
  refine ⟨by rw [hp.length_eq, List.length_map], fun x hx => ?_⟩
  obtain ⟨e, he, rfl⟩ := List.mem_map.1 (hp.mem_iff.1 hx)
  have h0 := hm e he
  have hbb : ∀ v, v < ids.length → -c ≤ lf owed v ∧ lf owed v ≤ c := fun v hv => by
    have hv' : v < owed.length := by omega
    rw [lf_at hv']; exact hb.at hv'
  obtain ⟨Q, hQ⟩ := Gr.side_of hf he (.inr ⟨rfl, rfl⟩ : Gr.Ends e e.2 e.1)
  have ha := Gr.amt_side hok.nd hz hQ
  have hs := sumP_bound hc hbb Q
  rw [← ha] at hs
  unfold payE
  split
  · dsimp only; omega
  · dsimp only; omega
theorem allTo_pays {ids : List Int} {l : List (Nat × Nat)} {owed : List Int} {c : Int} (hok : Ok ids.length l) (hlen : owed.length = ids.length) (hc : 0 ≤ c) (hb : Btw (-c) c owed) {S k : Nat} {out : List Pay} (h : out ∈ allTo ids l owed S k) : out.length = k ∧ ∀ x ∈ out, 1 ≤ x.p ∧ x.p ≤ ids.length * c := by
  unfold allTo at h
  obtain ⟨s, _, hs⟩ := List.mem_filterMap.1 h
  split at hs
  · rename_i hk
    have := tree_pays (hok.sub (Gr.pick_sub l s)) hlen hc hb hs
    rw [hk] at this
    exact this
  · cases hs
/-- The first list of several that has something in it. -/
def fewTo {α : Type} (g : Nat → List α) : Nat → List α
  | 0 => []
  | i + 1 => if (fewTo g i).isEmpty = true then g i else fewTo g i
def chS (c : Int) (l : List Pay) : Int := if c < 0 ∨ sumPay l < c then sumPay l else c
def chTo (g : Nat → List (List Pay)) : Nat → Int
  | 0 => -1
  | i + 1 => (g i).foldl chS (chTo g i)
def fwA (l : List (List Pay)) : AV := match l with | [] => .val (.slice none 0 0) | l => .sl 1 plC l
def askR (f : Flo) : List (List Pay) × Int × Int :=
  if floOk f = true then (if (fewTo (allR f) 6).isEmpty = true then ([], 0, 8) else (fewTo (allR f) 6, chTo (allR f) 6, 0)) else ([], 0, 80)
def askA (r : List (List Pay) × Int × Int) : AV := .tup [.sl 1 plC r.1, .val (.int .i64 r.2.1), .val (.int .i64 r.2.2)]
theorem allV_at (f : Flo) {i : Nat} (hi : i < 6) : ([.sl 1 plC (allR f 0), .sl 1 plC (allR f 1), .sl 1 plC (allR f 2), .sl 1 plC (allR f 3), .sl 1 plC (allR f 4), .sl 1 plC (allR f 5)] : List AV)[i]? = some (.sl 1 plC (allR f i)) := by
  have : i = 0 ∨ i = 1 ∨ i = 2 ∨ i = 3 ∨ i = 4 ∨ i = 5 := by omega
  rcases this with rfl | rfl | rfl | rfl | rfl | rfl <;> rfl
set_option maxRecDepth 20000 in
set_option maxHeartbeats 8000000 in
theorem asked8_con (f : Flo) (hS : Sml f) : Con Tryd.prog 71 [.agg (flC f)] [] (Is (askA (askR f)) []) := by
  have C := floors_con f hS
  unfold askR askA
  cases hok : floOk f with
  | false =>
    rw [hok] at C
    rw [if_neg (by simp)]
    refine con_of Tryd.func71 rfl (enters_of Tryd.func71 (by kernel_rfl) rfl) rfl ?_; intro n w0 F0 G0
    (refine goSt ?_; (repeat (refine goAl ?_; intro p hp; refine goSt ?_)))
    (first | (apply wl_call (C); exact rfl; exact rfl) | (apply wl_callR (C); exact rfl; exact goAtm; exact rfl))
    (refine goSt ?_; (repeat (refine goAl ?_; intro p hp; refine goSt ?_)))
    refine Res_nil 2 1 plC rfl ?_
    (apply res3; exact rfl; exact rfl; exact rfl; exact rfl; exact ⟨rfl, rfl⟩)
  | true =>
    have hF := flo_f hok
    have hn := hF.ids
    rw [hok] at C
    rw [if_pos rfl]
    have CA := All8_con f hF hS
    unfold allV at CA
    have hpays : ∀ k, ∀ l ∈ allR f k, l.length = k ∧ ∀ x ∈ l, -1000000000000 ≤ x.p ∧ x.p ≤ 1000000000000 := fun k l hl => by
      have h1 := allTo_pays (prR_ok (spk f) f.ids.length) (owed8_len f) (by omega) (owed8_btw hF hS) hl
      refine ⟨h1.1, fun x hx => ?_⟩
      have h2 := h1.2 x hx
      have h3 : (f.ids.length : Int) * 200000000 ≤ 6 * 200000000 := Int.mul_le_mul_of_nonneg_right (by omega) (by omega)
      omega
    have hlen : ∀ k, (allR f k).length ≤ 32768 := fun k => Nat.le_trans (List.length_filterMap_le _ _) (by simp; exact pow15 (prR_15 _ hn))
    have hat : ∀ i, i < 6 → ([.sl 1 plC (allR f 0), .sl 1 plC (allR f 1), .sl 1 plC (allR f 2), .sl 1 plC (allR f 3), .sl 1 plC (allR f 4), .sl 1 plC (allR f 5)] : List AV)[i]? = some (.sl 1 plC (allR f i)) := fun i hi => allV_at f hi
    refine con_of Tryd.func71 rfl (enters_of Tryd.func71 (by kernel_rfl) rfl) rfl ?_; intro n w0 F0 G0
    (refine goSt ?_; (repeat (refine goAl ?_; intro p hp; refine goSt ?_)))
    (first | (apply wl_call (C); exact rfl; exact rfl) | (apply wl_callR (C); exact rfl; exact goAtm; exact rfl))
    (refine goSt ?_; (repeat (refine goAl ?_; intro p hp; refine goSt ?_)))
    (first | (apply wl_call (CA); exact rfl; exact rfl) | (apply wl_callR (CA); exact rfl; exact goAtm; exact rfl))
    clear CA
    generalize ([.sl 1 plC (allR f 0), .sl 1 plC (allR f 1), .sl 1 plC (allR f 2), .sl 1 plC (allR f 3), .sl 1 plC (allR f 4), .sl 1 plC (allR f 5)] : List AV) = cs at hat ⊢
    generalize allR f = g at *
    (refine goSt ?_; (repeat (refine goAl ?_; intro p hp; refine goSt ?_)))
    refine W_loopJ (fun (b : Nat × List (List Pay) × Int) => ⟨[(15, .agg cs), (16, .val (.int .i64 b.1)), (5, fwA b.2.1), (6, .val (.int .i64 b.2.2))], []⟩) (fun b => b.1 ≤ 6 ∧ b.2.1 = fewTo g b.1 ∧ b.2.2 = chTo g b.1) (fun b => 6 - b.1) (0, [], -1) (fun _ _ st => st_sub2 st goSubr goSubp) ⟨Nat.zero_le _, rfl, rfl⟩ ?_
    rintro ⟨i, fw, ch⟩ ⟨hi, hfw, hch⟩
    dsimp only at hi hfw hch ⊢
    (refine goSt ?_; (repeat (refine goAl ?_; intro p hp; refine goSt ?_)))
    refine w_cond rfl (fun hlt => ?_) (fun hlt => ?_)
    · have hi' : i < 6 := by simp at hlt; omega
      (refine goSt ?_; (repeat (refine goAl ?_; intro p hp; refine goSt ?_)))
      (apply wl_indexV1 (e := 119); exact Tryd.underlying178; exact rfl; exact rfl; exact rfl; exact hi'; exact hat i hi'; exact rfl)
      (apply wl_assign; exact rfl; exact rfl)
      refine WL_nil ?_
      refine th_norm ?_
      refine W_seq ?_
      have hfs : fewTo g (i + 1) = if (fewTo g i).isEmpty = true then g i else fewTo g i := rfl
      have hcs : chTo g (i + 1) = (g i).foldl chS (chTo g i) := rfl
      rw [← hfw] at hfs
      rw [← hch] at hcs
      have hgl := hlen i
      refine W_meet ⟨[(15, .agg cs), (16, .val (.int .i64 i)), (5, fwA (fewTo g (i + 1))), (6, .val (.int .i64 ch)), (8, .sl 1 plC (g i))], []⟩ ?_ ?_
      · cases fw with
        | nil =>
          rw [if_pos (show (([] : List (List Pay)).isEmpty = true) from rfl)] at hfs
          (refine goSt ?_; (repeat (refine goAl ?_; intro p hp; refine goSt ?_)))
          (apply wl_eqlNilV; exact rfl; exact (inferInstance : TyS Tryd.prog 119 _ _); exact rfl)
          (refine goSt ?_; (repeat (refine goAl ?_; intro p hp; refine goSt ?_)))
          refine w_cond rfl (fun hg => ?_) (fun hg => ?_)
          · rw [hfs]
            (refine goSt ?_; (repeat (refine goAl ?_; intro p hp; refine goSt ?_)))
            have hne : g i ≠ [] := fun e => by rw [e] at hg; simp at hg
            obtain ⟨x, t, hgx⟩ := List.exists_cons_of_ne_nil hne
            rw [hgx]
            exact ⟨rfl, fun _ _ st => st_sub2 st goSubr goSubp⟩
          · have hgn : g i = [] := by
              rcases hq : g i with _ | ⟨x, t⟩
              · rfl
              · rw [hq] at hg; simp at hg
            rw [hfs, hgn]
            (refine goSt ?_; (repeat (refine goAl ?_; intro p hp; refine goSt ?_)))
            exact ⟨rfl, fun _ _ st => st_sub2 st goSubr goSubp⟩
        | cons x t =>
          rw [if_neg (show ¬ ((x :: t).isEmpty = true) by simp)] at hfs
          (refine goSt ?_; (repeat (refine goAl ?_; intro p hp; refine goSt ?_)))
          (apply wl_eqlNil (f := plC) (xs := x :: t) (n := 1); exact rfl; exact (inferInstance : TyS Tryd.prog 119 _ _); exact rfl)
          intro b hb
          have hbf : b = false := by cases b with | false => rfl | true => exact absurd (hb rfl) (by simp)
          subst hbf
          rw [hfs]
          (refine goSt ?_; (repeat (refine goAl ?_; intro p hp; refine goSt ?_)))
          exact ⟨rfl, fun _ _ st => st_sub2 st goSubr goSubp⟩
      · generalize hfw2 : fewTo g (i + 1) = fw2 at *
        have hgp := hpays i
        generalize g i = ls at hcs hgl hgp ⊢
        (refine goSt ?_; (repeat (refine goAl ?_; intro p hp; refine goSt ?_)))
        refine W_loopJ (fun (b : Nat × Int) => ⟨[(15, .agg cs), (16, .val (.int .i64 i)), (5, fwA fw2), (27, .sl 1 plC ls), (28, .val (.int .i64 ls.length)), (29, .val (.int .i64 b.1)), (6, .val (.int .i64 b.2))], []⟩) (fun b => b.1 ≤ ls.length ∧ b.2 = (ls.take b.1).foldl chS ch) (fun b => ls.length - b.1) (0, ch) (fun _ _ st => st_sub2 st goSubr goSubp) ⟨Nat.zero_le _, rfl⟩ ?_
        rintro ⟨k, c⟩ ⟨hk, hc⟩
        dsimp only at hk hc ⊢
        (refine goSt ?_; (repeat (refine goAl ?_; intro p hp; refine goSt ?_)))
        refine w_cond rfl (fun hlt2 => ?_) (fun hlt2 => ?_)
        · have hk' : k < ls.length := by simpa using hlt2
          have hp := hgp _ (List.getElem_mem hk')
          have hst : (ls.take (k + 1)).foldl chS ch = chS c ls[k] := by rw [List.take_succ_eq_append_getElem hk', List.foldl_append, ← hc]; rfl
          have CS := Sum8_con ls[k] (by omega) hp.2
          unfold chS at hst
          (refine goSt ?_; (repeat (refine goAl ?_; intro p hp; refine goSt ?_)))
          refine wl_part rfl rfl (fun g1 => ?_) (fun g1 => ?_)
          · have g1' : c < 0 := of_decide_eq_true g1
            rw [if_pos (.inl g1')] at hst
            (refine goSt ?_; (repeat (refine goAl ?_; intro p hp; refine goSt ?_)))
            (first | (apply wl_call (CS); exact rfl; exact rfl) | (apply wl_callR (CS); exact rfl; exact goAtm; exact rfl))
            (refine goSt ?_; (repeat (refine goAl ?_; intro p hp; refine goSt ?_)))
            (refine ⟨(k + 1, sumPay ls[k]), fun _ _ st => st_sub2 st ?_ ?_, ?_, ?_⟩; exact goSubr; exact goSubp)
            · exact ⟨hk', hst.symm⟩
            · dsimp only; omega
          · have g1' : ¬ c < 0 := of_decide_eq_false g1
            (refine goSt ?_; (repeat (refine goAl ?_; intro p hp; refine goSt ?_)))
            (first | (apply wl_call (CS); exact rfl; exact rfl) | (apply wl_callR (CS); exact rfl; exact goAtm; exact rfl))
            (refine goSt ?_; (repeat (refine goAl ?_; intro p hp; refine goSt ?_)))
            refine w_cond rfl (fun g2 => ?_) (fun g2 => ?_)
            · rw [if_pos (.inr (of_decide_eq_true g2))] at hst
              (refine goSt ?_; (repeat (refine goAl ?_; intro p hp; refine goSt ?_)))
              (first | (apply wl_call (CS); exact rfl; exact rfl) | (apply wl_callR (CS); exact rfl; exact goAtm; exact rfl))
              (refine goSt ?_; (repeat (refine goAl ?_; intro p hp; refine goSt ?_)))
              (refine ⟨(k + 1, sumPay ls[k]), fun _ _ st => st_sub2 st ?_ ?_, ?_, ?_⟩; exact goSubr; exact goSubp)
              · exact ⟨hk', hst.symm⟩
              · dsimp only; omega
            · rw [if_neg (fun h => h.elim g1' (of_decide_eq_false g2))] at hst
              (refine goSt ?_; (repeat (refine goAl ?_; intro p hp; refine goSt ?_)))
              (refine ⟨(k + 1, c), fun _ _ st => st_sub2 st ?_ ?_, ?_, ?_⟩; exact goSubr; exact goSubp)
              · exact ⟨hk', hst.symm⟩
              · dsimp only; omega
        · have hkk : k = ls.length := by simp at hlt2; omega
          subst hkk
          rw [List.take_length, ← hcs] at hc
          (refine goSt ?_; (repeat (refine goAl ?_; intro p hp; refine goSt ?_)))
          (refine ⟨(i + 1, fw2, c), fun _ _ st => st_sub2 st ?_ ?_, ?_, ?_⟩; exact goSubr; exact goSubp)
          · exact ⟨hi', hfw2.symm, hc⟩
          · dsimp only; omega
    · have hii : i = 6 := by simp at hlt; omega
      subst hii
      subst hfw hch
      generalize fewTo g 6 = fw
      generalize chTo g 6 = ch
      (refine goSt ?_; (repeat (refine goAl ?_; intro p hp; refine goSt ?_)))
      cases fw with
      | nil =>
        rw [if_pos (show (([] : List (List Pay)).isEmpty = true) from rfl)]
        (apply wl_eqlNilV; exact rfl; exact (inferInstance : TyS Tryd.prog 119 _ _); exact rfl)
        (refine goSt ?_; (repeat (refine goAl ?_; intro p hp; refine goSt ?_)))
        refine Res_nil 2 1 plC rfl ?_
        (apply res3; exact rfl; exact rfl; exact rfl; exact rfl; exact ⟨rfl, rfl⟩)
      | cons x t =>
        rw [if_neg (show ¬ ((x :: t).isEmpty = true) by simp)]
        (apply wl_eqlNil (f := plC) (xs := x :: t) (n := 1); exact rfl; exact (inferInstance : TyS Tryd.prog 119 _ _); exact rfl)
        intro b hb
        have hbf : b = false := by cases b with | false => rfl | true => exact absurd (hb rfl) (by simp)
        subst hbf
        (refine goSt ?_; (repeat (refine goAl ?_; intro p hp; refine goSt ?_)))
        (apply res3; exact rfl; exact rfl; exact rfl; exact rfl; exact ⟨rfl, rfl⟩)
end Go.Proofs.YtihonljdanjfmaaDoor.Sw
