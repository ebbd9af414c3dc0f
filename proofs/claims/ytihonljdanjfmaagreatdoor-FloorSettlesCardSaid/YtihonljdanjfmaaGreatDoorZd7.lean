/- Proofs for the seat's cards: SwL, SwM, FloorOc, FloorTb, FloorTc, FloorTd, FloorTe, FloorTf, SwB, FloorTg, FloorTh, FloorS, FloorJudges, FloorTells, FloorLa, FloorCa, FloorCd, FloorLb, FloorLc, SwS. No condition of its own. -/
import Derived.Deep.AppendSrc
import Derived.DeepKeys4
import Derived.Maps.OwnIn
import Derived.Maps.Views
import Derived.Scope
import Derived.Test.YtihonljdanjfmaaGreatDoorZd6
set_option linter.unusedVariables false
set_option linter.unusedSimpArgs false
set_option maxRecDepth 40000
set_option maxHeartbeats 32000000
namespace Go.Proofs.YtihonljdanjfmaaGreatDoor.Sw
open Go.RowKit Go
def HA.cells (b : Nat) (e : TypeId) (cs : List AV) (tot : Nat) : HA :=
 ⟨fun G F w => ∃ vs rest : List Value, F = [b] ∧ Fits G cs vs ∧ (∀ u ∈ vs, u.oneCell' = true) ∧ w.heap[b]? = some (.cells (vs ++ rest).toArray e (0, 0)) ∧ (vs ++ rest).length = tot,
  fun h ⟨vs, rest, e1, e2, e3⟩ => ⟨vs, rest, e1, e2.mono h, e3⟩,
  fun h ⟨vs, rest, e1, e2, e3, e4, e5⟩ => ⟨vs, rest, e1, e2, e3, (h b (by rw [e1]; simp)).trans e4, e5⟩⟩
theorem row_open {α : Type} {v : Value} {e : TypeId} {n : Nat} {f : α → List AV} {xs : List α} (hx : xs ≠ []) {G : Nat → Option Obj} {F : List Nat} {w : World} (h : (HA.row v e n f xs).P G F w) : ∃ b cap, v = .slice (some ⟨b, 0, none⟩) xs.length cap ∧ xs.length ≤ cap ∧ cap ≤ maxLen ∧ (∀ x ∈ xs, (f x).length = n) ∧ (HA.cells b e (xs.flatMap f) (cap * n)).P G F w := by
 rcases row_val h with ⟨_, rfl⟩ | ⟨b, cap, cur, vs, rfl, hnc, hF1, hb, hcs, hl, hf, htake, hone, hcm⟩
 ·exact absurd rfl hx
 ·refine ⟨b, cap, rfl, hnc, hcm, hl, vs, cur.toList.drop (xs.length * n), hF1, hf, hone, ?_, ?_⟩
  ·rw [← htake, List.take_append_drop]; simpa using hb
  ·rw [← htake, List.take_append_drop]; simpa using hcs
theorem row_shut {α : Type} {e : TypeId} {n : Nat} {f : α → List AV} {xs : List α} {b cap : Nat} (hl : ∀ x ∈ xs, (f x).length = n) (hnc : xs.length ≤ cap) (hcm : cap ≤ maxLen) {G : Nat → Option Obj} {F : List Nat} {w : World} (h : (HA.cells b e (xs.flatMap f) (cap * n)).P G F w) : (HA.row (.slice (some ⟨b, 0, none⟩) xs.length cap) e n f xs).P G F w := by
 obtain ⟨vs, rest, hF, hf, hone, hb, hs⟩ := h
 have hvl : vs.length = xs.length * n := by rw [hf.length, lenL hl]
 exact ⟨vs, by rw [hF]; rfl, hl, hf, hone, hvl, .inr ⟨b, cap, _, rfl, Nat.zero_le _, hb, hnc, hcm, by simpa using hs, by simp [← hvl]⟩⟩
theorem WL_openRow {α : Type} {c : Cx} {rs : List (Nat × AV)} {hs r : List HA} {Q : Exit → S → Prop} {ops : Array Oper} {l : List Oper} {v : Value} {e : TypeId} {n : Nat} {f : α → List AV} {xs : List α} (hx : xs ≠ []) (hr : Rm hs (.row v e n f xs) r)
  (k : ∀ b cap, v = .slice (some ⟨b, 0, none⟩) xs.length cap → xs.length ≤ cap → cap ≤ maxLen → (∀ x ∈ xs, (f x).length = n) → WL c ops l ⟨rs, .cells b e (xs.flatMap f) (cap * n) :: r⟩ Q) : WL c ops l ⟨rs, hs⟩ Q := ⟨fun a w st => by
 obtain ⟨G, F, hI, rr⟩ := st
 obtain ⟨F1, F2, ep, h1, h2⟩ := hr.sel hI.hs
 obtain ⟨b, cap, e1, e2, e3, e4, e5⟩ := row_open hx h1
 exact (k b cap e1 e2 e3 e4).out a w ⟨G, F, ⟨hI.gin, hI.nd, hI.own, F1, F2, ep, e5, h2⟩, rr⟩⟩
theorem WL_shutRow {α : Type} {c : Cx} {rs : List (Nat × AV)} {hs r : List HA} {Q : Exit → S → Prop} {ops : Array Oper} {l : List Oper} {b cap : Nat} {e : TypeId} {n : Nat} {f : α → List AV} (xs : List α) (hl : ∀ x ∈ xs, (f x).length = n) (hnc : xs.length ≤ cap) (hcm : cap ≤ maxLen) (hr : Rm hs (.cells b e (xs.flatMap f) (cap * n)) r) (k : WL c ops l ⟨rs, .row (.slice (some ⟨b, 0, none⟩) xs.length cap) e n f xs :: r⟩ Q) : WL c ops l ⟨rs, hs⟩ Q := ⟨fun a w st => by
 obtain ⟨G, F, hI, rr⟩ := st
 obtain ⟨F1, F2, ep, h1, h2⟩ := hr.sel hI.hs
 exact k.out a w ⟨G, F, ⟨hI.gin, hI.nd, hI.own, F1, F2, ep, row_shut hl hnc hcm h1, h2⟩, rr⟩⟩
section
variable {P : Program} {rs : List (Nat × AV)} {d : Option Nat} {ty : TypeId} {pos : String} {af : Array Edge} {g : Option (Nat × Bool)}
theorem lt_lenV {x : Operand} {t e : TypeId} {n : Nat} [hT : TyS P t e n] {a : Option Addr} {len cap : Nat} (hx : opv rs x = some (.val (.slice a len cap))) : LT P ⟨d, .call { callee := .builtin .len, args := #[x], argTypes := #[t] }, ty, pos, af, g⟩ rs [] (Is (.val (.int .i64 len)) []) :=
 LT_val (fun _ e => by cases e) fun a w G hR hG => by
  have e1 : a.eval x = _ := opv_ok hR hx
  exact ⟨_, rfl, by simp [execOp, resolve, e1, invoke, builtin, Builtin.len_, run_underlying hT.und, goInt]⟩
theorem lt_sliceV {x : Operand} {lo hi : Option Operand} {t e : TypeId} {n : Nat} (hT : TyE P t e n) {ad : Option Addr} {len cap l h : Nat} {li hi' : Int} (hx : opv rs x = some (.val (.slice ad len cap)))
  (hlo : lo.map (opv rs) = some (some (.val (.int .i64 li))) ∨ (lo = none ∧ li = 0)) (hl : li = (l : Int))
  (hhi : hi.map (opv rs) = some (some (.val (.int .i64 hi'))) ∨ (hi = none ∧ hi' = (len : Int))) (hh : hi' = (h : Int)) (h1 : l ≤ h) (h2 : h ≤ cap) (h3 : len ≤ cap) :
  LT P ⟨d, .slice t x lo hi none, ty, pos, af, g⟩ rs [] (Is (.val (.slice (if cap = l then ad else ad.map (·.add (l * n))) (h - l) (cap - l))) []) :=
 LT_val (fun _ e => by cases e) fun a w G hR hG => by
  have e1 : a.eval x = _ := opv_ok hR hx
  have hlo' : lo.map a.eval = some (.int .i64 (l : Int)) ∨ (lo.map a.eval = none ∧ l = 0) := by
   rcases hlo with h | ⟨rfl, rfl⟩
   ·cases lo with
    | none => simp at h
    | some y =>
     simp only [Option.map_some, Option.some.injEq] at h
     have : a.eval y = _ := opv_ok hR h
     left; rw [Option.map_some, this, hl]
   ·right; exact ⟨rfl, by omega⟩
  have hhi' : hi.map a.eval = some (.int .i64 (h : Int)) ∨ (hi.map a.eval = none ∧ h = len) := by
   rcases hhi with h' | ⟨rfl, h'⟩
   ·cases hi with
    | none => simp at h'
    | some y =>
     simp only [Option.map_some, Option.some.injEq] at h'
     have : a.eval y = _ := opv_ok hR h'
     left; rw [Option.map_some, this, hh]
   ·right; exact ⟨rfl, by omega⟩
  have hr := run_sliceAt (P := P) (t := t) (w := w) (ad := ad) hlo' hhi' h1 h2 h3
  refine ⟨_, rfl, ?_⟩
  simp only [execOp, e1, Option.map_none, Sem.run_bind, hr]
  rfl
theorem lt_clearV {x : Operand} {t e : TypeId} {n : Nat} (hT : TyE P t e n) {zs : List Value} (hZ : TyZ P e zs) (hzl : zs.length = n) (hz1 : ∀ u ∈ zs, u.oneCell' = true) {b j m cap c : Nat} {cs : List AV} (hx : opv rs x = some (.val (.slice (if cap = j then some ⟨b, 0, none⟩ else some ⟨b, j * n, none⟩) m c))) (hcs : cs.length = j * n) (hcap : j + m ≤ cap) :
  LT P ⟨d, .call { callee := .builtin .clear, args := #[x], argTypes := #[t] }, ty, pos, af, g⟩ rs [.cells b e cs (cap * n)] (Is (.tup []) [.cells b e cs (cap * n)]) :=
 LT_eff (fun _ e => by cases e) fun a w G F hR hI => by
  obtain ⟨F1, F2, ep, ⟨vs, rest, hF1, hf, hone, hb, htot⟩, h2⟩ := hI.hs
  have h2' : F2 = [] := h2
  subst h2' hF1
  have hF : F = [b] := List.perm_singleton.1 (by simpa using ep)
  subst hF
  have e1 : a.eval x = _ := opv_ok hR hx
  have hvl : vs.length = j * n := by rw [hf.length, hcs]
  have hle : (j + m) * n ≤ cap * n := Nat.mul_le_mul_right n hcap
  have hjm : (j + m) * n = j * n + m * n := Nat.add_mul _ _ _
  cases m with
  | zero =>
   refine ⟨_, w, _, _, _, G, [b], ?_, .inl rfl, ⟨rfl, rfl⟩, Fr.refl _ _ _, hI, ⟨[], rfl, trivial⟩⟩
   by_cases hcj : cap = j <;> simp [execOp, resolve, e1, invoke, builtin, Builtin.clear_, run_underlying hT.und, hcj]
  | succ m =>
   have hcj : cap ≠ j := by omega
   rw [if_neg hcj] at e1
   obtain ⟨z, hz, hzc⟩ := hZ.run w
   obtain ⟨news, hnews⟩ : ∃ news, news = (Builtin.zeroCells z.cells (m + 1)).toList := ⟨_, rfl⟩
   have hnl : news.length = (m + 1) * n := by rw [hnews, hzc]; simp [Builtin.zeroCells, hzl]
   have hn1 : ∀ u ∈ news, u.oneCell' = true := fun u hu => by
    rw [hnews, hzc] at hu
    simp only [Builtin.zeroCells, Array.toList_map, List.mem_map, Array.toList_range, List.mem_range, List.size_toArray] at hu
    obtain ⟨q, _, rfl⟩ := hu
    have hlt : q % zs.length < zs.length := Nat.mod_lt _ (by have := hT.pos; omega)
    rw [getElem!_pos zs.toArray _ (by simpa using hlt)]
    exact hz1 _ (by simp)
   have hst := run_storeCells_at P b (j * n) e news 0 _ w hb (by simp only [List.size_toArray, Nat.add_zero]; omega) hn1
   simp only [Nat.add_zero] at hst
   obtain ⟨f1, f2⟩ := fr_setRow hI.gin (hI.own b (by simp)).2 ((vs ++ rest).toArray.toList.take (j * n) ++ news ++ (vs ++ rest).toArray.toList.drop (j * n + news.length)).toArray
   refine ⟨_, _, _, _, _, G, [b], ?_, .inl rfl, ⟨rfl, rfl⟩, f1, ⟨f2, by simp, fun q hq => ?_, [b], [], by simp, ⟨vs, news ++ (vs ++ rest).drop (j * n + news.length), rfl, hf, hone, ?_, ?_⟩, rfl⟩, ⟨[], rfl, trivial⟩⟩
   ·have h3 := hz
    simp [execOp, resolve, e1, invoke, builtin, Builtin.clear_, run_underlying hT.und, hz, ← hnews, hst]
   ·rw [List.mem_singleton] at hq; subst hq; simp only [setRow_size]; exact hI.own _ (by simp)
   ·have ht : (vs ++ rest).take (j * n) = vs := by rw [List.take_append_of_le_length (by omega), List.take_of_length_le (by omega)]
    have := setRow_heap w b (vs ++ rest).toArray ((vs ++ rest).toArray.toList.take (j * n) ++ news ++ (vs ++ rest).toArray.toList.drop (j * n + news.length)).toArray e (0, 0) hb
    rw [this]
    simp only [ht, List.append_assoc]
   ·simp only [List.length_append, List.length_drop] at htot ⊢
    omega
end
section
variable {c : Cx} {rs : List (Nat × AV)} {hs : List HA} {Q : Exit → S → Prop} {ops : Array Oper} {tl : List Oper} {d : Nat} {ty : TypeId} {pos : String} {af : Array Edge}
theorem wl_lenV {x : Operand} {t e : TypeId} {n : Nat} [TyS c.P t e n] {a : Option Addr} {len cap : Nat} (hx : opv rs x = some (.val (.slice a len cap))) (hd : Nat.blt d c.nt = true) (k : WL c ops tl ⟨(d, .val (.int .i64 len)) :: rs, hs⟩ Q) : WL c ops (⟨some d, .call { callee := .builtin .len, args := #[x], argTypes := #[t] }, ty, pos, af, none⟩ :: tl) ⟨rs, hs⟩ Q := wl_ex (lt_lenV hx) hd k
theorem wl_sliceV {x : Operand} {lo hi : Option Operand} {t e : TypeId} {n : Nat} {ad : Option Addr} {len cap l h : Nat} {li hi' : Int} (hx : opv rs x = some (.val (.slice ad len cap))) (hT : TyE c.P t e n)
  (hlo : lo.map (opv rs) = some (some (.val (.int .i64 li))) ∨ (lo = none ∧ li = 0)) (hl : li = (l : Int)) (hhi : hi.map (opv rs) = some (some (.val (.int .i64 hi'))) ∨ (hi = none ∧ hi' = (len : Int))) (hh : hi' = (h : Int)) (h1 : l ≤ h) (h2 : h ≤ cap) (h3 : len ≤ cap) (hd : Nat.blt d c.nt = true)
  (k : WL c ops tl ⟨(d, .val (.slice (if cap = l then ad else ad.map (·.add (l * n))) (h - l) (cap - l))) :: rs, hs⟩ Q) : WL c ops (⟨some d, .slice t x lo hi none, ty, pos, af, none⟩ :: tl) ⟨rs, hs⟩ Q := wl_ex (lt_sliceV hT hx hlo hl hhi hh h1 h2 h3) hd k
theorem wl_clearV {x : Operand} {t e : TypeId} {n : Nat} {zs : List Value} {b j m cap cc : Nat} {cs : List AV} {f : HA → List HA} (hx : opv rs x = some (.val (.slice (if cap = j then some ⟨b, 0, none⟩ else some ⟨b, j * n, none⟩) m cc))) (hat : At hs (.cells b e cs (cap * n)) f) (hT : TyE c.P t e n) (hZ : TyZ c.P e zs) (hzl : zs.length = n) (hz1 : ∀ u ∈ zs, u.oneCell' = true) (hcs : cs.length = j * n) (hcap : j + m ≤ cap)
  (k : WL c ops tl ⟨rs, hs⟩ Q) : WL c ops (⟨none, .call { callee := .builtin .clear, args := #[x], argTypes := #[t] }, ty, pos, af, none⟩ :: tl) ⟨rs, hs⟩ Q :=
 WL_at (o := ⟨none, .call { callee := .builtin .clear, args := #[x], argTypes := #[t] }, ty, pos, af, none⟩) rfl rfl hat (lt_clearV hT hZ hzl hz1 hx hcs hcap) (by rw [hat.self]; exact k)
end
theorem toV {b cap i n : Nat} : (AV.val (.slice (if cap = 0 then some (⟨b, 0, none⟩ : Addr) else (some (⟨b, 0, none⟩ : Addr)).map (·.add (0 * n))) (i - 0) (cap - 0))) = AV.val (.slice (some ⟨b, 0, none⟩) i cap) := by
 congr 2
 split <;> simp [add_plain]
theorem fromV {b cap j n h : Nat} : (AV.val (.slice (if cap = j then some (⟨b, 0, none⟩ : Addr) else (some (⟨b, 0, none⟩ : Addr)).map (·.add (j * n))) (h - j) (cap - j))) = AV.val (.slice (if cap = j then some ⟨b, 0, none⟩ else some ⟨b, j * n, none⟩) (h - j) (cap - j)) := by
 congr 2
 split <;> simp [add_plain]
theorem WL_fact {c : Cx} {rs : List (Nat × AV)} {hs r : List HA} {Q : Exit → S → Prop} {ops : Array Oper} {l : List Oper} {p : Prop} (hr : Rm hs (.fact p) r) (k : p → WL c ops l ⟨rs, r⟩ Q) : WL c ops l ⟨rs, hs⟩ Q := ⟨fun a w st => by
 obtain ⟨G, F, hI, rr⟩ := st
 have := hsP.fact.1 (hr.sel hI.hs)
 exact (k this.1).out a w ⟨G, F, ⟨hI.gin, hI.nd, hI.own, this.2⟩, rr⟩⟩
theorem Res_add {P : Program} {fn : Func} {post : AV → List HA → Prop} {rs : List (Nat × AV)} {hs : List HA} (h : HA) (hP : ∀ G w, h.P G [] w) (k : Res P fn post ⟨rs, h :: hs⟩) : Res P fn post ⟨rs, hs⟩ := by
 obtain ⟨av, prod, hp, k⟩ := k
 exact ⟨av, prod, hp, fun a w G F hR hI => k a w G F hR ⟨hI.gin, hI.nd, hI.own, [], F, .refl _, hP G w, hI.hs⟩⟩
theorem row_nilP {α : Type} (e : TypeId) (n : Nat) (f : α → List AV) (G : Nat → Option Obj) (w : World) : (HA.row (.slice none 0 0) e n f ([] : List α)).P G [] w :=
 ⟨[], rfl, fun _ h => (by cases h), trivial, fun _ h => (by cases h), ⟨by simp, .inl ⟨rfl, rfl⟩⟩⟩
theorem st_unpack {c : Cx} {rs : List (Nat × AV)} {hs r l l' : List HA} {h : HA} {a : Act} {w : World} (hr : Rm hs (.pack l) r) (hp : l.Perm (h :: l')) (st : St c ⟨rs, hs⟩ a w) : St c ⟨rs, h :: .pack l' :: r⟩ a w := by
 obtain ⟨G, F, hI, rr⟩ := st
 refine ⟨G, F, ⟨hI.gin, hI.nd, hI.own, ?_⟩, rr⟩
 obtain ⟨A, B, e, hA, hB⟩ := hr.sel hI.hs
 obtain ⟨C, D, e2, hC, hD⟩ := hsP.permL hp hA
 exact ⟨C, D ++ B, e.trans ((e2.append_right B).trans (by rw [List.append_assoc])), hC, D, B, .refl _, hD, hB⟩
theorem W_unpack {c : Cx} {rs : List (Nat × AV)} {hs r l l' : List HA} {h : HA} {Q : Exit → S → Prop} {x : Code} (hp : l.Perm (h :: l')) (hr : Rm hs (.pack l) r) (k : W c x ⟨rs, h :: .pack l' :: r⟩ Q) : W c x ⟨rs, hs⟩ Q := ⟨fun a w st => k.out a w (st_unpack hr hp st)⟩
theorem st_repack {c : Cx} {rs : List (Nat × AV)} {hs r r' l l' : List HA} {h : HA} {a : Act} {w : World} (hp : l.Perm (h :: l')) (hr : Rm hs h r) (hr2 : Rm r (.pack l') r') (st : St c ⟨rs, hs⟩ a w) : St c ⟨rs, .pack l :: r'⟩ a w := by
 obtain ⟨G, F, hI, rr⟩ := st
 refine ⟨G, F, ⟨hI.gin, hI.nd, hI.own, ?_⟩, rr⟩
 obtain ⟨A, B, e, hA, hB⟩ := hr.sel hI.hs
 obtain ⟨C, D, e2, hC, hD⟩ := hr2.sel hB
 exact ⟨A ++ C, D, e.trans ((e2.append_left A).trans (by rw [List.append_assoc])), hsP.permL hp.symm ⟨A, C, .refl _, hA, hC⟩, hD⟩
end Go.Proofs.YtihonljdanjfmaaGreatDoor.Sw
namespace Go.Proofs.YtihonljdanjfmaaGreatDoor.Sw
open Go.RowKit Go
open Go.WideElems (Fit)
open Go.ChangeMaps (setBlock heap_setBlock_same heap_setBlock_other)
abbrev anyM : Value → Option (DataW Nat × List MemPlace) := fun _ => some (.nil, [])
structure KeyT (P : Program) (t : TypeId) {κ : Type} (kv : κ → Value) (ok : κ → Prop) : Prop where
 keyed : Go.Maps.Keyed P t
 key : ∀ k, ok k → ∃ l, keyOf P t (kv k) = some l
 inj : ∀ k k', kv k = kv k' → k = k'
def getM {κ α : Type} [DecidableEq κ] : List (κ × α) → κ → Option α
 | [], _ => none
 | p :: t, k => if p.1 = k then some p.2 else getM t k
def delM {κ α : Type} [DecidableEq κ] (l : List (κ × α)) (k : κ) : List (κ × α) := l.filter fun p => !decide (p.1 = k)
def putM {κ α : Type} [DecidableEq κ] (l : List (κ × α)) (k : κ) (a : α) : List (κ × α) := (k, a) :: delM l k
section
variable {κ α : Type} [DecidableEq κ]
theorem getM_iff {k : κ} {a : α} : ∀ {l : List (κ × α)}, l.Pairwise (fun p q => p.1 ≠ q.1) → (getM l k = some a ↔ (k, a) ∈ l)
 | [], _ => by simp [getM]
 | p :: t, h => by
  obtain ⟨h1, h2⟩ := List.pairwise_cons.1 h
  have ih := getM_iff (k := k) (a := a) h2
  unfold getM
  split
  ·rename_i e
   subst e
   constructor
   ·intro e; cases e; simp
   ·intro e
    rcases List.mem_cons.1 e with e | e
    ·rw [← e]
    ·exact absurd rfl (h1 (p.1, a) e)
  ·rename_i e
   rw [ih]
   constructor
   ·intro e; exact List.mem_cons_of_mem _ e
   ·intro e'
    rcases List.mem_cons.1 e' with e' | e'
    ·exact absurd (by rw [← e']) e
    ·exact e'
theorem getM_none {k : κ} : ∀ {l : List (κ × α)}, getM l k = none ↔ ∀ p ∈ l, p.1 ≠ k
 | [] => by simp [getM]
 | p :: t => by
  unfold getM
  split
  ·rename_i e; simp [e]
  ·rename_i e; rw [getM_none]; simp [e]
theorem getM_del {l : List (κ × α)} {k k' : κ} : getM (delM l k) k' = if k' = k then none else getM l k' := by
 unfold delM
 induction l with
 | nil => simp [getM]
 | cons p t ih =>
  by_cases h : p.1 = k
  ·rw [List.filter_cons_of_neg (by simp [h]), ih]
   subst h
   split
   ·rfl
   ·rename_i h2; rw [getM, if_neg (fun e => h2 e.symm)]
  ·rw [List.filter_cons_of_pos (by simp [h])]
   by_cases h2 : p.1 = k'
   ·subst h2; rw [if_neg h]; simp [getM]
   ·rw [getM, if_neg h2, ih]
    split
    ·rfl
    ·rw [getM, if_neg h2]
theorem getM_put {l : List (κ × α)} {k k' : κ} {a : α} : getM (putM l k a) k' = if k' = k then some a else getM l k' := by
 unfold putM
 rw [getM]
 by_cases h : k' = k
 ·subst h; simp
 ·rw [if_neg (fun e => h e.symm), if_neg h, getM_del, if_neg h]
theorem delM_len (l : List (κ × α)) (k : κ) : (delM l k).length ≤ l.length := List.length_filter_le _ _
theorem putM_len (l : List (κ × α)) (k : κ) (a : α) : (putM l k a).length ≤ l.length + 1 := by
 have := delM_len l k
 simp only [putM, List.length_cons]; omega
end
section
variable {κ α : Type} (kv : κ → Value) (g : α → AV)
def MpL (G : Nat → Option Obj) : List (κ × α) → List MapEntry → Prop
 | [], [] => True
 | p :: l, x :: xs => (x.key = kv p.1 ∧ (g p.2).P G x.val) ∧ MpL G l xs
 | _, _ => False
variable {kv g}
theorem MpL.mono {G G' : Nat → Option Obj} (h : Gle G G') : ∀ {l : List (κ × α)} {xs : List MapEntry}, MpL kv g G l xs → MpL kv g G' l xs
 | [], [], _ => trivial
 | _ :: _, _ :: _, k => ⟨⟨k.1.1, (g _).mono h k.1.2⟩, MpL.mono h k.2⟩
 | [], _ :: _, k => k.elim
 | _ :: _, [], k => k.elim
theorem MpL.perm {G : Nat → Option Obj} {xs ys : List MapEntry} (hp : xs.Perm ys) : ∀ {l : List (κ × α)}, MpL kv g G l xs → ∃ l', l.Perm l' ∧ MpL kv g G l' ys := by
 induction hp with
 | nil => exact fun {l} h => ⟨l, .refl _, h⟩
 | cons x hp ih =>
  intro l h
  match l, h with
  | p :: l, ⟨h1, h2⟩ =>
   obtain ⟨l', e, h3⟩ := ih h2
   exact ⟨p :: l', e.cons p, h1, h3⟩
  | [], h => exact h.elim
 | swap x y t =>
  intro l h
  match l, h with
  | p :: q :: l, ⟨h1, h2, h3⟩ => exact ⟨q :: p :: l, List.Perm.swap _ _ _, h2, h1, h3⟩
  | [_], h => exact h.2.elim
  | [], h => exact h.elim
 | trans _ _ ih1 ih2 =>
  intro l h
  obtain ⟨l1, e1, h1⟩ := ih1 h
  obtain ⟨l2, e2, h2⟩ := ih2 h1
  exact ⟨l2, e1.trans e2, h2⟩
theorem MpL.keys {G : Nat → Option Obj} : ∀ {l : List (κ × α)} {xs : List MapEntry}, MpL kv g G l xs → xs.map (·.key) = l.map fun p => kv p.1
 | [], [], _ => rfl
 | _ :: _, _ :: _, k => by simp only [List.map_cons]; rw [k.1.1, MpL.keys k.2]
 | [], _ :: _, k => k.elim
 | _ :: _, [], k => k.elim
variable (kv g)
def MpP (G : Nat → Option Obj) (l : List (κ × α)) (xs : List MapEntry) : Prop := ∃ l', l.Perm l' ∧ MpL kv g G l' xs
variable {kv g}
theorem MpP.perm {G : Nat → Option Obj} {l : List (κ × α)} {xs ys : List MapEntry} (h : MpP kv g G l xs) (hp : xs.Perm ys) : MpP kv g G l ys := by
 obtain ⟨l1, e1, h1⟩ := h
 obtain ⟨l2, e2, h2⟩ := h1.perm hp
 exact ⟨l2, e1.trans e2, h2⟩
theorem MpP.permL {G : Nat → Option Obj} {l k : List (κ × α)} {xs : List MapEntry} (h : MpP kv g G l xs) (hp : k.Perm l) : MpP kv g G k xs := by
 obtain ⟨l1, e1, h1⟩ := h
 exact ⟨l1, hp.trans e1, h1⟩
theorem MpP.cons {G : Nat → Option Obj} {l : List (κ × α)} {xs : List MapEntry} (h : MpP kv g G l xs) {p : κ × α} {x : MapEntry} (h1 : x.key = kv p.1) (h2 : (g p.2).P G x.val) : MpP kv g G (p :: l) (x :: xs) := by
 obtain ⟨l1, e1, h3⟩ := h
 exact ⟨p :: l1, e1.cons p, ⟨h1, h2⟩, h3⟩
theorem MpP.uncons {G : Nat → Option Obj} {l : List (κ × α)} {x : MapEntry} {xs : List MapEntry} (h : MpP kv g G l (x :: xs)) : ∃ p l3, l.Perm (p :: l3) ∧ x.key = kv p.1 ∧ (g p.2).P G x.val ∧ MpP kv g G l3 xs := by
 obtain ⟨l1, e1, h1⟩ := h
 match l1, h1 with
 | p :: l3, ⟨⟨h2, h3⟩, h4⟩ => exact ⟨p, l3, e1, h2, h3, l3, .refl _, h4⟩
 | [], h1 => exact h1.elim
theorem MpP.len {G : Nat → Option Obj} {l : List (κ × α)} {xs : List MapEntry} (h : MpP kv g G l xs) : l.length = xs.length := by
 obtain ⟨l1, e1, h1⟩ := h
 have := congrArg List.length h1.keys
 simp only [List.length_map] at this
 rw [e1.length_eq, this]
theorem MpP.nodup {G : Nat → Option Obj} {l : List (κ × α)} {xs : List MapEntry} (h : MpP kv g G l xs) (hn : (xs.map (·.key)).Nodup) : l.Pairwise (fun p q => p.1 ≠ q.1) := by
 obtain ⟨l1, e1, h1⟩ := h
 rw [h1.keys] at hn
 have hn2 : (l.map fun p => kv p.1).Nodup := (e1.map _).nodup_iff.2 hn
 have := List.pairwise_map.1 hn2
 exact this.imp fun h e => h (by rw [e])
end
def HA.mp {κ α : Type} (P : Program) (v : Value) (t : TypeId) (kv : κ → Value) (g : α → AV) (l : List (κ × α)) : HA :=
 ⟨fun G F w => ∃ b es clock, v = .map (some b) ∧ F = [b] ∧ w.heap[b]? = some (.map es clock) ∧ Fit P t anyM es clock ∧ MpP kv g G l es.toList,
  fun h ⟨b, es, clock, e1, e2, e3, e4, l', e5, e6⟩ => ⟨b, es, clock, e1, e2, e3, e4, l', e5, e6.mono h⟩,
  fun h ⟨b, es, clock, e1, e2, e3, e4⟩ => ⟨b, es, clock, e1, e2, (h b (by rw [e2]; simp)).trans e3, e4⟩⟩
section
variable {P : Program} {κ α : Type} [DecidableEq κ] {t : TypeId} {kv : κ → Value} {ok : κ → Prop} {g : α → AV} {l : List (κ × α)} {G : Nat → Option Obj} {F : List Nat} {w : World} {v : Value}
def lkA (g : α → AV) (z : Value) : Option α → AV
 | some a => g a
 | none => .val z
theorem mp_look (K : KeyT P t kv ok) {tm e : TypeId} (ht : P.underlying tm = some (.map t e)) {z : Value} (hz : ∀ w, (zeroValue e).run P w = .ok z w) (c : Bool) {k : κ} (hk : ok k) (h : (HA.mp P v t kv g l).P G F w) :
  ∃ u, (lkA g z (getM l k)).P G u ∧ (Instr.lookup tm v (kv k) c).run P w = .ok (if c then .tuple #[u, .bool (getM l k).isSome] else u) w := by
 obtain ⟨b, es, clock, rfl, _, hb, hF, hm⟩ := h
 obtain ⟨kl, hkey⟩ := K.key k hk
 have hn := hm.nodup hF.stamped.2.2
 rcases Go.Maps.fit_look c K.keyed ht (hz w) hb hF hkey with ⟨hr, hno, _⟩ | ⟨e0, y, hm0, hk0, hr, _⟩
 ·have : getM l k = none := getM_none.2 fun p hp e => by
   obtain ⟨l', e1, h1⟩ := hm
   have h2 : kv p.1 ∈ es.toList.map (·.key) := by rw [h1.keys]; exact List.mem_map.2 ⟨p, e1.mem_iff.1 hp, rfl⟩
   obtain ⟨x, hx, ex⟩ := List.mem_map.1 h2
   exact hno x hx (by rw [ex, e])
  rw [this]
  exact ⟨z, rfl, hr⟩
 ·obtain ⟨s, r, es2⟩ := List.append_of_mem hm0
  obtain ⟨p, l3, h1, h2, h3, _⟩ := (hm.perm (by rw [es2]; exact List.perm_middle)).uncons
  have : p.1 = k := K.inj _ _ (h2.symm.trans hk0)
  have hg : getM l k = some p.2 := (getM_iff hn).2 (h1.mem_iff.2 (by rw [← this]; simp))
  rw [hg]
  exact ⟨e0.val, h3, hr⟩
theorem MpP.del {xs r : List MapEntry} {e0 : MapEntry} (hinj : ∀ k k' : κ, kv k = kv k' → k = k') (h : MpP kv g G l xs) (hn : l.Pairwise (fun p q => p.1 ≠ q.1)) (hp : xs.Perm (e0 :: r)) {k : κ} (hk : e0.key = kv k) : MpP kv g G (delM l k) r := by
 obtain ⟨p, l3, h1, h2, h3, h4⟩ := (h.perm hp).uncons
 have hpk : p.1 = k := hinj _ _ (h2.symm.trans hk)
 have hn2 : (p :: l3).Pairwise (fun p q => p.1 ≠ q.1) := h1.pairwise hn (fun h e => h e.symm)
 refine h4.permL ?_
 have h5 := h1.filter (fun q : κ × α => !decide (q.1 = k))
 rw [List.filter_cons_of_neg (by simp [hpk])] at h5
 refine h5.trans (.of_eq (List.filter_eq_self.2 fun q hq => ?_))
 have := (List.pairwise_cons.1 hn2).1 q hq
 rw [hpk] at this
 simpa using fun e : q.1 = k => this e.symm
theorem MpP.del0 {xs : List MapEntry} (h : MpP kv g G l xs) {k : κ} (hno : ∀ x ∈ xs, x.key ≠ kv k) : delM l k = l := List.filter_eq_self.2 fun q hq => by
 obtain ⟨l', e1, h1⟩ := h
 have h2 : kv q.1 ∈ xs.map (·.key) := by rw [h1.keys]; exact List.mem_map.2 ⟨q, e1.mem_iff.1 hq, rfl⟩
 obtain ⟨x, hx, ex⟩ := List.mem_map.1 h2
 simpa using fun e : q.1 = k => hno x hx (by rw [ex, e])
theorem set_permM {x : MapEntry} : ∀ {xs : List MapEntry} {j : Nat} {e0 : MapEntry}, xs[j]? = some e0 → ∃ r, xs.Perm (e0 :: r) ∧ (xs.set j x).Perm (x :: r) ∧ xs.eraseIdx j = r
 | y :: ys, 0, e0, h => by simp at h; subst h; exact ⟨ys, .refl _, .refl _, rfl⟩
 | y :: ys, j + 1, e0, h => by
  obtain ⟨r, h1, h2, h3⟩ := set_permM (x := x) (xs := ys) (j := j) (by simpa using h)
  exact ⟨y :: r, (h1.cons y).trans (List.Perm.swap _ _ _), (h2.cons y).trans (List.Perm.swap _ _ _), by simp [h3]⟩
 | [], _, _, h => by simp at h
theorem mp_store (K : KeyT P t kv ok) {tm e : TypeId} (ht : P.underlying tm = some (.map t e)) {k : κ} (hk : ok k) (hl : l.length ≤ 1000000) {a : α} {u : Value} (hu : (g a).P G u) (h : (HA.mp P v t kv g l).P G F w) :
  ∃ b o o0, v = .map (some b) ∧ F = [b] ∧ w.heap[b]? = some o0 ∧ (∃ es cl, o0 = .map es cl) ∧ (Instr.mapUpdate tm v (kv k) u).run P w = .ok () (setBlock w b o) ∧ (HA.mp P v t kv g (putM l k a)).P G F (setBlock w b o) := by
 obtain ⟨b, es, clock, rfl, rfl, hb, hF, hm⟩ := h
 obtain ⟨kl, hkey⟩ := K.key k hk
 have hn := hm.nodup hF.stamped.2.2
 have hlen := hm.len
 have hmax : maxLen = 9223372036854775807 := rfl
 have hsz : es.size < maxLen := by rw [hmax]; simp at hlen; omega
 obtain ⟨es', clock', hr, hF', _⟩ := Go.Maps.fit_store (R' := anyM) (val := u) K.keyed ht hb hF hsz (fun _ _ _ z hz => hz) hkey (yv := (.nil, [])) rfl
 refine ⟨b, .map es' clock', _, rfl, rfl, hb, ⟨_, _, rfl⟩, hr, b, es', clock', rfl, rfl, heap_setBlock_same hb _, hF', ?_⟩
 have same : ∀ {o o' : Obj}, (Result.ok () (setBlock w b o) : Result Unit) = .ok () (setBlock w b o') → o = o' := fun {o o'} e => by
  injection e with _ e
  have h1 := heap_setBlock_same hb o
  rw [e, heap_setBlock_same hb o'] at h1
  exact (Option.some.inj h1).symm
 rcases K.keyed.find w hkey es.toList hF.keys with ⟨h1, h2⟩ | ⟨j, e0, h1, h2, h3⟩
 ·have hr2 : (Instr.mapUpdate tm (.map (some b)) (kv k) u).run P w = .ok () (setBlock w b (.map (es.push ⟨kv k, u, clock⟩) (clock + 1))) := by
   simp [Instr.mapUpdate, run_underlying ht, MapKept.run_getObj_map hb, K.keyed.check w false hkey, h1, MapKept.run_setObj_map _ hb, Result.andThen, setBlock]
  have e1 := same (hr.symm.trans hr2)
  injection e1 with e1 e2
  subst e1
  unfold putM
  rw [hm.del0 h2, Array.toList_push]
  exact (hm.cons (p := (k, a)) (x := ⟨kv k, u, clock⟩) rfl hu).perm (List.perm_append_singleton _ _).symm
 ·have hj : es[j]? = some e0 := by simpa using h2
  have hr2 : (Instr.mapUpdate tm (.map (some b)) (kv k) u).run P w = .ok () (setBlock w b (.map (es.modify j (fun e' => { e' with key := kv k, val := u })) clock)) := by
   simp [Instr.mapUpdate, run_underlying ht, MapKept.run_getObj_map hb, K.keyed.check w false hkey, h1, hj, h3, K.keyed.stays w hkey, MapKept.run_setObj_map _ hb, Result.andThen, setBlock]
  have e1 := same (hr.symm.trans hr2)
  injection e1 with e1 e2
  subst e1
  rw [Array.toList_modify, Go.ChangeMaps.modify_eq_set _ _ _ _ h2]
  obtain ⟨r, p1, p2, _⟩ := set_permM (x := { e0 with key := kv k, val := u }) h2
  exact ((hm.del K.inj hn p1 h3).cons (p := (k, a)) (x := { e0 with key := kv k, val := u }) rfl hu).perm p2.symm
theorem mp_drop (K : KeyT P t kv ok) {tm e ty : TypeId} (ht : P.underlying tm = some (.map t e)) {k : κ} (hk : ok k) (h : (HA.mp P v t kv g l).P G F w) :
  ∃ b o o0, v = .map (some b) ∧ F = [b] ∧ w.heap[b]? = some o0 ∧ (∃ es cl, o0 = .map es cl) ∧ (Builtin.delete_ #[tm, t] ty #[v, kv k]).run P w = .ok (.tuple #[]) (setBlock w b o) ∧ (HA.mp P v t kv g (delM l k)).P G F (setBlock w b o) := by
 obtain ⟨b, es, clock, rfl, rfl, hb, hF, hm⟩ := h
 obtain ⟨kl, hkey⟩ := K.key k hk
 have hn := hm.nodup hF.stamped.2.2
 obtain ⟨es', hr, hF', _⟩ := Go.Maps.fit_drop (ty := ty) K.keyed ht hb hF hkey
 refine ⟨b, .map es' clock, _, rfl, rfl, hb, ⟨_, _, rfl⟩, hr, b, es', clock, rfl, rfl, heap_setBlock_same hb _, hF', ?_⟩
 have same : ∀ {o o' : Obj}, (Result.ok (Value.tuple #[]) (setBlock w b o) : Result Value) = .ok (.tuple #[]) (setBlock w b o') → o = o' := fun {o o'} e => by
  injection e with _ e
  have h1 := heap_setBlock_same hb o
  rw [e, heap_setBlock_same hb o'] at h1
  exact (Option.some.inj h1).symm
 rcases K.keyed.find w hkey es.toList hF.keys with ⟨h1, h2⟩ | ⟨j, e0, h1, h2, h3⟩
 ·have hr2 : (Builtin.delete_ #[tm, t] ty #[.map (some b), kv k]).run P w = .ok (.tuple #[]) (setBlock w b (.map es clock)) := by
   simp [Builtin.delete_, run_underlying ht, MapKept.run_getObj_map hb, K.keyed.check w _ hkey, h1, MapKept.run_setObj_map _ hb, Result.andThen, setBlock]
  have e1 := same (hr.symm.trans hr2)
  injection e1 with e1 e2
  subst e1
  rw [hm.del0 h2]
  exact hm
 ·have hjs : j < es.size := by have := (List.getElem?_eq_some_iff.1 h2).1; simpa using this
  have hr2 : (Builtin.delete_ #[tm, t] ty #[.map (some b), kv k]).run P w = .ok (.tuple #[]) (setBlock w b (.map (es.eraseIdxIfInBounds j) clock)) := by
   simp [Builtin.delete_, run_underlying ht, MapKept.run_getObj_map hb, K.keyed.check w _ hkey, h1, MapKept.run_setObj_map _ hb, Result.andThen, setBlock]
  have e1 := same (hr.symm.trans hr2)
  injection e1 with e1 e2
  subst e1
  have hsub : (es.eraseIdxIfInBounds j).toList = es.toList.eraseIdx j := by
   unfold Array.eraseIdxIfInBounds
   rw [dif_pos hjs]
   simp
  rw [hsub]
  obtain ⟨r, p1, _, p3⟩ := set_permM (x := e0) h2
  rw [p3]
  exact hm.del K.inj hn p1 h3
theorem inv_setB {b : Nat} {o o0 : Obj} {h : HA} (hI : Inv G [b] [h] w) (hb : w.heap[b]? = some o0) (ho : ∃ es cl, o0 = .map es cl) {h' : HA} (hh : h'.P G [b] (setBlock w b o)) : Fr w (setBlock w b o) [b] [b] G G ∧ Inv G [b] [h'] (setBlock w b o) := by
 have hg := (hI.own b (by simp)).2
 obtain ⟨es, cl, rfl⟩ := ho
 refine ⟨⟨rfl, rfl, rfl, by simp [setBlock], fun j _ hj => heap_setBlock_other hb _ (fun e => hj (by rw [e]; simp)), fun _ h => .inl h, Gle.refl _, fun _ _ h => .inl h⟩, ⟨fun b' o' e => ?_, by simp, fun b' hb' => ?_, [b], [], by simp, hh, rfl⟩⟩
 ·have hne : b' ≠ b := fun e' => by subst e'; rw [hg] at e; cases e
  exact (heap_setBlock_other hb _ hne).trans (hI.gin b' o' e)
 ·have := hI.own b' hb'
  exact ⟨by simpa [setBlock] using this.1, this.2⟩
variable {rs : List (Nat × AV)} {d : Option Nat} {ty : TypeId} {pos : String} {af : Array Edge} {gd : Option (Nat × Bool)}
structure KeyV (av : AV) (u : Value) : Prop where
 out : ∀ G v, av.P G v → v = u
omit [DecidableEq κ] in
theorem KeyV.val {u : Value} : KeyV (.val u) u := ⟨fun _ _ h => h⟩
omit [DecidableEq κ] in
theorem KeyV.ints {cs : List AV} {xs : List Int} (h : Ints cs xs) : KeyV (.agg cs) (.agg (xs.map (Value.int .i64)).toArray) := ⟨fun _ _ ⟨_, e, hf⟩ => by rw [e, h.fits hf]⟩
theorem lt_look1 (K : KeyT P t kv ok) {tm e : TypeId} (ht : P.underlying tm = some (.map t e)) {z : Value} (hz : ∀ w, (zeroValue e).run P w = .ok z w) {x y : Operand} {av : AV} (k : κ) (hx : opv rs x = some (.val v)) (hy : opv rs y = some av) (hv : KeyV av (kv k)) (hk : ok k) :
  LT P ⟨d, .lookup tm x y false, ty, pos, af, gd⟩ rs [.mp P v t kv g l] (Is (lkA g z (getM l k)) [.mp P v t kv g l]) :=
 LT_read (fun _ e => by cases e) fun a w G F hR _ hh => by
  have e1 : a.eval x = v := opv_ok hR hx
  have e2 := hv.out G _ (opv_ok hR hy)
  obtain ⟨u, h1, h2⟩ := mp_look K ht hz false hk hh
  rw [if_neg (by simp)] at h2
  exact ⟨u, h1, by simp [execOp, e1, e2, h2, Result.andThen]⟩
theorem lt_mput (K : KeyT P t kv ok) {tm e : TypeId} (ht : P.underlying tm = some (.map t e)) {x y z : Operand} {av : AV} (k : κ) (a : α) (hx : opv rs x = some (.val v)) (hy : opv rs y = some av) (hv : KeyV av (kv k)) (hk : ok k) (hz : opv rs z = some (g a)) (hl : l.length ≤ 1000000) :
  LT P ⟨d, .mapUpdate tm x y z, ty, pos, af, gd⟩ rs [.mp P v t kv g l] (Is (.val undef) [.mp P v t kv g (putM l k a)]) :=
 LT_eff (fun _ e => by cases e) fun ac w G F hR hI => by
  obtain ⟨F1, F2, e, hm, h2⟩ := hI.hs
  have h2' : F2 = [] := h2
  subst h2'
  have e1 : ac.eval x = v := opv_ok hR hx
  have e2 := hv.out G _ (opv_ok hR hy)
  obtain ⟨b, o, o0, hvb, hF1, hb, ho, hr, hm'⟩ := mp_store K ht hk hl (opv_ok hR hz) hm
  subst hF1
  have hF : F = [b] := List.perm_singleton.1 (by simpa using e)
  subst hF
  obtain ⟨f1, f2⟩ := inv_setB hI hb ho hm'
  exact ⟨_, setBlock w b o, undef, _, _, G, [b], by simp [execOp, e1, e2, hr, Result.andThen], .inr ⟨rfl, rfl⟩, ⟨rfl, rfl⟩, f1, f2, rfl⟩
theorem lt_mdel (K : KeyT P t kv ok) {tm e : TypeId} (ht : P.underlying tm = some (.map t e)) {x y : Operand} {av : AV} (k : κ) (hx : opv rs x = some (.val v)) (hy : opv rs y = some av) (hv : KeyV av (kv k)) (hk : ok k) :
  LT P ⟨d, .call { callee := .builtin .delete, args := #[x, y], argTypes := #[tm, t] }, ty, pos, af, gd⟩ rs [.mp P v t kv g l] (Is (.tup []) [.mp P v t kv g (delM l k)]) :=
 LT_eff (fun _ e => by cases e) fun ac w G F hR hI => by
  obtain ⟨F1, F2, e, hm, h2⟩ := hI.hs
  have h2' : F2 = [] := h2
  subst h2'
  have e1 : ac.eval x = v := opv_ok hR hx
  have e2 := hv.out G _ (opv_ok hR hy)
  obtain ⟨b, o, o0, hvb, hF1, hb, ho, hr, hm'⟩ := mp_drop (ty := ty) K ht hk hm
  subst hF1
  have hF : F = [b] := List.perm_singleton.1 (by simpa using e)
  subst hF
  obtain ⟨f1, f2⟩ := inv_setB hI hb ho hm'
  exact ⟨_, setBlock w b o, .tuple #[], _, _, G, [b], by simp [execOp, resolve, invoke, builtin, e1, e2, hr, Result.andThen], .inl rfl, ⟨rfl, rfl⟩, f1, f2, [], rfl, trivial⟩
omit [DecidableEq κ] in
theorem lt_mlen {tm e : TypeId} (ht : P.underlying tm = some (.map t e)) {x : Operand} (hx : opv rs x = some (.val v)) :
  LT P ⟨d, .call { callee := .builtin .len, args := #[x], argTypes := #[tm] }, ty, pos, af, gd⟩ rs [.mp P v t kv g l] (Is (.val (.int .i64 l.length)) [.mp P v t kv g l]) :=
 LT_read (fun _ e => by cases e) fun a w G F hR _ ⟨b, es, clock, e1, _, hb, _, hm⟩ => by
  have e2 : a.eval x = v := opv_ok hR hx
  have e3 : a.eval x = .map (some b) := e2.trans e1
  have hl := hm.len
  refine ⟨_, rfl, ?_⟩
  simp [execOp, resolve, e3, invoke, builtin, Builtin.len_, run_underlying ht, MapKept.run_getObj_map hb, goInt, Result.andThen, hl]
omit [DecidableEq κ] in
theorem lt_mmake (K : KeyT P t kv ok) {tm : TypeId} : LT P ⟨d, .makeMap tm none, ty, pos, af, gd⟩ rs [] (fun x y => ∃ u, One (.val u) ∧ x = .val u ∧ y = [.mp P u t kv g []]) :=
 LT_eff (fun _ e => by cases e) fun a w G F hR hI => by
  obtain rfl := inv_nil hI
  obtain ⟨es, clock, h1, h2, h3, _⟩ := World.ownsMap_made w P t anyM
  have hes : es.toList = [] := by cases es with | mk l => simp at h3; simpa using h3
  refine ⟨_, w.alloc (.map #[] 0), .map (some w.heap.size), _, _, G, [w.heap.size], ?_, .inl rfl, ⟨_, ⟨fun _ _ h => by subst h; rfl⟩, rfl, rfl⟩, fr_alloc _ _ _, ⟨gin_alloc hI.gin _, by simp, fun b hb => ?_, [w.heap.size], [], by simp, ⟨_, es, clock, rfl, rfl, h1, h2, [], .refl _, by rw [hes]; trivial⟩, rfl⟩, rfl⟩
  ·simp [execOp, Instr.makeMap, newObj, Result.andThen]; rfl
  ·rw [List.mem_singleton] at hb
   subst hb
   refine ⟨by simp, ?_⟩
   cases hg : G w.heap.size with
   | none => rfl
   | some o => exact absurd (hI.gin.lt hg) (Nat.lt_irrefl _)
end
section
variable {c : Cx} {rs : List (Nat × AV)} {hs : List HA} {Q : Exit → S → Prop} {ops : Array Oper} {tl : List Oper} {d : Nat} {ty : TypeId} {pos : String} {af : Array Edge} {κ α : Type} [DecidableEq κ] {t : TypeId} {kv : κ → Value} {ok : κ → Prop} {g : α → AV} {l : List (κ × α)} {v : Value}
theorem wl_look1 {tm e : TypeId} {z : Value} {x y : Operand} {av : AV} {h : HA → List HA} (K : KeyT c.P t kv ok) (k : κ) (ht : c.P.underlying tm = some (.map t e)) (hz : ∀ w, (zeroValue e).run c.P w = .ok z w) (hx : opv rs x = some (.val v)) (hat : At hs (.mp c.P v t kv g l) h) (hy : opv rs y = some av) (hv : KeyV av (kv k)) (hk : ok k) (hd : Nat.blt d c.nt = true)
  (kk : WL c ops tl ⟨(d, lkA g z (getM l k)) :: rs, hs⟩ Q) : WL c ops (⟨some d, .lookup tm x y false, ty, pos, af, none⟩ :: tl) ⟨rs, hs⟩ Q := wl_rd (lt_look1 K ht hz k hx hy hv hk) hat hd kk
omit [DecidableEq κ] in
theorem wl_mlen {tm e : TypeId} {x : Operand} {h : HA → List HA} (ht : c.P.underlying tm = some (.map t e)) (hx : opv rs x = some (.val v)) (hat : At hs (.mp c.P v t kv g l) h) (hd : Nat.blt d c.nt = true)
  (kk : WL c ops tl ⟨(d, .val (.int .i64 l.length)) :: rs, hs⟩ Q) : WL c ops (⟨some d, .call { callee := .builtin .len, args := #[x], argTypes := #[tm] }, ty, pos, af, none⟩ :: tl) ⟨rs, hs⟩ Q := wl_rd (lt_mlen ht hx) hat hd kk
theorem wl_mput {tm e : TypeId} {x y z : Operand} {av : AV} {h : HA → List HA} (K : KeyT c.P t kv ok) (k : κ) (a : α) (ht : c.P.underlying tm = some (.map t e)) (hx : opv rs x = some (.val v)) (hat : At hs (.mp c.P v t kv g l) h) (hy : opv rs y = some av) (hv : KeyV av (kv k)) (hk : ok k) (hz : opv rs z = some (g a)) (hl : l.length ≤ 1000000)
  (kk : WL c ops tl ⟨rs, h (.mp c.P v t kv g (putM l k a))⟩ Q) : WL c ops (⟨none, .mapUpdate tm x y z, ty, pos, af, none⟩ :: tl) ⟨rs, hs⟩ Q := WL_at rfl rfl hat (lt_mput K ht k a hx hy hv hk hz hl) kk
theorem wl_mdel {tm e : TypeId} {x y : Operand} {av : AV} {h : HA → List HA} {dd : Option Nat} (K : KeyT c.P t kv ok) (k : κ) (ht : c.P.underlying tm = some (.map t e)) (hx : opv rs x = some (.val v)) (hat : At hs (.mp c.P v t kv g l) h) (hy : opv rs y = some av) (hv : KeyV av (kv k)) (hk : ok k) (hd : okD dd c.nt = true)
  (kk : WL c ops tl ⟨putR dd (.tup []) rs, h (.mp c.P v t kv g (delM l k))⟩ Q) : WL c ops (⟨dd, .call { callee := .builtin .delete, args := #[x, y], argTypes := #[tm, t] }, ty, pos, af, none⟩ :: tl) ⟨rs, hs⟩ Q := WL_at hd rfl hat (lt_mdel K ht k hx hy hv hk) kk
omit [DecidableEq κ] in
theorem wl_mmake {tm : TypeId} (K : KeyT c.P t kv ok) (g : α → AV) (hd : Nat.blt d c.nt = true) (kk : ∀ v, One (.val v) → WL c ops tl ⟨(d, .val v) :: rs, .mp c.P v t kv g [] :: hs⟩ Q) : WL c ops (⟨some d, .makeMap tm none, ty, pos, af, none⟩ :: tl) ⟨rs, hs⟩ Q :=
 WL_new hd rfl (lt_mmake (g := g) K) fun av pr ⟨u, h1, e1, e2⟩ => by subst e1; subst e2; exact kk u h1
end
theorem keyT_int {P : Program} {t : TypeId} (h : P.underlying t = some (.int .i64)) : KeyT P t (fun n : Int => Value.int .i64 n) (fun n => -9223372036854775808 ≤ n ∧ n ≤ 9223372036854775807) :=
 ⟨Go.Maps.int_keyed h, fun n hn => ⟨_, Go.Maps.keyOf_int_mk h (by simp only [Lit.wf, IntKind.min, IntKind.max, IntKind.signed, IntKind.bits, Bool.and_eq_true, decide_eq_true_eq, if_true]; omega)⟩, fun a b e => by injection e⟩
end Go.Proofs.YtihonljdanjfmaaGreatDoor.Sw
namespace Go.Proofs.YtihonljdanjfmaaGreatDoor.Sw
open Go.RowKit Go Go.Shelf Go.Proofs
theorem rises_of_ok {f : Flo} (h : floOk f = true) : rises 0 f.ids = true := by
 simp only [floOk, Bool.and_eq_true] at h
 exact h.1.1.1.2
theorem judge_con (f : Flo) (l : List Pay) (hS : Sml f) (hl : l.length ≤ 1000) : Con Tryz.prog 42 [.agg (flC f), .sl 3 payC l] [tab8] (Is (jAV (judgeR f l)) [tab8]) := by
 have hidl := hS.ids
 have hqsl := hS.qs
 cases hok : floOk f with
 | false =>
  have hW : judgeR f l = ([], 0, 80) := by unfold judgeR; rw [if_neg (by rw [hok]; simp)]
  rw [hW]
  have C := openedNo_con f hS hok
  refine con_of Tryz.func42 rfl (enters_of Tryz.func42 (by kernel_rfl) rfl) rfl ?_; intro n w0 F0 G0
  refine zS ?_;repeat(refine yA ?_;intro p hp;refine zS ?_)
  (first | (apply wl_call (C); exact rfl; exact rfl) | (apply wl_callR (C); exact rfl; exact zM; exact rfl))
  refine zS ?_;repeat(refine yA ?_;intro p hp;refine zS ?_)
  refine Res_nil 4 1 iC rfl ?_
  (apply resK3; exact rfl; exact rfl; exact rfl; exact rfl; exact ⟨rfl, rfl⟩; exact yC)
 | true =>
  have hF := flo_f hok
  have hr := rises_of_ok hok
  have hidl6 := hF.ids
  have C := opened_con f hS hok
  refine con_of Tryz.func42 rfl (enters_of Tryz.func42 (by kernel_rfl) rfl) rfl ?_; intro n w0 F0 G0
  refine zS ?_;repeat(refine yA ?_;intro p hp;refine zS ?_)
  (apply wl_callP (C); exact rfl; exact yC; exact rfl)
  rintro _ _ ⟨ph, ow, rfl, rfl⟩
  refine zS ?_;repeat(refine yA ?_;intro p hp;refine zS ?_)
  refine w_cond rfl (fun g2 => ?_) (fun g2 => ?_)
  ·have hW : judgeR f l = ([], 0, 9) := by unfold judgeR; rw [if_pos hok, if_neg (by simp at g2; omega)]
   rw [hW]
   refine zS ?_;repeat(refine yA ?_;intro p hp;refine zS ?_)
   refine Res_nil 4 1 iC rfl ?_
   (apply resK3; exact rfl; exact rfl; exact rfl; exact rfl; exact ⟨rfl, rfl⟩; exact yC)
  ·have hl12 : l.length ≤ 12 := by simp at g2; omega
   have hW : judgeR f l = judgeGo f.ids f.qs 0 l (owed8 f) := by unfold judgeR; rw [if_pos hok, if_pos hl12]
   rw [hW]
   refine zS ?_;repeat(refine yA ?_;intro p hp;refine zS ?_)
   refine W_loopJ (fun (b : Nat × List Int) => ⟨[(2, .val p), (7, .val ph), (23, .sl 3 payC l), (24, .val (.int .i64 l.length)), (25, .val (.int .i64 b.1))], [.row ow 3 1 iC b.2, hsB ph f ow, .box p (flC f) 27, tab8]⟩)
    (fun b => b.1 ≤ l.length ∧ b.2.length = f.ids.length ∧ judgeGo f.ids f.qs b.1 (l.drop b.1) b.2 = judgeGo f.ids f.qs 0 l (owed8 f) ∧ Btw (-(200000000 + 2000000 * b.1)) (200000000 + 2000000 * b.1) b.2) (fun b => l.length - b.1) (0, owed8 f) (fun _ _ st => st_sub2 st (by exact zR) (by exact zP)) ⟨Nat.zero_le _, owed8_len f, rfl, (owed8_btw hF hS).mono (by dsimp only; omega) (by dsimp only; omega)⟩ ?_
   rintro ⟨k, cu⟩ ⟨hk, hcl, hno, hbt⟩
   dsimp only at hk hcl hno hbt ⊢
   refine zS ?_;repeat(refine yA ?_;intro p hp;refine zS ?_)
   refine w_cond rfl (fun hlt => ?_) (fun hlt => ?_)
   ·have hlt' : k < l.length := by simpa using hlt
    have M := made_con f l[k] (by omega)
    rw [drop_step hlt', judgeGo] at hno
    refine zS ?_;repeat(refine yA ?_;intro p hp;refine zS ?_)
    rename_i pf hpf
    cases hpo : payOk f.ids l[k] with
    | false =>
     rw [hpo] at M
     have hno2 : judgeGo f.ids f.qs 0 l (owed8 f) = ([], (k : Int), 82) := by
      rw [← hno, if_neg (by rw [hpo]; simp)]
     rw [hno2]
     refine W_run 15 [30, 31, 32, 33, 34, 35, 36, 37, 38, 39, 40, 41, 42, 43, 44] [0, 1, 2, 3, 4, 5, 6, 7, 8, 9, 10, 11, 12, 13, 14] Cut.nil rfl goFlt mixedS (by kernel_rfl) rfl ?_
     refine rpv [] [] ?_
     refine rpv [] [] ?_
     refine Run.pv [0, 1] [] rfl (fun vs => by apply ltr_pk; exact goPk; (refine ltr ?_; refine lt_call ?_ (M); exact rfl)) goApp ?_
     refine rpv [2] [] ?_
     refine rpv [3] [] ?_
     refine rno [4] ?_
     refine rno [4] ?_
     refine rno [4] ?_
     refine rno [4, 7] ?_
     refine rno [4, 6, 8] ?_
     refine rno [4] ?_
     refine rno [4] ?_
     refine rno [4, 11] ?_
     refine rno [4, 10, 12] ?_
     refine rno [4, 9, 13] ?_
     refine ⟨⟨by kernel_rfl, by kernel_rfl⟩, fun vs => ?_⟩
     apply WL_auto [4, 5, 14]
     ·exact goPk
     ·exact goNrm
     ·kernel_rfl
     ·kernel_rfl
     refine zS ?_;repeat(refine yA ?_;intro p hp;refine zS ?_)
     refine Res_nil 4 1 iC rfl ?_
     (apply resK3; exact rfl; exact rfl; exact rfl; exact rfl; exact ⟨rfl, rfl⟩; exact yC)
    | true =>
     rw [hpo] at M
     have hP := pay_f hpo
     have hi1 : f.ids.idxOf l[k].a < f.ids.length := List.idxOf_lt_length_of_mem hP.1
     have hi2 : f.ids.idxOf l[k].b < f.ids.length := List.idxOf_lt_length_of_mem hP.2.1
     have S := speak_con ph ow f _ _ hi1 hi2 hr (by omega) (by omega)
     rw [List.getElem_idxOf, List.getElem_idxOf] at S
     refine W_run 15 [30, 31, 32, 33, 34, 35, 36, 37, 38, 39, 40, 41, 42, 43, 44] [0, 1, 2, 3, 4, 5, 6, 7, 8, 9, 10, 11, 12, 13, 14] Cut.nil rfl goFlt mixedS (by kernel_rfl) rfl ?_
     refine rpv [] [] ?_
     refine rpv [] [] ?_
     refine Run.pv [0, 1] [] rfl (fun vs => by apply ltr_pk; exact goPk; (refine ltr ?_; refine lt_call ?_ (M); exact rfl)) goApp ?_
     refine rpv [2] [] ?_
     refine rpv [3] [] ?_
     refine ryv [4] ?_
     refine ryv [4] ?_
     refine ryv [4] ?_
     refine ryv [4, 7] ?_
     refine ryx [4, 6, 8] (fun vs => by apply ltr_pk; exact goPk; (apply ltr_callR ((indexAt_con ph ow f _ (by omega) hP.1)); exact rfl; exact zM)) ?_
     refine ryv [4] ?_
     refine ryv [4] ?_
     refine ryv [4, 11] ?_
     refine ryx [4, 10, 12] (fun vs => by apply ltr_pk; exact goPk; (apply ltr_callR ((indexAt_con ph ow f _ (by omega) hP.2.1)); exact rfl; exact zM)) ?_
     refine ryv [4, 9, 13] ?_
     refine ⟨⟨by kernel_rfl, by kernel_rfl⟩, fun vs => ?_⟩
     apply WL_auto [4, 5, 14]
     ·exact goPk
     ·exact goNrm
     ·kernel_rfl
     ·kernel_rfl
     refine zS ?_;repeat(refine yA ?_;intro p hp;refine zS ?_)
     (first | (apply wl_call (S); exact rfl; exact rfl) | (apply wl_callR (S); exact rfl; exact zM; exact rfl))
     refine zS ?_;repeat(refine yA ?_;intro p hp;refine zS ?_)
     refine w_cond rfl (fun g4 => ?_) (fun g4 => ?_)
     ·have hno2 : judgeGo f.ids f.qs 0 l (owed8 f) = ([], (k : Int), 82) := by
       rw [← hno, if_neg (by simp only [Bool.not_eq_true'] at g4; simp [g4])]
      rw [hno2]
      refine zS ?_;repeat(refine yA ?_;intro p hp;refine zS ?_)
      refine Res_nil 4 1 iC rfl ?_
      (apply resK3; exact rfl; exact rfl; exact rfl; exact rfl; exact ⟨rfl, rfl⟩; exact yC)
     ·rw [if_pos (by rw [hpo]; simpa using g4)] at hno
      refine zS ?_;repeat(refine yA ?_;intro p hp;refine zS ?_)
      (apply wl_callP (paid_con ph ow f l[k] cu (by omega) hP hcl hbt (by omega) (by omega)); exact rfl; exact yC; exact rfl)
      rintro _ _ ⟨rfl, rfl⟩
      refine zS ?_;repeat(refine yA ?_;intro p hp;refine zS ?_)
      (refine ⟨(k + 1, payStep f.ids l[k] cu), fun _ _ st => st_sub2 st ?_ ?_, ?_, ?_⟩; exact zR; exact zP)
      ·exact ⟨hlt', by dsimp only; unfold payStep; rw [addAt_len, addAt_len]; exact hcl, hno, (payStep_btw (by omega) hP.2.2.2.1 hP.2.2.2.2 hbt).mono (by dsimp only; omega) (by dsimp only; omega)⟩
      ·dsimp only; omega
   ·have hkk : k = l.length := by simp at hlt; omega
    subst hkk
    rw [List.drop_length, judgeGo] at hno
    rw [← hno]
    refine zS ?_;repeat(refine yA ?_;intro p hp;refine zS ?_)
    (apply Res_frz 4; exact rfl; exact zN)
    (apply resK3; exact rfl; exact rfl; exact rfl; exact rfl; exact ⟨rfl, rfl⟩; exact yC)
end Go.Proofs.YtihonljdanjfmaaGreatDoor.Sw
namespace Go.Proofs.YtihonljdanjfmaaGreatDoor.Sw
open Go.RowKit Go Go.Shelf Go.Proofs
open Go.Proofs.YtihonljdanjfmaaGreatDoor.Gr (headsR hf sumP Zr lf Lab)
def evS (x : Nat → Int) (h : Nat → Nat) (m : List (Nat × Int)) (i : Nat) : List (Nat × Int) :=
 if (getM m (h i)).getD 0 + x i = 0 then delM (putM m (h i) ((getM m (h i)).getD 0 + x i)) (h i) else putM m (h i) ((getM m (h i)).getD 0 + x i)
def evM (x : Nat → Int) (h : Nat → Nat) : Nat → List (Nat × Int)
 | 0 => []
 | k + 1 => evS x h (evM x h k) k
theorem evM_get {x : Nat → Int} {h : Nat → Nat} : ∀ {k j : Nat}, getM (evM x h k) j = if sumP k x (fun v => decide (h v = j)) = 0 then none else some (sumP k x fun v => decide (h v = j))
 | 0, j => rfl
 | k + 1, j => by
  have hs : sumP (k + 1) x (fun v => decide (h v = j)) = sumP k x (fun v => decide (h v = j)) + (if decide (h k = j) = true then x k else 0) := rfl
  have hd : ∀ j, (getM (evM x h k) j).getD 0 = sumP k x (fun v => decide (h v = j)) := fun j => by
   rw [evM_get]; split
   ·rename_i e; rw [e]; rfl
   ·rfl
  show getM (evS x h (evM x h k) k) j = _
  unfold evS
  rw [hd, hs]
  by_cases hj : h k = j
  ·subst hj
   simp only [decide_true, if_true]
   split
   ·rw [getM_del, if_pos rfl]
   ·rw [getM_put, if_pos rfl]
  ·rw [decide_eq_false hj]
   simp only [Bool.false_eq_true, if_false, Int.add_zero]
   rw [← evM_get]
   split
   ·rw [getM_del, if_neg (fun e => hj e.symm), getM_put, if_neg (fun e => hj e.symm)]
   ·rw [getM_put, if_neg (fun e => hj e.symm)]
theorem evM_len {x : Nat → Int} {h : Nat → Nat} : ∀ k, (evM x h k).length ≤ k
 | 0 => Nat.le_refl _
 | k + 1 => by
  show (evS x h (evM x h k) k).length ≤ k + 1
  unfold evS
  have h1 := putM_len (evM x h k) (h k) ((getM (evM x h k) (h k)).getD 0 + x k)
  have h2 := evM_len (x := x) (h := h) k
  split
  ·exact Nat.le_trans (delM_len _ _) (by omega)
  ·omega
theorem evM_nil {x : Nat → Int} {h : Nat → Nat} {k : Nat} : evM x h k = [] ↔ ∀ j, sumP k x (fun v => decide (h v = j)) = 0 := by
 constructor
 ·intro e j
  have := evM_get (x := x) (h := h) (k := k) (j := j)
  rw [e] at this
  split at this
  ·assumption
  ·cases this
 ·intro h0
  cases hm : evM x h k with
  | nil => rfl
  | cons p t =>
   have := evM_get (x := x) (h := h) (k := k) (j := p.1)
   rw [hm, if_pos (h0 _), getM, if_pos rfl] at this
   cases this
def evB (n : Nat) (L : List (Nat × Nat)) (cu : List Int) : Bool := decide (evM (lf cu) (hf (headsR n L)) n = [])
theorem evB_iff {n : Nat} {L : List (Nat × Nat)} {cu : List Int} (h : ∀ p ∈ L, p.1 < n ∧ p.2 < n) : evB n L cu = true ↔ Zr n L (lf cu) := by
 unfold evB
 rw [decide_eq_true_iff, evM_nil]
 exact Gr.even_iff (Gr.lab_all h)
theorem sumP_bound {x : Nat → Int} {c : Int} (hc : 0 ≤ c) : ∀ {k : Nat}, (∀ v, v < k → -c ≤ x v ∧ x v ≤ c) → ∀ P, -(k * c) ≤ sumP k x P ∧ sumP k x P ≤ k * c
 | 0, _, P => by simp [sumP]
 | k + 1, h, P => by
  have ih := sumP_bound hc (k := k) (fun v hv => h v (by omega)) P
  have h1 := h k (by omega)
  have hk : ((k + 1 : Nat) : Int) * c = k * c + c := by rw [Int.natCast_add, Int.add_mul]; simp
  rw [hk]
  unfold sumP
  split <;> omega
def nk (n : Nat) : Value := .int .i64 (n : Int)
def iG (n : Int) : AV := .val (.int .i64 n)
theorem keyN : KeyT Tryz.prog 3 nk (fun n => n ≤ 1000000) :=
 ⟨(keyT_int Tryz.underlying3).keyed, fun n hn => (keyT_int Tryz.underlying3).key n (by omega), fun a b e => by unfold nk at e; injection e with _ e; omega⟩
theorem lkA_int (o : Option Int) : lkA iG (.int .i64 0) o = .val (.int .i64 (o.getD 0)) := by cases o <;> rfl
theorem LT_av {P : Program} {o : Oper} {rs : List (Nat × AV)} {cons prod : List HA} {av av' : AV} (k : LT P o rs cons (Is av prod)) (h : av = av') : LT P o rs cons (Is av' prod) := h ▸ k
abbrev mpI (v : Value) (l : List (Nat × Int)) : HA := .mp Tryz.prog v 3 nk iG l
theorem lf_at {cu : List Int} {i : Nat} (h : i < cu.length) : lf cu i = cu[i] := by simp [lf, List.getD_eq_getElem?_getD, List.getElem?_eq_getElem h]
theorem hf_at {h : List Nat} {i : Nat} (hi : i < h.length) : hf h i = h[i] := by simp [hf, List.getD_eq_getElem?_getD, List.getElem?_eq_getElem hi]
theorem even_con (ph ow : Value) (f : Flo) (cu : List Int) (L : List (Nat × Nat)) (hn : f.ids.length ≤ 1000) (hl : L.length ≤ 1000) (hL : ∀ p ∈ L, p.1 < f.ids.length ∧ p.2 < f.ids.length) (hcl : cu.length = f.ids.length) (hbt : Btw (-1000000000) 1000000000 cu) : Con Tryz.prog 107 [.val ph, .sl 2 pnC L] [hsB ph f ow, .row ow 3 1 iC cu] (Is (.val (.bool (evB f.ids.length L cu))) [hsB ph f ow, .row ow 3 1 iC cu]) := by
 have hhl := headsR_len f.ids.length L
 have hlab := (Gr.lab_all hL).lt
 refine con_of Tryz.func107 rfl (enters_of Tryz.func107 (by kernel_rfl) rfl) rfl ?_; intro n w0 F0 G0
 refine zS ?_
 (apply wl_mmake keyN iG; exact rfl; intro v hv)
 refine zS ?_
 (apply wl_callP (groups_con ph ow f L hn hl hL); exact rfl; exact yC; exact rfl)
 rintro _ _ ⟨u, rfl, rfl⟩
 unfold evB
 generalize headsR f.ids.length L = h at hhl hlab ⊢
 refine zS ?_
 refine W_loopJ (fun (i : Nat) => ⟨[(0, .val ph), (5, .val v), (11, .val u), (12, .val (.int .i64 h.length)), (13, .val (.int .i64 i))], [mpI v (evM (lf cu) (hf h) i), .row u 3 1 nC h, hsB ph f ow, .row ow 3 1 iC cu]⟩) (fun i => i ≤ h.length) (fun i => h.length - i) 0 (fun _ _ st => st_sub2 st zR zP) (Nat.zero_le _) ?_
 rintro i hi
 refine zS ?_
 refine w_cond rfl (fun hlt => ?_) (fun hlt => ?_)
 ·have hi' : i < h.length := by simpa using hlt
  have hic : i < cu.length := by omega
  have hq1 : cu[i]? = some cu[i] := List.getElem?_eq_getElem hic
  have hb := hbt.at hic
  have hhi : h[i] ≤ 1000000 := by have := hlab i (by omega); rw [hf_at hi'] at this; omega
  have hml := evM_len (x := lf cu) (h := hf h) i
  have hg := evM_get (x := lf cu) (h := hf h) (k := i) (j := h[i])
  have hbb : ∀ q, q < i → -1000000000 ≤ lf cu q ∧ lf cu q ≤ 1000000000 := fun q hq => by
   have hqc : q < cu.length := by omega
   rw [lf_at hqc]; exact hbt.at hqc
  have hsb := sumP_bound (x := lf cu) (c := 1000000000) (by omega) (k := i) hbb (fun v => decide (hf h v = h[i]))
  have hgb : -1000000000000 ≤ (getM (evM (lf cu) (hf h) i) h[i]).getD 0 ∧ (getM (evM (lf cu) (hf h) i) h[i]).getD 0 ≤ 1000000000000 := by
   rw [hg]; split <;> simp <;> omega
  have hstep : evM (lf cu) (hf h) (i + 1) = evS (lf cu) (hf h) (evM (lf cu) (hf h) i) i := rfl
  unfold evS at hstep
  rw [hf_at hi', lf_at hic] at hstep
  generalize evM (lf cu) (hf h) i = m at hml hgb hstep ⊢
  clear hg hsb hbb
  refine zS ?_
  refine W_run 10 [18, 19, 20, 21, 22, 23, 24, 25, 26, 27] [0, 1, 2, 3, 4, 5, 6, 7, 8, 9] Cut.nil rfl goFlt mixedS (by kernel_rfl) rfl ?_
  refine rpv [] [] ?_
  refine rpv [] [] ?_
  refine Run.pv [0, 1] [] rfl (fun vs => by apply ltr_pk; exact goPk; exact ltr_rd (h := mpI v m) (LT_av (lt_look1 keyN Tryz.underlying123 (fun w => by kernel_rfl) h[i] rfl rfl KeyV.val hhi) (lkA_int _)) zM) goApp ?_
  refine rpv [] [] ?_
  refine rpv [3] [] ?_
  refine rpv [4] [] ?_
  refine rpv [5] [] ?_
  refine rpv [] [] ?_
  refine rpv [6, 7] [] ?_
  refine rpv [8] [] ?_
  refine ⟨⟨by kernel_rfl, by kernel_rfl⟩, fun vs => ?_⟩
  apply WL_auto [0, 1, 2, 9]
  ·exact goPk
  ·exact goNrm
  ·kernel_rfl
  ·kernel_rfl
  refine zS ?_
  (apply wl_mput keyN h[i] ((getM m h[i]).getD 0 + cu[i]) Tryz.underlying123; exact rfl; exact zM; exact rfl; exact KeyV.val; exact hhi; exact rfl; omega)
  refine zS ?_
  (apply wl_look1 keyN h[i] Tryz.underlying123 (fun w => by kernel_rfl); exact rfl; exact zM; exact rfl; exact KeyV.val; exact hhi; exact rfl)
  rw [lkA_int, getM_put, if_pos rfl, Option.getD_some]
  refine zS ?_
  refine w_cond rfl (fun he => ?_) (fun he => ?_)
  ·rw [if_pos (of_decide_eq_true he)] at hstep
   refine zS ?_
   (apply wl_mdel keyN h[i] Tryz.underlying123; exact rfl; exact zM; exact rfl; exact KeyV.val; exact hhi; exact rfl)
   rw [← hstep]
   refine zS ?_
   (refine ⟨i + 1, fun _ _ st => st_sub2 st ?_ ?_, ?_, ?_⟩; exact zR; exact zP)
   ·omega
   ·omega
  ·rw [if_neg (of_decide_eq_false he)] at hstep
   rw [← hstep]
   refine zS ?_
   (refine ⟨i + 1, fun _ _ st => st_sub2 st ?_ ?_, ?_, ?_⟩; exact zR; exact zP)
   ·omega
   ·omega
 ·have hii : i = h.length := by simp at hlt; omega
  subst hii
  rw [hhl]
  refine zS ?_
  (apply wl_mlen; exact Tryz.underlying123; exact rfl; exact zM; exact rfl)
  refine zS ?_
  have he : decide (((evM (lf cu) (hf h) f.ids.length).length : Int) = 0) = decide (evM (lf cu) (hf h) f.ids.length = []) := by
   refine decide_eq_decide.2 ?_
   rw [← List.length_eq_zero_iff]; omega
  rw [he]
  (apply resK1; exact rfl; exact rfl; exact ⟨rfl, rfl⟩; exact yC)
def prI (sp : Nat → Nat → Bool) (i k : Nat) : List (Nat × Nat) := ((List.range k).filter fun k => sp k i).map fun k => (k, i)
def prP (sp : Nat → Nat → Bool) (n : Nat) : List (Nat × Nat) := (List.range n).flatMap fun i => prI sp i i
theorem prI_succ (sp : Nat → Nat → Bool) (i k : Nat) : prI sp i (k + 1) = if sp k i = true then prI sp i k ++ [(k, i)] else prI sp i k := by
 unfold prI
 rw [List.range_succ, List.filter_append]
 split
 ·rename_i h; simp [h]
 ·rename_i h; simp [h]
theorem prP_succ (sp : Nat → Nat → Bool) (n : Nat) : prP sp (n + 1) = prP sp n ++ prI sp n n := by
 unfold prP
 rw [List.range_succ, List.flatMap_append]; simp
theorem prI_mem {sp : Nat → Nat → Bool} {i k : Nat} {p : Nat × Nat} : p ∈ prI sp i k ↔ p.1 < k ∧ p.2 = i ∧ sp p.1 i = true := by
 unfold prI
 rw [List.mem_map]
 constructor
 ·rintro ⟨a, ha, rfl⟩
  have := List.mem_filter.1 ha
  exact ⟨List.mem_range.1 this.1, rfl, this.2⟩
 ·rintro ⟨h1, h2, h3⟩
  exact ⟨p.1, List.mem_filter.2 ⟨List.mem_range.2 h1, h3⟩, by rw [← h2]⟩
theorem prP_mem {sp : Nat → Nat → Bool} {n : Nat} {p : Nat × Nat} : p ∈ prP sp n ↔ p.1 < p.2 ∧ p.2 < n ∧ sp p.1 p.2 = true := by
 unfold prP
 rw [List.mem_flatMap]
 constructor
 ·rintro ⟨i, hi, hp⟩
  obtain ⟨h1, h2, h3⟩ := prI_mem.1 hp
  have := List.mem_range.1 hi
  exact ⟨by omega, by omega, by rw [h2]; exact h3⟩
 ·rintro ⟨h1, h2, h3⟩
  exact ⟨p.2, List.mem_range.2 h2, prI_mem.2 ⟨h1, rfl, h3⟩⟩
theorem prI_len (sp : Nat → Nat → Bool) (i k : Nat) : (prI sp i k).length ≤ k := by
 unfold prI
 rw [List.length_map]
 exact Nat.le_trans (List.length_filter_le _ _) (by simp)
theorem prP_len (sp : Nat → Nat → Bool) : ∀ n, (prP sp n).length ≤ n * n
 | 0 => by simp [prP]
 | n + 1 => by
  rw [prP_succ, List.length_append]
  have h1 := prP_len sp n
  have h2 := prI_len sp n n
  rw [Nat.succ_mul, Nat.mul_succ]; omega
def spk (f : Flo) (a b : Nat) : Bool := speakR f.qs (f.ids.getD a 0) (f.ids.getD b 0)
def canB (f : Flo) (cu : List Int) : Bool := evB f.ids.length (prP (spk f) f.ids.length) cu
theorem can_con (ph ow : Value) (f : Flo) (cu : List Int) (hn : f.ids.length ≤ 10) (hql : f.qs.length ≤ 1000) (hr : rises 0 f.ids = true) (hcl : cu.length = f.ids.length) (hbt : Btw (-1000000000) 1000000000 cu) : Con Tryz.prog 59 [.val ph] [hsB ph f ow, .row ow 3 1 iC cu] (Is (.val (.bool (canB f cu))) [hsB ph f ow, .row ow 3 1 iC cu]) := by
 have hll : ∀ n, n ≤ 10 → (prP (spk f) n).length ≤ 100 := fun n hn => Nat.le_trans (prP_len _ n) (Nat.mul_le_mul hn hn)
 refine con_of Tryz.func59 rfl (enters_of Tryz.func59 (by kernel_rfl) rfl) rfl ?_; intro n w0 F0 G0
 refine zS ?_;repeat(refine yA ?_;intro p hp;refine zS ?_)
 refine W_loopJ (fun (b : Nat × Value) => ⟨[(0, .val ph), (3, .val b.2), (12, .val (.int .i64 f.ids.length)), (13, .val (.int .i64 b.1))], [.row b.2 122 2 pnC (prP (spk f) b.1), hsB ph f ow, .row ow 3 1 iC cu]⟩) (fun b => b.1 ≤ f.ids.length) (fun b => f.ids.length - b.1) (0, .slice none 0 0) (fun _ _ st => st_sub2 (st_nil 122 2 pnC st) zR zP) (Nat.zero_le _) ?_
 rintro ⟨i, v⟩ hi
 dsimp only at hi ⊢
 refine zS ?_;repeat(refine yA ?_;intro p hp;refine zS ?_)
 refine w_cond rfl (fun hlt => ?_) (fun hlt => ?_)
 ·have hi' : i < f.ids.length := by simpa using hlt
  have hl1 := hll i (by omega)
  refine zS ?_;repeat(refine yA ?_;intro p hp;refine zS ?_)
  refine W_loopJ (fun (b : Nat × Value) => ⟨[(0, .val ph), (3, .val b.2), (12, .val (.int .i64 f.ids.length)), (13, .val (.int .i64 i)), (4, .val (.int .i64 i)), (16, .val (.int .i64 i)), (17, .val (.int .i64 b.1))], [.row b.2 122 2 pnC (prP (spk f) i ++ prI (spk f) i b.1), hsB ph f ow, .row ow 3 1 iC cu]⟩) (fun b => b.1 ≤ i) (fun b => i - b.1) (0, v) (fun _ _ st => st_sub2 st zR (by rw [show prI (spk f) i 0 = [] from rfl, List.append_nil]; exact zP)) (Nat.zero_le _) ?_
  rintro ⟨k, u⟩ hk
  dsimp only at hk ⊢
  refine zS ?_;repeat(refine yA ?_;intro p hp;refine zS ?_)
  refine w_cond rfl (fun hlt2 => ?_) (fun hlt2 => ?_)
  ·have hk' : k < i := by simpa using hlt2
   have hl2 := prI_len (spk f) i k
   have hks : k < f.ids.length := by omega
   have S := speak_con ph ow f k i hks hi' hr (by omega) hql
   rw [show speakR f.qs f.ids[k] f.ids[i] = spk f k i from by simp [spk, List.getD_eq_getElem?_getD, hks, hi']] at S
   have hsu := prI_succ (spk f) i k
   refine zS ?_;repeat(refine yA ?_;intro p hp;refine zS ?_)
   (first | (apply wl_call (S); exact rfl; exact rfl) | (apply wl_callR (S); exact rfl; exact zM; exact rfl))
   refine zS ?_;repeat(refine yA ?_;intro p hp;refine zS ?_)
   refine w_cond rfl (fun hs => ?_) (fun hs => ?_)
   ·rw [if_pos hs] at hsu
    refine zS ?_;repeat(refine yA ?_;intro p hp;refine zS ?_)
    refine WL_as 27 (.agg (pnC (k, i))) rfl ?_
    (apply wl_litF pnC; exact inferInstance; exact inferInstance; exact inferInstance; exact zE; exact rfl; (first | exact (of_decide_eq_true rfl) | decide | (simp; done) | (simp; omega)); exact rfl)
    (first | (apply wl_append; exact rfl; exact rfl; exact zN; exact inferInstance; exact inferInstance; (first | omega | (simp; omega)); exact rfl) | (apply wl_appendN; exact rfl; exact rfl; exact inferInstance; exact inferInstance; (first | omega | (simp; omega)); exact rfl))
    intro v2
    rw [List.append_assoc, ← hsu]
    refine zS ?_;repeat(refine yA ?_;intro p hp;refine zS ?_)
    (refine ⟨(k + 1, v2), fun _ _ st => st_sub2 st ?_ ?_, ?_, ?_⟩; exact zR; exact zP)
    ·dsimp only; omega
    ·dsimp only; omega
   ·rw [if_neg (by rw [hs]; simp)] at hsu
    rw [← hsu]
    refine zS ?_;repeat(refine yA ?_;intro p hp;refine zS ?_)
    (refine ⟨(k + 1, u), fun _ _ st => st_sub2 st ?_ ?_, ?_, ?_⟩; exact zR; exact zP)
    ·dsimp only; omega
    ·dsimp only; omega
  ·have hkk : k = i := by simp at hlt2; omega
   subst hkk
   rw [← prP_succ]
   refine zS ?_;repeat(refine yA ?_;intro p hp;refine zS ?_)
   (refine ⟨(k + 1, u), fun _ _ st => st_sub2 st ?_ ?_, ?_, ?_⟩; exact zR; exact zP)
   ·dsimp only; omega
   ·dsimp only; omega
 ·have hii : i = f.ids.length := by simp at hlt; omega
  subst hii
  have hl3 := hll _ hn
  refine zS ?_;repeat(refine yA ?_;intro p hp;refine zS ?_)
  (apply WL_frz 33; exact rfl; exact zN)
  (apply wl_callP (even_con ph ow f cu (prP (spk f) f.ids.length) (by omega) (by omega) (fun p hp => ⟨Nat.lt_trans (prP_mem.1 hp).1 (prP_mem.1 hp).2.1, (prP_mem.1 hp).2.1⟩) hcl hbt); exact rfl; exact yC; exact rfl)
  rintro _ _ ⟨rfl, rfl⟩
  refine zS ?_;repeat(refine yA ?_;intro p hp;refine zS ?_)
  (apply resK1; exact rfl; exact rfl; exact ⟨rfl, rfl⟩; exact yC)
def canR (f : Flo) : Bool × Int := if floOk f = true then (canB f (owed8 f), 0) else (false, 80)
theorem Can_con (f : Flo) (hS : Sml f) : Con Tryz.prog 17 [.agg (flC f)] [tab8] (Is (.tup [.val (.bool (canR f).1), .val (.int .i64 (canR f).2)]) [tab8]) := by
 cases hok : floOk f with
 | false =>
  have C := openedNo_con f hS hok
  unfold canR
  rw [if_neg (by rw [hok]; simp)]
  refine con_of Tryz.func17 rfl (enters_of Tryz.func17 (by kernel_rfl) rfl) rfl ?_; intro n w0 F0 G0
  refine zS ?_;repeat(refine yA ?_;intro p hp;refine zS ?_)
  (first | (apply wl_call (C); exact rfl; exact rfl) | (apply wl_callR (C); exact rfl; exact zM; exact rfl))
  refine zS ?_
  (apply resK2; exact rfl; exact rfl; exact rfl; exact ⟨rfl, rfl⟩; exact yC)
 | true =>
  have C := opened_con f hS hok
  have hF := flo_f hok
  have hr := rises_of_ok hok
  have hidl := hF.ids
  have hqsl := hS.qs
  unfold canR
  rw [if_pos hok]
  refine con_of Tryz.func17 rfl (enters_of Tryz.func17 (by kernel_rfl) rfl) rfl ?_; intro n w0 F0 G0
  refine zS ?_;repeat(refine yA ?_;intro p hp;refine zS ?_)
  (apply wl_callP (C); exact rfl; exact yC; exact rfl)
  rintro _ _ ⟨ph, ow, rfl, rfl⟩
  refine zS ?_
  (apply wl_callP (can_con ph ow f (owed8 f) (by omega) (by omega) hr (owed8_len f) ((owed8_btw hF hS).mono (by omega) (by omega))); exact rfl; exact yC; exact rfl)
  rintro _ _ ⟨rfl, rfl⟩
  refine zS ?_
  (apply resK2; exact rfl; exact rfl; exact rfl; exact ⟨rfl, rfl⟩; exact yC)
def netR (f : Flo) : List Int × Int := if floOk f = true then (owed8 f, 0) else ([], 80)
theorem Net_con (f : Flo) (hS : Sml f) : Con Tryz.prog 16 [.agg (flC f)] [tab8] (Is (.tup [.sl 1 iC (netR f).1, .val (.int .i64 (netR f).2)]) [tab8]) := by
 cases hok : floOk f with
 | false =>
  have C := openedNo_con f hS hok
  unfold netR
  rw [if_neg (by rw [hok]; simp)]
  refine con_of Tryz.func16 rfl (enters_of Tryz.func16 (by kernel_rfl) rfl) rfl ?_; intro n w0 F0 G0
  refine zS ?_;repeat(refine yA ?_;intro p hp;refine zS ?_)
  (first | (apply wl_call (C); exact rfl; exact rfl) | (apply wl_callR (C); exact rfl; exact zM; exact rfl))
  refine zS ?_
  refine Res_nil 2 1 iC rfl ?_
  (apply resK2; exact rfl; exact rfl; exact rfl; exact ⟨rfl, rfl⟩; exact yC)
 | true =>
  have C := opened_con f hS hok
  unfold netR
  rw [if_pos hok]
  refine con_of Tryz.func16 rfl (enters_of Tryz.func16 (by kernel_rfl) rfl) rfl ?_; intro n w0 F0 G0
  refine zS ?_;repeat(refine yA ?_;intro p hp;refine zS ?_)
  (apply wl_callP (C); exact rfl; exact yC; exact rfl)
  rintro _ _ ⟨ph, ow, rfl, rfl⟩
  refine zS ?_
  (apply Res_frz 2; exact rfl; exact zN)
  (apply resK2; exact rfl; exact rfl; exact rfl; exact ⟨rfl, rfl⟩; exact yC)
end Go.Proofs.YtihonljdanjfmaaGreatDoor.Sw
namespace Go.Proofs.YtihonljdanjfmaaGreatDoor.Sw
open Go.RowKit Go Go.Shelf Go.Proofs
theorem indexFuncB_con (xs : List Bil) (k : FuncId) (caps : List AV) (p : Bil → Bool) (hl : xs.length ≤ 1000000) (hc : ∀ x ∈ xs, Con Tryz.prog k ([.agg (biC x)] ++ caps) [] (Is (.val (.bool (p x))) [])) : Con Tryz.prog 65 [.sl 4 biC xs, .clo k caps] [] (Is (.val (.int .i64 (fiX p xs))) []) := by
 refine con_of Tryz.func65 rfl (enters_of Tryz.func65 (by kernel_rfl) rfl) rfl ?_; intro n w0 F0 G0
 refine zS ?_
 refine W_loopJ (fun (m : Nat) => ⟨[(0, .sl 4 biC xs), (1, .clo k caps), (7, .val (.int .i64 xs.length)), (8, .val (.int .i64 m))], []⟩) (fun m => m ≤ xs.length ∧ (xs.take m).any p = false) (fun m => xs.length - m) 0 (fun _ _ st => st_sub2 st zR zP) ?hj0 ?round
 case hj0 => simp
 case round =>
  rintro m ⟨hk, hno⟩
  refine zS ?_
  refine w_cond rfl (fun hlt => ?_) (fun hlt => ?_)
  ·have hlt' : m < xs.length := by simpa using hlt
   refine zS ?_
   (apply wl_callV (hc xs[m] (List.getElem_mem hlt')); exact rfl; exact rfl; exact rfl)
   refine zS ?_
   refine w_cond rfl (fun he => ?_) (fun he => ?_)
   ·refine zS ?_
    (apply res1; exact rfl; exact rfl; exact ⟨(congrArg (fun b => AV.val (Value.int .i64 b)) (fiX_at hlt' hno he).symm), rfl⟩)
   ·refine zS ?_
    (refine ⟨m + 1, fun _ _ st => st_sub2 st ?_ ?_, ?_, ?_⟩; exact zR; exact zP)
    ·refine ⟨by omega, ?_⟩
     rw [List.take_succ_eq_append_getElem hlt', List.any_append, hno]
     simpa using he
    ·omega
  ·refine zS ?_
   have hkk : m = xs.length := by simp at hlt; omega
   subst hkk
   rw [List.take_length] at hno
   (apply res1; exact rfl; exact rfl; exact ⟨(congrArg (fun b => AV.val (Value.int .i64 b)) (fiX_none hno).symm), rfl⟩)
theorem shares1_con (x : Bil) (m : Int) : Con Tryz.prog 66 [.agg (biC x), .fp 1 [.val (.int .i64 m)]] [] (Is (.val (.bool (decide (x.no = m)))) []) := by
 refine con_of Tryz.func66 rfl (enters_of Tryz.func66 (by kernel_rfl) rfl) rfl ?_; intro n w0 F0 G0
 refine zS ?_;repeat(refine yA ?_;intro p hp;refine zS ?_)
 (apply res1; exact rfl; exact rfl; exact ⟨rfl, rfl⟩)
def shaR (f : Flo) (m : Int) : List Int × Int :=
 if floOk f = true then (match f.bs.find? fun x => decide (x.no = m) with | some x => (sharesR f.ids x, 0) | none => ([], 6)) else ([], 80)
theorem find_fiX {α : Type} {p : α → Bool} {xs : List α} : (fiX p xs < 0 ∧ xs.find? p = none) ∨ ∃ (k : Nat) (hk : k < xs.length), fiX p xs = k ∧ xs.find? p = some xs[k] := by
 by_cases h : xs.any p = true
 ·right
  have hk : xs.findIdx p < xs.length := List.findIdx_lt_length_of_exists (by simpa using h)
  refine ⟨xs.findIdx p, hk, by unfold fiX; rw [if_pos h], ?_⟩
  rw [List.find?_eq_some_iff_getElem]
  refine ⟨List.findIdx_getElem (w := hk), _, hk, rfl, fun j hj => ?_⟩
  have := List.not_of_lt_findIdx hj
  simpa using this
 ·left
  have h' : xs.any p = false := by simpa using h
  refine ⟨by rw [fiX_none h']; decide, ?_⟩
  rw [List.find?_eq_none]
  intro x hx hp
  exact h (List.any_eq_true.2 ⟨x, hx, hp⟩)
theorem Shares_con (f : Flo) (m : Int) (hS : Sml f) : Con Tryz.prog 24 [.agg (flC f), .val (.int .i64 m)] [tab8] (Is (.tup [.sl 1 iC (shaR f m).1, .val (.int .i64 (shaR f m).2)]) [tab8]) := by
 have hbsl := hS.bs
 cases hok : floOk f with
 | false =>
  have C := openedNo_con f hS hok
  unfold shaR
  rw [if_neg (by rw [hok]; simp)]
  refine con_of Tryz.func24 rfl (enters_of Tryz.func24 (by kernel_rfl) rfl) rfl ?_; intro n w0 F0 G0
  refine zS ?_;repeat(refine yA ?_;intro p hp;refine zS ?_)
  (first | (apply wl_call (C); exact rfl; exact rfl) | (apply wl_callR (C); exact rfl; exact zM; exact rfl))
  refine zS ?_
  refine Res_nil 4 1 iC rfl ?_
  (apply resK2; exact rfl; exact rfl; exact rfl; exact ⟨rfl, rfl⟩; exact yC)
 | true =>
  have C := opened_con f hS hok
  have hF := flo_f hok
  have hidl := hF.ids
  unfold shaR
  rw [if_pos hok]
  refine con_of Tryz.func24 rfl (enters_of Tryz.func24 (by kernel_rfl) rfl) rfl ?_; intro n w0 F0 G0
  refine zS ?_;repeat(refine yA ?_;intro p hp;refine zS ?_)
  (apply wl_callP (C); exact rfl; exact yC; exact rfl)
  rintro _ _ ⟨ph, ow, rfl, rfl⟩
  refine zS ?_
  (apply WL_frzC 19 0 1; exact rfl; exact rfl; exact zN)
  (first | (apply wl_call (indexFuncB_con f.bs 66 [.fp 1 [.val (.int .i64 m)]] (fun x => decide (x.no = m)) (by omega) (fun x _ => shares1_con x m)); exact rfl; exact rfl) | (apply wl_callR (indexFuncB_con f.bs 66 [.fp 1 [.val (.int .i64 m)]] (fun x => decide (x.no = m)) (by omega) (fun x _ => shares1_con x m)); exact rfl; exact zM; exact rfl))
  refine zS ?_
  rcases find_fiX (p := fun x : Bil => decide (x.no = m)) (xs := f.bs) with ⟨h1, h2⟩ | ⟨k, hk, h1, h2⟩
  ·rw [h2, decide_eq_true h1]
   refine zS ?_
   refine Res_nil 4 1 iC rfl ?_
   (apply resK2; exact rfl; exact rfl; exact rfl; exact ⟨rfl, rfl⟩; exact yC)
  ·rw [h2, h1, decide_eq_false (by omega)]
   have hB := hF.bil _ (List.getElem_mem hk)
   have hsl := hS.st _ (List.getElem_mem hk)
   refine zS ?_
   (apply wl_callP (shares_con ph ow f f.bs[k] hidl hsl hB); exact rfl; exact yC; exact rfl)
   rintro _ _ ⟨u, rfl, rfl⟩
   refine zS ?_
   (apply Res_frz 4; exact rfl; exact zN)
   (apply resK2; exact rfl; exact rfl; exact rfl; exact ⟨rfl, rfl⟩; exact yC)
end Go.Proofs.YtihonljdanjfmaaGreatDoor.Sw
namespace Go.Proofs.YtihonljdanjfmaaGreatDoor.Sw
open Go.RowKit Go Go.Shelf Go.Proofs
open Go.Proofs.YtihonljdanjfmaaGreatDoor.Gr (payLt atP addP)
def prJ (sp : Nat → Nat → Bool) (i k m : Nat) : List (Nat × Nat) := ((List.range' k m).filter fun k => sp i k).map fun k => (i, k)
def prR (sp : Nat → Nat → Bool) (n : Nat) : Nat → List (Nat × Nat)
 | 0 => []
 | i + 1 => prR sp n i ++ prJ sp i (i + 1) (n - (i + 1))
theorem prJ_mem {sp : Nat → Nat → Bool} {i k m : Nat} {p : Nat × Nat} : p ∈ prJ sp i k m ↔ p.1 = i ∧ k ≤ p.2 ∧ p.2 < k + m ∧ sp i p.2 = true := by
 unfold prJ
 rw [List.mem_map]
 constructor
 ·rintro ⟨a, ha, rfl⟩
  have := List.mem_filter.1 ha
  have h2 := List.mem_range'_1.1 this.1
  exact ⟨rfl, h2.1, h2.2, this.2⟩
 ·rintro ⟨h1, h2, h3, h4⟩
  exact ⟨p.2, List.mem_filter.2 ⟨List.mem_range'_1.2 ⟨h2, h3⟩, h4⟩, by rw [← h1]⟩
theorem prR_mem {sp : Nat → Nat → Bool} {n : Nat} {p : Nat × Nat} : ∀ {i}, i ≤ n → (p ∈ prR sp n i ↔ p.1 < i ∧ p.1 < p.2 ∧ p.2 < n ∧ sp p.1 p.2 = true)
 | 0, _ => by simp [prR]
 | i + 1, hi => by
  rw [prR, List.mem_append, prR_mem (by omega), prJ_mem]
  constructor
  ·rintro (⟨h1, h2⟩ | ⟨h1, h2, h3, h4⟩)
   ·exact ⟨by omega, h2⟩
   ·exact ⟨by omega, by omega, by omega, by rw [h1]; exact h4⟩
  ·rintro ⟨h1, h2, h3, h4⟩
   by_cases he : p.1 = i
   ·exact .inr ⟨he, by omega, by omega, by rw [← he]; exact h4⟩
   ·exact .inl ⟨by omega, h2, h3, h4⟩
def sumPay (l : List Pay) : Int := (l.map Pay.p).sum
theorem sumPay_cons (x : Pay) (l : List Pay) : sumPay (x :: l) = x.p + sumPay l := by simp [sumPay]
theorem sumPay_snoc (l : List Pay) (x : Pay) : sumPay (l ++ [x]) = sumPay l + x.p := by simp [sumPay]
theorem sumPay_bound {c : Int} (hc : 0 ≤ c) : ∀ {l : List Pay}, (∀ x ∈ l, -c ≤ x.p ∧ x.p ≤ c) → -(l.length * c) ≤ sumPay l ∧ sumPay l ≤ l.length * c
 | [], _ => by simp [sumPay]
 | x :: t, h => by
  have h1 := h x (by simp)
  have h2 := sumPay_bound hc (l := t) fun y hy => h y (by simp [hy])
  rw [sumPay_cons, List.length_cons]
  have hk : ((t.length + 1 : Nat) : Int) * c = t.length * c + c := by rw [Int.natCast_add, Int.add_mul]; simp
  rw [hk]; omega
end Go.Proofs.YtihonljdanjfmaaGreatDoor.Sw
namespace Go.Proofs.YtihonljdanjfmaaGreatDoor.Sw
open Go.RowKit Go Go.Shelf Go.Proofs
open Go.Proofs.YtihonljdanjfmaaGreatDoor.Gr (payLt atP addP treeR treeGo leafAt findLeaf inc oth mvL payX)
def bC (b : Bool) : List AV := [.val (.bool b)]
def nd : List (Nat × Nat) → List Bool → List (Nat × Nat)
 | p :: L, d :: ds => if d = true then nd L ds else p :: nd L ds
 | _, _ => []
def treeA (o : Option (List Pay)) : AV := match o with | some l => .tup [.sl 3 payC l, .val (.bool true)] | none => .tup [.sl 3 payC [], .val (.bool false)]
theorem W_meet {c : Cx} {s : S} {x y : Code} {Q Q' : Exit → S → Prop} (s1 : S) (h : W c x s (fun e s' => e = .normal ∧ ∀ a w, St c s' a w → St c s1 a w)) (k : W c y s1 Q') : W c x s (thenQ (fun s' => W c y s' Q') Q) :=
 W_mono h fun e s' ⟨he, hs⟩ => by subst he; exact W_weak s1 hs k
end Go.Proofs.YtihonljdanjfmaaGreatDoor.Sw
namespace Go.Proofs.YtihonljdanjfmaaGreatDoor.Sw
open Go.RowKit Go
section
variable {P : Program} {rs : List (Nat × AV)} {d : Option Nat} {ty : TypeId} {pos : String} {af : Array Edge} {g : Option (Nat × Bool)}
end
section
variable {c : Cx} {rs : List (Nat × AV)} {hs : List HA} {Q : Exit → S → Prop} {ops : Array Oper} {tl : List Oper} {d : Nat} {ty : TypeId} {pos : String} {af : Array Edge}
end
theorem st_frzX {α : Type} {c : Cx} {rs : List (Nat × AV)} {hs r : List HA} {e t : TypeId} {n j : Nat} {f : α → List AV} {xs : List α} {p v : Value} {cs : List AV} {g : HA → List HA} {a : Act} {w : World} (hr : Rm hs (.row v e n f xs) r) (hat : At r (.box p cs t) g) (hj : cs[j]? = some (.val v)) (st : St c ⟨rs, hs⟩ a w) : St c ⟨rs, g (.box p (cs.set j (.sl n f xs)) t)⟩ a w := by
 obtain ⟨G, F, hI, hF, hR, rr⟩ := st
 obtain ⟨G', F', h1, h2, h3⟩ := row_freeze (rest := r) ⟨hI.gin, hI.nd, hI.own, hr.sel hI.hs⟩
 obtain ⟨rest, hsel⟩ := hat.sel
 obtain ⟨F1, F2, ep, ⟨b, vs, e1, e2, e3, e4⟩, k2⟩ := (hsel _ _ _ _).1 (by rw [hat.self]; exact h1.hs)
 refine ⟨G', F', ⟨h1.gin, h1.nd, h1.own, (hsel _ _ _ _).2 ⟨F1, F2, ep, ⟨b, vs, e1, e2, ?_, e4⟩, k2⟩⟩, hF.trans h2, hR.mono h2.gle, rr.1, rr.2.step h2⟩
 obtain ⟨u, hu, hu2⟩ := e3.get hj
 have hu3 : u = v := hu2
 subst hu3
 have := e3.set j h3
 rwa [show vs.set j u = vs from by
  obtain ⟨hlt, rfl⟩ := List.getElem?_eq_some_iff.1 hu
  exact List.set_getElem_self hlt] at this
theorem W_frzX {α : Type} {c : Cx} {rs : List (Nat × AV)} {hs r : List HA} {Q : Exit → S → Prop} {x : Code} {e t : TypeId} {n : Nat} {f : α → List AV} {xs : List α} {p v : Value} {cs : List AV} {g : HA → List HA} (p0 : Value) (j : Nat) (hr : Rm hs (.row v e n f xs) r) (hp : p = p0) (hat : At r (.box p cs t) g) (hj : cs[j]? = some (.val v)) (k : W c x ⟨rs, g (.box p (cs.set j (.sl n f xs)) t)⟩ Q) : W c x ⟨rs, hs⟩ Q := ⟨fun a w st => k.out a w (st_frzX hr hat hj st)⟩
end Go.Proofs.YtihonljdanjfmaaGreatDoor.Sw
namespace Go.Proofs.YtihonljdanjfmaaGreatDoor.Sw
open Go.RowKit Go Go.Shelf Go.Proofs
open Go.Proofs.YtihonljdanjfmaaGreatDoor.Gr (treeR pick Ok)
def plC (l : List Pay) : List AV := [.sl 3 payC l]
instance {l : List Pay} : OneL (plC l) := inferInstanceAs (OneL [_])
instance : OneF plC := ⟨fun _ => inferInstance⟩
instance : LenF plC 1 := ⟨fun _ => rfl⟩
theorem prJ_nodup (sp : Nat → Nat → Bool) (i k m : Nat) : (prJ sp i k m).Nodup := by
 unfold prJ
 rw [List.Nodup, List.pairwise_map]
 exact ((List.nodup_range' (s := k) (n := m)).filter _).imp fun h e => h (by injection e)
theorem prR_nodup (sp : Nat → Nat → Bool) (n : Nat) : ∀ i, i ≤ n → (prR sp n i).Nodup
 | 0, _ => List.nodup_nil
 | i + 1, hi => by
  rw [prR]
  refine List.nodup_append.2 ⟨prR_nodup sp n i (by omega), prJ_nodup sp _ _ _, fun a ha b hb e => ?_⟩
  subst e
  have h1 := (prR_mem (by omega)).1 ha
  have h2 := prJ_mem.1 hb
  omega
theorem prR_ok (sp : Nat → Nat → Bool) (n : Nat) : Ok n (prR sp n n) := ⟨prR_nodup sp n n (Nat.le_refl _), fun p hp => by
 have := (prR_mem (Nat.le_refl _)).1 hp
 exact ⟨by omega, by omega, by omega⟩⟩
theorem pow15 {k : Nat} (hk : k ≤ 15) : 2 ^ k ≤ 32768 := Nat.pow_le_pow_right (n := 2) (by omega) hk
def allTo (ids : List Int) (l : List (Nat × Nat)) (owed : List Int) (S k : Nat) : List (List Pay) := (List.range S).filterMap fun s => if (pick l s).length = k then treeR ids (pick l s) owed else none
def allR (f : Flo) (k : Nat) : List (List Pay) := allTo f.ids (prR (spk f) f.ids.length f.ids.length) (owed8 f) (2 ^ (prR (spk f) f.ids.length f.ids.length).length) k
end Go.Proofs.YtihonljdanjfmaaGreatDoor.Sw
namespace Go.Proofs.YtihonljdanjfmaaGreatDoor.Sw
open Go.RowKit Go Go.Shelf Go.Proofs
open Go.Proofs.YtihonljdanjfmaaGreatDoor.Gr (treeR pick Ok treeR_iff payE amt lf Zr)
theorem tree_pays {ids : List Int} {L : List (Nat × Nat)} {owed : List Int} {out : List Pay} {c : Int} (hok : Ok ids.length L) (hlen : owed.length = ids.length) (hc : 0 ≤ c) (hb : Btw (-c) c owed) (h : treeR ids L owed = some out) : out.length = L.length ∧ ∀ x ∈ out, 1 ≤ x.p ∧ x.p ≤ ids.length * c := by
 obtain ⟨hf, hz, hm, _, hp⟩ := (treeR_iff hok hlen).1 h
 refine ⟨by rw [hp.length_eq, List.length_map], fun x hx => ?_⟩
 obtain ⟨e, he, rfl⟩ := List.mem_map.1 (hp.mem_iff.1 hx)
 have h0 := hm e he
 have hbb : ∀ v, v < ids.length → -c ≤ lf owed v ∧ lf owed v ≤ c := fun v hv => by
  have hv' : v < owed.length := by omega
  rw [lf_at hv']; exact hb.at hv'
 obtain ⟨Q, hQ⟩ := Gr.side_of hf he (.inr ⟨rfl, rfl⟩ : Gr.Ends e e.2 e.1)
 have ha := Gr.amt_side hok.nd hz hQ
 have hs := sumP_bound hc hbb Q
 rw [← ha] at hs
 unfold payE
 split
 ·dsimp only; omega
 ·dsimp only; omega
theorem allTo_pays {ids : List Int} {l : List (Nat × Nat)} {owed : List Int} {c : Int} (hok : Ok ids.length l) (hlen : owed.length = ids.length) (hc : 0 ≤ c) (hb : Btw (-c) c owed) {S k : Nat} {out : List Pay} (h : out ∈ allTo ids l owed S k) : out.length = k ∧ ∀ x ∈ out, 1 ≤ x.p ∧ x.p ≤ ids.length * c := by
 unfold allTo at h
 obtain ⟨s, _, hs⟩ := List.mem_filterMap.1 h
 split at hs
 ·rename_i hk
  have := tree_pays (hok.sub (Gr.pick_sub l s)) hlen hc hb hs
  rw [hk] at this
  exact this
 ·cases hs
def fewTo {α : Type} (g : Nat → List α) : Nat → List α
 | 0 => []
 | i + 1 => if (fewTo g i).isEmpty = true then g i else fewTo g i
def chS (c : Int) (l : List Pay) : Int := if c < 0 ∨ sumPay l < c then sumPay l else c
def chTo (g : Nat → List (List Pay)) : Nat → Int
 | 0 => -1
 | i + 1 => (g i).foldl chS (chTo g i)
def askR (f : Flo) : List (List Pay) × Int × Int :=
 if floOk f = true then (if (fewTo (allR f) 6).isEmpty = true then ([], 0, 8) else (fewTo (allR f) 6, chTo (allR f) 6, 0)) else ([], 0, 80)
end Go.Proofs.YtihonljdanjfmaaGreatDoor.Sw
namespace Go.Proofs.YtihonljdanjfmaaGreatDoor.Sw
open Go.RowKit Go Go.Shelf Go.Proofs
def greatF (f : Flo) : Bool := decide ((10 : Int) < f.ids.length) || decide ((20 : Int) < f.qs.length) || decide ((16 : Int) < f.bs.length) || decide ((20 : Int) < f.ps.length) || f.bs.any fun b => decide ((10 : Int) < b.st.length)
theorem sml_of {f : Flo} (h : greatF f = false) : f.ids.length ≤ 10 ∧ f.qs.length ≤ 20 ∧ f.bs.length ≤ 16 ∧ f.ps.length ≤ 20 ∧ ∀ b ∈ f.bs, b.st.length ≤ 10 := by
 simp [greatF] at h
 exact ⟨by omega, by omega, by omega, by omega, fun b hb => by have := h.2 b hb; omega⟩
theorem great8_con (f : Flo) : Con Tryz.prog 53 [.agg (flC f)] [] (Is (.val (.bool (greatF f))) []) := by
 refine con_of Tryz.func53 rfl (enters_of Tryz.func53 (by kernel_rfl) rfl) rfl ?_; intro n w0 F0 G0
 refine zS ?_;repeat(refine yA ?_;intro p hp;refine zS ?_)
 refine wl_part rfl rfl (fun g1 => ?_) (fun g1 => ?_)
 ·refine zS ?_;repeat(refine yA ?_;intro p hp;refine zS ?_)
  (apply res1; exact rfl; exact rfl; exact ⟨(congrArg (fun b => AV.val (Value.bool b)) (by simp at g1; simp [greatF, g1])), rfl⟩)
 ·refine zS ?_;repeat(refine yA ?_;intro p hp;refine zS ?_)
  refine wl_part rfl rfl (fun g2 => ?_) (fun g2 => ?_)
  ·refine zS ?_;repeat(refine yA ?_;intro p hp;refine zS ?_)
   (apply res1; exact rfl; exact rfl; exact ⟨(congrArg (fun b => AV.val (Value.bool b)) (by simp at g2; simp [greatF, g2])), rfl⟩)
  ·refine zS ?_;repeat(refine yA ?_;intro p hp;refine zS ?_)
   refine wl_part rfl rfl (fun g3 => ?_) (fun g3 => ?_)
   ·refine zS ?_;repeat(refine yA ?_;intro p hp;refine zS ?_)
    (apply res1; exact rfl; exact rfl; exact ⟨(congrArg (fun b => AV.val (Value.bool b)) (by simp at g3; simp [greatF, g3])), rfl⟩)
   ·refine zS ?_;repeat(refine yA ?_;intro p hp;refine zS ?_)
    refine w_cond rfl (fun g4 => ?_) (fun g4 => ?_)
    ·refine zS ?_;repeat(refine yA ?_;intro p hp;refine zS ?_)
     (apply res1; exact rfl; exact rfl; exact ⟨(congrArg (fun b => AV.val (Value.bool b)) (by simp at g4; simp [greatF, g4])), rfl⟩)
    ·have hW : greatF f = f.bs.any fun b => decide ((10 : Int) < b.st.length) := by unfold greatF; rw [g1, g2, g3, g4]; simp
     have hbl : f.bs.length ≤ 16 := by simp at g3; omega
     rw [hW]
     refine zS ?_;repeat(refine yA ?_;intro p hp;refine zS ?_)
     refine W_loopJ (fun (k : Nat) => ⟨[(28, .sl 4 biC f.bs), (29, .val (.int .i64 f.bs.length)), (30, .val (.int .i64 k))], []⟩) (fun k => k ≤ f.bs.length ∧ (f.bs.take k).any (fun b => decide ((10 : Int) < b.st.length)) = false) (fun k => f.bs.length - k) 0 (fun _ _ st => st_sub2 st zR zP) ?hj0 ?round
     case hj0 => simp
     case round =>
      rintro k ⟨hk, hno⟩
      refine zS ?_;repeat(refine yA ?_;intro p hp;refine zS ?_)
      refine w_cond rfl (fun hlt => ?_) (fun hlt => ?_)
      ·have hlt' : k < f.bs.length := by simpa using hlt
       have htk : f.bs.take (k + 1) = f.bs.take k ++ [f.bs[k]] := List.take_succ_eq_append_getElem hlt'
       refine zS ?_;repeat(refine yA ?_;intro p hp;refine zS ?_)
       refine w_cond rfl (fun hg => ?_) (fun hg => ?_)
       ·refine zS ?_;repeat(refine yA ?_;intro p hp;refine zS ?_)
        have : f.bs.any (fun b => decide ((10 : Int) < b.st.length)) = true := List.any_eq_true.2 ⟨_, List.getElem_mem hlt', hg⟩
        (apply res1; exact rfl; exact rfl; exact ⟨(congrArg (fun b => AV.val (Value.bool b)) (by rw [this])), rfl⟩)
       ·refine zS ?_;repeat(refine yA ?_;intro p hp;refine zS ?_)
        (refine ⟨k + 1, fun _ _ st => st_sub2 st ?_ ?_, ?_, ?_⟩; exact zR; exact zP)
        ·exact ⟨by omega, by rw [htk, List.any_append, hno]; simpa using hg⟩
        ·omega
      ·refine zS ?_;repeat(refine yA ?_;intro p hp;refine zS ?_)
       have hkk : k = f.bs.length := by simp at hlt; omega
       subst hkk
       rw [List.take_length] at hno
       (apply res1; exact rfl; exact rfl; exact ⟨(congrArg (fun b => AV.val (Value.bool b)) hno.symm), rfl⟩)
theorem sameInts_con (xs ys : List Int) (hl : xs.length ≤ 1000000) (hl2 : ys.length ≤ 1000000) : Con Tryz.prog 113 [.sl 1 iC xs, .sl 1 iC ys] [] (Is (.val (.bool (decide (xs = ys)))) []) := by
 refine con_of Tryz.func113 rfl (enters_of Tryz.func113 (by kernel_rfl) rfl) rfl ?_; intro n w0 F0 G0
 refine zS ?_
 refine w_cond rfl (fun hne => ?_) (fun hne => ?_)
 ·have hne' : xs ≠ ys := by intro e; rw [e] at hne; simp at hne
  refine zS ?_
  (apply res1; exact rfl; exact rfl; exact ⟨(congrArg (fun b => AV.val (Value.bool b)) (by simp [hne'])), rfl⟩)
 ·have hlen : xs.length = ys.length := by simp at hne; omega
  refine zS ?_
  refine W_loopJ (fun (k : Nat) => ⟨[(0, .sl 1 iC xs), (1, .sl 1 iC ys), (5, .val (.int .i64 k))], []⟩) (fun k => k ≤ xs.length ∧ xs.take k = ys.take k) (fun k => xs.length - k) 0 (fun _ _ st => st_sub2 st zR zP) ?hj0 ?round
  case hj0 => simp
  case round =>
   rintro k ⟨hk, hall⟩
   refine zS ?_
   refine w_cond rfl (fun hlt => ?_) (fun hlt => ?_)
   ·have hlt' : k < xs.length := by simpa using hlt
    have hlt2 : k < ys.length := by omega
    have hq1 : xs[k]? = some xs[k] := List.getElem?_eq_getElem hlt'
    have hq2 : ys[k]? = some ys[k] := List.getElem?_eq_getElem hlt2
    refine zS ?_
    refine W_run 8 [17, 18, 19, 20, 21, 22, 23, 24] [0, 1, 2, 3, 4, 5, 6, 7] Cut.nil rfl goFlt mixedS (by kernel_rfl) rfl ?_
    refine rpv [] [] ?_
    refine rpv [] [] ?_
    refine rpv [0, 1] [] ?_
    refine rpv [2] [] ?_
    refine rpv [] [] ?_
    refine rpv [] [] ?_
    refine rpv [4, 5] [] ?_
    refine rpv [6] [] ?_
    refine ⟨⟨by kernel_rfl, by kernel_rfl⟩, fun vs => ?_⟩
    apply WL_auto [3, 7]
    ·exact goPk
    ·exact goNrm
    ·kernel_rfl
    ·kernel_rfl
    refine zS ?_
    refine w_cond rfl (fun hg => ?_) (fun hg => ?_)
    ·have hne' : xs ≠ ys := by intro e; subst e; simp at hg
     refine zS ?_
     (apply res1; exact rfl; exact rfl; exact ⟨(congrArg (fun b => AV.val (Value.bool b)) (by simp [hne'])), rfl⟩)
    ·refine zS ?_
     (refine ⟨k + 1, fun _ _ st => st_sub2 st ?_ ?_, ?_, ?_⟩; exact zR; exact zP)
     ·refine ⟨by omega, ?_⟩
      rw [List.take_succ_eq_append_getElem hlt', List.take_succ_eq_append_getElem hlt2, hall]
      simp at hg; rw [hg]
     ·omega
   ·refine zS ?_
    have hkk : k = xs.length := by simp at hlt; omega
    have he : xs = ys := by
     rw [List.take_of_length_le (by omega), List.take_of_length_le (by omega)] at hall; exact hall
    (apply res1; exact rfl; exact rfl; exact ⟨(congrArg (fun b => AV.val (Value.bool b)) (by simp [he])), rfl⟩)
theorem sameInts7_con (xs ys : List Int) (hl : xs.length ≤ 1000000) (hl2 : ys.length ≤ 1000000) : Con Tryz.prog 68 [.sl 1 iC xs, .sl 1 iC ys] [] (Is (.val (.bool (decide (xs = ys)))) []) := by
 refine con_of Tryz.func68 rfl (enters_of Tryz.func68 (by kernel_rfl) rfl) rfl ?_; intro n w0 F0 G0
 refine zS ?_
 (first | (apply wl_call (sameInts_con _ _ hl hl2); exact rfl; exact rfl) | (apply wl_callR (sameInts_con _ _ hl hl2); exact rfl; exact zM; exact rfl))
 refine zS ?_
 (apply res1; exact rfl; exact rfl; exact ⟨rfl, rfl⟩)
theorem sameInts8_con (xs ys : List Int) (hl : xs.length ≤ 1000000) (hl2 : ys.length ≤ 1000000) : Con Tryz.prog 25 [.sl 1 iC xs, .sl 1 iC ys] [] (Is (.val (.bool (decide (xs = ys)))) []) := by
 refine con_of Tryz.func25 rfl (enters_of Tryz.func25 (by kernel_rfl) rfl) rfl ?_; intro n w0 F0 G0
 refine zS ?_
 (first | (apply wl_call (sameInts7_con _ _ hl hl2); exact rfl; exact rfl) | (apply wl_callR (sameInts7_con _ _ hl hl2); exact rfl; exact zM; exact rfl))
 refine zS ?_
 (apply res1; exact rfl; exact rfl; exact ⟨rfl, rfl⟩)
theorem payNe (x y : Pay) : (!decide ([x.a, x.b, x.p] = [y.a, y.b, y.p])) = !decide (x = y) := by
 congr 1
 refine decide_eq_decide.2 ?_
 cases x; cases y; simp
theorem samePays_con (xs ys : List Pay) (hl : xs.length ≤ 1000000) (hl2 : ys.length ≤ 1000000) : Con Tryz.prog 33 [.sl 3 payC xs, .sl 3 payC ys] [] (Is (.val (.bool (decide (xs = ys)))) []) := by
 refine con_of Tryz.func33 rfl (enters_of Tryz.func33 (by kernel_rfl) rfl) rfl ?_; intro n w0 F0 G0
 refine zS ?_
 refine w_cond rfl (fun hne => ?_) (fun hne => ?_)
 ·have hne' : xs ≠ ys := by intro e; rw [e] at hne; simp at hne
  refine zS ?_
  (apply res1; exact rfl; exact rfl; exact ⟨(congrArg (fun b => AV.val (Value.bool b)) (by simp [hne'])), rfl⟩)
 ·have hlen : xs.length = ys.length := by simp at hne; omega
  refine zS ?_
  refine W_loopJ (fun (k : Nat) => ⟨[(0, .sl 3 payC xs), (1, .sl 3 payC ys), (5, .val (.int .i64 k))], []⟩) (fun k => k ≤ xs.length ∧ xs.take k = ys.take k) (fun k => xs.length - k) 0 (fun _ _ st => st_sub2 st zR zP) ?hj0 ?round
  case hj0 => simp
  case round =>
   rintro k ⟨hk, hall⟩
   refine zS ?_
   refine w_cond rfl (fun hlt => ?_) (fun hlt => ?_)
   ·have hlt' : k < xs.length := by simpa using hlt
    have hlt2 : k < ys.length := by omega
    have hq1 : xs[k]? = some xs[k] := List.getElem?_eq_getElem hlt'
    have hq2 : ys[k]? = some ys[k] := List.getElem?_eq_getElem hlt2
    refine zS ?_
    refine W_run 8 [17, 18, 19, 20, 21, 22, 23, 24] [0, 1, 2, 3, 4, 5, 6, 7] Cut.nil rfl goFlt mixedS (by kernel_rfl) rfl ?_
    refine rpv [] [] ?_
    refine rpv [] [] ?_
    refine rpv [0, 1] [] ?_
    refine rpv [2] [] ?_
    refine rpv [] [] ?_
    refine rpv [] [] ?_
    refine rpv [4, 5] [] ?_
    refine rpv [6] [] ?_
    refine ⟨⟨by kernel_rfl, by kernel_rfl⟩, fun vs => ?_⟩
    apply WL_auto [3, 7]
    ·exact goPk
    ·exact goNrm
    ·kernel_rfl
    ·kernel_rfl
    refine zS ?_
    rw [payNe]
    refine w_cond rfl (fun hg => ?_) (fun hg => ?_)
    ·have hne' : xs ≠ ys := by intro e; subst e; simp at hg
     refine zS ?_
     (apply res1; exact rfl; exact rfl; exact ⟨(congrArg (fun b => AV.val (Value.bool b)) (by simp [hne'])), rfl⟩)
    ·refine zS ?_
     (refine ⟨k + 1, fun _ _ st => st_sub2 st ?_ ?_, ?_, ?_⟩; exact zR; exact zP)
     ·refine ⟨by omega, ?_⟩
      rw [List.take_succ_eq_append_getElem hlt', List.take_succ_eq_append_getElem hlt2, hall]
      simp at hg; rw [hg]
     ·omega
   ·refine zS ?_
    have hkk : k = xs.length := by simp at hlt; omega
    have he : xs = ys := by
     rw [List.take_of_length_le (by omega), List.take_of_length_le (by omega)] at hall; exact hall
    (apply res1; exact rfl; exact rfl; exact ⟨(congrArg (fun b => AV.val (Value.bool b)) (by simp [he])), rfl⟩)
theorem sml_small {f : Flo} (h : greatF f = false) : Sml f := by
 obtain ⟨h1, h2, h3, h4, h5⟩ := sml_of h
 exact ⟨by omega, by omega, by omega, by omega, fun b hb => by have := h5 b hb; omega⟩
end Go.Proofs.YtihonljdanjfmaaGreatDoor.Sw
namespace Go.Proofs.YtihonljdanjfmaaGreatDoor.Sw
open Go.RowKit Go Go.Shelf Go.Proofs
open Go.Proofs.YtihonljdanjfmaaGreatDoor.Gr (treeR pick Zr lf)
theorem cl_same {L M : List (Nat × Nat)} (h : ∀ p, p ∈ M → p ∈ L) {P : Nat → Bool} (k : Gr.Cl L P) : Gr.Cl M P := fun p hp => k p (h p hp)
theorem zr_same {n : Nat} {L M : List (Nat × Nat)} {x : Nat → Int} (h : ∀ p, p ∈ L ↔ p ∈ M) : Zr n L x ↔ Zr n M x :=
 ⟨fun k P hP => k P (cl_same (fun p hp => (h p).1 hp) hP), fun k P hP => k P (cl_same (fun p hp => (h p).2 hp) hP)⟩
theorem fewTo_nil {α : Type} {g : Nat → List α} : ∀ {m : Nat}, fewTo g m = [] ↔ ∀ k, k < m → g k = []
 | 0 => by simp [fewTo]
 | m + 1 => by
  have ih := fewTo_nil (g := g) (m := m)
  rw [fewTo]
  cases h : fewTo g m with
  | nil =>
   rw [if_pos (by rfl)]
   constructor
   ·intro e k hk
    by_cases hkm : k = m
    ·rw [hkm]; exact e
    ·exact ih.1 h k (by omega)
   ·intro h2; exact h2 m (by omega)
  | cons x t =>
   rw [if_neg (by simp)]
   constructor
   ·intro e; cases e
   ·intro h2
    have := ih.2 fun k hk => h2 k (by omega)
    rw [h] at this; exact this
end Go.Proofs.YtihonljdanjfmaaGreatDoor.Sw
namespace Go.Proofs.YtihonljdanjfmaaGreatDoor.Sw
open Go.RowKit Go Go.Shelf Go.Proofs
open Go.Proofs.YtihonljdanjfmaaGreatDoor.Gr (behR behS Ok Ord Forest Zr lf Ends amt payE)
theorem beh_bound {n : Nat} {x : Nat → Int} {L : List (Nat × Nat)} (hn : n ≤ 10) (hok : Ok n L) (ho : Ord L) (hf : Forest L) (hz : Zr n L x) (hb : ∀ v, v < n → -1000000000 ≤ x v ∧ x v ≤ 1000000000) {m a fr : Nat} (hg : Gr.Good n L m a fr) : -10000000000 ≤ behR x L m a fr ∧ behR x L m a fr ≤ 10000000000 := by
 obtain ⟨e, he, hio, _⟩ := hg.go
 obtain ⟨Q, _, h2⟩ := Gr.beh_sum hok ho hf hz m a fr e he hio hg
 have := sumP_bound (by omega) hb Q
 rw [h2]
 omega
theorem behR_succ (x : Nat → Int) (L : List (Nat × Nat)) (m a fr : Nat) : behR x L (m + 1) a fr = L.foldl (behS a fr fun b => behR x L m b a) (x a) := rfl
theorem behind_con (ph ow : Value) (f : Flo) (cu : List Int) (L : List (Nat × Nat)) (hn : f.ids.length ≤ 10) (hl : L.length ≤ 10) (hcl : cu.length = f.ids.length) (hbt : Btw (-1000000000) 1000000000 cu)
  (hok : Ok f.ids.length L) (ho : Ord L) (hf : Forest L) (hz : Zr f.ids.length L (lf cu)) : ∀ (m a fr : Nat), Gr.Good f.ids.length L m a fr → Con Tryz.prog 140 [.val ph, .sl 2 pnC L, .val (.int .i64 a), .val (.int .i64 fr)] [hsB ph f ow, .row ow 3 1 iC cu] (Is (.val (.int .i64 (behR (lf cu) L m a fr))) [hsB ph f ow, .row ow 3 1 iC cu]) := by
 have hbb : ∀ v, v < f.ids.length → -1000000000 ≤ lf cu v ∧ lf cu v ≤ 1000000000 := fun v hv => by
  have hv' : v < cu.length := by omega
  rw [lf_at hv']; exact hbt.at hv'
 intro m
 induction m with
 | zero => intro a fr hg; exact absurd (Gr.good_pos hok hg).1 (Nat.lt_irrefl _)
 | succ m ih =>
  intro a fr hg
  obtain ⟨_, han, hfn⟩ := Gr.good_pos hok hg
  have hac : a < cu.length := by omega
  have hxa := hbt.at hac
  rw [behR_succ, lf_at hac]
  refine con_of Tryz.func140 rfl (enters_of Tryz.func140 (by kernel_rfl) rfl) rfl ?_; intro n w0 F0 G0
  refine zS ?_;repeat(refine yA ?_;intro p hp;refine zS ?_)
  refine W_loopJ (fun (b : Nat × Int) => ⟨[(0, .val ph), (1, .sl 2 pnC L), (2, .val (.int .i64 a)), (3, .val (.int .i64 fr)), (22, .sl 2 pnC L), (23, .val (.int .i64 L.length)), (24, .val (.int .i64 b.1)), (9, .val (.int .i64 b.2))], [hsB ph f ow, .row ow 3 1 iC cu]⟩) (fun b => b.1 ≤ L.length ∧ b.2 = (L.take b.1).foldl (behS a fr fun b => behR (lf cu) L m b a) cu[a] ∧ -(1000000000 + 20000000000 * b.1) ≤ b.2 ∧ b.2 ≤ 1000000000 + 20000000000 * b.1) (fun b => L.length - b.1) (0, cu[a]) (fun _ _ st => st_sub2 st zR zP) ⟨Nat.zero_le _, rfl, by dsimp only; omega, by dsimp only; omega⟩ ?_
  rintro ⟨j, acc⟩ ⟨hj, hacc, hlo, hhi⟩
  dsimp only at hj hacc hlo hhi ⊢
  refine zS ?_;repeat(refine yA ?_;intro p hp;refine zS ?_)
  refine w_cond rfl (fun hlt => ?_) (fun hlt => ?_)
  ·have hj' : j < L.length := by simpa using hlt
   have hpL := List.getElem_mem hj'
   have hst : (L.take (j + 1)).foldl (behS a fr fun b => behR (lf cu) L m b a) cu[a] = behS a fr (fun b => behR (lf cu) L m b a) acc L[j] := by rw [List.take_succ_eq_append_getElem hj', List.foldl_append, ← hacc]; rfl
   have hp := hok.lt _ hpL
   have g1 : L[j].1 = a → L[j].2 ≠ fr → Gr.Good f.ids.length L m L[j].2 a := fun h1 h2 => Gr.good_step hok ho hf hg hpL (.inl ⟨h1, rfl⟩) h2
   have g2 : L[j].2 = a → L[j].1 ≠ fr → Gr.Good f.ids.length L m L[j].1 a := fun h1 h2 => Gr.good_step hok ho hf hg hpL (.inr ⟨rfl, h1⟩) h2
   have fin : ∀ acc', (L.take (j + 1)).foldl (behS a fr fun b => behR (lf cu) L m b a) cu[a] = acc' → -20000000000 ≤ acc' - acc → acc' - acc ≤ 20000000000 → j + 1 ≤ L.length ∧ acc' = (L.take (j + 1)).foldl (behS a fr fun b => behR (lf cu) L m b a) cu[a] ∧ -(1000000000 + 20000000000 * ((j + 1 : Nat) : Int)) ≤ acc' ∧ acc' ≤ 1000000000 + 20000000000 * ((j + 1 : Nat) : Int) := fun acc' h1 h2 h3 => ⟨hj', h1.symm, by omega, by omega⟩
   have hst : (L.take (j + 1)).foldl (behS a fr fun b => behR (lf cu) L m b a) cu[a] = if L[j].2 = a ∧ L[j].1 ≠ fr then (if L[j].1 = a ∧ L[j].2 ≠ fr then acc + behR (lf cu) L m L[j].2 a else acc) + behR (lf cu) L m L[j].1 a else (if L[j].1 = a ∧ L[j].2 ≠ fr then acc + behR (lf cu) L m L[j].2 a else acc) := hst
   refine zS ?_;repeat(refine yA ?_;intro p hp;refine zS ?_)
   generalize L[j] = e at *
   refine W_rounds 3 ?_
   refine WR_step ?_
   refine zS ?_;repeat(refine yA ?_;intro p hp;refine zS ?_)
   (apply wl_indexV1 (e := 3); exact Tryz.underlying122; exact rfl; exact rfl; exact (rfl : (0 : Int) = ((0 : Nat) : Int)); decide; exact rfl; exact rfl)
   refine zS ?_;repeat(refine yA ?_;intro p hp;refine zS ?_)
   refine wl_part rfl rfl (fun c1 => ?_) (fun c1 => ?_)
   ·have c1' : e.1 = a := by simp at c1; omega
    have c3n : ¬ (e.2 = a ∧ e.1 ≠ fr) := fun h => by omega
    refine zS ?_;repeat(refine yA ?_;intro p hp;refine zS ?_)
    refine w_cond rfl (fun c2 => ?_) (fun c2 => ?_)
    ·have c2' : e.2 ≠ fr := by simp at c2; omega
     rw [if_pos (show e.1 = a ∧ e.2 ≠ fr from ⟨c1', c2'⟩), if_neg c3n] at hst
     have hbd := beh_bound hn hok ho hf hz hbb (g1 c1' c2')
     refine zS ?_;repeat(refine yA ?_;intro p hp;refine zS ?_)
     (apply wl_callP (ih e.2 a (g1 c1' c2')); exact rfl; exact yC; exact rfl)
     rintro _ _ ⟨rfl, rfl⟩
     refine zS ?_;repeat(refine yA ?_;intro p hp;refine zS ?_)
     (apply wl_indexV1 (e := 3); exact Tryz.underlying122; exact rfl; exact rfl; exact (rfl : (0 + 1 : Int) = ((1 : Nat) : Int)); decide; exact rfl; exact rfl)
     refine zS ?_;repeat(refine yA ?_;intro p hp;refine zS ?_)
     refine wl_part rfl rfl (fun c3 => ?_) (fun c3 => ?_)
     ·exfalso; simp at c3; omega
     ·refine zS ?_;repeat(refine yA ?_;intro p hp;refine zS ?_)
      (refine ⟨(j + 1, acc + behR (lf cu) L m e.2 a), fun _ _ st => st_sub2 st ?_ ?_, ?_, ?_⟩; exact zR; exact zP)
      ·exact fin _ hst (by omega) (by omega)
      ·dsimp only; omega
    ·have c2' : ¬ (e.1 = a ∧ e.2 ≠ fr) := fun h => by simp at c2; omega
     rw [if_neg c2', if_neg c3n] at hst
     refine zS ?_;repeat(refine yA ?_;intro p hp;refine zS ?_)
     (apply wl_indexV1 (e := 3); exact Tryz.underlying122; exact rfl; exact rfl; exact (rfl : (0 + 1 : Int) = ((1 : Nat) : Int)); decide; exact rfl; exact rfl)
     refine zS ?_;repeat(refine yA ?_;intro p hp;refine zS ?_)
     refine wl_part rfl rfl (fun c3 => ?_) (fun c3 => ?_)
     ·exfalso; simp at c3; omega
     ·refine zS ?_;repeat(refine yA ?_;intro p hp;refine zS ?_)
      (refine ⟨(j + 1, acc), fun _ _ st => st_sub2 st ?_ ?_, ?_, ?_⟩; exact zR; exact zP)
      ·exact fin _ hst (by omega) (by omega)
      ·dsimp only; omega
   ·have c1' : ¬ (e.1 = a ∧ e.2 ≠ fr) := fun h => by simp at c1; omega
    rw [if_neg c1'] at hst
    refine zS ?_;repeat(refine yA ?_;intro p hp;refine zS ?_)
    (apply wl_indexV1 (e := 3); exact Tryz.underlying122; exact rfl; exact rfl; exact (rfl : (0 + 1 : Int) = ((1 : Nat) : Int)); decide; exact rfl; exact rfl)
    refine zS ?_;repeat(refine yA ?_;intro p hp;refine zS ?_)
    refine wl_part rfl rfl (fun c3 => ?_) (fun c3 => ?_)
    ·have c3' : e.2 = a := by simp at c3; omega
     refine zS ?_;repeat(refine yA ?_;intro p hp;refine zS ?_)
     refine w_cond rfl (fun c4 => ?_) (fun c4 => ?_)
     ·have c4' : e.1 ≠ fr := by simp at c4; omega
      rw [if_pos (show e.2 = a ∧ e.1 ≠ fr from ⟨c3', c4'⟩)] at hst
      have hbd := beh_bound hn hok ho hf hz hbb (g2 c3' c4')
      refine zS ?_;repeat(refine yA ?_;intro p hp;refine zS ?_)
      (apply wl_callP (ih e.1 a (g2 c3' c4')); exact rfl; exact yC; exact rfl)
      rintro _ _ ⟨rfl, rfl⟩
      refine zS ?_;repeat(refine yA ?_;intro p hp;refine zS ?_)
      (refine ⟨(j + 1, acc + behR (lf cu) L m e.1 a), fun _ _ st => st_sub2 st ?_ ?_, ?_, ?_⟩; exact zR; exact zP)
      ·exact fin _ hst (by omega) (by omega)
      ·dsimp only; omega
     ·have c4' : ¬ (e.2 = a ∧ e.1 ≠ fr) := fun h => by simp at c4; omega
      rw [if_neg c4'] at hst
      refine zS ?_;repeat(refine yA ?_;intro p hp;refine zS ?_)
      (refine ⟨(j + 1, acc), fun _ _ st => st_sub2 st ?_ ?_, ?_, ?_⟩; exact zR; exact zP)
      ·exact fin _ hst (by omega) (by omega)
      ·dsimp only; omega
    ·have c3' : ¬ (e.2 = a ∧ e.1 ≠ fr) := fun h => by simp at c3; omega
     rw [if_neg c3'] at hst
     refine zS ?_;repeat(refine yA ?_;intro p hp;refine zS ?_)
     (refine ⟨(j + 1, acc), fun _ _ st => st_sub2 st ?_ ?_, ?_, ?_⟩; exact zR; exact zP)
     ·exact fin _ hst (by omega) (by omega)
     ·dsimp only; omega
  ·have hjj : j = L.length := by simp at hlt; omega
   subst hjj
   rw [List.take_length] at hacc
   rw [← hacc]
   refine zS ?_;repeat(refine yA ?_;intro p hp;refine zS ?_)
   (apply resK1; exact rfl; exact rfl; exact ⟨rfl, rfl⟩; exact yC)
end Go.Proofs.YtihonljdanjfmaaGreatDoor.Sw
namespace Go.Proofs.YtihonljdanjfmaaGreatDoor.Sw
open Go.RowKit Go Go.Shelf Go.Proofs
theorem cloneI_con (xs : List Int) (hl : xs.length ≤ 100000) : Con Tryz.prog 130 [.sl 1 iC xs] [] (Tok 3 1 iC xs) := by
 refine con_of Tryz.func130 rfl (enters_of Tryz.func130 (by kernel_rfl) rfl) rfl ?_; intro n w0 F0 G0
 refine zS ?_
 apply wl_eqlNil
 ·exact rfl
 ·exact inferInstance
 ·exact rfl
 intro b hb
 refine zS ?_
 refine w_cond rfl (fun h => ?_) (fun h => ?_)
 ·obtain rfl := hb h
  refine zS ?_
  refine Res_row0 3 1 iC ?_
  (apply resK1; exact rfl; exact rfl; exact ⟨_, rfl, rfl⟩; exact yC)
 ·refine zS ?_
  (apply wl_lit iC; exact inferInstance; exact inferInstance; exact inferInstance; exact zE; exact rfl; (first | exact (of_decide_eq_true rfl) | decide | (simp; done) | (simp; omega)); exact rfl)
  intro v0
  refine zS ?_
  (first | (apply wl_append; exact rfl; exact rfl; exact zN; exact inferInstance; exact inferInstance; (first | omega | (simp; omega)); exact rfl) | (apply wl_appendN; exact rfl; exact rfl; exact inferInstance; exact inferInstance; (first | omega | (simp; omega)); exact rfl))
  intro v1
  rw [List.nil_append]
  refine zS ?_
  (apply resK1; exact rfl; exact rfl; exact ⟨_, rfl, rfl⟩; exact yC)
theorem cloneQ_con (xs : List Qu) (hl : xs.length ≤ 100000) : Con Tryz.prog 131 [.sl 2 quC xs] [] (Tok 87 2 quC xs) := by
 refine con_of Tryz.func131 rfl (enters_of Tryz.func131 (by kernel_rfl) rfl) rfl ?_; intro n w0 F0 G0
 refine zS ?_
 apply wl_eqlNil
 ·exact rfl
 ·exact inferInstance
 ·exact rfl
 intro b hb
 refine zS ?_
 refine w_cond rfl (fun h => ?_) (fun h => ?_)
 ·obtain rfl := hb h
  refine zS ?_
  refine Res_row0 87 2 quC ?_
  (apply resK1; exact rfl; exact rfl; exact ⟨_, rfl, rfl⟩; exact yC)
 ·refine zS ?_
  (apply wl_lit quC; exact inferInstance; exact inferInstance; exact inferInstance; exact zE; exact rfl; (first | exact (of_decide_eq_true rfl) | decide | (simp; done) | (simp; omega)); exact rfl)
  intro v0
  refine zS ?_
  (first | (apply wl_append; exact rfl; exact rfl; exact zN; exact inferInstance; exact inferInstance; (first | omega | (simp; omega)); exact rfl) | (apply wl_appendN; exact rfl; exact rfl; exact inferInstance; exact inferInstance; (first | omega | (simp; omega)); exact rfl))
  intro v1
  rw [List.nil_append]
  refine zS ?_
  (apply resK1; exact rfl; exact rfl; exact ⟨_, rfl, rfl⟩; exact yC)
theorem cloneB_con (xs : List Bil) (hl : xs.length ≤ 100000) : Con Tryz.prog 99 [.sl 4 biC xs] [] (Tok 49 4 biC xs) := by
 refine con_of Tryz.func99 rfl (enters_of Tryz.func99 (by kernel_rfl) rfl) rfl ?_; intro n w0 F0 G0
 refine zS ?_
 apply wl_eqlNil
 ·exact rfl
 ·exact inferInstance
 ·exact rfl
 intro b hb
 refine zS ?_
 refine w_cond rfl (fun h => ?_) (fun h => ?_)
 ·obtain rfl := hb h
  refine zS ?_
  refine Res_row0 49 4 biC ?_
  (apply resK1; exact rfl; exact rfl; exact ⟨_, rfl, rfl⟩; exact yC)
 ·refine zS ?_
  (apply wl_lit biC; exact inferInstance; exact inferInstance; exact inferInstance; exact zE; exact rfl; (first | exact (of_decide_eq_true rfl) | decide | (simp; done) | (simp; omega)); exact rfl)
  intro v0
  refine zS ?_
  (first | (apply wl_append; exact rfl; exact rfl; exact zN; exact inferInstance; exact inferInstance; (first | omega | (simp; omega)); exact rfl) | (apply wl_appendN; exact rfl; exact rfl; exact inferInstance; exact inferInstance; (first | omega | (simp; omega)); exact rfl))
  intro v1
  rw [List.nil_append]
  refine zS ?_
  (apply resK1; exact rfl; exact rfl; exact ⟨_, rfl, rfl⟩; exact yC)
theorem cloneP_con (xs : List Pay) (hl : xs.length ≤ 100000) : Con Tryz.prog 132 [.sl 3 payC xs] [] (Tok 42 3 payC xs) := by
 refine con_of Tryz.func132 rfl (enters_of Tryz.func132 (by kernel_rfl) rfl) rfl ?_; intro n w0 F0 G0
 refine zS ?_
 apply wl_eqlNil
 ·exact rfl
 ·exact inferInstance
 ·exact rfl
 intro b hb
 refine zS ?_
 refine w_cond rfl (fun h => ?_) (fun h => ?_)
 ·obtain rfl := hb h
  refine zS ?_
  refine Res_row0 42 3 payC ?_
  (apply resK1; exact rfl; exact rfl; exact ⟨_, rfl, rfl⟩; exact yC)
 ·refine zS ?_
  (apply wl_lit payC; exact inferInstance; exact inferInstance; exact inferInstance; exact zE; exact rfl; (first | exact (of_decide_eq_true rfl) | decide | (simp; done) | (simp; omega)); exact rfl)
  intro v0
  refine zS ?_
  (first | (apply wl_append; exact rfl; exact rfl; exact zN; exact inferInstance; exact inferInstance; (first | omega | (simp; omega)); exact rfl) | (apply wl_appendN; exact rfl; exact rfl; exact inferInstance; exact inferInstance; (first | omega | (simp; omega)); exact rfl))
  intro v1
  rw [List.nil_append]
  refine zS ?_
  (apply resK1; exact rfl; exact rfl; exact ⟨_, rfl, rfl⟩; exact yC)
theorem cloneS_con (xs : List Stk) (hl : xs.length ≤ 100000) : Con Tryz.prog 133 [.sl 2 stC xs] [] (Tok 52 2 stC xs) := by
 refine con_of Tryz.func133 rfl (enters_of Tryz.func133 (by kernel_rfl) rfl) rfl ?_; intro n w0 F0 G0
 refine zS ?_
 apply wl_eqlNil
 ·exact rfl
 ·exact inferInstance
 ·exact rfl
 intro b hb
 refine zS ?_
 refine w_cond rfl (fun h => ?_) (fun h => ?_)
 ·obtain rfl := hb h
  refine zS ?_
  refine Res_row0 52 2 stC ?_
  (apply resK1; exact rfl; exact rfl; exact ⟨_, rfl, rfl⟩; exact yC)
 ·refine zS ?_
  (apply wl_lit stC; exact inferInstance; exact inferInstance; exact inferInstance; exact zE; exact rfl; (first | exact (of_decide_eq_true rfl) | decide | (simp; done) | (simp; omega)); exact rfl)
  intro v0
  refine zS ?_
  (first | (apply wl_append; exact rfl; exact rfl; exact zN; exact inferInstance; exact inferInstance; (first | omega | (simp; omega)); exact rfl) | (apply wl_appendN; exact rfl; exact rfl; exact inferInstance; exact inferInstance; (first | omega | (simp; omega)); exact rfl))
  intro v1
  rw [List.nil_append]
  refine zS ?_
  (apply resK1; exact rfl; exact rfl; exact ⟨_, rfl, rfl⟩; exact yC)
def mbC (p : Bil × Option Value) : List AV := [.val (.int .i64 p.1.no), .val (.int .i64 p.1.py), .val (.int .i64 p.1.pe), match p.2 with | none => .sl 2 stC p.1.st | some u => .val u]
def mixL : List Bil → List Value → List (Bil × Option Value)
 | [], _ => []
 | x :: t, [] => (x, none) :: mixL t []
 | x :: t, u :: us => (x, some u) :: mixL t us
def stkR : List Bil → List Value → List HA
 | x :: t, u :: us => .row u 52 2 stC x.st :: stkR t us
 | _, _ => []
theorem mixL_nil : ∀ (l : List Bil), mixL l [] = l.map fun x => (x, none)
 | [] => rfl
 | x :: t => by rw [mixL, mixL_nil t]; rfl
theorem mixL_len : ∀ (l : List Bil) (us : List Value), (mixL l us).length = l.length
 | [], _ => rfl
 | x :: t, [] => by rw [mixL, List.length_cons, mixL_len t, List.length_cons]
 | x :: t, u :: us => by rw [mixL, List.length_cons, mixL_len t, List.length_cons]
theorem mixL_at : ∀ (l : List Bil) (us : List Value) (h : us.length < l.length), (mixL l us)[us.length]? = some (l[us.length], none)
 | x :: t, [], h => by rw [mixL]; rfl
 | x :: t, u :: us, h => by
  simp only [mixL, List.length_cons, List.getElem?_cons_succ, List.getElem_cons_succ]
  exact mixL_at t us (by simpa using h)
 | [], us, h => by simp at h
theorem mixL_set : ∀ (l : List Bil) (us : List Value) (h : us.length < l.length) (u : Value), (mixL l us).set us.length (l[us.length], some u) = mixL l (us ++ [u])
 | x :: t, [], h, u => rfl
 | x :: t, y :: us, h, u => by
  simp only [mixL, List.cons_append, List.length_cons, List.set_cons_succ, List.getElem_cons_succ]
  rw [mixL_set t us (by simpa using h) u]
 | [], us, h, u => by simp at h
theorem stkR_snoc : ∀ (l : List Bil) (us : List Value) (h : us.length < l.length) (u : Value), stkR l (us ++ [u]) = stkR l us ++ [.row u 52 2 stC l[us.length].st]
 | x :: t, [], h, u => by cases t <;> rfl
 | x :: t, y :: us, h, u => by
  simp only [stkR, List.cons_append, List.length_cons, List.getElem_cons_succ]
  rw [stkR_snoc t us (by simpa using h) u]
 | [], us, h, u => by simp at h
def floOwn (vi vq vb vp : Value) (f : Flo) : HA := .exs fun us : List Value => [.fact (us.length = f.bs.length), .row vi 3 1 iC f.ids, .row vq 87 2 quC f.qs, .row vb 49 4 mbC (mixL f.bs us), .row vp 42 3 payC f.ps, .pack (stkR f.bs us)]
theorem mixL_full : ∀ (l : List Bil) (us : List Value) (i : Nat) (h1 : i < (mixL l us).length) (h2 : i < l.length), ((mixL l us)[i]).1 = l[i] ∧ ∀ u, us[i]? = some u → ((mixL l us)[i]).2 = some u
 | [], _, i, _, h2 => by simp at h2
 | x :: t, [], 0, _, _ => ⟨rfl, fun u h => by simp at h⟩
 | x :: t, u :: us, 0, _, _ => ⟨rfl, fun u' h => by simpa [mixL] using h⟩
 | x :: t, [], i + 1, h1, h2 => by
  simp only [mixL, List.getElem_cons_succ]
  exact ⟨(mixL_full t [] i _ _).1, fun u h => by simp at h⟩
 | x :: t, u :: us, i + 1, h1, h2 => by
  have k := mixL_full t us i (by simpa [mixL] using h1) (by simpa using h2)
  simp only [mixL, List.getElem_cons_succ]
  exact ⟨k.1, fun u' h => k.2 u' (by simpa using h)⟩
theorem stk_view {G : Nat → Option Obj} {F : List Nat} {w : World} (hle : Gle G (gall G F w)) : ∀ (l : List Bil) (us : List Value) (F1 : List Nat), hsP (stkR l us) G F1 w → (∀ b ∈ F1, b ∈ F) → ∀ i (h : i < l.length) u, us[i]? = some u → (AV.sl 2 stC l[i].st).P (gall G F w) u
 | [], _, _, _, _, i, h, _, _ => by simp at h
 | x :: t, [], _, _, _, i, _, u, e => by simp at e
 | x :: t, y :: us, F1, ⟨A, B, ep, hA, hB⟩, hs, 0, _, u, e => by
  simp at e; subst e
  exact row_view1 hA (fun b hb => hs b (ep.mem_iff.2 (by simp [hb]))) hle
 | x :: t, y :: us, F1, ⟨A, B, ep, hA, hB⟩, hs, i + 1, h, u, e => by
  exact stk_view hle t us B hB (fun b hb => hs b (ep.mem_iff.2 (by simp [hb]))) i (by simpa using h) u (by simpa using e)
theorem flo_thaw (vi vq vb vp : Value) (f : Flo) : Thaw (floOwn vi vq vb vp f) (.agg [.val vi, .val vq, .val vb, .val vp]) (.agg (flC f)) := ⟨fun G F w h hle v hv => by
 obtain ⟨us, h⟩ := h
 obtain ⟨hlen, h⟩ := hsP.fact.1 h
 obtain ⟨A1, R1, e1, a1, A2, R2, e2, a2, A3, R3, e3, a3, A4, R4, e4, a4, A5, R5, e5, a5, hn⟩ := h
 have hR5 : R5 = [] := hn
 subst hR5
 have m1 : ∀ b ∈ A1, b ∈ F := fun b hb => e1.mem_iff.2 (by simp [hb])
 have n1 : ∀ b ∈ R1, b ∈ F := fun b hb => e1.mem_iff.2 (by simp [hb])
 have m2 : ∀ b ∈ A2, b ∈ F := fun b hb => n1 b (e2.mem_iff.2 (by simp [hb]))
 have n2 : ∀ b ∈ R2, b ∈ F := fun b hb => n1 b (e2.mem_iff.2 (by simp [hb]))
 have m3 : ∀ b ∈ A3, b ∈ F := fun b hb => n2 b (e3.mem_iff.2 (by simp [hb]))
 have n3 : ∀ b ∈ R3, b ∈ F := fun b hb => n2 b (e3.mem_iff.2 (by simp [hb]))
 have m4 : ∀ b ∈ A4, b ∈ F := fun b hb => n3 b (e4.mem_iff.2 (by simp [hb]))
 have n4 : ∀ b ∈ R4, b ∈ F := fun b hb => n3 b (e4.mem_iff.2 (by simp [hb]))
 have m5 : ∀ b ∈ A5, b ∈ F := fun b hb => n4 b (e5.mem_iff.2 (by simp [hb]))
 obtain ⟨vs, rfl, hf⟩ := hv
 match vs, hf with
 | [x0, x1, x2, x3], ⟨h0, h1, h2, h3, _⟩ =>
  have h0' : x0 = vi := h0
  have h1' : x1 = vq := h1
  have h2' : x2 = vb := h2
  have h3' : x3 = vp := h3
  subst h0' h1' h2' h3'
  refine ⟨_, rfl, show Fits _ [_, _, _, _] _ from ⟨row_view1 a1 m1 hle, row_view1 a2 m2 hle, ?_, row_view1 a4 m4 hle, trivial⟩⟩
  refine row_view a3 m3 (by rw [mixL_len]) fun i h1 h2 j av' ej => ?_
  obtain ⟨k1, k2⟩ := mixL_full f.bs us i h1 h2
  have hi : i < us.length := by omega
  have k3 := k2 us[i] (List.getElem?_eq_getElem hi)
  have hst := stk_view hle f.bs us A5 a5 m5 i h2 us[i] (List.getElem?_eq_getElem hi)
  match j, ej with
  | 0, ej => simp only [biC, List.getElem?_cons_zero, Option.some.injEq] at ej; subst ej; exact ⟨_, rfl, fun u hu => by rw [k1] at hu; exact hu⟩
  | 1, ej => simp only [biC, List.getElem?_cons_succ, List.getElem?_cons_zero, Option.some.injEq] at ej; subst ej; exact ⟨_, rfl, fun u hu => by rw [k1] at hu; exact hu⟩
  | 2, ej => simp only [biC, List.getElem?_cons_succ, List.getElem?_cons_zero, Option.some.injEq] at ej; subst ej; exact ⟨_, rfl, fun u hu => by rw [k1] at hu; exact hu⟩
  | 3, ej =>
   simp only [biC, List.getElem?_cons_succ, List.getElem?_cons_zero, Option.some.injEq] at ej; subst ej
   refine ⟨_, rfl, fun u hu => ?_⟩
   rw [k3] at hu
   have hu' : u = us[i] := hu
   rw [hu']; exact hst
  | j + 4, ej => simp [biC] at ej⟩
def CopP (f : Flo) : AV → List HA → Prop := fun x y => ∃ vi vq vb vp, (One (.val vi) ∧ One (.val vq) ∧ One (.val vb) ∧ One (.val vp)) ∧ x = .agg [.val vi, .val vq, .val vb, .val vp] ∧ y = [floOwn vi vq vb vp f]
theorem copied_con (f : Flo) (hS : Sml f) : Con Tryz.prog 85 [.agg (flC f)] [] (CopP f) := by
 have hidsl := hS.ids
 have hqsl := hS.qs
 have hbsl := hS.bs
 have hpsl := hS.ps
 refine con_of Tryz.func85 rfl (enters_of Tryz.func85 (by kernel_rfl) rfl) rfl ?_; intro n w0 F0 G0
 refine zS ?_;repeat(refine yA ?_;intro p hp;refine zS ?_)
 rename_i pf hpf
 refine W_run 13 [4, 5, 6, 7, 8, 9, 10, 11, 12, 13, 14, 15, 16] [0, 1, 2, 3, 4, 5, 6, 7, 8, 9, 10, 11, 12] Cut.nil rfl goFlt mixedS (by kernel_rfl) rfl ?_
 refine rpv [] [] ?_
 refine rpv [0] [] ?_
 refine Run.tok [1] [] rfl (fun vs => by apply ltr_pk; exact goPk; (refine ltr ?_; refine lt_call ?_ (cloneI_con f.ids (by omega)); exact rfl)) goApp ?_
 refine rpv [] [] ?_
 refine rpv [3] [] ?_
 refine Run.tok [4] [] rfl (fun vs => by apply ltr_pk; exact goPk; (refine ltr ?_; refine lt_call ?_ (cloneQ_con f.qs (by omega)); exact rfl)) goApp ?_
 refine rpv [] [] ?_
 refine rpv [6] [] ?_
 refine Run.tok [7] [] rfl (fun vs => by apply ltr_pk; exact goPk; (refine ltr ?_; refine lt_call ?_ (cloneB_con f.bs (by omega)); exact rfl)) goApp ?_
 refine rpv [] [] ?_
 refine rpv [9] [] ?_
 refine Run.tok [10] [] rfl (fun vs => by apply ltr_pk; exact goPk; (refine ltr ?_; refine lt_call ?_ (cloneP_con f.ps (by omega)); exact rfl)) goApp ?_
 refine rpv [] [] ?_
 refine ⟨⟨by kernel_rfl, by kernel_rfl⟩, fun vs => ?_⟩
 apply WL_auto [2, 5, 8, 11, 12]
 ·exact goPk
 ·exact goNrm
 ·kernel_rfl
 ·kernel_rfl
 generalize vs 2 = vi
 generalize vs 5 = vq
 generalize vs 8 = vb
 generalize vs 11 = vp
 refine WL_one (v := vi) (by repeat (first | exact At.here | apply At.there)) (fun one1 => ?_)
 refine WL_one (v := vq) (by repeat (first | exact At.here | apply At.there)) (fun one2 => ?_)
 refine WL_one (v := vb) (by repeat (first | exact At.here | apply At.there)) (fun one3 => ?_)
 refine WL_one (v := vp) (by repeat (first | exact At.here | apply At.there)) (fun one4 => ?_)
 refine zS ?_
 have hrow : HA.row vb 49 4 biC f.bs = HA.row vb 49 4 mbC (mixL f.bs []) := by rw [mixL_nil, row_map]; rfl
 rw [hrow]
 refine W_loopJ (fun (us : List Value) => ⟨[(1, .val pf), (2, .val p), (22, .val (.int .i64 f.bs.length)), (23, .val (.int .i64 us.length))], [.pack (stkR f.bs us), .row vi 3 1 iC f.ids, .row vq 87 2 quC f.qs, .row vb 49 4 mbC (mixL f.bs us), .row vp 42 3 payC f.ps, .box pf [.val vi, .val vq, .val vb, .val vp] 27, .box p [.val (.slice none 0 0), .val (.slice none 0 0), .val (.slice none 0 0), .val (.slice none 0 0)] 27]⟩)
  (fun us => us.length ≤ f.bs.length) (fun us => f.bs.length - us.length) [] (fun _ _ st => st_sub2 (st_pack0 st) (by exact zR) (by cases f.bs <;> exact zP)) (Nat.zero_le _) ?_
 intro us hus
 have hml := mixL_len f.bs us
 refine zS ?_
 refine w_cond rfl (fun hlt => ?_) (fun hlt => ?_)
 ·have hlt' : us.length < f.bs.length := by simpa using hlt
  have hm := mixL_at f.bs us hlt'
  have hix : us.length < (mixL f.bs us).length := by omega
  have hget : (mixL f.bs us)[us.length] = (f.bs[us.length], none) := by
   rw [List.getElem?_eq_getElem hix] at hm; exact Option.some.inj hm
  have hsl := hS.st _ (List.getElem_mem hlt')
  refine zS ?_
  refine W_run 10 [26, 27, 28, 29, 30, 31, 32, 33, 34, 35] [0, 1, 2, 3, 4, 5, 6, 7, 8, 9] Cut.nil rfl goFlt mixedS (by kernel_rfl) rfl ?_
  refine rpv [] [] ?_
  refine rpv [0] [] ?_
  refine rpv [] [] ?_
  refine rpv [] [] ?_
  refine rpv [3] [] ?_
  refine rpv [] [] ?_
  refine rpv [4, 5] [] ?_
  refine rpv [6] [] ?_
  refine rpv [7] [] ?_
  refine Run.tok [8] [] rfl (fun vs => by apply ltr_pk; exact goPk; (refine ltr ?_; refine lt_call ?_ (cloneS_con f.bs[us.length].st (by omega)); exact rfl)) goApp ?_
  refine ⟨⟨by kernel_rfl, by kernel_rfl⟩, fun vs => ?_⟩
  apply WL_auto [1, 2, 9]
  ·exact goPk
  ·exact goNrm
  ·kernel_rfl
  ·kernel_rfl
  generalize vs 9 = u
  refine WL_one (v := u) (by repeat (first | exact At.here | apply At.there)) (fun oneu => ?_)
  refine zS ?_
  apply wl_storeRx (f.bs[us.length], some u)
  ·exact rfl
  ·exact zM
  ·exact rfl
  ·exact inferInstance
  ·exact inferInstance
  case hk => exact hix
  ·decide
  ·rw [hget]; rfl
  rw [mixL_set f.bs us hlt' u]
  apply WL_snoc (l := stkR f.bs us) (h := HA.row u 52 2 stC f.bs[us.length].st)
  ·exact zN
  ·exact zN
  rw [← stkR_snoc f.bs us hlt' u]
  refine zS ?_
  refine ⟨us ++ [u], fun _ _ st => st_sub2 st ?_ ?_, ?_, ?_⟩
  ·rw [List.length_append, List.length_singleton]; exact zR
  ·exact zP
  ·simp; omega
  ·simp; omega
 ·have hkk : us.length = f.bs.length := by simp at hlt; omega
  refine W_mkFact hkk ?_
  refine W_mkExs (h := fun us : List Value => [.fact (us.length = f.bs.length), .row vi 3 1 iC f.ids, .row vq 87 2 quC f.qs, .row vb 49 4 mbC (mixL f.bs us), .row vp 42 3 payC f.ps, .pack (stkR f.bs us)]) us (by exact yC) ?_
  refine zS ?_
  apply resKN
  ·exact rfl
  ·exact rfl
  ·exact zM
  ·exact inferInstance
  ·exact rfl
  ·exact ⟨vi, vq, vb, vp, ⟨one1, one2, one3, one4⟩, rfl, rfl⟩
  ·exact yC
def insR {α : Type} (lt : α → α → Bool) (x : α) : List α → List α
 | [] => [x]
 | a :: t => if lt x a = true then a :: insR lt x t else x :: a :: t
def insE {α : Type} (lt : α → α → Bool) (l : List α) (x : α) : List α := (insR lt x l.reverse).reverse
theorem insE_nil {α : Type} (lt : α → α → Bool) (x : α) : insE lt [] x = [x] := rfl
theorem insE_yes {α : Type} {lt : α → α → Bool} {l : List α} {a x : α} (h : lt x a = true) : insE lt (l ++ [a]) x = insE lt l x ++ [a] := by
 unfold insE; rw [List.reverse_append, List.reverse_singleton, List.singleton_append, insR, if_pos h, List.reverse_cons]
theorem insE_no {α : Type} {lt : α → α → Bool} {l : List α} {a x : α} (h : lt x a = false) : insE lt (l ++ [a]) x = l ++ [a] ++ [x] := by
 unfold insE; rw [List.reverse_append, List.reverse_singleton, List.singleton_append, insR, if_neg (by rw [h]; simp)]; simp
def srt {α : Type} (lt : α → α → Bool) (l : List α) : List α := l.foldl (insE lt) []
theorem srt_snoc {α : Type} (lt : α → α → Bool) (l : List α) (x : α) : srt lt (l ++ [x]) = insE lt (srt lt l) x := by unfold srt; rw [List.foldl_append]; rfl
theorem insR_len {α : Type} (lt : α → α → Bool) (x : α) : ∀ l : List α, (insR lt x l).length = l.length + 1
 | [] => rfl
 | a :: t => by rw [insR]; split <;> simp [insR_len lt x t]
theorem insE_len {α : Type} (lt : α → α → Bool) (l : List α) (x : α) : (insE lt l x).length = l.length + 1 := by unfold insE; rw [List.length_reverse, insR_len]; simp
theorem srt_len {α : Type} (lt : α → α → Bool) (l : List α) : (srt lt l).length = l.length := by
 have : ∀ (l acc : List α), (l.foldl (insE lt) acc).length = acc.length + l.length := by
  intro l
  induction l with
  | nil => intro acc; simp
  | cons x t ih => intro acc; rw [List.foldl_cons, ih, insE_len, List.length_cons]; omega
 unfold srt; rw [this]; simp
def snk {α : Type} (pre suf : List α) (x : α) (j : Nat) : List α := pre.take j ++ x :: (pre.drop j ++ suf)
theorem snk_len {α : Type} {pre suf : List α} {x : α} {j : Nat} (h : j ≤ pre.length) : (snk pre suf x j).length = pre.length + 1 + suf.length := by
 unfold snk; simp only [List.length_append, List.length_take, List.length_cons, List.length_drop]; omega
theorem snk_at {α : Type} {pre suf : List α} {x : α} {j : Nat} (h : j ≤ pre.length) : (snk pre suf x j)[j]? = some x := by
 unfold snk
 rw [List.getElem?_append_right (by rw [List.length_take]; omega), List.length_take, Nat.min_eq_left h, Nat.sub_self]; rfl
theorem snk_before {α : Type} {pre suf : List α} {x : α} {j : Nat} (h : j + 1 ≤ pre.length) : (snk pre suf x (j + 1))[j]? = some pre[j] := by
 unfold snk
 rw [List.getElem?_append_left (by rw [List.length_take]; omega), List.getElem?_take, if_pos (by omega), List.getElem?_eq_getElem (by omega)]
theorem snk_swap {α : Type} {pre suf : List α} {x : α} {j : Nat} (h : j + 1 ≤ pre.length) : ((snk pre suf x (j + 1)).set (j + 1) pre[j]).set j x = snk pre suf x j := by
 unfold snk
 have e : pre.take (j + 1) = pre.take j ++ [pre[j]] := List.take_succ_eq_append_getElem (by omega)
 have l1 : (pre.take j).length = j := by rw [List.length_take]; omega
 rw [e, List.append_assoc, List.singleton_append, List.set_append_right _ _ (by omega), l1, show j + 1 - j = 1 by omega, List.set_cons_succ, List.set_cons_zero, List.set_append_right _ _ (by omega), l1, Nat.sub_self, List.set_cons_zero, List.drop_eq_getElem_cons (show j < pre.length by omega), List.cons_append]
theorem snk_full {α : Type} (pre suf : List α) (x : α) : snk pre suf x pre.length = pre ++ x :: suf := by unfold snk; simp
theorem isortP_con (v : Value) (xs : List Pay) (k : FuncId) (caps : List AV) (cmp : Pay → Pay → Int) (hl : xs.length ≤ 100000) (hc : ∀ x y, Con Tryz.prog k ([.agg (payC x), .agg (payC y)] ++ caps) [] (Is (.val (.int .i64 (cmp x y))) [])) : Con Tryz.prog 163 [.val v, .val (.int .i64 0), .val (.int .i64 xs.length), .clo k caps] [.row v 42 3 payC xs] (Is (.tup []) [.row v 42 3 payC (srt (fun x y => decide (cmp x y < 0)) xs)]) := by
 generalize hlt0 : (fun x y => decide (cmp x y < 0)) = lt
 have hlt : ∀ x y, decide (cmp x y < 0) = lt x y := fun x y => by rw [← hlt0]
 refine con_of Tryz.func163 rfl (enters_of Tryz.func163 (by kernel_rfl) rfl) rfl ?_; intro n w0 F0 G0
 refine zS ?_
 refine W_loopJ (fun (i : Nat) => ⟨[(0, .val v), (1, .val (.int .i64 0)), (2, .val (.int .i64 xs.length)), (3, .clo k caps), (8, .val (.int .i64 i))], [.row v 42 3 payC (srt lt (xs.take i) ++ xs.drop i)]⟩) (fun i => 1 ≤ i ∧ (i ≤ xs.length ∨ i = 1)) (fun i => xs.length - i) 1 (fun _ _ st => st_sub2 st (by exact zR) (by rw [show srt lt (xs.take 1) ++ xs.drop 1 = xs from by cases xs <;> rfl]; exact zP)) ⟨Nat.le_refl _, .inr rfl⟩ ?_
 rintro i ⟨hi1, hi2⟩
 refine zS ?_
 refine w_cond rfl (fun hin => ?_) (fun hin => ?_)
 ·have hin' : i < xs.length := by simp at hin; omega
  have hpl : (srt lt (xs.take i)).length = i := by rw [srt_len, List.length_take]; omega
  have hnx : srt lt (xs.take (i + 1)) = insE lt (srt lt (xs.take i)) xs[i] := by rw [List.take_succ_eq_append_getElem hin', srt_snoc]
  have hdr : xs.drop i = xs[i] :: xs.drop (i + 1) := List.drop_eq_getElem_cons hin'
  have hsl : (xs.drop (i + 1)).length + i + 1 = xs.length := by rw [List.length_drop]; omega
  generalize srt lt (xs.take i) = pre at *
  generalize hsuf : xs.drop (i + 1) = suf at *
  generalize hx : xs[i] = x at *
  rw [hdr]
  refine zS ?_
  refine W_loopJ (fun (j : Nat) => ⟨[(0, .val v), (1, .val (.int .i64 0)), (2, .val (.int .i64 xs.length)), (3, .clo k caps), (8, .val (.int .i64 i)), (9, .val (.int .i64 j))], [.row v 42 3 payC (snk pre suf x j)]⟩) (fun j => j ≤ i ∧ insE lt pre x = insE lt (pre.take j) x ++ pre.drop j) (fun j => j) i (fun _ _ st => st_sub2 st (by exact zR) (by rw [show snk pre suf x i = pre ++ x :: suf from by rw [← hpl]; exact snk_full _ _ _]; exact zP)) ⟨Nat.le_refl _, by rw [← hpl]; simp⟩ ?_
  rintro j ⟨hj, hins⟩
  have hdl : (snk pre suf x j).length = xs.length := by rw [snk_len (by omega)]; omega
  have hq1 : (snk pre suf x j)[j]? = some x := snk_at (by omega)
  refine zS ?_
  cases j with
  | zero =>
   have hend : snk pre suf x 0 = insE lt pre x ++ suf := by rw [hins]; simp [snk, insE_nil]
   refine W_run 14 [18, 19, 20, 21, 22, 23, 24, 25, 26, 27, 28, 29, 30, 31] [0, 1, 2, 3, 4, 5, 6, 7, 8, 9, 10, 11, 12, 13] Cut.nil rfl goFlt mixedS (by kernel_rfl) rfl ?_
   refine rpv [] [] ?_
   refine rpv [] [] ?_
   refine Run.pv [0, 1] [] rfl (fun vs => by apply ltr_pk; exact goPk; (refine ltr ?_; apply LT_bool false; apply lt_gtr; exact rfl; exact rfl; simp)) goApp ?_
   refine rpv [2] [] ?_
   refine rno [3] ?_
   refine rno [3] ?_
   refine rno [3] ?_
   refine rno [3, 5, 6] ?_
   refine rno [3, 7] ?_
   refine rno [3] ?_
   refine rno [3] ?_
   refine rno [3, 10] ?_
   refine rno [3, 9, 11] ?_
   refine rno [3, 12] ?_
   refine ⟨⟨by kernel_rfl, by kernel_rfl⟩, fun vs => ?_⟩
   apply WL_auto [3, 4, 8, 13]
   ·exact goPk
   ·exact goNrm
   ·kernel_rfl
   ·kernel_rfl
   refine zS ?_
   refine ⟨i + 1, fun _ _ st => st_sub2 st ?_ ?_, ?_, ?_⟩
   ·exact zR
   ·rw [hnx, hsuf, ← hend]; exact zP
   ·omega
   ·omega
  | succ j =>
   have hjp : j < pre.length := by omega
   have hq2 : (snk pre suf x (j + 1))[j]? = some pre[j] := snk_before (by omega)
   have htk : pre.take (j + 1) = pre.take j ++ [pre[j]] := List.take_succ_eq_append_getElem hjp
   have hdp : pre.drop j = pre[j] :: pre.drop (j + 1) := List.drop_eq_getElem_cons hjp
   refine W_run 14 [18, 19, 20, 21, 22, 23, 24, 25, 26, 27, 28, 29, 30, 31] [0, 1, 2, 3, 4, 5, 6, 7, 8, 9, 10, 11, 12, 13] Cut.nil rfl goFlt mixedS (by kernel_rfl) rfl ?_
   refine rpv [] [] ?_
   refine rpv [] [] ?_
   refine Run.pv [0, 1] [] rfl (fun vs => by apply ltr_pk; exact goPk; (refine ltr ?_; apply LT_bool true; apply lt_gtr; exact rfl; exact rfl; (first | (simp; done) | (simp; omega)))) goApp ?_
   refine rpv [2] [] ?_
   refine ryv [3] ?_
   refine ryv [3] ?_
   refine ryv [3] ?_
   refine ryv [3, 5, 6] ?_
   refine ryv [3, 7] ?_
   refine ryv [3] ?_
   refine ryv [3] ?_
   refine ryx [3, 10] (fun vs => by apply ltr_pk; exact goPk; (refine ltr ?_; apply LT_int (j : Int); apply lt_sub; exact rfl; exact rfl; omega; omega; omega)) ?_
   refine ryv [3, 9, 11] ?_
   refine ryv [3, 12] ?_
   refine ⟨⟨by kernel_rfl, by kernel_rfl⟩, fun vs => ?_⟩
   apply WL_auto [3, 4, 8, 13]
   ·exact goPk
   ·exact goNrm
   ·kernel_rfl
   ·kernel_rfl
   refine zS ?_
   (apply wl_callV (hc x pre[j]); exact rfl; exact rfl; exact rfl)
   refine zS ?_
   rw [hlt]
   cases hb : lt x pre[j] with
   | false =>
    have hend : snk pre suf x (j + 1) = insE lt pre x ++ suf := by
     rw [hins, htk, insE_no hb, ← htk]; simp [snk]
    refine zS ?_
    refine ⟨i + 1, fun _ _ st => st_sub2 st ?_ ?_, ?_, ?_⟩
    ·exact zR
    ·rw [hnx, hsuf, ← hend]; exact zP
    ·omega
    ·omega
   | true =>
    have hins2 : insE lt pre x = insE lt (pre.take j) x ++ pre.drop j := by
     rw [hins, htk, insE_yes hb, hdp]; simp
    refine zS ?_
    refine W_run 16 [37, 38, 39, 40, 41, 42, 43, 44, 45, 46, 47, 48, 49, 50, 51, 1000015] [0, 1, 2, 3, 4, 5, 6, 7, 8, 9, 10, 11, 12, 13, 14, 15] (Cut.cons (h := HA.row v 42 3 payC (snk pre suf x (j + 1))) zN (Cut.nil)) rfl goFlt mixedS (by kernel_rfl) rfl ?_
    refine rpv [] [] ?_
    refine rpv [] [] ?_
    refine rpv [] [] ?_
    refine rpv [] [] ?_
    refine Run.pv [3] [] rfl (fun vs => by apply ltr_pk; exact goPk; (refine ltr ?_; apply LT_int (j : Int); apply lt_sub; exact rfl; exact rfl; omega; omega; omega)) goApp ?_
    refine rpv [] [] ?_
    refine rpv [] [] ?_
    refine Run.pv [6] [] rfl (fun vs => by apply ltr_pk; exact goPk; (refine ltr ?_; apply LT_int (j : Int); apply lt_sub; exact rfl; exact rfl; omega; omega; omega)) goApp ?_
    refine Run.rd [5, 7] [] [1000] rfl (fun vs => by apply ltr_pk; exact goPk; exact goLtr) goApp ?_
    refine Run.rd [8] [] [1000] rfl (fun vs => by apply ltr_pk; exact goPk; exact goLtr) goApp ?_
    refine rpv [] [] ?_
    refine rpv [] [] ?_
    refine Run.rd [10, 11] [] [1000] rfl (fun vs => by apply ltr_pk; exact goPk; exact goLtr) goApp ?_
    refine Run.rd [12] [] [1000] rfl (fun vs => by apply ltr_pk; exact goPk; exact goLtr) goApp ?_
    refine Run.rd [0, 1] [] [1000] rfl (fun vs => by apply ltr_pk; exact goPk; exact goLtr) goApp ?_
    refine Run.fx [9, 14] [1000] 14 (fun _ => [HA.row v 42 3 payC ((snk pre suf x (j + 1)).set (j + 1) pre[j])]) rfl (fun vs => by apply ltr_pk; exact goPk; (refine ltr ?_; refine LT.fx (lt_storeRN (n := 3) (f := payC) (xs := snk pre suf x (j + 1)) (k := j + 1) (x' := pre[j]) rfl rfl (by omega) rfl) rfl)) goApp ?_
    refine ⟨⟨by kernel_rfl, by kernel_rfl⟩, fun vs => ?_⟩
    apply WL_auto [2, 4, 13]
    ·exact goPk
    ·exact goNrm
    ·kernel_rfl
    ·kernel_rfl
    refine zS ?_
    apply wl_storeRNx x
    ·exact rfl
    ·exact zM
    ·exact rfl
    ·exact inferInstance
    ·exact inferInstance
    ·rw [List.length_set]; omega
    ·rfl
    rw [snk_swap (by omega)]
    refine zS ?_
    rw [show (((j + 1 : Nat) : Int) - 1) = (j : Int) by omega]
    refine ⟨j, fun _ _ st => st_sub2 st ?_ ?_, ?_, ?_⟩
    ·exact zR
    ·exact zP
    ·exact ⟨by omega, hins2⟩
    ·omega
 ·have hkk : xs.length ≤ i := by simp at hin; omega
  rw [List.take_of_length_le hkk, List.drop_of_length_le hkk, List.append_nil]
  refine zS ?_
  (apply resK0; exact rfl; exact ⟨rfl, rfl⟩; exact yC)
end Go.Proofs.YtihonljdanjfmaaGreatDoor.Sw
namespace Go.Proofs.YtihonljdanjfmaaGreatDoor.Sw
open Go.RowKit Go Go.Shelf Go.Proofs
open Go.Proofs.YtihonljdanjfmaaGreatDoor.Gr (payLt)
instance tyeL : TyE Tryz.prog 108 42 3 := tyE (z := .agg #[.int .i64 0, .int .i64 0, .int .i64 0]) (b := 24) (by kernel_rfl) (by kernel_rfl) (by decide) rfl (by decide)
section
variable {P : Program} {rs : List (Nat × AV)} {d : Option Nat} {ty : TypeId} {pos : String} {af : Array Edge} {g : Option (Nat × Bool)}
theorem lt_convC {x : Operand} {u v : Value} {s t : TypeId} (hx : opv rs x = some (.val u)) (h : ∀ w, (convert s t u).run P w = .ok v w) : LT P ⟨d, .convert s t x, ty, pos, af, g⟩ rs [] (Is (.val v) []) :=
 LT_val (fun _ e => by cases e) fun a w G hR _ => ⟨_, rfl, by
  have e1 : a.eval x = _ := opv_ok hR hx
  simp only [execOp, e1, Sem.run_bind, h w, Result.andThen_ok]
  rfl⟩
theorem lt_idxC {x y : Operand} {u u2 v : Value} {t : TypeId} (hx : opv rs x = some (.val u)) (hy : opv rs y = some (.val u2)) (h : ∀ w, (Instr.index t u u2).run P w = .ok v w) : LT P ⟨d, .index t x y, ty, pos, af, g⟩ rs [] (Is (.val v) []) :=
 LT_val (fun _ e => by cases e) fun a w G hR _ => ⟨_, rfl, by
  have e1 : a.eval x = _ := opv_ok hR hx
  have e2 : a.eval y = _ := opv_ok hR hy
  simp only [execOp, e1, e2, Sem.run_bind, h w, Result.andThen_ok]
  rfl⟩
end
section
variable {c : Cx} {rs : List (Nat × AV)} {hs : List HA} {Q : Exit → S → Prop} {ops : Array Oper} {tl : List Oper} {d : Nat} {ty : TypeId} {pos : String} {af : Array Edge}
theorem wl_convC {x : Operand} {u : Value} (v : Value) {s t : TypeId} (hx : opv rs x = some (.val u)) (h : ∀ w, (convert s t u).run c.P w = .ok v w) (hd : Nat.blt d c.nt = true) (k : WL c ops tl ⟨(d, .val v) :: rs, hs⟩ Q) : WL c ops (⟨some d, .convert s t x, ty, pos, af, none⟩ :: tl) ⟨rs, hs⟩ Q := wl_ex (lt_convC hx h) hd k
theorem wl_idxC {x y : Operand} {u u2 : Value} (v : Value) {t : TypeId} (hx : opv rs x = some (.val u)) (hy : opv rs y = some (.val u2)) (h : ∀ w, (Instr.index t u u2).run c.P w = .ok v w) (hd : Nat.blt d c.nt = true) (k : WL c ops tl ⟨(d, .val v) :: rs, hs⟩ Q) : WL c ops (⟨some d, .index t x y, ty, pos, af, none⟩ :: tl) ⟨rs, hs⟩ Q := wl_ex (lt_idxC hx hy h) hd k
end
def lenB (n : Nat) : Int := if n = 0 then 0 else if n = 1 then 1 else if n ≤ 3 then 2 else 3
theorem len64_con (n : Nat) (hn : n ≤ 5) : Con Tryz.prog 172 [.val (.int .u64 n)] [] (Is (.val (.int .i64 (lenB n))) []) := by
 have hk : n = 0 ∨ n = 1 ∨ n = 2 ∨ n = 3 ∨ n = 4 ∨ n = 5 := by omega
 rcases hk with rfl | rfl | rfl | rfl | rfl | rfl
 ·refine con_of Tryz.func172 rfl (enters_of Tryz.func172 (by kernel_rfl) rfl) rfl ?_; intro n w0 F0 G0
  refine zS ?_
  (apply wl_convC (.int .u8 0); exact rfl; exact (fun w => by kernel_rfl); exact rfl)
  (apply wl_idxC (.int .u8 0); exact rfl; exact rfl; exact (fun w => by kernel_rfl); exact rfl)
  (apply wl_convC (.int .i64 0); exact rfl; exact (fun w => by kernel_rfl); exact rfl)
  refine zS ?_
  (apply res1; exact rfl; exact rfl; exact ⟨rfl, rfl⟩)
 ·refine con_of Tryz.func172 rfl (enters_of Tryz.func172 (by kernel_rfl) rfl) rfl ?_; intro n w0 F0 G0
  refine zS ?_
  (apply wl_convC (.int .u8 1); exact rfl; exact (fun w => by kernel_rfl); exact rfl)
  (apply wl_idxC (.int .u8 1); exact rfl; exact rfl; exact (fun w => by kernel_rfl); exact rfl)
  (apply wl_convC (.int .i64 1); exact rfl; exact (fun w => by kernel_rfl); exact rfl)
  refine zS ?_
  (apply res1; exact rfl; exact rfl; exact ⟨rfl, rfl⟩)
 ·refine con_of Tryz.func172 rfl (enters_of Tryz.func172 (by kernel_rfl) rfl) rfl ?_; intro n w0 F0 G0
  refine zS ?_
  (apply wl_convC (.int .u8 2); exact rfl; exact (fun w => by kernel_rfl); exact rfl)
  (apply wl_idxC (.int .u8 2); exact rfl; exact rfl; exact (fun w => by kernel_rfl); exact rfl)
  (apply wl_convC (.int .i64 2); exact rfl; exact (fun w => by kernel_rfl); exact rfl)
  refine zS ?_
  (apply res1; exact rfl; exact rfl; exact ⟨rfl, rfl⟩)
 ·refine con_of Tryz.func172 rfl (enters_of Tryz.func172 (by kernel_rfl) rfl) rfl ?_; intro n w0 F0 G0
  refine zS ?_
  (apply wl_convC (.int .u8 3); exact rfl; exact (fun w => by kernel_rfl); exact rfl)
  (apply wl_idxC (.int .u8 2); exact rfl; exact rfl; exact (fun w => by kernel_rfl); exact rfl)
  (apply wl_convC (.int .i64 2); exact rfl; exact (fun w => by kernel_rfl); exact rfl)
  refine zS ?_
  (apply res1; exact rfl; exact rfl; exact ⟨rfl, rfl⟩)
 ·refine con_of Tryz.func172 rfl (enters_of Tryz.func172 (by kernel_rfl) rfl) rfl ?_; intro n w0 F0 G0
  refine zS ?_
  (apply wl_convC (.int .u8 4); exact rfl; exact (fun w => by kernel_rfl); exact rfl)
  (apply wl_idxC (.int .u8 3); exact rfl; exact rfl; exact (fun w => by kernel_rfl); exact rfl)
  (apply wl_convC (.int .i64 3); exact rfl; exact (fun w => by kernel_rfl); exact rfl)
  refine zS ?_
  (apply res1; exact rfl; exact rfl; exact ⟨rfl, rfl⟩)
 ·refine con_of Tryz.func172 rfl (enters_of Tryz.func172 (by kernel_rfl) rfl) rfl ?_; intro n w0 F0 G0
  refine zS ?_
  (apply wl_convC (.int .u8 5); exact rfl; exact (fun w => by kernel_rfl); exact rfl)
  (apply wl_idxC (.int .u8 3); exact rfl; exact rfl; exact (fun w => by kernel_rfl); exact rfl)
  (apply wl_convC (.int .i64 3); exact rfl; exact (fun w => by kernel_rfl); exact rfl)
  refine zS ?_
  (apply res1; exact rfl; exact rfl; exact ⟨rfl, rfl⟩)
theorem w_constF {c : Cx} {s : S} {x y : Code} {Q : Exit → S → Prop} (h : W c y s Q) : W c (.cond (.const (.bool false)) x y) s Q := ⟨fun a w st => wpIn_cond (show a.eval (.const (.bool false)) = .bool false from rfl) (h.out a w st)⟩
theorem lenBits_con (m : Nat) (hm : m ≤ 5) : Con Tryz.prog 157 [.val (.int .u64 m)] [] (Is (.val (.int .i64 (lenB m))) []) := by
 refine con_of Tryz.func157 rfl (enters_of Tryz.func157 (by kernel_rfl) rfl) rfl ?_; intro n w0 F0 G0
 refine zS ?_
 refine w_constF ?_
 refine zS ?_
 (first | (apply wl_call (len64_con m hm); exact rfl; exact rfl) | (apply wl_callR (len64_con m hm); exact rfl; exact zM; exact rfl))
 refine zS ?_
 (apply res1; exact rfl; exact rfl; exact ⟨rfl, rfl⟩)
theorem cvU : ∀ (m : Nat), m ≤ 5 → ∀ w : World, (convert 3 219 (.int .i64 (m : Int))).run Tryz.prog w = .ok (.int .u64 (m : Int)) w
 | 0, _ => fun w => by kernel_rfl
 | 1, _ => fun w => by kernel_rfl
 | 2, _ => fun w => by kernel_rfl
 | 3, _ => fun w => by kernel_rfl
 | 4, _ => fun w => by kernel_rfl
 | 5, _ => fun w => by kernel_rfl
 | m + 6, h => absurd h (by omega)
theorem pdqP_con (v : Value) (xs : List Pay) (k : FuncId) (caps : List AV) (cmp : Pay → Pay → Int) (lim : Int) (hl : xs.length ≤ 12) (hc : ∀ x y, Con Tryz.prog k ([.agg (payC x), .agg (payC y)] ++ caps) [] (Is (.val (.int .i64 (cmp x y))) [])) : Con Tryz.prog 156 [.val v, .val (.int .i64 0), .val (.int .i64 xs.length), .val (.int .i64 lim), .clo k caps] [.row v 42 3 payC xs] (Is (.tup []) [.row v 42 3 payC (srt (fun x y => decide (cmp x y < 0)) xs)]) := by
 refine con_of Tryz.func156 rfl (enters_of Tryz.func156 (by kernel_rfl) rfl) rfl ?_; intro n w0 F0 G0
 refine zS ?_
 refine W_rounds 1 ?_
 refine WR_step ?_
 refine zS ?_
 refine w_cond rfl (fun h12 => ?_) (fun h12 => ?_)
 ·refine zS ?_
  (apply wl_callP (isortP_con v xs k caps cmp (by omega) hc); exact rfl; exact yC; exact rfl)
  rintro _ _ ⟨rfl, rfl⟩
  refine zS ?_
  (apply resK0; exact rfl; exact ⟨rfl, rfl⟩; exact yC)
 ·exfalso; simp at h12; omega
theorem sortP_con (v : Value) (xs : List Pay) (k : FuncId) (caps : List AV) (cmp : Pay → Pay → Int) (hl : xs.length ≤ 5) (hc : ∀ x y, Con Tryz.prog k ([.agg (payC x), .agg (payC y)] ++ caps) [] (Is (.val (.int .i64 (cmp x y))) [])) : Con Tryz.prog 141 [.val v, .clo k caps] [.row v 42 3 payC xs] (Is (.tup []) [.row v 42 3 payC (srt (fun x y => decide (cmp x y < 0)) xs)]) := by
 have hcv : ∀ w, (convert 3 219 (.int .i64 (xs.length : Int))).run Tryz.prog w = .ok (.int .u64 (xs.length : Int)) w := fun w => cvU xs.length hl w
 refine con_of Tryz.func141 rfl (enters_of Tryz.func141 (by kernel_rfl) rfl) rfl ?_; intro n w0 F0 G0
 refine zS ?_
 (apply wl_convC (.int .u64 (xs.length : Int)); exact rfl; exact hcv; exact rfl)
 refine zS ?_
 (first | (apply wl_call (lenBits_con xs.length hl); exact rfl; exact rfl) | (apply wl_callR (lenBits_con xs.length hl); exact rfl; exact zM; exact rfl))
 refine zS ?_
 (apply wl_callP (pdqP_con v xs k caps cmp (lenB xs.length) (by omega) hc); exact rfl; exact yC; exact rfl)
 rintro _ _ ⟨rfl, rfl⟩
 refine zS ?_
 (apply resK0; exact rfl; exact ⟨rfl, rfl⟩; exact yC)
def pyCmp (x y : Pay) : Int := firstNZ [cmpR x.a y.a, cmpR x.b y.b, cmpR x.p y.p]
theorem pyCmp_lt (x y : Pay) : decide (pyCmp x y < 0) = payLt x y := by
 unfold pyCmp firstNZ firstNZ firstNZ firstNZ cmpR payLt
 by_cases h1 : x.a = y.a
 ·by_cases h2 : x.b = y.b
  ·simp only [h1, h2]
   by_cases h3 : x.p < y.p
   ·simp [h3]
   ·by_cases h4 : y.p < x.p
    ·simp [h3, h4]
    ·simp [h3, h4]
  ·simp only [h1]
   by_cases h3 : x.b < y.b
   ·simp [h2, h3]
   ·have h4 : y.b < x.b := by omega
    simp [h2, h3, h4]
 ·by_cases h3 : x.a < y.a
  ·simp [h1, h3]
  ·have h4 : y.a < x.a := by omega
   simp [h1, h3, h4]
theorem payments_con (x y : Pay) : Con Tryz.prog 112 [.agg (payC x), .agg (payC y)] [] (Is (.val (.int .i64 (pyCmp x y))) []) := by
 refine con_of Tryz.func112 rfl (enters_of Tryz.func112 (by kernel_rfl) rfl) rfl ?_; intro n w0 F0 G0
 refine zS ?_;repeat(refine yA ?_;intro p hp;refine zS ?_)
 refine W_run 14 [5, 6, 7, 8, 9, 10, 11, 12, 13, 14, 15, 16, 17, 18] [0, 1, 2, 3, 4, 5, 6, 7, 8, 9, 10, 11, 12, 13] Cut.nil rfl goFlt mixedS (by kernel_rfl) rfl ?_
 refine rpv [] [] ?_
 refine rpv [0] [] ?_
 refine rpv [] [] ?_
 refine rpv [2] [] ?_
 refine Run.pv [1, 3] [] rfl (fun vs => by apply ltr_pk; exact goPk; (refine ltr ?_; refine lt_call ?_ ((compare_con x.a y.a)); exact rfl)) goApp ?_
 refine rpv [] [] ?_
 refine rpv [5] [] ?_
 refine rpv [] [] ?_
 refine rpv [7] [] ?_
 refine Run.pv [6, 8] [] rfl (fun vs => by apply ltr_pk; exact goPk; (refine ltr ?_; refine lt_call ?_ ((compare_con x.b y.b)); exact rfl)) goApp ?_
 refine rpv [] [] ?_
 refine rpv [10] [] ?_
 refine rpv [] [] ?_
 refine rpv [12] [] ?_
 refine ⟨⟨by kernel_rfl, by kernel_rfl⟩, fun vs => ?_⟩
 apply WL_auto [4, 9, 11, 13]
 ·exact goPk
 ·exact goNrm
 ·kernel_rfl
 ·kernel_rfl
 refine zS ?_
 (first | (apply wl_call (compare_con x.p y.p); exact rfl; exact rfl) | (apply wl_callR (compare_con x.p y.p); exact rfl; exact zM; exact rfl))
 refine zS ?_
 (apply wl_litF iC; exact inferInstance; exact inferInstance; exact inferInstance; exact zE; exact rfl; (first | exact (of_decide_eq_true rfl) | decide | (simp; done) | (simp; omega)); exact rfl)
 refine zS ?_
 (first | (apply wl_call (or_con [cmpR x.a y.a, cmpR x.b y.b, cmpR x.p y.p] (by simp)); exact rfl; exact rfl) | (apply wl_callR (or_con [cmpR x.a y.a, cmpR x.b y.b, cmpR x.p y.p] (by simp)); exact rfl; exact zM; exact rfl))
 refine zS ?_
 (apply res1; exact rfl; exact rfl; exact ⟨rfl, rfl⟩)
end Go.Proofs.YtihonljdanjfmaaGreatDoor.Sw
namespace Go.Proofs.YtihonljdanjfmaaGreatDoor.Sw
open Go.RowKit Go Go.Shelf Go.Proofs
open Go.Proofs.YtihonljdanjfmaaGreatDoor.Gr (behR behS Ok Ord Forest Zr lf amt payE payLt)
theorem Rm.perm {hs r : List HA} {h : HA} (k : Rm hs h r) : hs.Perm (h :: r) := by
 induction k with
 | here => exact .refl _
 | there k ih => exact (ih.cons _).trans (List.Perm.swap _ _ _)
theorem ltr_call2 {P : Program} {rs : List (Nat × AV)} {hsR r1 r2 : List HA} {d : Option Nat} {ty : TypeId} {pos : String} {af : Array Edge} {g : Option (Nat × Bool)} {k : FuncId} {xs : List Operand} {ts : Array TypeId} {avs : List AV} {av : AV} {h1 h2 : HA} (hc : Con P k avs [h1, h2] (Is av [h1, h2])) (hx : opvs rs xs = some avs) (hr1 : Rm hsR h1 r1) (hr2 : Rm r1 h2 r2) :
  LTr P ⟨d, .call { callee := .value (.func k), args := xs.toArray, argTypes := ts }, ty, pos, af, g⟩ rs hsR [] (Is av []) := by
 have hp : hsR.Perm (h1 :: h2 :: r2) := hr1.perm.trans (hr2.perm.cons _)
 refine ⟨?_⟩
 intro F n hF a w G Fp K Q hR hI hk
 have hI' : Inv G Fp ([h1, h2] ++ r2) w := ⟨hI.gin, hI.nd, hI.own, hsP.permL hp hI.hs⟩
 obtain ⟨F1, k1, k2⟩ := Inv.frame hI'
 refine (lt_call hx hc).go F n hF a w G F1 K Q hR k1 fun v av' prod G' F' w' ⟨e1, e2⟩ hfr hi hv => ?_
 subst e1 e2
 obtain ⟨F'', h3, h4⟩ := k2 hfr hi
 exact hk v _ hsR G' F'' w' ⟨[], rfl, rfl, rfl⟩ h4 ⟨h3.gin, h3.nd, h3.own, hsP.permL hp.symm h3.hs⟩ hv
noncomputable def lstR (ids : List Int) (L : List (Nat × Nat)) (cu : List Int) : Option (List Pay) :=
 if L.all (fun e => decide (amt ids.length (lf cu) L e ≠ 0)) = true then some (srt (fun x y => decide (pyCmp x y < 0)) (L.map (payE ids (lf cu) L))) else none
theorem amt_bound {n : Nat} {x : Nat → Int} {L : List (Nat × Nat)} (hn : n ≤ 10) (hok : Ok n L) (hf : Forest L) (hz : Zr n L x) (hb : ∀ v, v < n → -1000000000 ≤ x v ∧ x v ≤ 1000000000) {e : Nat × Nat} (he : e ∈ L) : -10000000000 ≤ amt n x L e ∧ amt n x L e ≤ 10000000000 := by
 obtain ⟨Q, hQ⟩ := Gr.side_of hf he (.inr ⟨rfl, rfl⟩ : Gr.Ends e e.2 e.1)
 have := sumP_bound (by omega) hb Q
 rw [Gr.amt_side hok.nd hz hQ]; omega
theorem list_con (ph ow : Value) (f : Flo) (cu : List Int) (L : List (Nat × Nat)) (hn : f.ids.length ≤ 10) (hl : L.length ≤ 5) (hcl : cu.length = f.ids.length) (hbt : Btw (-1000000000) 1000000000 cu)
  (hok : Ok f.ids.length L) (ho : Ord L) (hf : Forest L) (hz : Zr f.ids.length L (lf cu)) : Con Tryz.prog 121 [.val ph, .sl 2 pnC L] [hsB ph f ow, .row ow 3 1 iC cu] (Is (treeA (lstR f.ids L cu)) [hsB ph f ow, .row ow 3 1 iC cu]) := by
 have hbb : ∀ v, v < f.ids.length → -1000000000 ≤ lf cu v ∧ lf cu v ≤ 1000000000 := fun v hv => by
  have hv' : v < cu.length := by omega
  rw [lf_at hv']; exact hbt.at hv'
 unfold lstR
 refine con_of Tryz.func121 rfl (enters_of Tryz.func121 (by kernel_rfl) rfl) rfl ?_; intro n w0 F0 G0
 refine zS ?_;repeat(refine yA ?_;intro p hp;refine zS ?_)
 refine W_loopJ (fun (b : Nat × Value) => ⟨[(0, .val ph), (1, .sl 2 pnC L), (6, .val b.2), (10, .sl 2 pnC L), (11, .val (.int .i64 L.length)), (12, .val (.int .i64 b.1))], [.row b.2 42 3 payC ((L.take b.1).map (payE f.ids (lf cu) L)), hsB ph f ow, .row ow 3 1 iC cu]⟩) (fun b => b.1 ≤ L.length ∧ (L.take b.1).all (fun e => decide (amt f.ids.length (lf cu) L e ≠ 0)) = true) (fun b => L.length - b.1) (0, .slice none 0 0) (fun _ _ st => st_sub2 (st_nil 42 3 payC st) zR zP) ⟨Nat.zero_le _, rfl⟩ ?_
 rintro ⟨j, v⟩ ⟨hj, hal⟩
 dsimp only at hj hal ⊢
 refine zS ?_;repeat(refine yA ?_;intro p hp;refine zS ?_)
 refine w_cond rfl (fun hlt => ?_) (fun hlt => ?_)
 ·have hj' : j < L.length := by simpa using hlt
  have hpL := List.getElem_mem hj'
  have hp := hok.lt _ hpL
  have hq1 : f.ids[L[j].1]? = some f.ids[L[j].1] := List.getElem?_eq_getElem hp.1
  have hq2 : f.ids[L[j].2]? = some f.ids[L[j].2] := List.getElem?_eq_getElem hp.2.1
  have hg1 : f.ids.getD L[j].1 0 = f.ids[L[j].1] := by simp [List.getD_eq_getElem?_getD, hq1]
  have hg2 : f.ids.getD L[j].2 0 = f.ids[L[j].2] := by simp [List.getD_eq_getElem?_getD, hq2]
  have hE : Gr.Ends L[j] L[j].2 L[j].1 := .inr ⟨rfl, rfl⟩
  obtain ⟨Q, hQ⟩ := Gr.side_of hf hpL hE
  have B := behind_con ph ow f cu L hn (by omega) hcl hbt hok ho hf hz f.ids.length L[j].2 L[j].1 ⟨L[j], hpL, hE, Q, hQ, Gr.cnt_le _ _⟩
  rw [Gr.beh_amt hok ho hf hz hpL] at B
  have hab := amt_bound hn hok hf hz hbb hpL
  have hmap : (L.take (j + 1)).map (payE f.ids (lf cu) L) = (L.take j).map (payE f.ids (lf cu) L) ++ [payE f.ids (lf cu) L L[j]] := by rw [List.take_succ_eq_append_getElem hj', List.map_append]; rfl
  have hall : (L.take (j + 1)).all (fun e => decide (amt f.ids.length (lf cu) L e ≠ 0)) = decide (amt f.ids.length (lf cu) L L[j] ≠ 0) := by rw [List.take_succ_eq_append_getElem hj', List.all_append, hal]; simp
  have hpy : payE f.ids (lf cu) L L[j] = if amt f.ids.length (lf cu) L L[j] < 0 then ⟨f.ids[L[j].2], f.ids[L[j].1], - amt f.ids.length (lf cu) L L[j]⟩ else ⟨f.ids[L[j].1], f.ids[L[j].2], amt f.ids.length (lf cu) L L[j]⟩ := by unfold payE; rw [hg1, hg2]
  have hno : amt f.ids.length (lf cu) L L[j] = 0 → ¬ L.all (fun e => decide (amt f.ids.length (lf cu) L e ≠ 0)) = true := fun h0 h => by
   have := List.all_eq_true.1 h _ hpL
   simp [h0] at this
  have hlt2 : (L.take j).length ≤ 10 := by rw [List.length_take]; omega
  refine zS ?_;repeat(refine yA ?_;intro p hp;refine zS ?_)
  refine W_run 27 [16, 17, 18, 19, 20, 21, 22, 23, 24, 25, 26, 27, 28, 29, 30, 31, 32, 33, 34, 35, 36, 37, 38, 39, 40, 41, 9] [0, 1, 2, 3, 4, 5, 6, 7, 8, 9, 10, 11, 12, 13, 14, 15, 16, 17, 18, 19, 20, 21, 22, 23, 24, 25, 26] Cut.nil rfl goFlt mixedS (by kernel_rfl) rfl ?_
  refine rpv [] [] ?_
  refine rpv [0] [] ?_
  refine rpv [1] [] ?_
  refine rpv [2] [] ?_
  refine rpv [3] [] ?_
  refine rpv [] [] ?_
  refine rpv [5] [] ?_
  refine rpv [4, 6] [] ?_
  refine rpv [7] [] ?_
  refine rpv [] [] ?_
  refine rpv [9] [] ?_
  refine rpv [10] [] ?_
  refine rpv [11] [] ?_
  refine rpv [12] [] ?_
  refine rpv [] [] ?_
  refine rpv [14] [] ?_
  refine rpv [13, 15] [] ?_
  refine rpv [16] [] ?_
  refine rpv [] [] ?_
  refine rpv [] [] ?_
  refine rpv [] [] ?_
  refine rpv [20] [] ?_
  refine rpv [] [] ?_
  refine rpv [22] [] ?_
  refine Run.pv [18, 19, 21, 23] [] rfl (fun vs => by apply ltr_pk; exact goPk; (refine ltr_call2 B ?_ zN zN; exact rfl)) goApp ?_
  refine rpv [8, 17, 24] [] ?_
  refine Run.tok [] [] rfl (fun vs => by apply ltr_pk; exact goPk; exact goLtr) goApp ?_
  refine ⟨⟨by kernel_rfl, by kernel_rfl⟩, fun vs => ?_⟩
  apply WL_auto [25, 26]
  ·exact goPk
  ·exact goNrm
  ·kernel_rfl
  ·kernel_rfl
  refine zS ?_;repeat(refine yA ?_;intro p hp;refine zS ?_)
  refine W_meet ⟨[(0, .val ph), (1, .sl 2 pnC L), (6, .val v), (10, .sl 2 pnC L), (11, .val (.int .i64 L.length)), (12, .val (.int .i64 j)), (9, .val (vs 26))], [.box (vs 26) (payC (payE f.ids (lf cu) L L[j])) 42, .row v 42 3 payC ((L.take j).map (payE f.ids (lf cu) L)), hsB ph f ow, .row ow 3 1 iC cu]⟩ ?_ ?_
  ·refine w_cond rfl (fun hneg => ?_) (fun hneg => ?_)
   ·rw [hpy, if_pos (by simpa using hneg)]
    refine zS ?_;repeat(refine yA ?_;intro p hp;refine zS ?_)
    exact ⟨rfl, fun _ _ st => st_sub2 st zR zP⟩
   ·rw [hpy, if_neg (by simpa using hneg)]
    refine zS ?_;repeat(refine yA ?_;intro p hp;refine zS ?_)
    exact ⟨rfl, fun _ _ st => st_sub2 st zR zP⟩
  ·have hz0 : (payE f.ids (lf cu) L L[j]).p = 0 ↔ amt f.ids.length (lf cu) L L[j] = 0 := by rw [hpy]; split <;> simp
   generalize payE f.ids (lf cu) L L[j] = py at hmap hz0 ⊢
   refine zS ?_;repeat(refine yA ?_;intro p hp;refine zS ?_)
   refine w_cond rfl (fun he => ?_) (fun he => ?_)
   ·have h0 : py.p = 0 := by have := of_decide_eq_true he; simpa using this
    rw [if_neg (hno (hz0.1 h0))]
    refine zS ?_;repeat(refine yA ?_;intro p hp;refine zS ?_)
    refine Res_nil 4 3 payC rfl ?_
    unfold treeA
    (apply resK2; exact rfl; exact rfl; exact rfl; exact ⟨rfl, rfl⟩; exact yC)
   ·have h0 : py.p ≠ 0 := fun h => by rw [h] at he; simp at he
    refine zS ?_;repeat(refine yA ?_;intro p hp;refine zS ?_)
    (apply wl_litF payC; exact inferInstance; exact inferInstance; exact inferInstance; exact zE; exact rfl; (first | exact (of_decide_eq_true rfl) | decide | (simp; done) | (simp; omega)); exact rfl)
    (first | (apply wl_append; exact rfl; exact rfl; exact zN; exact inferInstance; exact inferInstance; (first | omega | (simp; omega)); exact rfl) | (apply wl_appendN; exact rfl; exact rfl; exact inferInstance; exact inferInstance; (first | omega | (simp; omega)); exact rfl))
    intro v2
    rw [← hmap]
    refine zS ?_;repeat(refine yA ?_;intro p hp;refine zS ?_)
    (refine ⟨(j + 1, v2), fun _ _ st => st_sub2 st ?_ ?_, ?_, ?_⟩; exact zR; exact zP)
    ·exact ⟨hj', by rw [hall]; exact decide_eq_true fun h => h0 (hz0.2 h)⟩
    ·dsimp only; omega
 ·have hjj : j = L.length := by simp at hlt; omega
  subst hjj
  rw [List.take_length] at hal ⊢
  rw [if_pos hal]
  have hml : (L.map (payE f.ids (lf cu) L)).length ≤ 5 := by rw [List.length_map]; exact hl
  refine zS ?_;repeat(refine yA ?_;intro p hp;refine zS ?_)
  (apply wl_callP (sortP_con v (L.map (payE f.ids (lf cu) L)) 112 [] pyCmp hml (fun x y => payments_con x y)); exact rfl; exact yC; exact rfl)
  rintro _ _ ⟨rfl, rfl⟩
  refine zS ?_;repeat(refine yA ?_;intro p hp;refine zS ?_)
  (apply Res_frz 4; exact rfl; exact zN)
  unfold treeA
  (apply resK2; exact rfl; exact rfl; exact rfl; exact ⟨rfl, rfl⟩; exact yC)
end Go.Proofs.YtihonljdanjfmaaGreatDoor.Sw
namespace Go.Proofs.YtihonljdanjfmaaGreatDoor.Sw
open Go.RowKit Go
def scQ (Q : Exit → S → Prop) : Exit → S → Prop
 | .goto _, _ => False
 | e, s => Q e s
theorem W_scope {n : Nat} {P : Program} {w0 : World} {F0 : List Nat} {G0 : Nat → Option Obj} {nt : Nat} {wd : Wd Fence.wide} {s : S} {x : Code} {Q : Exit → S → Prop} (h : W (Cx.mk Fence.wide n P w0 F0 G0 nt wd) x s (scQ Q)) : W (Cx.mk Fence.wide n P w0 F0 G0 nt wd) (.scope x) s Q := ⟨fun a w st => by
 refine wpIn_wide.2 (wp_scope_straight (wpIn_wide.1 (Go.wpIn_mono (h.out a w st) fun e a' w' ⟨s', st', q⟩ => ?_)))
 cases e with
 | goto l => exact q
 | _ => exact ⟨s', st', q⟩⟩
theorem W_label {c : Cx} {s : S} {l : Nat} {Q : Exit → S → Prop} (h : Q .normal s) : W c (.label l) s Q := ⟨fun _ _ st => wpIn_label ⟨s, st, h⟩⟩
section
variable {P : Program} {rs : List (Nat × AV)} {d : Option Nat} {ty : TypeId} {pos : String} {af : Array Edge} {g : Option (Nat × Bool)}
def bndV (k : FuncId) (u : Value) : Value := .func (.func k) #[u] #[]
theorem lt_bind {k : FuncId} {x : Operand} {u : Value} (hx : opv rs x = some (.val u)) : LT P ⟨d, .makeFunc (.func k) #[x] #[], ty, pos, af, g⟩ rs [] (Is (.val (bndV k u)) []) :=
 LT_val (fun _ e => by cases e) fun a w G hR hG => ⟨_, rfl, by
  have e1 : a.eval x = _ := opv_ok hR hx
  have e2 : (#[x] : Array Operand).map a.eval = #[u] := by rw [List.map_toArray, List.map_cons, List.map_nil, e1]
  simp only [execOp, e2]
  simp [Instr.makeFunc, go_sem, bndV]⟩
theorem lt_callB {x : Operand} {k : FuncId} {u : Value} {xs : List Operand} {ts : Array TypeId} {avs : List AV} {pre : List HA} {post : AV → List HA → Prop} (hf : opv rs x = some (.val (bndV k u))) (hx : opvs rs xs = some avs) (hc : Con P k (.val u :: avs) pre post) :
  LT P ⟨d, .call { callee := .value x, args := xs.toArray, argTypes := ts }, ty, pos, af, g⟩ rs pre post := by
 refine ⟨?_⟩
 intro F n hF a w G Fp K Q hR hI hk
 have e1 : a.eval x = bndV k u := opv_ok hR hf
 have hv := opvs_ok hR hx
 have hcalls := hc.calls G Fp (u :: xs.map a.eval) w ⟨rfl, hv⟩ hI
 unfold Oper.wpIn
 refine ⟨fun f _ => hF.fn f, ?_⟩
 rw [Oper.semAt_eq _ _ _ (fun _ e => by cases e)]
 have hr : (execOp a.eval ⟨d, .call { callee := .value x, args := xs.toArray, argTypes := ts }, ty, pos, af, g⟩).run P w = .ok (.enter k (u :: xs.map a.eval).toArray) w := by
  simp [execOp, resolve, e1, bndV, Deferred.ofValue, invoke, hc.enters]
 rw [hr]
 refine ⟨fun h => (by rw [hF.depth] at h; cases h), hF.calls (hcalls.mono ?_)⟩
 rintro e w' ⟨v, av, prod, G', F', rfl, hp, hfr, hi, hv⟩
 exact hk v av prod G' F' w' hp hfr hi hv
end
section
variable {c : Cx} {rs : List (Nat × AV)} {hs r : List HA} {Q : Exit → S → Prop} {ops : Array Oper} {tl : List Oper} {d : Nat} {ty : TypeId} {pos : String} {af : Array Edge}
theorem wl_bind {k : FuncId} {x : Operand} {u : Value} (hx : opv rs x = some (.val u)) (hd : Nat.blt d c.nt = true) (kk : WL c ops tl ⟨(d, .val (bndV k u)) :: rs, hs⟩ Q) : WL c ops (⟨some d, .makeFunc (.func k) #[x] #[], ty, pos, af, none⟩ :: tl) ⟨rs, hs⟩ Q := wl_ex (lt_bind hx) hd kk
theorem wl_callB {x : Operand} {k : FuncId} {u : Value} {xs : List Operand} {ts : Array TypeId} {avs : List AV} {pre : List HA} {post : AV → List HA → Prop} (hc : Con c.P k (.val u :: avs) pre post) (hf : opv rs x = some (.val (bndV k u))) (hx : opvs rs xs = some avs) (hcut : Cut hs pre r) (hd : Nat.blt d c.nt = true) (kk : ∀ av prod, post av prod → WL c ops tl ⟨(d, av) :: rs, prod ++ r⟩ Q) : WL c ops (⟨some d, .call { callee := .value x, args := xs.toArray, argTypes := ts }, ty, pos, af, none⟩ :: tl) ⟨rs, hs⟩ Q :=
 WL_lt (cons := pre) (rest := r) hd rfl (fun _ _ _ h => hcut.sel h) (lt_callB hf hx hc) kk
theorem wl_callVP {x : Operand} {k : FuncId} {caps : List AV} {xs : List Operand} {ts : Array TypeId} {avs : List AV} {pre : List HA} {post : AV → List HA → Prop} (hc : Con c.P k (avs ++ caps) pre post) (hf : opv rs x = some (.clo k caps)) (hx : opvs rs xs = some avs) (hcut : Cut hs pre r) (hd : Nat.blt d c.nt = true) (kk : ∀ av prod, post av prod → WL c ops tl ⟨(d, av) :: rs, prod ++ r⟩ Q) : WL c ops (⟨some d, .call { callee := .value x, args := xs.toArray, argTypes := ts }, ty, pos, af, none⟩ :: tl) ⟨rs, hs⟩ Q :=
 WL_lt (cons := pre) (rest := r) hd rfl (fun _ _ _ h => hcut.sel h) (lt_callV hf hx hc) kk
theorem wl_yield {x : Operand} {y : Value} {xs : List Operand} {ts : Array TypeId} {avs : List AV} {pre : List HA} {post : AV → List HA → Prop} (hc : Yield c.P y avs pre post) (hf : opv rs x = some (.val y)) (hx : opvs rs xs = some avs) (hcut : Cut hs pre r) (hd : Nat.blt d c.nt = true) (kk : ∀ av prod, post av prod → WL c ops tl ⟨(d, av) :: rs, prod ++ r⟩ Q) : WL c ops (⟨some d, .call { callee := .value x, args := xs.toArray, argTypes := ts }, ty, pos, af, none⟩ :: tl) ⟨rs, hs⟩ Q :=
 WL_lt (cons := pre) (rest := r) hd rfl (fun _ _ _ h => hcut.sel h) (lt_yield hf hx hc) kk
end
end Go.Proofs.YtihonljdanjfmaaGreatDoor.Sw
