/- An own slice taken apart into its block: parts of it, what is moved within it, what is cleared behind it. -/
import Derived.Test.YtbkellknlcageaaDoorSwI
import Derived.Deep.AppendSrc
namespace Go.Proofs.YtbkellknlcageaaDoor.Sw
open Go.RowKit Go
/-- A block of so many cells: the first ones, and whatever behind them. -/
def HA.cells (b : Nat) (e : TypeId) (cs : List AV) (tot : Nat) : HA :=
  ⟨fun G F w => ∃ vs rest : List Value, F = [b] ∧ Fits G cs vs ∧ (∀ u ∈ vs, u.oneCell' = true) ∧ w.heap[b]? = some (.cells (vs ++ rest).toArray e (0, 0)) ∧ (vs ++ rest).length = tot,
   fun h ⟨vs, rest, e1, e2, e3⟩ => ⟨vs, rest, e1, e2.mono h, e3⟩,
   fun h ⟨vs, rest, e1, e2, e3, e4, e5⟩ => ⟨vs, rest, e1, e2, e3, (h b (by rw [e1]; simp)).trans e4, e5⟩⟩
theorem row_open {α : Type} {v : Value} {e : TypeId} {n : Nat} {f : α → List AV} {xs : List α} (hx : xs ≠ []) {G : Nat → Option Obj} {F : List Nat} {w : World} (h : (HA.row v e n f xs).P G F w) : ∃ b cap, v = .slice (some ⟨b, 0, none⟩) xs.length cap ∧ xs.length ≤ cap ∧ cap ≤ maxLen ∧ (∀ x ∈ xs, (f x).length = n) ∧ (HA.cells b e (xs.flatMap f) (cap * n)).P G F w := by
  rcases row_val h with ⟨_, rfl⟩ | ⟨b, cap, cur, vs, rfl, hnc, hF1, hb, hcs, hl, hf, htake, hone, hcm⟩
  · exact absurd rfl hx
  · refine ⟨b, cap, rfl, hnc, hcm, hl, vs, cur.toList.drop (xs.length * n), hF1, hf, hone, ?_, ?_⟩
    · rw [← htake, List.take_append_drop]; simpa using hb
    · rw [← htake, List.take_append_drop]; simpa using hcs
theorem row_shut {α : Type} {e : TypeId} {n : Nat} {f : α → List AV} {xs : List α} {b cap : Nat} (hl : ∀ x ∈ xs, (f x).length = n) (hnc : xs.length ≤ cap) (hcm : cap ≤ maxLen) {G : Nat → Option Obj} {F : List Nat} {w : World} (h : (HA.cells b e (xs.flatMap f) (cap * n)).P G F w) : (HA.row (.slice (some ⟨b, 0, none⟩) xs.length cap) e n f xs).P G F w := by
  obtain ⟨vs, rest, hF, hf, hone, hb, hs⟩ := h
  have hvl : vs.length = xs.length * n := by rw [hf.length, lenL hl]
  exact ⟨vs, by rw [hF]; rfl, hl, hf, hone, hvl, .inr ⟨b, cap, _, rfl, Nat.zero_le _, hb, hnc, hcm, by simpa using hs, by simp [← hvl]⟩⟩
theorem WL_openRow {α : Type} {c : Cx} {rs : List (Nat × AV)} {hs r : List HA} {Q : Exit → S → Prop} {ops : Array Oper} {l : List Oper} {v : Value} {e : TypeId} {n : Nat} {f : α → List AV} {xs : List α} (hx : xs ≠ []) (hr : Rm hs (.row v e n f xs) r)
    (k : ∀ b cap, v = .slice (some ⟨b, 0, none⟩) xs.length cap → xs.length ≤ cap → cap ≤ maxLen → (∀ x ∈ xs, (f x).length = n) → WL c ops l ⟨rs, .cells b e (xs.flatMap f) (cap * n) :: r⟩ Q) : WL c ops l ⟨rs, hs⟩ Q := ⟨fun a w st => by
  obtain ⟨G, F, hI, rr⟩ := st
  obtain ⟨F1, F2, ep, h1, h2⟩ := hr.sel hI.hs
  obtain ⟨b, cap, e1, e2, e3, e4, e5⟩ := row_open hx h1
  exact (k b cap e1 e2 e3 e4).out a w ⟨G, F, ⟨hI.gin, hI.nd, hI.own, F1, F2, ep, e5, h2⟩, rr⟩⟩
theorem W_shutRow {α : Type} {c : Cx} {rs : List (Nat × AV)} {hs r : List HA} {Q : Exit → S → Prop} {x : Code} {b cap : Nat} {e : TypeId} {n : Nat} {f : α → List AV} (xs : List α) (hl : ∀ x ∈ xs, (f x).length = n) (hnc : xs.length ≤ cap) (hcm : cap ≤ maxLen) (hr : Rm hs (.cells b e (xs.flatMap f) (cap * n)) r) (k : W c x ⟨rs, .row (.slice (some ⟨b, 0, none⟩) xs.length cap) e n f xs :: r⟩ Q) : W c x ⟨rs, hs⟩ Q := ⟨fun a w st => by
  obtain ⟨G, F, hI, rr⟩ := st
  obtain ⟨F1, F2, ep, h1, h2⟩ := hr.sel hI.hs
  exact k.out a w ⟨G, F, ⟨hI.gin, hI.nd, hI.own, F1, F2, ep, row_shut hl hnc hcm h1, h2⟩, rr⟩⟩
theorem WL_shutRow {α : Type} {c : Cx} {rs : List (Nat × AV)} {hs r : List HA} {Q : Exit → S → Prop} {ops : Array Oper} {l : List Oper} {b cap : Nat} {e : TypeId} {n : Nat} {f : α → List AV} (xs : List α) (hl : ∀ x ∈ xs, (f x).length = n) (hnc : xs.length ≤ cap) (hcm : cap ≤ maxLen) (hr : Rm hs (.cells b e (xs.flatMap f) (cap * n)) r) (k : WL c ops l ⟨rs, .row (.slice (some ⟨b, 0, none⟩) xs.length cap) e n f xs :: r⟩ Q) : WL c ops l ⟨rs, hs⟩ Q := ⟨fun a w st => by
  obtain ⟨G, F, hI, rr⟩ := st
  obtain ⟨F1, F2, ep, h1, h2⟩ := hr.sel hI.hs
  exact k.out a w ⟨G, F, ⟨hI.gin, hI.nd, hI.own, F1, F2, ep, row_shut hl hnc hcm h1, h2⟩, rr⟩⟩
theorem run_append_row {P : Program} {w : World} (t tx ty e : TypeId) (i : TypeInfo) (ht : P.underlying t = some (.slice e)) (hi : P.info? e = some i) (b sLen sCap : Nat) (x : Value) (n : Nat) (news : List Value) (hs : Src P i.size tx x n news w)
    (hroom : sLen + n ≤ sCap) (cur : Array Value) (te : TypeId) (hb : w.heap[b]? = some (.cells cur te (0, 0))) (hsz : sLen * i.size + news.length ≤ cur.size) :
    (Builtin.append_ #[t, tx] ty #[.slice (some ⟨b, 0, none⟩) sLen sCap, x]).run P w = .ok (.slice (some ⟨b, 0, none⟩) (sLen + n) sCap) (w.setRow b (cur.toList.take (sLen * i.size) ++ news ++ cur.toList.drop (sLen * i.size + news.length)).toArray) := by
  have hst := run_storeCells_at P b (sLen * i.size) te news 0 cur w hb (by simpa using hsz) hs.one
  simp only [Nat.add_zero] at hst
  rcases hs.kind with ⟨e', hk⟩ | hk <;> simp [Builtin.append_, run_underlying ht, run_underlying hk, sizeOf, typeInfo, hi, hs.len, hroom, hs.cells, Addr.add_lit, hst]
section
variable {P : Program} {rs : List (Nat × AV)} {d : Option Nat} {ty : TypeId} {pos : String} {af : Array Edge} {g : Option (Nat × Bool)}
theorem lt_lenV {x : Operand} {t e : TypeId} {n : Nat} [hT : TyS P t e n] {a : Option Addr} {len cap : Nat} (hx : opv rs x = some (.val (.slice a len cap))) : LT P ⟨d, .call { callee := .builtin .len, args := #[x], argTypes := #[t] }, ty, pos, af, g⟩ rs [] (Is (.val (.int .i64 len)) []) :=
  LT_val (fun _ e => by cases e) fun a w G hR hG => by
    have e1 : a.eval x = _ := opv_ok hR hx
    exact ⟨_, rfl, by simp [execOp, resolve, e1, invoke, builtin, Builtin.len_, run_underlying hT.und, goInt]⟩
theorem lt_sliceV {x : Operand} {lo hi : Option Operand} {t e : TypeId} {n : Nat} (hT : TyE P t e n) {ad : Option Addr} {len cap l h : Nat} {li hi' : Int} (hx : opv rs x = some (.val (.slice ad len cap)))
    (hlo : lo.map (opv rs) = some (some (.val (.int .i64 li))) ∨ (lo = none ∧ li = 0)) (hl : li = (l : Int))
    (hhi : hi.map (opv rs) = some (some (.val (.int .i64 hi'))) ∨ (hi = none ∧ hi' = (len : Int))) (hh : hi' = (h : Int)) (h1 : l ≤ h) (h2 : h ≤ cap) (h3 : len ≤ cap) :
    LT P ⟨d, .slice t x lo hi none, ty, pos, af, g⟩ rs [] (Is (.val (.slice (if cap = l then ad else ad.map (·.add (l * n))) (h - l) (cap - l))) []) :=
  LT_val (fun _ e => by cases e) fun a w G hR hG => by
    have e1 : a.eval x = _ := opv_ok hR hx
    have hlo' : lo.map a.eval = some (.int .i64 (l : Int)) ∨ (lo.map a.eval = none ∧ l = 0) := by
      rcases hlo with h | ⟨rfl, rfl⟩
      · cases lo with
        | none => simp at h
        | some y =>
          simp only [Option.map_some, Option.some.injEq] at h
          have : a.eval y = _ := opv_ok hR h
          left; rw [Option.map_some, this, hl]
      · right; exact ⟨rfl, by omega⟩
    have hhi' : hi.map a.eval = some (.int .i64 (h : Int)) ∨ (hi.map a.eval = none ∧ h = len) := by
      rcases hhi with h' | ⟨rfl, h'⟩
      · cases hi with
        | none => simp at h'
        | some y =>
          simp only [Option.map_some, Option.some.injEq] at h'
          have : a.eval y = _ := opv_ok hR h'
          left; rw [Option.map_some, this, hh]
      · right; exact ⟨rfl, by omega⟩
    have hr := run_sliceAt (P := P) (t := t) (w := w) (ad := ad) hlo' hhi' h1 h2 h3
    refine ⟨_, rfl, ?_⟩
    simp only [execOp, e1, Option.map_none, Sem.run_bind, hr]
    rfl
theorem lt_slice3V {x lo hi mx : Operand} {t e : TypeId} {n : Nat} (hT : TyE P t e n) {ad : Option Addr} {len cap l h m : Nat} (hx : opv rs x = some (.val (.slice ad len cap)))
    (hlo : opv rs lo = some (.val (.int .i64 (l : Int)))) (hhi : opv rs hi = some (.val (.int .i64 (h : Int)))) (hmx : opv rs mx = some (.val (.int .i64 (m : Int)))) (h1 : l ≤ h) (h2 : h ≤ m) (h3 : m ≤ cap) :
    LT P ⟨d, .slice t x (some lo) (some hi) (some mx), ty, pos, af, g⟩ rs [] (Is .any []) :=
  LT_val (fun _ e => by cases e) fun a w G hR hG => by
    have e1 : a.eval x = _ := opv_ok hR hx
    have e2 : a.eval lo = _ := opv_ok hR hlo
    have e3 : a.eval hi = _ := opv_ok hR hhi
    have e4 : a.eval mx = _ := opv_ok hR hmx
    obtain ⟨i, z, hi', _, hs, _⟩ := hT.info
    have hb : ∀ (x : Nat) (y : Nat) (code : BoundsCode), x ≤ y → (Instr.sliceBound (.int .i64 (x : Int)) y code).run P w = .ok x w := fun x y code hxy => by
      have : (0 : Int) ≤ (x : Int) ∧ (x : Int) ≤ (y : Int) := by omega
      simp [Instr.sliceBound, asIntOf, this]
    refine ⟨.slice (if m = l then ad else ad.map (·.add (l * n))) (h - l) (m - l), trivial, ?_⟩
    simp [execOp, e1, e2, e3, e4, Instr.sliceAt, Instr.slice, Instr.sliceBounds, run_underlying hT.und, sizeOf, typeInfo, hi', hs, hb _ _ _ h1, hb _ _ _ h2, hb _ _ _ h3]
/-- What stands from j on moves to i. -/
theorem lt_moveV {x y : Operand} {t e : TypeId} {n : Nat} (hT : TyE P t e n) {b i j m cap c : Nat} {cs : List AV} (hx : opv rs x = some (.val (.slice (some ⟨b, 0, none⟩) i cap))) (hy : opv rs y = some (.val (.slice (if cap = j then some ⟨b, 0, none⟩ else some ⟨b, j * n, none⟩) m c))) (hij : i ≤ j) (hcs : cs.length = (j + m) * n) (hcap : j + m ≤ cap) :
    LT P ⟨d, .call { callee := .builtin .append, args := #[x, y], argTypes := #[t, t] }, ty, pos, af, g⟩ rs [.cells b e cs (cap * n)] (Is (.val (.slice (some ⟨b, 0, none⟩) (i + m) cap)) [.cells b e (cs.take (i * n) ++ cs.drop (j * n)) (cap * n)]) :=
  LT_eff (fun _ e => by cases e) fun a w G F hR hI => by
    obtain ⟨F1, F2, ep, ⟨vs, rest, hF1, hf, hone, hb, htot⟩, h2⟩ := hI.hs
    have h2' : F2 = [] := h2
    subst h2' hF1
    have hF : F = [b] := List.perm_singleton.1 (by simpa using ep)
    subst hF
    obtain ⟨ti, z, hi, hz, hs, hby, hzs⟩ := hT.info
    have e1 : a.eval x = _ := opv_ok hR hx
    have e2 : a.eval y = _ := opv_ok hR hy
    have hvl : vs.length = (j + m) * n := by rw [hf.length, hcs]
    have hjm : (j + m) * n = j * n + m * n := Nat.add_mul _ _ _
    have hle : (j + m) * n ≤ cap * n := Nat.mul_le_mul_right n hcap
    have hij' : i * n ≤ j * n := Nat.mul_le_mul_right n hij
    have hcell : ∀ q u, (vs.drop (j * n))[q]? = some u → w.cell? ⟨b, j * n + q, none⟩ = some u := fun q u hu => by
      rw [cell_of_row w b _ _ _ _ hb]
      rw [List.getElem?_drop] at hu
      have hlt := (List.getElem?_eq_some_iff.1 hu).1
      simp only [List.getElem?_toArray]
      rw [List.getElem?_append_left hlt]; exact hu
    have hsrc : Src P ti.size t (.slice (if cap = j then some ⟨b, 0, none⟩ else some ⟨b, j * n, none⟩) m c) m (vs.drop (j * n)) w := by
      by_cases hcj : cap = j
      · have hm0 : m = 0 := by omega
        subst hm0
        have hd : vs.drop (j * n) = [] := List.drop_of_length_le (by omega)
        rw [if_pos hcj, hd]
        exact Src.ofSlice w hT.und ⟨b, 0, none⟩ 0 c [] (by simp) (fun j u e => by simp at e) (fun _ h => by simp at h)
      · rw [if_neg hcj]
        exact Src.ofSlice w hT.und ⟨b, j * n, none⟩ m c _ (by rw [List.length_drop, hs]; omega) (fun q u hu => by rw [add_plain]; exact hcell q u hu) (fun u hu => hone u (List.mem_of_mem_drop hu))
    have hdl : (vs.drop (j * n)).length = m * n := by rw [List.length_drop]; omega
    have hr := run_append_row (P := P) t t ty e ti hT.und hi b i cap _ m _ hsrc (by omega) _ e hb (by rw [hs, hdl]; simp only [List.size_toArray]; omega)
    obtain ⟨f1, f2⟩ := fr_setRow hI.gin (hI.own b (by simp)).2 ((vs ++ rest).toArray.toList.take (i * ti.size) ++ vs.drop (j * n) ++ (vs ++ rest).toArray.toList.drop (i * ti.size + (vs.drop (j * n)).length)).toArray
    refine ⟨_, _, _, _, _, G, [b], ?_, .inl rfl, ⟨rfl, rfl⟩, f1, ⟨f2, by simp, fun q hq => ?_, [b], [], by simp, ⟨vs.take (i * n) ++ vs.drop (j * n), (vs ++ rest).drop (i * n + m * n), rfl, (hf.take _).append (hf.drop _), fun u hu => ?_, ?_, ?_⟩, rfl⟩, rfl⟩
    · simp [execOp, resolve, e1, e2, invoke, builtin, hr]
    · rw [List.mem_singleton] at hq; subst hq; simp only [setRow_size]; exact hI.own _ (by simp)
    · rcases List.mem_append.1 hu with h | h
      · exact hone u (List.mem_of_mem_take h)
      · exact hone u (List.mem_of_mem_drop h)
    · have ht : (vs ++ rest).take (i * n) = vs.take (i * n) := List.take_append_of_le_length (by omega)
      have := setRow_heap w b (vs ++ rest).toArray ((vs ++ rest).toArray.toList.take (i * ti.size) ++ vs.drop (j * n) ++ (vs ++ rest).toArray.toList.drop (i * ti.size + (vs.drop (j * n)).length)).toArray e (0, 0) hb
      rw [this]
      simp only [hs, hdl, ht]
    · simp only [List.length_append, List.length_take, List.length_drop] at htot ⊢
      omega
/-- What stands behind the first ones is cleared. -/
theorem lt_clearV {x : Operand} {t e : TypeId} {n : Nat} (hT : TyE P t e n) {zs : List Value} (hZ : TyZ P e zs) (hzl : zs.length = n) (hz1 : ∀ u ∈ zs, u.oneCell' = true) {b j m cap c : Nat} {cs : List AV} (hx : opv rs x = some (.val (.slice (if cap = j then some ⟨b, 0, none⟩ else some ⟨b, j * n, none⟩) m c))) (hcs : cs.length = j * n) (hcap : j + m ≤ cap) :
    LT P ⟨d, .call { callee := .builtin .clear, args := #[x], argTypes := #[t] }, ty, pos, af, g⟩ rs [.cells b e cs (cap * n)] (Is (.tup []) [.cells b e cs (cap * n)]) :=
  LT_eff (fun _ e => by cases e) fun a w G F hR hI => by
    obtain ⟨F1, F2, ep, ⟨vs, rest, hF1, hf, hone, hb, htot⟩, h2⟩ := hI.hs
    have h2' : F2 = [] := h2
    subst h2' hF1
    have hF : F = [b] := List.perm_singleton.1 (by simpa using ep)
    subst hF
    have e1 : a.eval x = _ := opv_ok hR hx
    have hvl : vs.length = j * n := by rw [hf.length, hcs]
    have hle : (j + m) * n ≤ cap * n := Nat.mul_le_mul_right n hcap
    have hjm : (j + m) * n = j * n + m * n := Nat.add_mul _ _ _
    cases m with
    | zero =>
      refine ⟨_, w, _, _, _, G, [b], ?_, .inl rfl, ⟨rfl, rfl⟩, Fr.refl _ _ _, hI, ⟨[], rfl, trivial⟩⟩
      by_cases hcj : cap = j <;> simp [execOp, resolve, e1, invoke, builtin, Builtin.clear_, run_underlying hT.und, hcj]
    | succ m =>
      have hcj : cap ≠ j := by omega
      rw [if_neg hcj] at e1
      obtain ⟨z, hz, hzc⟩ := hZ.run w
      obtain ⟨news, hnews⟩ : ∃ news, news = (Builtin.zeroCells z.cells (m + 1)).toList := ⟨_, rfl⟩
      have hnl : news.length = (m + 1) * n := by rw [hnews, hzc]; simp [Builtin.zeroCells, hzl]
      have hn1 : ∀ u ∈ news, u.oneCell' = true := fun u hu => by
        rw [hnews, hzc] at hu
        simp only [Builtin.zeroCells, Array.toList_map, List.mem_map, Array.toList_range, List.mem_range, List.size_toArray] at hu
        obtain ⟨q, _, rfl⟩ := hu
        have hlt : q % zs.length < zs.length := Nat.mod_lt _ (by have := hT.pos; omega)
        rw [getElem!_pos zs.toArray _ (by simpa using hlt)]
        exact hz1 _ (by simp)
      have hst := run_storeCells_at P b (j * n) e news 0 _ w hb (by simp only [List.size_toArray, Nat.add_zero]; omega) hn1
      simp only [Nat.add_zero] at hst
      obtain ⟨f1, f2⟩ := fr_setRow hI.gin (hI.own b (by simp)).2 ((vs ++ rest).toArray.toList.take (j * n) ++ news ++ (vs ++ rest).toArray.toList.drop (j * n + news.length)).toArray
      refine ⟨_, _, _, _, _, G, [b], ?_, .inl rfl, ⟨rfl, rfl⟩, f1, ⟨f2, by simp, fun q hq => ?_, [b], [], by simp, ⟨vs, news ++ (vs ++ rest).drop (j * n + news.length), rfl, hf, hone, ?_, ?_⟩, rfl⟩, ⟨[], rfl, trivial⟩⟩
      · have h3 := hz
        simp [execOp, resolve, e1, invoke, builtin, Builtin.clear_, run_underlying hT.und, hz, ← hnews, hst]
      · rw [List.mem_singleton] at hq; subst hq; simp only [setRow_size]; exact hI.own _ (by simp)
      · have ht : (vs ++ rest).take (j * n) = vs := by rw [List.take_append_of_le_length (by omega), List.take_of_length_le (by omega)]
        have := setRow_heap w b (vs ++ rest).toArray ((vs ++ rest).toArray.toList.take (j * n) ++ news ++ (vs ++ rest).toArray.toList.drop (j * n + news.length)).toArray e (0, 0) hb
        rw [this]
        simp only [ht, List.append_assoc]
      · simp only [List.length_append, List.length_drop] at htot ⊢
        omega
end
theorem flat_take {α : Type} {f : α → List AV} {n : Nat} : ∀ {xs : List α}, (∀ x ∈ xs, (f x).length = n) → ∀ (k : Nat), (xs.flatMap f).take (k * n) = (xs.take k).flatMap f ∧ (xs.flatMap f).drop (k * n) = (xs.drop k).flatMap f
  | [], _, k => by simp
  | x :: xs, _, 0 => by simp
  | x :: xs, h, k + 1 => by
    have hx := h x (by simp)
    obtain ⟨h1, h2⟩ := flat_take (xs := xs) (fun y hy => h y (by simp [hy])) k
    rw [List.flatMap_cons, Nat.succ_mul, show k * n + n = (f x).length + k * n by omega, List.take_append, List.drop_append, List.take_of_length_le (by omega), List.drop_of_length_le (l := f x) (by omega), Nat.add_sub_cancel_left, h1, h2]
    simp
section
variable {c : Cx} {rs : List (Nat × AV)} {hs : List HA} {Q : Exit → S → Prop} {ops : Array Oper} {tl : List Oper} {d : Nat} {ty : TypeId} {pos : String} {af : Array Edge}
theorem wl_lenV {x : Operand} {t e : TypeId} {n : Nat} [TyS c.P t e n] {a : Option Addr} {len cap : Nat} (hx : opv rs x = some (.val (.slice a len cap))) (hd : Nat.blt d c.nt = true) (k : WL c ops tl ⟨(d, .val (.int .i64 len)) :: rs, hs⟩ Q) : WL c ops (⟨some d, .call { callee := .builtin .len, args := #[x], argTypes := #[t] }, ty, pos, af, none⟩ :: tl) ⟨rs, hs⟩ Q := wl_ex (lt_lenV hx) hd k
theorem wl_slice3V {x lo hi mx : Operand} {t e : TypeId} {n : Nat} {ad : Option Addr} {len cap l h m : Nat} (hx : opv rs x = some (.val (.slice ad len cap))) (hT : TyE c.P t e n)
    (hlo : opv rs lo = some (.val (.int .i64 (l : Int)))) (hhi : opv rs hi = some (.val (.int .i64 (h : Int)))) (hmx : opv rs mx = some (.val (.int .i64 (m : Int)))) (h1 : l ≤ h) (h2 : h ≤ m) (h3 : m ≤ cap) (hd : Nat.blt d c.nt = true) (k : WL c ops tl ⟨(d, .any) :: rs, hs⟩ Q) : WL c ops (⟨some d, .slice t x (some lo) (some hi) (some mx), ty, pos, af, none⟩ :: tl) ⟨rs, hs⟩ Q := wl_ex (lt_slice3V hT hx hlo hhi hmx h1 h2 h3) hd k
theorem wl_sliceV {x : Operand} {lo hi : Option Operand} {t e : TypeId} {n : Nat} {ad : Option Addr} {len cap l h : Nat} {li hi' : Int} (hx : opv rs x = some (.val (.slice ad len cap))) (hT : TyE c.P t e n)
    (hlo : lo.map (opv rs) = some (some (.val (.int .i64 li))) ∨ (lo = none ∧ li = 0)) (hl : li = (l : Int)) (hhi : hi.map (opv rs) = some (some (.val (.int .i64 hi'))) ∨ (hi = none ∧ hi' = (len : Int))) (hh : hi' = (h : Int)) (h1 : l ≤ h) (h2 : h ≤ cap) (h3 : len ≤ cap) (hd : Nat.blt d c.nt = true)
    (k : WL c ops tl ⟨(d, .val (.slice (if cap = l then ad else ad.map (·.add (l * n))) (h - l) (cap - l))) :: rs, hs⟩ Q) : WL c ops (⟨some d, .slice t x lo hi none, ty, pos, af, none⟩ :: tl) ⟨rs, hs⟩ Q := wl_ex (lt_sliceV hT hx hlo hl hhi hh h1 h2 h3) hd k
theorem wl_moveV {x y : Operand} {t e : TypeId} {n : Nat} {b i j m cap cc : Nat} {cs : List AV} {f : HA → List HA} (hx : opv rs x = some (.val (.slice (some ⟨b, 0, none⟩) i cap))) (hy : opv rs y = some (.val (.slice (if cap = j then some ⟨b, 0, none⟩ else some ⟨b, j * n, none⟩) m cc))) (hat : At hs (.cells b e cs (cap * n)) f) (hT : TyE c.P t e n) (hij : i ≤ j) (hcs : cs.length = (j + m) * n) (hcap : j + m ≤ cap) (hd : Nat.blt d c.nt = true)
    (k : WL c ops tl ⟨(d, .val (.slice (some ⟨b, 0, none⟩) (i + m) cap)) :: rs, f (.cells b e (cs.take (i * n) ++ cs.drop (j * n)) (cap * n))⟩ Q) : WL c ops (⟨some d, .call { callee := .builtin .append, args := #[x, y], argTypes := #[t, t] }, ty, pos, af, none⟩ :: tl) ⟨rs, hs⟩ Q :=
  WL_at (o := ⟨some d, .call { callee := .builtin .append, args := #[x, y], argTypes := #[t, t] }, ty, pos, af, none⟩) hd rfl hat (lt_moveV hT hx hy hij hcs hcap) k
theorem wl_clearV {x : Operand} {t e : TypeId} {n : Nat} {zs : List Value} {b j m cap cc : Nat} {cs : List AV} {f : HA → List HA} (hx : opv rs x = some (.val (.slice (if cap = j then some ⟨b, 0, none⟩ else some ⟨b, j * n, none⟩) m cc))) (hat : At hs (.cells b e cs (cap * n)) f) (hT : TyE c.P t e n) (hZ : TyZ c.P e zs) (hzl : zs.length = n) (hz1 : ∀ u ∈ zs, u.oneCell' = true) (hcs : cs.length = j * n) (hcap : j + m ≤ cap)
    (k : WL c ops tl ⟨rs, hs⟩ Q) : WL c ops (⟨none, .call { callee := .builtin .clear, args := #[x], argTypes := #[t] }, ty, pos, af, none⟩ :: tl) ⟨rs, hs⟩ Q :=
  WL_at (o := ⟨none, .call { callee := .builtin .clear, args := #[x], argTypes := #[t] }, ty, pos, af, none⟩) rfl rfl hat (lt_clearV hT hZ hzl hz1 hx hcs hcap) (by rw [hat.self]; exact k)
end
theorem LT_is {P : Program} {o : Oper} {rs : List (Nat × AV)} {cons prod : List HA} {av : AV} (av' : AV) (h : LT P o rs cons (Is av prod)) (e : av = av') : LT P o rs cons (Is av' prod) := e ▸ h
/-- The first so many of an own slice; those from some index on. -/
theorem toV {b cap i n : Nat} : (AV.val (.slice (if cap = 0 then some (⟨b, 0, none⟩ : Addr) else (some (⟨b, 0, none⟩ : Addr)).map (·.add (0 * n))) (i - 0) (cap - 0))) = AV.val (.slice (some ⟨b, 0, none⟩) i cap) := by
  congr 2
  split <;> simp [add_plain]
theorem fromV {b cap j n h : Nat} : (AV.val (.slice (if cap = j then some (⟨b, 0, none⟩ : Addr) else (some (⟨b, 0, none⟩ : Addr)).map (·.add (j * n))) (h - j) (cap - j))) = AV.val (.slice (if cap = j then some ⟨b, 0, none⟩ else some ⟨b, j * n, none⟩) (h - j) (cap - j)) := by
  congr 2
  split <;> simp [add_plain]
theorem WL_fact {c : Cx} {rs : List (Nat × AV)} {hs r : List HA} {Q : Exit → S → Prop} {ops : Array Oper} {l : List Oper} {p : Prop} (hr : Rm hs (.fact p) r) (k : p → WL c ops l ⟨rs, r⟩ Q) : WL c ops l ⟨rs, hs⟩ Q := ⟨fun a w st => by
  obtain ⟨G, F, hI, rr⟩ := st
  have := hsP.fact.1 (hr.sel hI.hs)
  exact (k this.1).out a w ⟨G, F, ⟨hI.gin, hI.nd, hI.own, this.2⟩, rr⟩⟩
/-- What costs nothing may be owned. -/
theorem Res_add {P : Program} {fn : Func} {post : AV → List HA → Prop} {rs : List (Nat × AV)} {hs : List HA} (h : HA) (hP : ∀ G w, h.P G [] w) (k : Res P fn post ⟨rs, h :: hs⟩) : Res P fn post ⟨rs, hs⟩ := by
  obtain ⟨av, prod, hp, k⟩ := k
  exact ⟨av, prod, hp, fun a w G F hR hI => k a w G F hR ⟨hI.gin, hI.nd, hI.own, [], F, .refl _, hP G w, hI.hs⟩⟩
theorem row_nilP {α : Type} (e : TypeId) (n : Nat) (f : α → List AV) (G : Nat → Option Obj) (w : World) : (HA.row (.slice none 0 0) e n f ([] : List α)).P G [] w :=
  ⟨[], rfl, fun _ h => (by cases h), trivial, fun _ h => (by cases h), ⟨by simp, .inl ⟨rfl, rfl⟩⟩⟩
/-- One thing out of a pack, and back. -/
theorem st_unpack {c : Cx} {rs : List (Nat × AV)} {hs r l l' : List HA} {h : HA} {a : Act} {w : World} (hr : Rm hs (.pack l) r) (hp : l.Perm (h :: l')) (st : St c ⟨rs, hs⟩ a w) : St c ⟨rs, h :: .pack l' :: r⟩ a w := by
  obtain ⟨G, F, hI, rr⟩ := st
  refine ⟨G, F, ⟨hI.gin, hI.nd, hI.own, ?_⟩, rr⟩
  obtain ⟨A, B, e, hA, hB⟩ := hr.sel hI.hs
  obtain ⟨C, D, e2, hC, hD⟩ := hsP.permL hp hA
  exact ⟨C, D ++ B, e.trans ((e2.append_right B).trans (by rw [List.append_assoc])), hC, D, B, .refl _, hD, hB⟩
theorem WL_unpack {c : Cx} {rs : List (Nat × AV)} {hs r l l' : List HA} {h : HA} {Q : Exit → S → Prop} {ops : Array Oper} {tl : List Oper} (hp : l.Perm (h :: l')) (hr : Rm hs (.pack l) r) (k : WL c ops tl ⟨rs, h :: .pack l' :: r⟩ Q) : WL c ops tl ⟨rs, hs⟩ Q := ⟨fun a w st => k.out a w (st_unpack hr hp st)⟩
theorem W_unpack {c : Cx} {rs : List (Nat × AV)} {hs r l l' : List HA} {h : HA} {Q : Exit → S → Prop} {x : Code} (hp : l.Perm (h :: l')) (hr : Rm hs (.pack l) r) (k : W c x ⟨rs, h :: .pack l' :: r⟩ Q) : W c x ⟨rs, hs⟩ Q := ⟨fun a w st => k.out a w (st_unpack hr hp st)⟩
theorem st_repack {c : Cx} {rs : List (Nat × AV)} {hs r r' l l' : List HA} {h : HA} {a : Act} {w : World} (hp : l.Perm (h :: l')) (hr : Rm hs h r) (hr2 : Rm r (.pack l') r') (st : St c ⟨rs, hs⟩ a w) : St c ⟨rs, .pack l :: r'⟩ a w := by
  obtain ⟨G, F, hI, rr⟩ := st
  refine ⟨G, F, ⟨hI.gin, hI.nd, hI.own, ?_⟩, rr⟩
  obtain ⟨A, B, e, hA, hB⟩ := hr.sel hI.hs
  obtain ⟨C, D, e2, hC, hD⟩ := hr2.sel hB
  exact ⟨A ++ C, D, e.trans ((e2.append_left A).trans (by rw [List.append_assoc])), hsP.permL hp.symm ⟨A, C, .refl _, hA, hC⟩, hD⟩
theorem WL_repack {c : Cx} {rs : List (Nat × AV)} {hs r r' l l' : List HA} {h : HA} {Q : Exit → S → Prop} {ops : Array Oper} {tl : List Oper} (hp : l.Perm (h :: l')) (hr : Rm hs h r) (hr2 : Rm r (.pack l') r') (k : WL c ops tl ⟨rs, .pack l :: r'⟩ Q) : WL c ops tl ⟨rs, hs⟩ Q := ⟨fun a w st => k.out a w (st_repack hp hr hr2 st)⟩
theorem W_repack {c : Cx} {rs : List (Nat × AV)} {hs r r' l l' : List HA} {h : HA} {Q : Exit → S → Prop} {x : Code} (hp : l.Perm (h :: l')) (hr : Rm hs h r) (hr2 : Rm r (.pack l') r') (k : W c x ⟨rs, .pack l :: r'⟩ Q) : W c x ⟨rs, hs⟩ Q := ⟨fun a w st => k.out a w (st_repack hp hr hr2 st)⟩
end Go.Proofs.YtbkellknlcageaaDoor.Sw
